/- Own text, for this claim: table.head: the names of a table's first line, each once: walked by hand (its map of the names seen beside the row of names); printed by wip/tools/mkhead.py. -/
import Derived.Test.YtppojbafagneeaaDoorZQPar0
import Derived.Test.YtppojbafagneeaaDoorZParCap
import Derived.Deep.DeepMust
import Derived.Deep.LoopGhost
import Derived.Outline
namespace Go.Proofs.YtppojbafagneeaaDoor.PTab
open Go.RowKit Go.Maps Go.WideMaps Go.WideElems Go.Proofs.YtppojbafagneeaaDoor.Pure Go.Proofs.YtppojbafagneeaaDoorW.PrintWords Go.Proofs.YtppojbafagneeaaDoorW.PrintLast Go.Proofs.YtppojbafagneeaaDoorW.PrintMore
set_option linter.unusedVariables false
set_option linter.unusedSimpArgs false
instance decBA : DecidableEq ByteArray := fun a b => decidable_of_iff (a.data = b.data) ⟨fun h => ByteArray.ext h, fun h => by rw [h]⟩
def inB (n : ByteArray) (l : List ByteArray) : Bool := l.any fun m => decide (m = n)
theorem inB_snoc (n x : ByteArray) (l : List ByteArray) : inB n (l ++ [x]) = (inB n l || decide (x = n)) := by
 unfold inB
 rw [List.any_append]; simp
def seenD : List ByteArray → DataW Unit := fun l => l.foldl (fun D n => D.put (keyS n) (.lit (.bool true))) (.map [])
theorem seenD_snoc (l : List ByteArray) (n : ByteArray) : seenD (l ++ [n]) = (seenD l).put (keyS n) (.lit (.bool true)) := by
 unfold seenD; rw [List.foldl_append]; rfl
theorem seen_facts : ∀ l : List ByteArray, Tidy (seenD l) ∧ ∀ n, (seenD l).atKey (keyS n) (.lit (.bool false)) = .lit (.bool (inB n l)) := by
 refine rev_ind ?_ ?_
 ·exact ⟨tidy_empty, fun n => rfl⟩
 ·intro l x ih
  obtain ⟨h1, h2⟩ := ih
  have hm : IsMap (seenD l) := by obtain ⟨es, e, -⟩ := h1; exact ⟨es, e⟩
  rw [seenD_snoc]
  refine ⟨h1.put (keyS_key x) _, fun n => ?_⟩
  by_cases e : n = x
  ·subst e
   rw [atKey_put_same hm (keyS_key n), inB_snoc]
   simp
  ·rw [atKey_put_other (fun e' => e (keyS_inj e')), h2 n, inB_snoc, yM (fun h => e h.symm), Bool.or_false]
abbrev OwnsSeen (w : World) (b n : Nat) (D : DataW Unit) : Prop := w.ownsMap Tryd.prog 9 (plainElem (H := Unit) Tryd.prog 4) b n D
theorem wpList_lookup_seen {ops : Array Oper} {rest : List Oper} {o : Oper} {a : Act} {Q : Exit → Act → World → Prop} (w : World)
  (hg : o.guard = none) (m x : Operand) (t : TypeId) (hop : o.op = Op.lookup t m x false) (k e : TypeId) (K : Keyed Tryd.prog k) (ht : Tryd.prog.underlying t = some (.map k e)) (he : Tryd.prog.underlying e = some .bool) (hz : (zeroValue e).run Tryd.prog w = .ok (.bool false) w) (b n : Nat) (D : DataW Unit)
  (hm : a.eval m = .map (some b)) (hown : w.ownsMap Tryd.prog k (plainElem (H := Unit) Tryd.prog e) b n D) (key : Value) (kl : Lit) (hx : a.eval x = key) (hkey : keyOf Tryd.prog k key = some kl) (c : Bool) (hc : D.atKey kl (.lit (.bool false)) = .lit (.bool c))
  (hK : wpList Tryd.prog ops Q rest (a.put o.dst (.bool c)) w) : wpList Tryd.prog ops Q (o :: rest) a w := by
 obtain ⟨v, ps, hrun, hv⟩ := hown.lookup K ht hz (plainElem_bool he false) hkey
 have hvb : v = .bool c := by
  rw [hc] at hv
  cases v <;> simp [plainElem, he] at hv <;> simp_all
 subst hvb
 have hr : (execOp a.eval o).run Tryd.prog w = .ok (.value (.bool c)) w := by simp [execOp, hop, hm, hx, hrun, Result.andThen]
 refine wpList_plain hg fun K' hK' => ?_
 unfold Oper.wp
 rw [hr]
 exact hK' _ _ hK
structure HS (w0 w : World) (bm : Nat) (v : Value) (ns ms : List ByteArray) : Prop where
 row : Kd.R Kd.string 9 w w0.heap.size (fun k => k ≠ bm) v ns
 map : OwnsSeen w bm ms.length (seenD ms)
 bel : Below w0.heap.size w0 w
 lo : w0.heap.size ≤ bm
theorem HS.below {w0 w w1 : World} {bm : Nat} {v : Value} {ns ms : List ByteArray} (h : HS w0 w bm v ns ms) (hb : Below w.heap.size w w1) : HS w0 w1 bm v ns ms :=
 ⟨Kd.R_below h.row hb, h.map.kept (grown_of_below hb none) (by simp), yB h.bel hb, h.lo⟩
theorem HS.drewN {w0 w : World} {bm : Nat} {v : Value} {ns ms : List ByteArray} (h : HS w0 w bm v ns ms) (m : Nat) : HS w0 (w.drewN m) bm v ns ms := h.below (yF (Below.refl _ _) m)
theorem HS.set {w0 w : World} {bm g : Nat} {v : Value} {ns ms : List ByteArray} {cs : Array Value} (h : HS w0 w bm v ns ms) (hg : w.heap[g]? = some (.cells cs 115 (0, 0))) (hl : w0.heap.size ≤ g) (hne : bm ≠ g) (i : Nat) (u : Value) : HS w0 (w.setCell ⟨g, i, none⟩ u) bm v ns ms :=
 ⟨Kd.R_set h.row hg (by decide) i u, h.map.setCell hne u, yJ h.bel hl, h.lo⟩
theorem HS.put {w0 w w1 : World} {bm : Nat} {v : Value} {ns : List ByteArray} {s : ByteArray} (h : HS w0 w bm v ns ns) (ho : OwnsSeen w1 bm (ns.length + 1) ((seenD ns).put (keyS s) (.lit (.bool true)))) (hg : w.grownBy w1 (some bm)) : HS w0 w1 bm v ns (ns ++ [s]) :=
 ⟨Kd.R_grown h.row hg (fun k hk e => hk (Option.some.inj e)), by rw [seenD_snoc, List.length_append]; exact ho, pw_below_grown h.bel (some bm) h.bel.size hg (fun k hk => by cases hk; exact h.lo), h.lo⟩
theorem HS.app {w0 w w1 : World} {bm : Nat} {v v1 : Value} {ns ms : List ByteArray} {s : ByteArray} (h : HS w0 w bm v ns ms) (ho : Kd.R Kd.string 9 w1 w0.heap.size (fun k => k ≠ bm) v1 (ns ++ [s])) (hb : Below w0.heap.size w0 w1) (hg : w.grownBy w1 v.ownBlock) : HS w0 w1 bm v1 (ns ++ [s]) ms :=
 ⟨ho, h.map.kept hg (Kd.R_away h.row (fun k hk => hk)), hb, h.lo⟩
def headGo (ns : List ByteArray) : List S115 → List ByteArray × Int × Int
 | [] => (ns, 0, 0)
 | x :: t => if ns.length = 64 then ([], x.f1, 6) else if capB x.f0 = true ∧ inB x.f0 ns = false then headGo (ns ++ [x.f0]) t else ([], x.f1, 52)
theorem head_step (ns : List ByteArray) (y : List S115) (i : Int) (h0 : 0 ≤ i) (h : i < (y.length : Int)) : headGo ns (y.drop i.toNat) = if ns.length = 64 then ([], (rd_T115 y i).f1, 6) else if capB (rd_T115 y i).f0 = true ∧ inB (rd_T115 y i).f0 ns = false then headGo (ns ++ [(rd_T115 y i).f0]) (y.drop (i.toNat + 1)) else ([], (rd_T115 y i).f1, 52) := by
 have hl : i.toNat < y.length := by omega
 rw [List.drop_eq_getElem_cons hl, headGo]
 have e : rd_T115 y i = y[i.toNat] := by unfold rd_T115; rw [List.getD_eq_getElem?_getD, List.getElem?_eq_getElem hl]; rfl
 rw [e]
theorem capB_size {s : ByteArray} (h : capB s = true) : s.size ≤ 31 := by
 unfold capB at h
 simp only [Bool.and_eq_true, decide_eq_true_eq] at h
 exact h.1.1.2
set_option maxHeartbeats 8000000 in
set_option maxRecDepth 100000 in
theorem head_any (A0 : Option Addr) (c0 : Nat) (l0 : List S115) (r1 : List ByteArray) (r2 r3 : Int) (w : World) (hr0 : Kd.C k115 w A0 l0.length l0) (hc0 : l0.length ≤ c0) (c4 : 1 ≤ (l0.length : Int)) (c3 : ((rd_T115 l0 0).f0).toList = ([100, 97, 121] : List UInt8)) (hl : l0.length ≤ 140737488351232) (h : headGo [] (l0.drop 1) = (r1, r2, r3)) :
  Calls Tryd.prog 63 #[.slice A0 l0.length c0] w fun e w' => ∃ v0_ : Value, e = .returned (.tuple #[v0_, .int .i64 r2, .int .i64 r3]) ∧ Kd.R Kd.string 9 w' w.heap.size (fun _ => True) v0_ r1 ∧ Below w.heap.size w w' := by
 have hu115 := Tryd.underlying115
 have KL : Keyed Tryd.prog 9 := string_keyed Tryd.underlying9
 have hz0 : ∀ w : World, (zeroValue 4).run Tryd.prog w = .ok (.bool false) w := fun _ => by kernel_rfl
 have HR0 := yA hr0
 have HC0 := yA hc0
 clear hr0 hc0
 have c2b0 : decide (0 < (l0.length : Int)) = true := yL (by omega)
 have c2b1 : decide (0 < l0.length) = true := yL (by omega)
 have c3b0 : (((rd_T115 l0 0).f0).toList == ([100, 97, 121] : List UInt8)) = true := beq_iff_eq.mpr c3
 have c3b1 : (((rd_T115 l0 0).f0).toList != ([100, 97, 121] : List UInt8)) = false := bne_eq_false_iff_eq.mpr c3
 clear c3
 have c4b0 := eq_true c4
 have c4b1 : decide (1 ≤ (l0.length : Int)) = true := yL c4
 have q144 : 0 < (l0.length : Int) := by omega
 clear c4
 obtain ⟨y, hy⟩ : ∃ y_ : List (S115), y_ = (l0.drop 1) := ⟨_, rfl⟩
 rw [← hy] at h
 have Ny146 := yA hy
 clear hy
 have HH := yA h
 have HLL := yA hl
 clear h hl
 have p144 : 0 ≤ (0 : Int) := (by omega)
 obtain ⟨ad144, e144, hx144_0, hx144_1⟩ := at_T115 HR0.out 0 p144 q144
 cases e144
 have qi144 : (0 < l0.length) = True := eq_true (by omega)
 (try rw [show ((0 : Int)).toNat = 0 from rfl] at hx144_0)
 (try rw [show 0 * 2 = 0 from rfl] at hx144_0)
 (try rw [Addr.add_zero'] at hx144_0)
 (try rw [show ((0 : Int)).toNat = 0 from rfl] at hx144_1)
 (try rw [show 0 * 2 = 0 from rfl] at hx144_1)
 (try rw [Addr.add_zero'] at hx144_1)
 replace p144 := eq_true p144
 replace q144 := eq_true q144
 have q5 : (1 : Int) ≤ ((l0.length : Int) : Int) := yN (by first | (with_reducible assumption) | assumption)
 obtain ⟨i05, hi05, _, hsz5, _⟩ := info_parts info115
 have hroom5 : l0.length ≤ c0 := HC0.out
 have hC5 : Kd.C k115 _ (some ad144) l0.length l0 := HR0.out
 have hcut5 := cut_from (P := Tryd.prog) 108 115 .i64 Tryd.underlying108 hi05 2 hsz5 (some ad144) l0.length c0 1 (by omega) q5
 have hr5 := Kd.C_drop (m := (1 : Int).toNat) (c := c0) hC5 (by omega) hroom5
 obtain ⟨A5, hA5⟩ : ∃ A1, A1 = (if c0 = (1 : Int).toNat then (some ad144) else ((some ad144) : Option Addr).map (·.add ((1 : Int).toNat * 2))) := ⟨_, rfl⟩
 obtain ⟨c5, hc5⟩ : ∃ c1, c1 = c0 - (1 : Int).toNat := ⟨_, rfl⟩
 have hy5 : y.length = l0.length - (1 : Int).toNat := (by rw [Ny146.out, List.length_drop] <;> omega)
 rw [show (l0).drop (1 : Int).toNat = y from Ny146.out.symm] at hr5
 replace hr5 : Kd.C k115 _ A5 y.length y := (by rw [hA5]; exact hr5)
 rw [← hy5, ← hA5, ← hc5] at hcut5
 have HRY := yA hr5
 have HYL := yA (show y.length ≤ 140737488351232 from by rw [hy5]; exact Nat.le_trans (Nat.sub_le _ _) HLL.out)
 clear hr5 hC5 hroom5 hi05 hsz5 hc5
 have KY5 := yA hy5
 have KA5 := yA hA5
 clear hy5 hA5
 replace q5 := eq_true q5
 have HI : Aside0 (HS w (w.alloc (.map #[] 0)) w.heap.size (.slice none 0 0) [] []) := ⟨Kd.R_nil _ _ _ _ _, World.ownsMap_made (H := Unit) w Tryd.prog 9 (plainElem Tryd.prog 4), (Below.refl w.heap.size w).alloc (Nat.le_refl _) (.map #[] 0), Nat.le_refl _⟩
 go_enter Tryd.func63, Tryd.ntmps63
 go_wp2_with (first | ((with_reducible refine yP (N := 18) rfl ?_); go_must (refine wpList_makeMap_own _ rfl 138 rfl ?_)))
 repeat (go_quiet (fail); try go_wp2)
 go_loopg [5, 22] y.length (fun kq v5 v22 w' => ∃ (i : Int) (ns : List ByteArray), v22 = .int .i64 i ∧ Aside0 (0 ≤ i ∧ i.toNat + kq = y.length) ∧ Aside0 (headGo ns (y.drop i.toNat) = (r1, r2, r3)) ∧ Aside0 (ns.length ≤ 64) ∧ Aside0 (HS w w' w.heap.size v5 ns ns))
 case atStart => exact ⟨0, [], rfl, ⟨by omega, by simp⟩, ⟨HH.out⟩, ⟨by simp⟩, HI⟩
 case round =>
  clear HI hx144_0 hx144_1 p144 q144 q5 qi144 c2b0 c2b1 c3b0 c3b1 c4b0 c4b1 hcut5
  obtain ⟨i, ns, rfl, HIK, HH, HLN, HI⟩ := hrel
  cases gk with
  | zero =>
   have hd : decide (i < (y.length : Int)) = false := yM (by have := HIK.out; omega)
   have hd3 : (i < (y.length : Int)) = False := eq_false (by have := HIK.out; omega)
   have hres := HH.out
   rw [List.drop_of_length_le (by have := HIK.out; omega), headGo] at hres
   obtain ⟨e1, e2⟩ := Prod.mk.inj hres
   obtain ⟨e2, e3⟩ := Prod.mk.inj e2
   subst e1 e2 e3
   clear hres
   obtain ⟨Ao, co, eo⟩ := Kd.R_slice HI.out.row
   subst eo
   go_wp2
   go_ret3
   exact ⟨_, rfl, Kd.R_mono HI.out.row (fun _ _ => trivial), HI.out.bel⟩
  | succ g =>
   have hil : i < (y.length : Int) := by have := HIK.out; omega
   have HST := yA (head_step ns y i HIK.out.1 hil)
   have p0 := HIK.out.1
   have q0 := hil
   clear hil
   by_cases h64 : ns.length = 64
   ·have hres := HH.out
    rw [HST.out, if_pos h64] at hres
    have c64 : ((ns.length : Int) == 64) = true := beq_iff_eq.mpr (by omega)
    have c64b : ((ns.length : Int) != 64) = false := bne_eq_false_iff_eq.mpr (by omega)
    clear h64 HST HH
    obtain ⟨ad, e0, hx0, hx1⟩ := at_T115 HRY.out i p0 q0
    cases e0
    replace hx0 := (HI.out.bel.cell (World.block_lt_of_cell? w _ hx0)).trans hx0
    replace hx1 := (HI.out.bel.cell (World.block_lt_of_cell? w _ hx1)).trans hx1
    replace p0 := eq_true p0
    replace q0 := eq_true q0
    have d0 : decide (i < (y.length : Int)) = true := yL (of_eq_true q0)
    generalize hX : rd_T115 y i = x at *
    obtain ⟨e1, e2⟩ := Prod.mk.inj hres
    obtain ⟨e2, e3⟩ := Prod.mk.inj e2
    subst e1 e2 e3
    clear hres
    go_wp2_with (first | ((with_reducible refine yP (N := 8) rfl ?_); refine yQ ?hg (N := 8) ?hd (cs := #[.string (⟨#[]⟩ : ByteArray), .int .i64 0]) (t := 115) ?hr ?_; (case hd => rfl); (case hg => rfl); (case hr => first | (go_simp; done) | (go_simp; rfl)); intro gb8 hg w10 hbox hb; have n0_ := yA (HS.below HI.out hb); have GE := yA (show w.heap.size ≤ gb8 by rw [hg]; exact HI.out.bel.size); have NE := yA (show w.heap.size ≠ gb8 by rw [hg]; exact Nat.ne_of_lt HI.out.map.lt); clear HI; have HI := n0_; have BK := yA hbox; clear n0_ hb hg hbox; have hcz_0 : w10.cell? ⟨gb8, 0, none⟩ = some (.string (⟨#[]⟩ : ByteArray)) := (yR BK.out 0).trans rfl; have hcz_1 : w10.cell? ⟨gb8, 1, none⟩ = some (.int .i64 0) := (yR BK.out 1).trans rfl; have hfz_0 := yS BK.out 0; have hfz_1 := yS BK.out 1; obtain ⟨Ao, co, eo⟩ := Kd.R_slice HI.out.row; subst eo))
    repeat (go_quiet (first | ((with_reducible refine yP (N := 8) rfl ?_); refine yQ ?hg (N := 8) ?hd (cs := #[.string (⟨#[]⟩ : ByteArray), .int .i64 0]) (t := 115) ?hr ?_; (case hd => rfl); (case hg => rfl); (case hr => first | (go_simp; done) | (go_simp; rfl)); intro gb8 hg w10 hbox hb; have n0_ := yA (HS.below HI.out hb); have GE := yA (show w.heap.size ≤ gb8 by rw [hg]; exact HI.out.bel.size); have NE := yA (show w.heap.size ≠ gb8 by rw [hg]; exact Nat.ne_of_lt HI.out.map.lt); clear HI; have HI := n0_; have BK := yA hbox; clear n0_ hb hg hbox; have hcz_0 : w10.cell? ⟨gb8, 0, none⟩ = some (.string (⟨#[]⟩ : ByteArray)) := (yR BK.out 0).trans rfl; have hcz_1 : w10.cell? ⟨gb8, 1, none⟩ = some (.int .i64 0) := (yR BK.out 1).trans rfl; have hfz_0 := yS BK.out 0; have hfz_1 := yS BK.out 1; obtain ⟨Ao, co, eo⟩ := Kd.R_slice HI.out.row; subst eo)); try go_wp2_with (first | ((with_reducible refine yP (N := 8) rfl ?_); refine yQ ?hg (N := 8) ?hd (cs := #[.string (⟨#[]⟩ : ByteArray), .int .i64 0]) (t := 115) ?hr ?_; (case hd => rfl); (case hg => rfl); (case hr => first | (go_simp; done) | (go_simp; rfl)); intro gb8 hg w10 hbox hb; have n0_ := yA (HS.below HI.out hb); have GE := yA (show w.heap.size ≤ gb8 by rw [hg]; exact HI.out.bel.size); have NE := yA (show w.heap.size ≠ gb8 by rw [hg]; exact Nat.ne_of_lt HI.out.map.lt); clear HI; have HI := n0_; have BK := yA hbox; clear n0_ hb hg hbox; have hcz_0 : w10.cell? ⟨gb8, 0, none⟩ = some (.string (⟨#[]⟩ : ByteArray)) := (yR BK.out 0).trans rfl; have hcz_1 : w10.cell? ⟨gb8, 1, none⟩ = some (.int .i64 0) := (yR BK.out 1).trans rfl; have hfz_0 := yS BK.out 0; have hfz_1 := yS BK.out 1; obtain ⟨Ao, co, eo⟩ := Kd.R_slice HI.out.row; subst eo)))
    go_ret3
    exact ⟨_, by first | rfl | simp, Kd.R_nil _ _ _ _ _, by repeat (first | (with_reducible first | exact HI.out.bel | apply yF | apply yD | refine yJ ?_ GE.out) | exact HI.out.bel)⟩
   ·have c64 : ((ns.length : Int) == 64) = false := beq_eq_false_iff_ne.mpr (by omega)
    have c64b : ((ns.length : Int) != 64) = true := bne_iff_ne.mpr (by omega)
    have HN64 := yA h64
    clear h64
    obtain ⟨ad, e0, hx0, hx1⟩ := at_T115 HRY.out i p0 q0
    cases e0
    replace hx0 := (HI.out.bel.cell (World.block_lt_of_cell? w _ hx0)).trans hx0
    replace hx1 := (HI.out.bel.cell (World.block_lt_of_cell? w _ hx1)).trans hx1
    replace p0 := eq_true p0
    replace q0 := eq_true q0
    have d0 : decide (i < (y.length : Int)) = true := yL (of_eq_true q0)
    generalize hX : rd_T115 y i = x at *
    cases hcp : capB x.f0 with
    | false =>
     have hres := HH.out
     rw [HST.out, if_neg HN64.out, if_neg (fun h => by rw [hcp] at h; cases h.1)] at hres
     obtain ⟨e1, e2⟩ := Prod.mk.inj hres
     obtain ⟨e2, e3⟩ := Prod.mk.inj e2
     subst e1 e2 e3
     obtain ⟨kc, hkc⟩ := (cap_ev x.f0).rounds
     rw [hcp] at hkc
     have HCP := yA hkc
     clear hres hkc hcp HST HH
     go_wp2_with (first | ((with_reducible refine yP (N := 8) rfl ?_); refine yQ ?hg (N := 8) ?hd (cs := #[.string (⟨#[]⟩ : ByteArray), .int .i64 0]) (t := 115) ?hr ?_; (case hd => rfl); (case hg => rfl); (case hr => first | (go_simp; done) | (go_simp; rfl)); intro gb8 hg w10 hbox hb; have n0_ := yA (HS.below HI.out hb); have GE := yA (show w.heap.size ≤ gb8 by rw [hg]; exact HI.out.bel.size); have NE := yA (show w.heap.size ≠ gb8 by rw [hg]; exact Nat.ne_of_lt HI.out.map.lt); clear HI; have HI := n0_; have BK := yA hbox; clear n0_ hb hg hbox; have hcz_0 : w10.cell? ⟨gb8, 0, none⟩ = some (.string (⟨#[]⟩ : ByteArray)) := (yR BK.out 0).trans rfl; have hcz_1 : w10.cell? ⟨gb8, 1, none⟩ = some (.int .i64 0) := (yR BK.out 1).trans rfl; have hfz_0 := yS BK.out 0; have hfz_1 := yS BK.out 1; obtain ⟨Ao, co, eo⟩ := Kd.R_slice HI.out.row; subst eo) | (go_at_call 78; (with_reducible refine (table_capital.calls kc x.f0 false _ HCP.out).mono ?_); rintro e w' ⟨rfl, ⟨nd, rfl⟩⟩; (try first | exact ⟨rfl, _, World.drewN_drewN _ _ _⟩ | exact ⟨rfl, _, Eq.trans (World.drewN_drewN _ _ _) (congrArg (World.drewN _) (Nat.add_assoc _ _ _))⟩)))
     repeat (go_quiet (first | ((with_reducible refine yP (N := 8) rfl ?_); refine yQ ?hg (N := 8) ?hd (cs := #[.string (⟨#[]⟩ : ByteArray), .int .i64 0]) (t := 115) ?hr ?_; (case hd => rfl); (case hg => rfl); (case hr => first | (go_simp; done) | (go_simp; rfl)); intro gb8 hg w10 hbox hb; have n0_ := yA (HS.below HI.out hb); have GE := yA (show w.heap.size ≤ gb8 by rw [hg]; exact HI.out.bel.size); have NE := yA (show w.heap.size ≠ gb8 by rw [hg]; exact Nat.ne_of_lt HI.out.map.lt); clear HI; have HI := n0_; have BK := yA hbox; clear n0_ hb hg hbox; have hcz_0 : w10.cell? ⟨gb8, 0, none⟩ = some (.string (⟨#[]⟩ : ByteArray)) := (yR BK.out 0).trans rfl; have hcz_1 : w10.cell? ⟨gb8, 1, none⟩ = some (.int .i64 0) := (yR BK.out 1).trans rfl; have hfz_0 := yS BK.out 0; have hfz_1 := yS BK.out 1; obtain ⟨Ao, co, eo⟩ := Kd.R_slice HI.out.row; subst eo) | (go_at_call 78; (with_reducible refine (table_capital.calls kc x.f0 false _ HCP.out).mono ?_); rintro e w' ⟨rfl, ⟨nd, rfl⟩⟩; (try first | exact ⟨rfl, _, World.drewN_drewN _ _ _⟩ | exact ⟨rfl, _, Eq.trans (World.drewN_drewN _ _ _) (congrArg (World.drewN _) (Nat.add_assoc _ _ _))⟩))); try go_wp2_with (first | ((with_reducible refine yP (N := 8) rfl ?_); refine yQ ?hg (N := 8) ?hd (cs := #[.string (⟨#[]⟩ : ByteArray), .int .i64 0]) (t := 115) ?hr ?_; (case hd => rfl); (case hg => rfl); (case hr => first | (go_simp; done) | (go_simp; rfl)); intro gb8 hg w10 hbox hb; have n0_ := yA (HS.below HI.out hb); have GE := yA (show w.heap.size ≤ gb8 by rw [hg]; exact HI.out.bel.size); have NE := yA (show w.heap.size ≠ gb8 by rw [hg]; exact Nat.ne_of_lt HI.out.map.lt); clear HI; have HI := n0_; have BK := yA hbox; clear n0_ hb hg hbox; have hcz_0 : w10.cell? ⟨gb8, 0, none⟩ = some (.string (⟨#[]⟩ : ByteArray)) := (yR BK.out 0).trans rfl; have hcz_1 : w10.cell? ⟨gb8, 1, none⟩ = some (.int .i64 0) := (yR BK.out 1).trans rfl; have hfz_0 := yS BK.out 0; have hfz_1 := yS BK.out 1; obtain ⟨Ao, co, eo⟩ := Kd.R_slice HI.out.row; subst eo) | (go_at_call 78; (with_reducible refine (table_capital.calls kc x.f0 false _ HCP.out).mono ?_); rintro e w' ⟨rfl, ⟨nd, rfl⟩⟩; (try first | exact ⟨rfl, _, World.drewN_drewN _ _ _⟩ | exact ⟨rfl, _, Eq.trans (World.drewN_drewN _ _ _) (congrArg (World.drewN _) (Nat.add_assoc _ _ _))⟩))))
     go_ret3
     exact ⟨_, by first | rfl | simp, Kd.R_nil _ _ _ _ _, by repeat (first | (with_reducible first | exact HI.out.bel | apply yF | apply yD | refine yJ ?_ GE.out) | exact HI.out.bel)⟩
    | true =>
     have hsz := capB_size hcp
     have HSZ := yA (show x.f0.size ≤ 281474976710656 by omega)
     have HK := yA (keyOf_string_mk Tryd.underlying9 (s := x.f0) (by simp [maxLen]; omega))
     obtain ⟨kc, hkc⟩ := (cap_ev x.f0).rounds
     rw [hcp] at hkc
     have HCP := yA hkc
     clear hkc hsz
     cases hsn : inB x.f0 ns with
     | true =>
      have hres := HH.out
      rw [HST.out, if_neg HN64.out, if_neg (fun h => by rw [hsn] at h; cases h.2)] at hres
      obtain ⟨e1, e2⟩ := Prod.mk.inj hres
      obtain ⟨e2, e3⟩ := Prod.mk.inj e2
      subst e1 e2 e3
      have HSEEN := yA ((seen_facts ns).2 x.f0)
      rw [hsn] at HSEEN
      clear hres hcp hsn HST HH
      go_wp2_with (first | ((with_reducible refine yP (N := 8) rfl ?_); refine yQ ?hg (N := 8) ?hd (cs := #[.string (⟨#[]⟩ : ByteArray), .int .i64 0]) (t := 115) ?hr ?_; (case hd => rfl); (case hg => rfl); (case hr => first | (go_simp; done) | (go_simp; rfl)); intro gb8 hg w10 hbox hb; have n0_ := yA (HS.below HI.out hb); have GE := yA (show w.heap.size ≤ gb8 by rw [hg]; exact HI.out.bel.size); have NE := yA (show w.heap.size ≠ gb8 by rw [hg]; exact Nat.ne_of_lt HI.out.map.lt); clear HI; have HI := n0_; have BK := yA hbox; clear n0_ hb hg hbox; have hcz_0 : w10.cell? ⟨gb8, 0, none⟩ = some (.string (⟨#[]⟩ : ByteArray)) := (yR BK.out 0).trans rfl; have hcz_1 : w10.cell? ⟨gb8, 1, none⟩ = some (.int .i64 0) := (yR BK.out 1).trans rfl; have hfz_0 := yS BK.out 0; have hfz_1 := yS BK.out 1; obtain ⟨Ao, co, eo⟩ := Kd.R_slice HI.out.row; subst eo) | (go_at_call 78; (with_reducible refine (table_capital.calls kc x.f0 true _ HCP.out).mono ?_); rintro e w' ⟨rfl, ⟨nd, rfl⟩⟩; (try first | exact ⟨rfl, _, World.drewN_drewN _ _ _⟩ | exact ⟨rfl, _, Eq.trans (World.drewN_drewN _ _ _) (congrArg (World.drewN _) (Nat.add_assoc _ _ _))⟩)) | (at_lookup; (try (refine gate_guard (by rfl) ?_; dsimp only)); go_must (refine wpList_lookup_seen _ rfl _ _ 138 rfl 9 4 KL Tryd.underlying138 Tryd.underlying4 (hz0 _) w.heap.size _ _ rfl (HS.drewN (HS.set (HS.set HI.out BK.out GE.out NE.out 0 (.string x.f0)) (blk_set BK.out 0 (.string x.f0)) GE.out NE.out 1 (.int .i64 x.f1)) _).map _ _ rfl HK.out _ HSEEN.out ?_)))
      repeat (go_quiet (first | ((with_reducible refine yP (N := 8) rfl ?_); refine yQ ?hg (N := 8) ?hd (cs := #[.string (⟨#[]⟩ : ByteArray), .int .i64 0]) (t := 115) ?hr ?_; (case hd => rfl); (case hg => rfl); (case hr => first | (go_simp; done) | (go_simp; rfl)); intro gb8 hg w10 hbox hb; have n0_ := yA (HS.below HI.out hb); have GE := yA (show w.heap.size ≤ gb8 by rw [hg]; exact HI.out.bel.size); have NE := yA (show w.heap.size ≠ gb8 by rw [hg]; exact Nat.ne_of_lt HI.out.map.lt); clear HI; have HI := n0_; have BK := yA hbox; clear n0_ hb hg hbox; have hcz_0 : w10.cell? ⟨gb8, 0, none⟩ = some (.string (⟨#[]⟩ : ByteArray)) := (yR BK.out 0).trans rfl; have hcz_1 : w10.cell? ⟨gb8, 1, none⟩ = some (.int .i64 0) := (yR BK.out 1).trans rfl; have hfz_0 := yS BK.out 0; have hfz_1 := yS BK.out 1; obtain ⟨Ao, co, eo⟩ := Kd.R_slice HI.out.row; subst eo) | (go_at_call 78; (with_reducible refine (table_capital.calls kc x.f0 true _ HCP.out).mono ?_); rintro e w' ⟨rfl, ⟨nd, rfl⟩⟩; (try first | exact ⟨rfl, _, World.drewN_drewN _ _ _⟩ | exact ⟨rfl, _, Eq.trans (World.drewN_drewN _ _ _) (congrArg (World.drewN _) (Nat.add_assoc _ _ _))⟩)) | (at_lookup; (try (refine gate_guard (by rfl) ?_; dsimp only)); go_must (refine wpList_lookup_seen _ rfl _ _ 138 rfl 9 4 KL Tryd.underlying138 Tryd.underlying4 (hz0 _) w.heap.size _ _ rfl (HS.drewN (HS.set (HS.set HI.out BK.out GE.out NE.out 0 (.string x.f0)) (blk_set BK.out 0 (.string x.f0)) GE.out NE.out 1 (.int .i64 x.f1)) _).map _ _ rfl HK.out _ HSEEN.out ?_))); try go_wp2_with (first | ((with_reducible refine yP (N := 8) rfl ?_); refine yQ ?hg (N := 8) ?hd (cs := #[.string (⟨#[]⟩ : ByteArray), .int .i64 0]) (t := 115) ?hr ?_; (case hd => rfl); (case hg => rfl); (case hr => first | (go_simp; done) | (go_simp; rfl)); intro gb8 hg w10 hbox hb; have n0_ := yA (HS.below HI.out hb); have GE := yA (show w.heap.size ≤ gb8 by rw [hg]; exact HI.out.bel.size); have NE := yA (show w.heap.size ≠ gb8 by rw [hg]; exact Nat.ne_of_lt HI.out.map.lt); clear HI; have HI := n0_; have BK := yA hbox; clear n0_ hb hg hbox; have hcz_0 : w10.cell? ⟨gb8, 0, none⟩ = some (.string (⟨#[]⟩ : ByteArray)) := (yR BK.out 0).trans rfl; have hcz_1 : w10.cell? ⟨gb8, 1, none⟩ = some (.int .i64 0) := (yR BK.out 1).trans rfl; have hfz_0 := yS BK.out 0; have hfz_1 := yS BK.out 1; obtain ⟨Ao, co, eo⟩ := Kd.R_slice HI.out.row; subst eo) | (go_at_call 78; (with_reducible refine (table_capital.calls kc x.f0 true _ HCP.out).mono ?_); rintro e w' ⟨rfl, ⟨nd, rfl⟩⟩; (try first | exact ⟨rfl, _, World.drewN_drewN _ _ _⟩ | exact ⟨rfl, _, Eq.trans (World.drewN_drewN _ _ _) (congrArg (World.drewN _) (Nat.add_assoc _ _ _))⟩)) | (at_lookup; (try (refine gate_guard (by rfl) ?_; dsimp only)); go_must (refine wpList_lookup_seen _ rfl _ _ 138 rfl 9 4 KL Tryd.underlying138 Tryd.underlying4 (hz0 _) w.heap.size _ _ rfl (HS.drewN (HS.set (HS.set HI.out BK.out GE.out NE.out 0 (.string x.f0)) (blk_set BK.out 0 (.string x.f0)) GE.out NE.out 1 (.int .i64 x.f1)) _).map _ _ rfl HK.out _ HSEEN.out ?_))))
      go_ret3
      exact ⟨_, by first | rfl | simp, Kd.R_nil _ _ _ _ _, by repeat (first | (with_reducible first | exact HI.out.bel | apply yF | apply yD | refine yJ ?_ GE.out) | exact HI.out.bel)⟩
     | false =>
      have hres := HH.out
      rw [HST.out, if_neg HN64.out, if_pos ⟨hcp, hsn⟩] at hres
      have HRES := yA hres
      have HSEEN := yA ((seen_facts ns).2 x.f0)
      rw [hsn] at HSEEN
      clear hres hcp hsn HST HH
      go_wp2_with (first | ((with_reducible refine yP (N := 8) rfl ?_); refine yQ ?hg (N := 8) ?hd (cs := #[.string (⟨#[]⟩ : ByteArray), .int .i64 0]) (t := 115) ?hr ?_; (case hd => rfl); (case hg => rfl); (case hr => first | (go_simp; done) | (go_simp; rfl)); intro gb8 hg w10 hbox hb; have n0_ := yA (HS.below HI.out hb); have GE := yA (show w.heap.size ≤ gb8 by rw [hg]; exact HI.out.bel.size); have NE := yA (show w.heap.size ≠ gb8 by rw [hg]; exact Nat.ne_of_lt HI.out.map.lt); clear HI; have HI := n0_; have BK := yA hbox; clear n0_ hb hg hbox; have hcz_0 : w10.cell? ⟨gb8, 0, none⟩ = some (.string (⟨#[]⟩ : ByteArray)) := (yR BK.out 0).trans rfl; have hcz_1 : w10.cell? ⟨gb8, 1, none⟩ = some (.int .i64 0) := (yR BK.out 1).trans rfl; have hfz_0 := yS BK.out 0; have hfz_1 := yS BK.out 1; obtain ⟨Ao, co, eo⟩ := Kd.R_slice HI.out.row; subst eo) | (go_at_call 78; (with_reducible refine (table_capital.calls kc x.f0 true _ HCP.out).mono ?_); rintro e w' ⟨rfl, ⟨nd, rfl⟩⟩; (try first | exact ⟨rfl, _, World.drewN_drewN _ _ _⟩ | exact ⟨rfl, _, Eq.trans (World.drewN_drewN _ _ _) (congrArg (World.drewN _) (Nat.add_assoc _ _ _))⟩)) | (at_lookup; (try (refine gate_guard (by rfl) ?_; dsimp only)); go_must (refine wpList_lookup_seen _ rfl _ _ 138 rfl 9 4 KL Tryd.underlying138 Tryd.underlying4 (hz0 _) w.heap.size _ _ rfl (HS.drewN (HS.set (HS.set HI.out BK.out GE.out NE.out 0 (.string x.f0)) (blk_set BK.out 0 (.string x.f0)) GE.out NE.out 1 (.int .i64 x.f1)) _).map _ _ rfl HK.out _ HSEEN.out ?_)) | ((with_reducible refine gate_mapUpdate (t := 138) rfl ?_); go_must (refine wpList_mapUpdate_own (H := Unit) _ rfl _ _ _ 138 rfl 9 4 KL Tryd.underlying138 (plainElem Tryd.prog 4) w.heap.size _ _ rfl (HS.drewN (HS.set (HS.set HI.out BK.out GE.out NE.out 0 (.string x.f0)) (blk_set BK.out 0 (.string x.f0)) GE.out NE.out 1 (.int .i64 x.f1)) _).map (by have := HLN.out; simp only [maxLen]; omega) _ _ _ rfl rfl HK.out _ _ (plainElem_bool Tryd.underlying4 true) ?_; intro w12 ho hg; have n0_ := yA (HS.put (HS.drewN (HS.set (HS.set HI.out BK.out GE.out NE.out 0 (.string x.f0)) (blk_set BK.out 0 (.string x.f0)) GE.out NE.out 1 (.int .i64 x.f1)) _) ho hg); have n1_ := yA (blk_grown (row := some w.heap.size) (w := _) (yG (blk_set (blk_set BK.out 0 (.string x.f0)) 1 (.int .i64 x.f1)) _) hg (fun e => NE.out (Option.some.inj e).symm)); clear HI BK; have HI := n0_; have BK := n1_; clear n0_ n1_ ho hg; have hcy_0 : w12.cell? ⟨gb8, 0, none⟩ = some (.string x.f0) := (yR BK.out 0).trans rfl; have hcy_1 : w12.cell? ⟨gb8, 1, none⟩ = some (.int .i64 x.f1) := (yR BK.out 1).trans rfl; have hfy_0 := yS BK.out 0)) | (go_at_call 89; (with_reducible refine (Pure.clone_any x.f0 HSZ.out _).mono ?_); rintro e w24 ⟨rfl, hb⟩; have n0_ := yA (HS.below HI.out hb); clear HI; have HI := n0_; clear n0_ hb) | ((with_reducible refine gate_builtin (b := .append) (xs := #[.tmp 48, .tmp 52]) rfl ?_); at_builtin; refine Kd.R_append Kd.string (w0 := w) w.heap.size rfl (.tmp 48) (.tmp 52) 22 9 (.string ⟨#[]⟩) 16 rfl Tryd.underlying22 info9 rfl (by decide) (by omega) (.slice Ao ns.length co) ns x.f0 [.string x.f0] (fun k => k ≠ w.heap.size) (fun _ => False) rfl rfl ?aP (fun _ hk => hk.elim) ?aF ?aO ?aB ?aS ?aL ?_; (case aP => exact rfl); (case aB => exact HI.out.bel); (case aF => exact (fun k hk => by have := HI.out.map.lt; omega)); (case aO => exact HI.out.row); (case aS => exact HI.out.bel.size); (case aL => have := HLN.out; omega); intro v156 w25 ho hb hg hat; have n0_ := yA (HS.app HI.out ho hb hg); clear HI; have HI := n0_; clear n0_ ho hb hg hat))
      repeat (go_quiet (first | ((with_reducible refine yP (N := 8) rfl ?_); refine yQ ?hg (N := 8) ?hd (cs := #[.string (⟨#[]⟩ : ByteArray), .int .i64 0]) (t := 115) ?hr ?_; (case hd => rfl); (case hg => rfl); (case hr => first | (go_simp; done) | (go_simp; rfl)); intro gb8 hg w10 hbox hb; have n0_ := yA (HS.below HI.out hb); have GE := yA (show w.heap.size ≤ gb8 by rw [hg]; exact HI.out.bel.size); have NE := yA (show w.heap.size ≠ gb8 by rw [hg]; exact Nat.ne_of_lt HI.out.map.lt); clear HI; have HI := n0_; have BK := yA hbox; clear n0_ hb hg hbox; have hcz_0 : w10.cell? ⟨gb8, 0, none⟩ = some (.string (⟨#[]⟩ : ByteArray)) := (yR BK.out 0).trans rfl; have hcz_1 : w10.cell? ⟨gb8, 1, none⟩ = some (.int .i64 0) := (yR BK.out 1).trans rfl; have hfz_0 := yS BK.out 0; have hfz_1 := yS BK.out 1; obtain ⟨Ao, co, eo⟩ := Kd.R_slice HI.out.row; subst eo) | (go_at_call 78; (with_reducible refine (table_capital.calls kc x.f0 true _ HCP.out).mono ?_); rintro e w' ⟨rfl, ⟨nd, rfl⟩⟩; (try first | exact ⟨rfl, _, World.drewN_drewN _ _ _⟩ | exact ⟨rfl, _, Eq.trans (World.drewN_drewN _ _ _) (congrArg (World.drewN _) (Nat.add_assoc _ _ _))⟩)) | (at_lookup; (try (refine gate_guard (by rfl) ?_; dsimp only)); go_must (refine wpList_lookup_seen _ rfl _ _ 138 rfl 9 4 KL Tryd.underlying138 Tryd.underlying4 (hz0 _) w.heap.size _ _ rfl (HS.drewN (HS.set (HS.set HI.out BK.out GE.out NE.out 0 (.string x.f0)) (blk_set BK.out 0 (.string x.f0)) GE.out NE.out 1 (.int .i64 x.f1)) _).map _ _ rfl HK.out _ HSEEN.out ?_)) | ((with_reducible refine gate_mapUpdate (t := 138) rfl ?_); go_must (refine wpList_mapUpdate_own (H := Unit) _ rfl _ _ _ 138 rfl 9 4 KL Tryd.underlying138 (plainElem Tryd.prog 4) w.heap.size _ _ rfl (HS.drewN (HS.set (HS.set HI.out BK.out GE.out NE.out 0 (.string x.f0)) (blk_set BK.out 0 (.string x.f0)) GE.out NE.out 1 (.int .i64 x.f1)) _).map (by have := HLN.out; simp only [maxLen]; omega) _ _ _ rfl rfl HK.out _ _ (plainElem_bool Tryd.underlying4 true) ?_; intro w12 ho hg; have n0_ := yA (HS.put (HS.drewN (HS.set (HS.set HI.out BK.out GE.out NE.out 0 (.string x.f0)) (blk_set BK.out 0 (.string x.f0)) GE.out NE.out 1 (.int .i64 x.f1)) _) ho hg); have n1_ := yA (blk_grown (row := some w.heap.size) (w := _) (yG (blk_set (blk_set BK.out 0 (.string x.f0)) 1 (.int .i64 x.f1)) _) hg (fun e => NE.out (Option.some.inj e).symm)); clear HI BK; have HI := n0_; have BK := n1_; clear n0_ n1_ ho hg; have hcy_0 : w12.cell? ⟨gb8, 0, none⟩ = some (.string x.f0) := (yR BK.out 0).trans rfl; have hcy_1 : w12.cell? ⟨gb8, 1, none⟩ = some (.int .i64 x.f1) := (yR BK.out 1).trans rfl; have hfy_0 := yS BK.out 0)) | (go_at_call 89; (with_reducible refine (Pure.clone_any x.f0 HSZ.out _).mono ?_); rintro e w24 ⟨rfl, hb⟩; have n0_ := yA (HS.below HI.out hb); clear HI; have HI := n0_; clear n0_ hb) | ((with_reducible refine gate_builtin (b := .append) (xs := #[.tmp 48, .tmp 52]) rfl ?_); at_builtin; refine Kd.R_append Kd.string (w0 := w) w.heap.size rfl (.tmp 48) (.tmp 52) 22 9 (.string ⟨#[]⟩) 16 rfl Tryd.underlying22 info9 rfl (by decide) (by omega) (.slice Ao ns.length co) ns x.f0 [.string x.f0] (fun k => k ≠ w.heap.size) (fun _ => False) rfl rfl ?aP (fun _ hk => hk.elim) ?aF ?aO ?aB ?aS ?aL ?_; (case aP => exact rfl); (case aB => exact HI.out.bel); (case aF => exact (fun k hk => by have := HI.out.map.lt; omega)); (case aO => exact HI.out.row); (case aS => exact HI.out.bel.size); (case aL => have := HLN.out; omega); intro v156 w25 ho hb hg hat; have n0_ := yA (HS.app HI.out ho hb hg); clear HI; have HI := n0_; clear n0_ ho hb hg hat)); try go_wp2_with (first | ((with_reducible refine yP (N := 8) rfl ?_); refine yQ ?hg (N := 8) ?hd (cs := #[.string (⟨#[]⟩ : ByteArray), .int .i64 0]) (t := 115) ?hr ?_; (case hd => rfl); (case hg => rfl); (case hr => first | (go_simp; done) | (go_simp; rfl)); intro gb8 hg w10 hbox hb; have n0_ := yA (HS.below HI.out hb); have GE := yA (show w.heap.size ≤ gb8 by rw [hg]; exact HI.out.bel.size); have NE := yA (show w.heap.size ≠ gb8 by rw [hg]; exact Nat.ne_of_lt HI.out.map.lt); clear HI; have HI := n0_; have BK := yA hbox; clear n0_ hb hg hbox; have hcz_0 : w10.cell? ⟨gb8, 0, none⟩ = some (.string (⟨#[]⟩ : ByteArray)) := (yR BK.out 0).trans rfl; have hcz_1 : w10.cell? ⟨gb8, 1, none⟩ = some (.int .i64 0) := (yR BK.out 1).trans rfl; have hfz_0 := yS BK.out 0; have hfz_1 := yS BK.out 1; obtain ⟨Ao, co, eo⟩ := Kd.R_slice HI.out.row; subst eo) | (go_at_call 78; (with_reducible refine (table_capital.calls kc x.f0 true _ HCP.out).mono ?_); rintro e w' ⟨rfl, ⟨nd, rfl⟩⟩; (try first | exact ⟨rfl, _, World.drewN_drewN _ _ _⟩ | exact ⟨rfl, _, Eq.trans (World.drewN_drewN _ _ _) (congrArg (World.drewN _) (Nat.add_assoc _ _ _))⟩)) | (at_lookup; (try (refine gate_guard (by rfl) ?_; dsimp only)); go_must (refine wpList_lookup_seen _ rfl _ _ 138 rfl 9 4 KL Tryd.underlying138 Tryd.underlying4 (hz0 _) w.heap.size _ _ rfl (HS.drewN (HS.set (HS.set HI.out BK.out GE.out NE.out 0 (.string x.f0)) (blk_set BK.out 0 (.string x.f0)) GE.out NE.out 1 (.int .i64 x.f1)) _).map _ _ rfl HK.out _ HSEEN.out ?_)) | ((with_reducible refine gate_mapUpdate (t := 138) rfl ?_); go_must (refine wpList_mapUpdate_own (H := Unit) _ rfl _ _ _ 138 rfl 9 4 KL Tryd.underlying138 (plainElem Tryd.prog 4) w.heap.size _ _ rfl (HS.drewN (HS.set (HS.set HI.out BK.out GE.out NE.out 0 (.string x.f0)) (blk_set BK.out 0 (.string x.f0)) GE.out NE.out 1 (.int .i64 x.f1)) _).map (by have := HLN.out; simp only [maxLen]; omega) _ _ _ rfl rfl HK.out _ _ (plainElem_bool Tryd.underlying4 true) ?_; intro w12 ho hg; have n0_ := yA (HS.put (HS.drewN (HS.set (HS.set HI.out BK.out GE.out NE.out 0 (.string x.f0)) (blk_set BK.out 0 (.string x.f0)) GE.out NE.out 1 (.int .i64 x.f1)) _) ho hg); have n1_ := yA (blk_grown (row := some w.heap.size) (w := _) (yG (blk_set (blk_set BK.out 0 (.string x.f0)) 1 (.int .i64 x.f1)) _) hg (fun e => NE.out (Option.some.inj e).symm)); clear HI BK; have HI := n0_; have BK := n1_; clear n0_ n1_ ho hg; have hcy_0 : w12.cell? ⟨gb8, 0, none⟩ = some (.string x.f0) := (yR BK.out 0).trans rfl; have hcy_1 : w12.cell? ⟨gb8, 1, none⟩ = some (.int .i64 x.f1) := (yR BK.out 1).trans rfl; have hfy_0 := yS BK.out 0)) | (go_at_call 89; (with_reducible refine (Pure.clone_any x.f0 HSZ.out _).mono ?_); rintro e w24 ⟨rfl, hb⟩; have n0_ := yA (HS.below HI.out hb); clear HI; have HI := n0_; clear n0_ hb) | ((with_reducible refine gate_builtin (b := .append) (xs := #[.tmp 48, .tmp 52]) rfl ?_); at_builtin; refine Kd.R_append Kd.string (w0 := w) w.heap.size rfl (.tmp 48) (.tmp 52) 22 9 (.string ⟨#[]⟩) 16 rfl Tryd.underlying22 info9 rfl (by decide) (by omega) (.slice Ao ns.length co) ns x.f0 [.string x.f0] (fun k => k ≠ w.heap.size) (fun _ => False) rfl rfl ?aP (fun _ hk => hk.elim) ?aF ?aO ?aB ?aS ?aL ?_; (case aP => exact rfl); (case aB => exact HI.out.bel); (case aF => exact (fun k hk => by have := HI.out.map.lt; omega)); (case aO => exact HI.out.row); (case aS => exact HI.out.bel.size); (case aL => have := HLN.out; omega); intro v156 w25 ho hb hg hat; have n0_ := yA (HS.app HI.out ho hb hg); clear HI; have HI := n0_; clear n0_ ho hb hg hat)))
      go_roundg g
      case measure => omega
      case rel => exact ⟨i + 1, ns ++ [x.f0], by have := HIK.out; have := HYL.out; rw [show wrap64 (i + 1) = i + 1 by unfold wrap64; omega], ⟨by have := HIK.out; omega, by have := HIK.out; omega⟩, ⟨by have := HIK.out; rw [show (i + 1).toNat = i.toNat + 1 by omega]; exact HRES.out⟩, ⟨by have := HN64.out; have := HLN.out; rw [List.length_append]; simp only [List.length_singleton]; omega⟩, HI⟩
def table_head.f (l0 : List (S115)) : Option (List ByteArray × Int × Int) := if l0.length ≤ 140737488351232 ∧ 1 ≤ l0.length then some (if (rd_T115 l0 0).f0.toList = [100, 97, 121] then headGo [] (l0.drop 1) else ([], (rd_T115 l0 0).f1, 51)) else none
set_option maxHeartbeats 8000000 in
set_option maxRecDepth 100000 in
theorem head_not (A0 : Option Addr) (c0 : Nat) (l0 : List S115) (w : World) (hr0 : Kd.C k115 w A0 l0.length l0) (c4 : 1 ≤ (l0.length : Int)) (c3 : ¬ ((rd_T115 l0 0).f0).toList = ([100, 97, 121] : List UInt8)) :
  Calls Tryd.prog 63 #[.slice A0 l0.length c0] w fun e w' => ∃ v0_ : Value, e = .returned (.tuple #[v0_, .int .i64 (rd_T115 l0 0).f1, .int .i64 51]) ∧ Kd.R Kd.string 9 w' w.heap.size (fun _ => True) v0_ [] ∧ Below w.heap.size w w' := by
 have hu115 := Tryd.underlying115
 have HR0 := yA hr0
 clear hr0
 have HB := yA (Below.refl w.heap.size w)
 have c2b0 : decide (0 < (l0.length : Int)) = true := yL (by omega)
 have c2b1 : decide (0 < l0.length) = true := yL (by omega)
 have c3b0 : (((rd_T115 l0 0).f0).toList == ([100, 97, 121] : List UInt8)) = false := beq_eq_false_iff_ne.mpr c3
 have c3b1 : (((rd_T115 l0 0).f0).toList != ([100, 97, 121] : List UInt8)) = true := bne_iff_ne.mpr c3
 have q144 : 0 < (l0.length : Int) := by omega
 clear c4 c3
 have p144 : 0 ≤ (0 : Int) := (by omega)
 obtain ⟨ad144, e144, hx144_0, hx144_1⟩ := at_T115 HR0.out 0 p144 q144
 cases e144
 have qi144 : (0 < l0.length) = True := eq_true (by omega)
 (try rw [show ((0 : Int)).toNat = 0 from rfl] at hx144_0)
 (try rw [show 0 * 2 = 0 from rfl] at hx144_0)
 (try rw [Addr.add_zero'] at hx144_0)
 (try rw [show ((0 : Int)).toNat = 0 from rfl] at hx144_1)
 (try rw [show 0 * 2 = 0 from rfl] at hx144_1)
 (try rw [Addr.add_zero'] at hx144_1)
 replace p144 := eq_true p144
 replace q144 := eq_true q144
 go_enter Tryd.func63, Tryd.ntmps63
 go_wp2
 repeat (go_quiet (fail); try go_wp2)
 go_ret3
 exact ⟨_, rfl, Kd.R_nil _ _ _ _ _, by repeat (first | (with_reducible first | exact HB.out | apply yF | apply yD) | exact HB.out)⟩
theorem table_head.calls (A0 : Option Addr) (c0 : Nat) (l0 : List (S115)) (r1 : List ByteArray) (r2 : Int) (r3 : Int) (w : World) (hr0 : Kd.C k115 w A0 l0.length l0) (hc0 : l0.length ≤ c0) (h : table_head.f l0 = some (r1, r2, r3)) :
  Calls Tryd.prog 63 #[.slice A0 l0.length c0] w fun e w' => ∃ v0_ : Value, e = .returned (.tuple #[v0_, .int .i64 r2, .int .i64 r3]) ∧ Kd.R Kd.string 9 w' w.heap.size (fun _ => True) v0_ r1 ∧ Below w.heap.size w w' := by
 unfold table_head.f at h
 split at h
 ·rename_i hb
  have h := Option.some.inj h
  split at h
  ·rename_i hd
   exact head_any A0 c0 l0 r1 r2 r3 w hr0 hc0 (by omega) hd hb.1 h
  ·rename_i hd
   obtain ⟨e1, e2⟩ := Prod.mk.inj h
   obtain ⟨e2, e3⟩ := Prod.mk.inj e2
   subst e1 e2 e3
   exact head_not A0 c0 l0 w hr0 (by omega) hd
 ·cases h
end Go.Proofs.YtppojbafagneeaaDoor.PTab
