/- Own text, for this claim: table.copied, copiedRow, Cut, after the text that the kit's printer writes. -/
import Derived.Test.YtppojbafagneeaaDoorZQTabv
import Derived.WalkMore
import Derived.Deep.DeepMust
import Derived.Outline
import Derived.Deep.RegionWith
namespace Go.Proofs.YtppojbafagneeaaDoor.PTab
open Go.RowKit Go.Proofs.YtppojbafagneeaaDoorW.PrintWords Go.Proofs.YtppojbafagneeaaDoorW.PrintLast Go.Proofs.YtppojbafagneeaaDoorW.PrintMore
attribute [local go_sem] max2_int min2_int max_two min_two max_three min_three max_four min_four
set_option linter.unusedVariables false
set_option linter.unusedSimpArgs false
attribute [local go_sem high] eqA52
section
variable {P : Program} {ops : Array Oper} {rest : List Oper} {o : Oper} {a : Act} {Q : Exit → Act → World → Prop}
theorem run_copy_rows (w : World) (dT sT ty elem : TypeId) (b o dLen dCap : Nat) (a : Addr) (sLen sCap size : Nat) (cs : List Value)
  (hu : P.underlying dT = some (.slice elem)) (hs : (P.info? elem).map (·.size) = some size) (hn : cs.length = Nat.min sLen dLen * size)
  (hsrc : ∀ j v, cs[j]? = some v → w.cell? (a.add j) = some v) (hc : ∀ j, j < cs.length → (w.cell? ⟨b, o + j, none⟩).isSome = true) (hf : ∀ j, j < cs.length → w.frozen? ⟨b, o + j, none⟩ = false) (h1 : ∀ v ∈ cs, v.oneCell' = true) :
  (Builtin.copy_ #[dT, sT] ty #[.slice (some ⟨b, o, none⟩) dLen dCap, .slice (some a) sLen sCap]).run P w = .ok (goInt ((Nat.min sLen dLen : Nat) : Int)) (w.setCells b o cs) := by
 have hl := run_loadCells_list (P := P) w a cs hsrc
 have hst := run_storeCells_cells (P := P) b o cs 0 w (by simpa using hc) (by simpa using hf) h1
 cases hq : P.info? elem with
 | none => simp [hq] at hs
 | some i =>
  have hi : i.size = size := by simpa [hq] using hs
  simp [Builtin.copy_, run_underlying hu, Builtin.lenOf, Builtin.firstCells, sizeOf, typeInfo, hq, hi, ← hn, hl, hst]
theorem run_copy_rows0 (w : World) (dT sT ty elem : TypeId) (d a : Option Addr) (dLen dCap sLen sCap size : Nat) (hu : P.underlying dT = some (.slice elem)) (hs : (P.info? elem).map (·.size) = some size) (hn : Nat.min sLen dLen = 0) :
  (Builtin.copy_ #[dT, sT] ty #[.slice d dLen dCap, .slice a sLen sCap]).run P w = .ok (goInt 0) w := by
 cases hq : P.info? elem with
 | none => simp [hq] at hs
 | some i =>
  cases a with
  | none => cases d <;> simp [Builtin.copy_, run_underlying hu, Builtin.lenOf, Builtin.firstCells, sizeOf, typeInfo, hq, hn, loadCells, loadCellsFrom, storeCells]
  | some a => cases d <;> simp [Builtin.copy_, run_underlying hu, Builtin.lenOf, Builtin.firstCells, sizeOf, typeInfo, hq, hn, loadCells, loadCellsFrom, storeCells]
theorem k52_one {w : World} {x : S52} {cs : List Value} (h : k52.K w x cs) : ∀ v ∈ cs, v.oneCell' = true := by
 rw [k52_open h]
 intro v hv
 rcases List.mem_cons.1 hv with rfl | hv
 ·rfl
 ·rw [List.mem_singleton.1 hv]; rfl
theorem reps_one {w : World} : ∀ (n : Nat) {ps : List S52} {cs : List Value}, ps.length = n → Reps (k52.K w) 2 ps cs → ∀ v ∈ cs, v.oneCell' = true := by
 intro n
 induction n with
 | zero =>
  intro ps cs hn h v hv
  have := h.1
  rw [hn, Nat.zero_mul] at this
  rw [List.eq_nil_of_length_eq_zero this] at hv
  cases hv
 | succ n ih =>
  intro ps cs hn h v hv
  match ps, hn with
  | p :: ps, hn =>
   have h0 := h.2 0 p rfl
   rw [Nat.zero_mul, List.drop_zero] at h0
   have h1 := Kd.reps_drop (m := 1) h
   rw [Nat.one_mul] at h1
   rw [← List.take_append_drop 2 cs] at hv
   rcases List.mem_append.1 hv with hv | hv
   ·exact k52_one h0 v hv
   ·exact ih (by simpa using hn) h1 v hv
theorem R_copy52 {w0 W : World} (base : Nat) (hgd : o.guard = none) (s x : Operand) (t t' e : TypeId)
  (ho : o.op = .call { callee := .builtin .copy, args := #[s, x], argTypes := #[t, t'] }) (ht : P.underlying t = some (.slice e)) (hinfo : (P.info? e).map (·.size) = some 2)
  (v : Value) (xs ys : List S52) (A : Option Addr) (m c : Nat) (ok : Nat → Prop) (hs : a.eval s = v) (hx : a.eval x = .slice A m c)
  (HO : k52.R e W base ok v xs) (HR : k52.C W A m ys) (HB : Below base w0 W) (hbase : base ≤ W.heap.size) (hle : m ≤ xs.length)
  (h : ∀ w1, k52.R e w1 base ok v (ys ++ xs.drop m) → Below base w0 w1 → W.grownBy w1 v.ownBlock → wpList P ops Q rest (a.put o.dst (.int .i64 (m : Int))) w1) :
  wpList P ops Q (o :: rest) a W := by
 have hm : ys.length = m := HR.1
 obtain ⟨h0, inner, hown, hr⟩ := HO
 have hq : k52.sz = 2 := rfl
 rw [hq] at hown hr
 have fin : ∀ w1, (Builtin.copy_ #[t, t'] o.type #[v, .slice A m c]).run P W = .ok (goInt (m : Int)) w1 → k52.R e w1 base ok v (ys ++ xs.drop m) → W.grownBy w1 v.ownBlock → wpList P ops Q (o :: rest) a W := by
  intro w1 hrun hrow hg
  refine wpList_plain hgd fun K hK => ?_
  unfold Oper.wp execOp
  simp only [ho, resolve, invoke, builtin, Sem.run_bind, Sem.run_pure, Result.andThen_ok, List.map_toArray, List.map_cons, List.map_nil, hs, hx, hrun]
  exact hK _ _ (h w1 hrow (HB.grown hg hbase (own_base hown)) hg)
 have hmin : Nat.min m xs.length = m := Nat.min_eq_left hle
 by_cases hm0 : m = 0
 ·obtain ⟨A', c', hv⟩ := own_slice hown
  have hy : ys = [] := List.eq_nil_of_length_eq_zero (by omega)
  refine fin W ?_ (by rw [hm0, hy, List.drop_zero, List.nil_append]; exact ⟨h0, inner, hown, hr⟩) (World.grownBy.refl W _)
  rw [hv, hm0]
  exact run_copy_rows0 (P := P) W t t' o.type e A' A xs.length c' 0 c 2 ht hinfo (Nat.zero_min _)
 ·obtain ⟨ad, hA, -⟩ := HR.2.2 (by omega)
  subst hA
  obtain ⟨cs, hcs1, hcs2⟩ := ReadsRow.inner_ HR
  rw [hq] at hcs1
  rcases hown.2 with ⟨_, hx0⟩ | ⟨g, cap, cur, hv, hb, hh, hnc, hcm, hcs, htake⟩
  ·omega
  have hcl : cs.length = m * 2 := by rw [hcs1.1, hm]
  have hrun := run_copy_rows (P := P) W t t' o.type e g 0 xs.length cap ad m c 2 cs ht hinfo (by rw [hmin, hcl]) hcs2
   (fun j hj => by rw [cell_of_row W g _ cur e (0, 0) hh]; simp; omega) (fun j _ => yS hh _) (reps_one _ rfl hcs1)
  rw [hmin] at hrun
  obtain ⟨cur', h3, h4, h5⟩ := setCells_row cs 0 W cur hh (by rw [hcl]; omega)
  obtain ⟨s1, s2, s3, s4⟩ := setCells_same g cs 0 W
  have hln : (ys ++ xs.drop m).length = xs.length := by rw [List.length_append, List.length_drop]; omega
  refine fin _ (by rw [hv, hrun]) ⟨h0, cs ++ inner.drop (m * 2), ?_, ?_⟩ ⟨s1, s2, s3, by rw [s4]; exact Nat.le_refl _, fun k _ hk => setCells_far _ _ k (fun he => hk (by rw [hv, he]; simp [Value.ownBlock]))⟩
  ·rw [hq, hln]
   refine ⟨by rw [List.length_append, List.length_drop, hown.1, hcl]; omega, .inr ⟨g, cap, cur', hv, hb, h3, hnc, hcm, by rw [h4, hcs], ?_⟩⟩
   rw [h5, List.take_zero, List.nil_append, hcl, Nat.zero_add, List.take_append, hcl, List.take_of_length_le (by rw [hcl]; omega)]
   congr 1
   rw [← htake, List.drop_take]
  ·rw [hq]
   refine Kd.reps_append (Reps.imp_ hcs1 (fun p c hp => ?_)) (Reps.imp_ (Kd.reps_drop hr) (fun p c hp => ?_))
   ·rw [k52_open hp]; exact k52_mkM _ _ _ p
   ·rw [k52_openM hp]; exact k52_mkM _ _ _ p
end
theorem copy_all {α : Type} {ys xs : List α} {m : Nat} (h : m = ys.length) (hx : xs.length = m) : ys.take (min m xs.length) ++ xs.drop (min m xs.length) = ys := by
 subst h
 rw [hx, Nat.min_self, List.take_length, List.drop_eq_nil_of_le (by omega), List.append_nil]
theorem copy_all2 {α : Type} {ys xs : List α} {m : Nat} (hx : xs.length = m) : ys ++ xs.drop m = ys := by rw [List.drop_eq_nil_of_le (by omega), List.append_nil]
def table_copied.f (l0 : List ByteArray) : Option (List ByteArray) := if 0 ≤ (l0.length : Int) then (if ((l0.length : Int) : Int).toNat ≤ 17592186044416 then (some l0) else (none)) else (none)
set_option maxHeartbeats 8000000 in
set_option maxRecDepth 100000 in
theorem table_copied.calls (A0 : Option Addr) (c0 : Nat) (l0 : List ByteArray) (r : List ByteArray) (w : World) (hr0 : Kd.C Kd.string w A0 l0.length l0) (hc0 : l0.length ≤ c0) (h : table_copied.f l0 = some r) :
  Calls Tryd.prog 74 #[.slice A0 l0.length c0] w fun e w' => ∃ v0_ : Value, e = .returned (v0_) ∧ Kd.R Kd.string 9 w' w.heap.size (fun _ => True) v0_ r ∧ Below w.heap.size w w' := by
 have HR0 := yA hr0
 have HC0 := yA hc0
 clear hr0 hc0
 have HB := yA (Below.refl w.heap.size w)
 have H : (if 0 ≤ (l0.length : Int) then (if ((l0.length : Int) : Int).toNat ≤ 17592186044416 then (some l0) else (none)) else (none)) = some r := h
 clear h
 by_cases c2 : 0 ≤ (l0.length : Int)
 ·rw [if_pos c2] at H
  have c2b0 := eq_true c2
  have c2b1 : decide (0 ≤ (l0.length : Int)) = true := yL c2
  clear c2
  by_cases c3 : ((l0.length : Int) : Int).toNat ≤ 17592186044416
  ·rw [if_pos c3] at H
   have c3b0 := eq_true c3
   have c3b1 : decide (((l0.length : Int) : Int).toNat ≤ 17592186044416) = true := yL c3
   clear c3
   obtain ⟨y222, hy222⟩ : ∃ y_ : List ByteArray, y_ = (List.replicate ((l0.length : Int) : Int).toNat (⟨#[]⟩ : ByteArray)) := ⟨_, rfl⟩
   have Ny222 := yA hy222
   clear hy222
   have HL := yA (show y222.length = l0.length by rw [Ny222.out, List.length_replicate]; omega)
   obtain rfl := Option.some.inj H
   go_enter Tryd.func74, Tryd.ntmps74
   go_wp2_with (first | ((with_reducible refine yP (N := 9) rfl ?_); go_must (refine Kd.R_copy ByteArray.empty w.heap.size (w0 := w) rfl _ _ 22 22 9 rfl Tryd.underlying22 (by kernel_rfl) v223 y222 l0 A0 l0.length c0 (fun _ => True) rfl rfl (by first | exact HO224.out | exact Kd.R_drew HO224.out | exact Kd.R_alloc HO224.out _) (Kd.C_below HR0.out (by repeat (first | exact HB.out | apply yE | apply yD))) (by repeat (first | exact HB.out | apply yE | apply yD)) (below_size (by repeat (first | exact HB.out | apply yE | apply yD))) ?_; intro w8 ho9 hb9 hg9; rw [copy_all rfl HL.out] at ho9; have n0_ := yA ho9; have n1_ := yA hb9; clear HO224 HB ho9 hb9 hg9; have HO224 := n0_; have HB := n1_; clear n0_ n1_)) | ((with_reducible refine yP (N := 6) rfl ?_); refine Kd.R_make Kd.string _ 9 rfl (N := 6) rfl 22 _ _ rfl (l0.length : Int) rfl rfl Tryd.underlying22 (.string ⟨#[]⟩) 16 info9 rfl (by decide) (by omega) (⟨#[]⟩ : ByteArray) (ok := fun _ => True) (okp := fun _ => True) rfl (fun _ hk => hk) trivial (yN (by first | (with_reducible assumption) | assumption)) (Nat.le_trans (Nat.mul_le_mul_right _ (yN (by first | (with_reducible assumption) | assumption) : (l0.length : Int).toNat ≤ 17592186044416)) (by omega)) (Below.refl _ _) (Nat.le_refl _) ?_; intro v223 w4 ho5 hb hg_ hnew_; clear hg_ hnew_; (first | rw [← Ny222.out] at ho5 | (simp only [Int.reduceToNat] at ho5; rw [← Ny222.out] at ho5)); have n0_ := yA (Kd.R_lower ho5 (below_size (by repeat (first | exact HB.out | apply yE | apply yD)))); have n1_ := yA (yB (by repeat (first | exact HB.out | apply yE | apply yD)) hb); clear HB; have HO224 := n0_; have HB := n1_; clear n0_ n1_; clear hb ho5))
   go_ret
   exact ⟨_, by first | rfl | (simp [errW_none, errW_some] <;> rfl) | (simp [*, errW_none, errW_some] <;> rfl), by (with_reducible repeat (first | apply Kd.R_alloc | apply Kd.R_drewN | apply Kd.R_drew)); exact HO224.out, by repeat (first | exact HB.out | apply yE | apply yD)⟩
  ·rw [if_neg c3] at H
   exact absurd H (by simp)
 ·rw [if_neg c2] at H
  exact absurd H (by simp)
def table_copiedRow.f (l0 : List (S52)) : Option ((List (S52))) := if 0 ≤ (l0.length : Int) then (if ((l0.length : Int) : Int).toNat ≤ 17592186044416 then (some l0) else (none)) else (none)
set_option maxHeartbeats 8000000 in
set_option maxRecDepth 100000 in
theorem table_copiedRow.calls (A0 : Option Addr) (c0 : Nat) (l0 : List (S52)) (r : List (S52)) (w : World) (hr0 : Kd.C k52 w A0 l0.length l0) (hc0 : l0.length ≤ c0) (h : table_copiedRow.f l0 = some r) :
  Calls Tryd.prog 75 #[.slice A0 l0.length c0] w fun e w' => ∃ v0_ : Value, e = .returned (v0_) ∧ Kd.R k52 52 w' w.heap.size (fun _ => True) v0_ r ∧ Below w.heap.size w w' := by
 have HR0 := yA hr0
 have HC0 := yA hc0
 clear hr0 hc0
 have HB := yA (Below.refl w.heap.size w)
 have H : (if 0 ≤ (l0.length : Int) then (if ((l0.length : Int) : Int).toNat ≤ 17592186044416 then (some l0) else (none)) else (none)) = some r := h
 clear h
 by_cases c2 : 0 ≤ (l0.length : Int)
 ·rw [if_pos c2] at H
  have c2b0 := eq_true c2
  have c2b1 : decide (0 ≤ (l0.length : Int)) = true := yL c2
  clear c2
  by_cases c3 : ((l0.length : Int) : Int).toNat ≤ 17592186044416
  ·rw [if_pos c3] at H
   have c3b0 := eq_true c3
   have c3b1 : decide (((l0.length : Int) : Int).toNat ≤ 17592186044416) = true := yL c3
   clear c3
   obtain ⟨y225, hy225⟩ : ∃ y_ : List (S52), y_ = (List.replicate ((l0.length : Int) : Int).toNat z52) := ⟨_, rfl⟩
   have Ny225 := yA hy225
   clear hy225
   have HL := yA (show y225.length = l0.length by rw [Ny225.out, List.length_replicate]; omega)
   obtain rfl := Option.some.inj H
   go_enter Tryd.func75, Tryd.ntmps75
   go_wp2_with (first | ((with_reducible refine yP (N := 9) rfl ?_); go_must (refine R_copy52 (w0 := w) w.heap.size rfl _ _ 54 54 52 rfl Tryd.underlying54 (by kernel_rfl) v226 y225 l0 A0 l0.length c0 (fun _ => True) rfl rfl (by first | exact HO227.out | exact Kd.R_drew HO227.out | exact Kd.R_alloc HO227.out _) (Kd.C_below HR0.out (by repeat (first | exact HB.out | apply yE | apply yD))) (by repeat (first | exact HB.out | apply yE | apply yD)) (below_size (by repeat (first | exact HB.out | apply yE | apply yD))) (Nat.le_of_eq HL.out.symm) ?_; intro w8 ho9 hb9 hg9; rw [copy_all2 HL.out] at ho9; have n0_ := yA ho9; have n1_ := yA hb9; clear HO227 HB ho9 hb9 hg9; have HO227 := n0_; have HB := n1_; clear n0_ n1_)) | ((with_reducible refine yP (N := 6) rfl ?_); refine Kd.R_make k52 _ 52 rfl (N := 6) rfl 54 _ _ rfl (l0.length : Int) rfl rfl Tryd.underlying54 (.agg #[(.bool false), (.int .i64 0)]) 16 info52 rfl (by decide) (by omega) z52 (ok := fun _ => True) (okp := fun _ => True) (k52_mkM _ _ _ z52 ) (fun _ hk => hk) trivial (yN (by first | (with_reducible assumption) | assumption)) (Nat.le_trans (Nat.mul_le_mul_right _ (yN (by first | (with_reducible assumption) | assumption) : (l0.length : Int).toNat ≤ 17592186044416)) (by omega)) (Below.refl _ _) (Nat.le_refl _) ?_; intro v226 w4 ho5 hb hg_ hnew_; clear hg_ hnew_; (first | rw [← Ny225.out] at ho5 | (simp only [Int.reduceToNat] at ho5; rw [← Ny225.out] at ho5)); have n0_ := yA (Kd.R_lower ho5 (below_size (by repeat (first | exact HB.out | apply yE | apply yD)))); have n1_ := yA (yB (by repeat (first | exact HB.out | apply yE | apply yD)) hb); clear HB; have HO227 := n0_; have HB := n1_; clear n0_ n1_; clear hb ho5))
   go_ret
   exact ⟨_, by first | rfl | (simp [errW_none, errW_some] <;> rfl) | (simp [*, errW_none, errW_some] <;> rfl), by (with_reducible repeat (first | apply Kd.R_alloc | apply Kd.R_drewN | apply Kd.R_drew)); exact HO227.out, by repeat (first | exact HB.out | apply yE | apply yD)⟩
  ·rw [if_neg c3] at H
   exact absurd H (by simp)
 ·rw [if_neg c2] at H
  exact absurd H (by simp)
def table_Cut.l0 : Nat → List (List (S52)) → Int → Int → List ByteArray → List (List (S52)) → Option (List ByteArray × (List (List (S52))) × Int)
 | 0, _, _, _, _, _ => none
 | k + 1, x30, x31, x32, x235000, x235001 => if x32 < x31 then (if 0 ≤ x32 then (if x32 < (x30.length : Int) then ((table_copiedRow.f (rd_L4 x30 x32)).bind fun t240 => (if x235001.length < 5864062014805 then (table_Cut.l0 k x30 x31 (wrap64 (x32 + 1)) x235000 (x235001 ++ [t240])) else (none))) else (none)) else (none)) else (some (x235000, x235001, 0))
def table_Cut.f (k : Nat) (l0_0 : List ByteArray) (l0_1 : List (List (S52))) (a1 : Int) : Option (List ByteArray × (List (List (S52))) × Int) := if a1 < 0 then (some (([] : List ByteArray), ([] : List (List (S52))), 1)) else ((table_Valid.f k l0_0 l0_1).bind fun t230 => (if t230 = 0 then ((table_copied.f l0_0).bind fun t231 => (if 0 ≤ (mn a1 (l0_1.length : Int)) then (if (mn a1 (l0_1.length : Int)) ≤ (l0_1.length : Int) then ((some (l0_1.take ((mn a1 (l0_1.length : Int)) : Int).toNat : List (List (S52)))).bind fun y235 => (table_Cut.l0 k y235 (y235.length : Int) 0 t231 ([] : List (List (S52))))) else (none)) else (none))) else (some (([] : List ByteArray), ([] : List (List (S52))), t230))))
def table_Cut.T10 : Bool × List (List Nat × List Nat) := (true, [([], []), ([0], [0]), ([], []), ([2], [2]), ([3], [3]), ([1, 4, 3], [1, 4]), ([0, 1, 2, 3, 4, 5], []), ([6, 5, 5, 0, 1, 2, 3, 4, 5], [5, 6])])
def table_Cut.B10 : List Nat := [0, 1, 0, 4, 12, 31, 63, 127]
theorem table_Cut.tab10 : rtab .any (opsOf Tryd.f36 10) = table_Cut.T10 := by kernel_rfl
theorem table_Cut.bits10 : waitsOk table_Cut.T10.2 table_Cut.B10 = true := by kernel_rfl
set_option maxHeartbeats 8000000 in
set_option maxRecDepth 100000 in
theorem table_Cut.calls (k : Nat) (A0_0 : Option Addr) (c0_0 : Nat) (l0_0 : List ByteArray) (A0_1 : Option Addr) (c0_1 : Nat) (l0_1 : List (List (S52))) (a1 : Int) (r1 : List ByteArray) (r2 : List (List (S52))) (r3 : Int) (w : World) (hr0_0 : Kd.C Kd.string w A0_0 l0_0.length l0_0) (hc0_0 : l0_0.length ≤ c0_0) (hr0_1 : Kd.C (Kd.slice 52 k52) w A0_1 l0_1.length l0_1) (hc0_1 : l0_1.length ≤ c0_1) (h : table_Cut.f k l0_0 l0_1 a1 = some (r1, r2, r3)) :
  Calls Tryd.prog 36 #[.agg #[.slice A0_0 l0_0.length c0_0, .slice A0_1 l0_1.length c0_1], .int .i64 a1] w fun e w' => ∃ v0_ v1_ : Value, e = .returned (.tuple #[.agg #[v0_, v1_], .int .i64 r3]) ∧ Kd.R Kd.string 9 w' w.heap.size (fun _ => True) v0_ r1 ∧ Kd.S (Kd.slice 52 k52) 54 w' w.heap.size (fun _ => True) v1_ r2 ∧ Below w.heap.size w w' := by
 have hu25 := Tryd.underlying25
 have HR0_0 := yA hr0_0
 have HC0_0 := yA hc0_0
 clear hr0_0 hc0_0
 have HR0_1 := yA hr0_1
 have HC0_1 := yA hc0_1
 clear hr0_1 hc0_1
 have HB := yA (Below.refl w.heap.size w)
 have H : (if a1 < 0 then (some (([] : List ByteArray), ([] : List (List (S52))), 1)) else ((table_Valid.f k l0_0 l0_1).bind fun t230 => (if t230 = 0 then ((table_copied.f l0_0).bind fun t231 => (if 0 ≤ (mn a1 (l0_1.length : Int)) then (if (mn a1 (l0_1.length : Int)) ≤ (l0_1.length : Int) then ((some (l0_1.take ((mn a1 (l0_1.length : Int)) : Int).toNat : List (List (S52)))).bind fun y235 => (table_Cut.l0 k y235 (y235.length : Int) 0 t231 ([] : List (List (S52))))) else (none)) else (none))) else (some (([] : List ByteArray), ([] : List (List (S52))), t230))))) = some (r1, r2, r3) := h
 clear h
 by_cases c3 : a1 < 0
 ·rw [if_pos c3] at H
  have c3b0 : decide (a1 < 0) = true := yL c3
  clear c3
  simp only [Option.some.injEq, Prod.mk.injEq] at H
  obtain ⟨rfl, rfl, rfl⟩ := H
  go_enter Tryd.func36, Tryd.ntmps36
  go_wp2_with (first | ((with_reducible refine yP (N := 2) rfl ?_); refine yQ ?hg (N := 2) ?hd (cs := #[.slice A0_0 l0_0.length c0_0, .slice A0_1 l0_1.length c0_1]) (t := 25) ?hr ?_; (case hd => rfl); (case hg => rfl); (case hr => first | (go_simp; done) | (go_simp; rfl)); intro gb228 hg w4 hbox hb; have n0_ := yA (yB (by repeat (first | exact HB.out | apply yE | apply yD)) hb); have n1_ := yA (hbox); have n2_ := yA ((by rw [hg]; exact (below_size (by repeat (first | exact HB.out | apply yE | apply yD))) : w.heap.size ≤ gb228)); have n3_ := yA ((by rw [hg]; exact (below_size (by repeat (first | exact HB.out | apply yE | apply yD))) : w.heap.size ≤ gb228)); clear HB; have HB := n0_; have BK228 := n1_; have GW228 := n2_; have GE228 := n3_; clear n0_ n1_ n2_ n3_; clear hb hbox hg) | ((with_reducible refine yP (N := 4) rfl ?_); refine yQ ?hg (N := 4) ?hd (cs := #[.slice none 0 0, .slice none 0 0]) (t := 25) ?hr ?_; (case hd => rfl); (case hg => rfl); (case hr => first | (go_simp; done) | (go_simp; rfl)); intro gb229 hg w5 hbox hb; have n0_ := yA (yC (by first | exact BK228.out | exact yI BK228.out _) hb); have n1_ := yA (yB (by repeat (first | exact HB.out | apply yE | apply yD)) hb); have n2_ := yA (hbox); have n3_ := yA ((by rw [hg]; exact (below_size (by repeat (first | exact HB.out | apply yE | apply yD))) : w.heap.size ≤ gb229)); have n4_ := yA ((by rw [hg]; exact (below_size (by repeat (first | exact HB.out | apply yE | apply yD))) : w.heap.size ≤ gb229)); have n5_ := yA ((by rw [hg]; exact Nat.ne_of_lt (blk_lt (by first | exact BK228.out | exact yI BK228.out _)) : gb228 ≠ gb229)); have n6_ := yA ((by rw [hg]; exact Nat.ne_of_gt (blk_lt (by first | exact BK228.out | exact yI BK228.out _)) : gb229 ≠ gb228)); clear BK228; clear HB; have BK228 := n0_; have HB := n1_; have BK229 := n2_; have GW229 := n3_; have GE229 := n4_; have NB228_229 := n5_; have NB229_228 := n6_; clear n0_ n1_ n2_ n3_ n4_ n5_ n6_; clear hb hbox hg; have hnb6 := NB229_228.out; have hnc6 := NB228_229.out; have hcz7_0 : w5.cell? ⟨gb229, 0, none⟩ = some (.slice none 0 0) := (yR BK229.out 0).trans rfl; have hcz7_1 : w5.cell? ⟨gb229, 1, none⟩ = some (.slice none 0 0) := (yR BK229.out 1).trans rfl; have hfz7_0 := yS BK229.out 0; have hfz7_1 := yS BK229.out 1))
  refine bodyPost_ret (results_ct rfl _ _ gb229 25 #[.slice none 0 0, .slice none 0 0] (0, 0) _ rfl (by (with_reducible repeat (first | refine yG ?_ _ | refine yH ?_ | refine yI ?_ _)); refine blk_put (cs := #[.slice none 0 0, .slice none 0 0]) ?_ 1 _ rfl; (with_reducible repeat (first | refine yG ?_ _ | refine yH ?_ | refine yI ?_ _)); refine blk_put (cs := #[.slice none 0 0, .slice none 0 0]) ?_ 0 _ rfl; (with_reducible repeat (first | refine yG ?_ _ | refine yH ?_ | refine yI ?_ _)); exact BK229.out) Tryd.underlying25 rfl (by kernel_rfl)) rfl ?_
  exact ⟨_, _, by first | rfl | (simp [errW_none, errW_some] <;> rfl) | (simp [*, errW_none, errW_some] <;> rfl), by first | exact Kd.R_nil _ _ _ _ _ | exact Kd.N_nil _ _ _ _ _ | exact Kd.V_nil _ _ _ _ _ | exact Kd.Q_nil _ _ _ _ _ | exact Kd.S_nil _ _ _ _ _, by first | exact Kd.S_nil _ _ _ _ _ | exact Kd.N_nil _ _ _ _ _ | exact Kd.V_nil _ _ _ _ _ | exact Kd.Q_nil _ _ _ _ _ | exact Kd.R_nil _ _ _ _ _, by repeat (first | exact HB.out | apply yE | apply yD | refine yJ ?_ GE229.out)⟩
 ·rw [if_neg c3] at H
  have c3b0 : decide (a1 < 0) = false := yM c3
  clear c3
  replace H := Option.bind_eq_some_iff.mp H
  obtain ⟨t230, A80, H⟩ := H
  replace H : (if t230 = 0 then ((table_copied.f l0_0).bind fun t231 => (if 0 ≤ (mn a1 (l0_1.length : Int)) then (if (mn a1 (l0_1.length : Int)) ≤ (l0_1.length : Int) then ((some (l0_1.take ((mn a1 (l0_1.length : Int)) : Int).toNat : List (List (S52)))).bind fun y235 => (table_Cut.l0 k y235 (y235.length : Int) 0 t231 ([] : List (List (S52))))) else (none)) else (none))) else (some (([] : List ByteArray), ([] : List (List (S52))), t230))) = some (r1, r2, r3) := H
  have A8 := yA A80
  clear A80
  by_cases c9 : t230 = 0
  ·rw [if_pos c9] at H
   have c9b0 : (t230 == 0) = true := beq_iff_eq.mpr c9
   have c9b1 : (t230 != 0) = false := bne_eq_false_iff_eq.mpr c9
   clear c9
   replace H := Option.bind_eq_some_iff.mp H
   obtain ⟨t231, A100, H⟩ := H
   replace H : (if 0 ≤ (mn a1 (l0_1.length : Int)) then (if (mn a1 (l0_1.length : Int)) ≤ (l0_1.length : Int) then ((some (l0_1.take ((mn a1 (l0_1.length : Int)) : Int).toNat : List (List (S52)))).bind fun y235 => (table_Cut.l0 k y235 (y235.length : Int) 0 t231 ([] : List (List (S52))))) else (none)) else (none)) = some (r1, r2, r3) := H
   have A10 := yA A100
   clear A100
   obtain ⟨ji11, hji11⟩ : ∃ j_ : Int, (mn a1 (l0_1.length : Int)) = j_ := ⟨_, rfl⟩
   replace H : (if 0 ≤ (ji11) then (if (ji11) ≤ (l0_1.length : Int) then ((some (l0_1.take ((ji11) : Int).toNat : List (List (S52)))).bind fun y235 => (table_Cut.l0 k y235 (y235.length : Int) 0 t231 ([] : List (List (S52))))) else (none)) else (none)) = some (r1, r2, r3) := by first | (rw [hji11] at H; exact H) | (simp only [hji11] at H ⊢; exact H)
   (try rw [hji11] at A8)
   (try rw [hji11] at A10)
   have hji11_ : (if (l0_1.length : Int) < a1 then (l0_1.length : Int) else a1) = ji11 := hji11
   by_cases c12 : 0 ≤ (ji11)
   ·rw [if_pos c12] at H
    have c12b0 := eq_true c12
    have c12b1 : decide (0 ≤ (ji11)) = true := yL c12
    clear c12
    by_cases c13 : (ji11) ≤ (l0_1.length : Int)
    ·rw [if_pos c13] at H
     have c13b0 := eq_true c13
     have c13b1 : decide ((ji11) ≤ (l0_1.length : Int)) = true := yL c13
     clear c13
     obtain ⟨y235, hy235⟩ : ∃ y_ : List (List (S52)), y_ = (l0_1.take ((ji11) : Int).toNat) := ⟨_, rfl⟩
     replace H : (table_Cut.l0 k y235 (y235.length : Int) 0 t231 ([] : List (List (S52)))) = some (r1, r2, r3) := by first | (rw [hy235]; with_reducible exact H) | (have H2_ := (Option.bind_some _ _).symm.trans H; rw [hy235]; with_reducible exact H2_) | (have H2_ := (Option.bind_some _ _).symm.trans H; with_reducible exact H2_) | with_reducible exact H | (rw [hy235]; exact H) | exact H
     have Ny235 := yA hy235
     clear hy235
     have H' := yA H
     clear H
     go_enter Tryd.func36, Tryd.ntmps36
     go_wp2_with (first | ((with_reducible refine yP (N := 2) rfl ?_); refine yQ ?hg (N := 2) ?hd (cs := #[.slice A0_0 l0_0.length c0_0, .slice A0_1 l0_1.length c0_1]) (t := 25) ?hr ?_; (case hd => rfl); (case hg => rfl); (case hr => first | (go_simp; done) | (go_simp; rfl)); intro gb228 hg w14 hbox hb; have n0_ := yA (yB (by repeat (first | exact HB.out | apply yE | apply yD)) hb); have n1_ := yA (hbox); have n2_ := yA ((by rw [hg]; exact (below_size (by repeat (first | exact HB.out | apply yE | apply yD))) : w.heap.size ≤ gb228)); have n3_ := yA ((by rw [hg]; exact (below_size (by repeat (first | exact HB.out | apply yE | apply yD))) : w.heap.size ≤ gb228)); clear HB; have HB := n0_; have BK228 := n1_; have GW228 := n2_; have GE228 := n3_; clear n0_ n1_ n2_ n3_; clear hb hbox hg) | ((with_reducible refine yP (N := 4) rfl ?_); refine yQ ?hg (N := 4) ?hd (cs := #[.slice none 0 0, .slice none 0 0]) (t := 25) ?hr ?_; (case hd => rfl); (case hg => rfl); (case hr => first | (go_simp; done) | (go_simp; rfl)); intro gb229 hg w15 hbox hb; have n0_ := yA (yC (by first | exact BK228.out | exact yI BK228.out _) hb); have n1_ := yA (yB (by repeat (first | exact HB.out | apply yE | apply yD)) hb); have n2_ := yA (hbox); have n3_ := yA ((by rw [hg]; exact (below_size (by repeat (first | exact HB.out | apply yE | apply yD))) : w.heap.size ≤ gb229)); have n4_ := yA ((by rw [hg]; exact (below_size (by repeat (first | exact HB.out | apply yE | apply yD))) : w.heap.size ≤ gb229)); have n5_ := yA ((by rw [hg]; exact Nat.ne_of_lt (blk_lt (by first | exact BK228.out | exact yI BK228.out _)) : gb228 ≠ gb229)); have n6_ := yA ((by rw [hg]; exact Nat.ne_of_gt (blk_lt (by first | exact BK228.out | exact yI BK228.out _)) : gb229 ≠ gb228)); clear BK228; clear HB; have BK228 := n0_; have HB := n1_; have BK229 := n2_; have GW229 := n3_; have GE229 := n4_; have NB228_229 := n5_; have NB229_228 := n6_; clear n0_ n1_ n2_ n3_ n4_ n5_ n6_; clear hb hbox hg; have hnb16 := NB228_229.out; have hnc16 := NB229_228.out; have hcz17_0 : w15.cell? ⟨gb228, 0, none⟩ = some (.slice A0_0 l0_0.length c0_0) := (yR BK228.out 0).trans rfl; have hcz17_1 : w15.cell? ⟨gb228, 1, none⟩ = some (.slice A0_1 l0_1.length c0_1) := (yR BK228.out 1).trans rfl; have hfz17_0 := yS BK228.out 0; have hfz17_1 := yS BK228.out 1) | ((with_reducible refine yO (f := 20) rfl ?_); refine goesL_ (some 14) rfl rfl Tryd.func20 (by kernel_rfl) rfl #[.agg #[.slice A0_0 l0_0.length c0_0, .slice A0_1 l0_1.length c0_1]] rfl (by (try simp only [List.map_toArray, List.map_cons, List.map_nil]); first | done | rfl | (simp only [List.length_drop, List.length_take]; rfl)) ?_; (with_reducible refine (table_Valid.calls k _ _ l0_0 _ _ l0_1 t230 _ ?side1 ?side2 ?side3 ?side4 A8.out).mono ?_); (case side1 => repeat (first | exact (Kd.C_below HR0_0.out HB.out) | (with_reducible refine Kd.C_alloc ?_ _) | (with_reducible refine Kd.C_drewN ?_ _) | (with_reducible refine Kd.C_drew ?_))); (case side2 => exact HC0_0.out); (case side3 => repeat (first | exact (Kd.C_below HR0_1.out HB.out) | (with_reducible refine Kd.C_alloc ?_ _) | (with_reducible refine Kd.C_drewN ?_ _) | (with_reducible refine Kd.C_drew ?_))); (case side4 => exact HC0_1.out); rintro e w18 ⟨rfl, hb⟩; refine ⟨_, rfl, ?_⟩; have n0_ := yA (yC (by first | exact BK228.out | exact yI BK228.out _) hb); have n1_ := yA (yC (by first | exact BK229.out | exact yI BK229.out _) hb); have n2_ := yA (yB (by repeat (first | exact HB.out | apply yE | apply yD | refine yJ ?_ GE229.out)) hb); clear BK228; clear BK229; clear HB; have BK228 := n0_; have BK229 := n1_; have HB := n2_; clear n0_ n1_ n2_; (try clear hb); (try clear hb2); (try clear hk); (try clear hi); have hcz19_0 : w18.cell? ⟨gb228, 0, none⟩ = some (.slice A0_0 l0_0.length c0_0) := (yR BK228.out 0).trans rfl; have hcz19_1 : w18.cell? ⟨gb228, 1, none⟩ = some (.slice A0_1 l0_1.length c0_1) := (yR BK228.out 1).trans rfl; have hfz19_0 := yS BK228.out 0; have hfz19_1 := yS BK228.out 1) | ((with_reducible refine yO (f := 74) rfl ?_); refine goesL_ (some 21) rfl rfl Tryd.func74 (by kernel_rfl) rfl #[.slice A0_0 l0_0.length c0_0] rfl (by (try simp only [List.map_toArray, List.map_cons, List.map_nil]); first | done | rfl | (simp only [List.length_drop, List.length_take]; rfl)) ?_; (with_reducible refine (table_copied.calls _ _ l0_0 t231 _ ?side1 ?side2 A10.out).mono ?_); (case side1 => repeat (first | exact (Kd.C_below HR0_0.out HB.out) | (with_reducible refine Kd.C_alloc ?_ _) | (with_reducible refine Kd.C_drewN ?_ _) | (with_reducible refine Kd.C_drew ?_))); (case side2 => exact HC0_0.out); rintro e w20 ⟨v232, rfl, ho0, hb⟩; refine ⟨_, rfl, ?_⟩; have n0_ := yA (Kd.R_lower ho0 (below_size (by repeat (first | exact HB.out | apply yE | apply yD | refine yJ ?_ GE229.out)))); have n1_ := yA (yC (by first | exact BK228.out | exact yI BK228.out _) hb); have n2_ := yA (yC (by first | exact BK229.out | exact yI BK229.out _) hb); have n3_ := yA (yB (by repeat (first | exact HB.out | apply yE | apply yD | refine yJ ?_ GE229.out)) hb); clear BK228; clear BK229; clear HB; have HO233 := n0_; have BK228 := n1_; have BK229 := n2_; have HB := n3_; clear n0_ n1_ n2_ n3_; (try clear hb); (try clear hb2); (try clear hk); (try clear hi); (try clear ho0); obtain ⟨Ao21, co21, eo21⟩ := Kd.R_slice HO233.out; subst eo21) | ((with_reducible refine yP (N := 7) rfl ?_); refine yQ ?hg (N := 7) ?hd (cs := #[.slice none 0 0, .slice none 0 0]) (t := 25) ?hr ?_; (case hd => rfl); (case hg => rfl); (case hr => first | (go_simp; done) | (go_simp; rfl)); intro gb234 hg w22 hbox hb; have n0_ := yA (Kd.R_below (by first | exact HO233.out | exact Kd.R_drew HO233.out | exact Kd.R_alloc HO233.out _) hb); have n1_ := yA (yC (by first | exact BK228.out | exact yI BK228.out _) hb); have n2_ := yA (yC (by first | exact BK229.out | exact yI BK229.out _) hb); have n3_ := yA (yB (by repeat (first | exact HB.out | apply yE | apply yD | refine yJ ?_ GE229.out)) hb); have n4_ := yA (hbox); have n5_ := yA ((by rw [hg]; exact (below_size (by repeat (first | exact HB.out | apply yE | apply yD | refine yJ ?_ GE229.out))) : w.heap.size ≤ gb234)); have n6_ := yA ((by rw [hg]; exact (below_size (by repeat (first | exact HB.out | apply yE | apply yD | refine yJ ?_ GE229.out))) : w.heap.size ≤ gb234)); have n7_ := yA ((by rw [hg]; exact Nat.ne_of_lt (blk_lt (by first | exact BK228.out | exact yI BK228.out _)) : gb228 ≠ gb234)); have n8_ := yA ((by rw [hg]; exact Nat.ne_of_gt (blk_lt (by first | exact BK228.out | exact yI BK228.out _)) : gb234 ≠ gb228)); have n9_ := yA ((by rw [hg]; exact Nat.ne_of_lt (blk_lt (by first | exact BK229.out | exact yI BK229.out _)) : gb229 ≠ gb234)); have n10_ := yA ((by rw [hg]; exact Nat.ne_of_gt (blk_lt (by first | exact BK229.out | exact yI BK229.out _)) : gb234 ≠ gb229)); clear HO233; clear BK228; clear BK229; clear HB; have HO233 := n0_; have BK228 := n1_; have BK229 := n2_; have HB := n3_; have BK234 := n4_; have GW234 := n5_; have GE234 := n6_; have NB228_234 := n7_; have NB234_228 := n8_; have NB229_234 := n9_; have NB234_229 := n10_; clear n0_ n1_ n2_ n3_ n4_ n5_ n6_ n7_ n8_ n9_ n10_; clear hb hbox hg; have hnb23 := NB234_228.out; have hnc23 := NB228_234.out; have hnb24 := NB234_229.out; have hnc24 := NB229_234.out; have hcz25_0 : w22.cell? ⟨gb234, 0, none⟩ = some (.slice none 0 0) := (yR BK234.out 0).trans rfl; have hcz25_1 : w22.cell? ⟨gb234, 1, none⟩ = some (.slice none 0 0) := (yR BK234.out 1).trans rfl; have hfz25_0 := yS BK234.out 0; have hfz25_1 := yS BK234.out 1) | ((with_reducible refine gate_store (t := 25) (p := 7) rfl ?_); refine store_event (t := 25) (p := 7) (v := ?vo_w26) (w1 := ((w22.setCell ⟨gb234, 0, none⟩ (.slice Ao21 t231.length co21)).setCell ⟨gb234, 1, none⟩ (.slice none 0 0))) ?hg ?ho ?hn ?hr ?_; (case ho => rfl); (case hg => rfl); (case hn => rfl); (case hr => first | (go_simp; done) | (go_simp; rfl)); intro w26 hw; have n0_ : Aside0 (Kd.R Kd.string 9 w26 w.heap.size (fun _ => True) (.slice Ao21 t231.length co21) t231) := ⟨(by rw [hw]; exact (by (with_reducible repeat (first | apply Kd.R_alloc | apply Kd.R_drewN | apply Kd.R_drew)); exact Kd.R_mono (Kd.R_far (p := ⟨gb234, 1, none⟩) (Kd.R_far (p := ⟨gb234, 0, none⟩) (Kd.R_types HO233.out BK234.out (by decide)) (fun _ hk => hk.2) (.slice Ao21 t231.length co21)) (fun _ hk => hk.2) (.slice none 0 0)) (fun _ hk => trivial)))⟩; have n1_ : Aside0 (w26.heap[gb228]? = some (.cells #[.slice A0_0 l0_0.length c0_0, .slice A0_1 l0_1.length c0_1] 25 (0, 0))) := ⟨(by rw [hw]; exact (by (with_reducible repeat (first | refine yG ?_ _ | refine yH ?_ | refine yI ?_ _)); refine blk_far ?_ NB228_234.out _; (with_reducible repeat (first | refine yG ?_ _ | refine yH ?_ | refine yI ?_ _)); refine blk_far ?_ NB228_234.out _; (with_reducible repeat (first | refine yG ?_ _ | refine yH ?_ | refine yI ?_ _)); exact BK228.out))⟩; have n2_ : Aside0 (w26.heap[gb229]? = some (.cells #[.slice none 0 0, .slice none 0 0] 25 (0, 0))) := ⟨(by rw [hw]; exact (by (with_reducible repeat (first | refine yG ?_ _ | refine yH ?_ | refine yI ?_ _)); refine blk_far ?_ NB229_234.out _; (with_reducible repeat (first | refine yG ?_ _ | refine yH ?_ | refine yI ?_ _)); refine blk_far ?_ NB229_234.out _; (with_reducible repeat (first | refine yG ?_ _ | refine yH ?_ | refine yI ?_ _)); exact BK229.out))⟩; have n3_ : Aside0 (w26.heap[gb234]? = some (.cells #[.slice Ao21 t231.length co21, .slice none 0 0] 25 (0, 0))) := ⟨(by rw [hw]; exact (by (with_reducible repeat (first | refine yG ?_ _ | refine yH ?_ | refine yI ?_ _)); refine blk_put (cs := #[.slice Ao21 t231.length co21, .slice none 0 0]) ?_ 1 _ rfl; (with_reducible repeat (first | refine yG ?_ _ | refine yH ?_ | refine yI ?_ _)); refine blk_put (cs := #[.slice none 0 0, .slice none 0 0]) ?_ 0 _ rfl; (with_reducible repeat (first | refine yG ?_ _ | refine yH ?_ | refine yI ?_ _)); exact BK234.out))⟩; have n4_ : Aside0 (Below w.heap.size w w26) := ⟨(by rw [hw]; exact (by repeat (first | exact HB.out | apply yE | apply yD | refine yJ ?_ GE229.out | refine yJ ?_ GE234.out)))⟩; clear hw; clear HO233; clear BK228; clear BK229; clear BK234; clear HB; have HO233 := n0_; have BK228 := n1_; have BK229 := n2_; have BK234 := n3_; have HB := n4_; clear n0_ n1_ n2_ n3_ n4_; have hcz27_0 : w26.cell? ⟨gb228, 0, none⟩ = some (.slice A0_0 l0_0.length c0_0) := (yR BK228.out 0).trans rfl; have hcz27_1 : w26.cell? ⟨gb228, 1, none⟩ = some (.slice A0_1 l0_1.length c0_1) := (yR BK228.out 1).trans rfl; have hfz27_0 := yS BK228.out 0; have hfz27_1 := yS BK228.out 1; have q28 : ((ji11) : Int) ≤ ((l0_1.length : Int) : Int) := yN (by first | (with_reducible assumption) | assumption); obtain ⟨i028, hi028, _, hsz28, _⟩ := info_parts info54; have hroom28 : l0_1.length ≤ c0_1 := HC0_1.out; have hC28 : Kd.C (Kd.slice 52 k52) _ A0_1 l0_1.length l0_1 := HR0_1.out; have hcut28 := cut_to (P := Tryd.prog) 23 54 .i64 Tryd.underlying23 hi028 A0_1 l0_1.length c0_1 (ji11) (yN (by first | (with_reducible assumption) | assumption)) q28 hroom28; have hr28 := Kd.C_take (m := ((ji11) : Int).toNat) hC28 (by omega); have hy28 : y235.length = ((ji11) : Int).toNat := (by rw [Ny235.out, List.length_take]; omega); rw [← Ny235.out] at hr28; rw [← hy28] at hcut28; have HR238 := yA hr28; have HC238 := yA (show y235.length ≤ c0_1 from by omega); clear hr28 hC28 hroom28 hi028 hsz28; have KY28 := yA hy28; clear hy28; replace q28 := eq_true q28))
     go_loopg [32] k (fun kq v32 w' => ∃ (x32_1 : Int) (x235001_1 : List (List (S52))) (u235001 : Value), v32 = .int .i64 x32_1 ∧ Aside0 (table_Cut.l0 kq y235 (y235.length : Int) x32_1 t231 x235001_1 = some (r1, r2, r3)) ∧ Aside0 (kq ≤ k) ∧ Aside0 (Kd.R Kd.string 9 w' w.heap.size (fun _ => True) (.slice Ao21 t231.length co21) t231) ∧ Aside0 (Kd.S (Kd.slice 52 k52) 54 w' w.heap.size (fun _ => True) u235001 x235001_1) ∧ Aside0 (w'.heap[gb228]? = some (.cells #[(.slice A0_0 l0_0.length c0_0), (.slice A0_1 l0_1.length c0_1)] 25 (0, 0))) ∧ Aside0 (w'.heap[gb229]? = some (.cells #[(.slice none 0 0), (.slice none 0 0)] 25 (0, 0))) ∧ Aside0 (w'.heap[gb234]? = some (.cells #[(.slice Ao21 t231.length co21), u235001] 25 (0, 0))) ∧ Aside0 (Below w.heap.size w w'))
     case atStart => exact ⟨(0), (([] : List (List (S52)))), (.slice none 0 0), (by first | rfl | (simp; done) | (simp [*]; done)), H', ⟨Nat.le_refl _⟩, ⟨by (with_reducible repeat (first | apply Kd.R_alloc | apply Kd.R_drewN | apply Kd.R_drew)); exact HO233.out⟩, ⟨by first | exact Kd.S_nil _ _ _ _ _ | exact Kd.N_nil _ _ _ _ _ | exact Kd.V_nil _ _ _ _ _ | exact Kd.Q_nil _ _ _ _ _ | exact Kd.R_nil _ _ _ _ _⟩, ⟨by (with_reducible repeat (first | refine yG ?_ _ | refine yH ?_ | refine yI ?_ _)); exact BK228.out⟩, ⟨by (with_reducible repeat (first | refine yG ?_ _ | refine yH ?_ | refine yI ?_ _)); exact BK229.out⟩, ⟨by (with_reducible repeat (first | refine yG ?_ _ | refine yH ?_ | refine yI ?_ _)); exact BK234.out⟩, ⟨by repeat (first | exact HB.out | apply yE | apply yD | refine yJ ?_ GE229.out | refine yJ ?_ GE234.out)⟩⟩
     case round =>
      clear H'
      try clear c1; try clear c2; try clear p2; try clear q2; try clear c3; try clear c3b0; try clear c6; try clear c7; try clear c9; try clear c9b0; try clear c9b1; try clear c12; try clear c12b0; try clear c12b1; try clear c13; try clear c13b0; try clear c13b1; try clear c16; try clear c20; try clear c23; try clear c24; try clear q28; try clear hcz17_0; try clear hcz17_1; try clear hcz19_0; try clear hcz19_1; try clear hcz25_0; try clear hcz25_1; try clear hcz27_0; try clear hcz27_1; try clear hcz7_0; try clear hcz7_1; try clear hfz17_0; try clear hfz17_1; try clear hfz19_0; try clear hfz19_1; try clear hfz25_0; try clear hfz25_1; try clear hfz27_0; try clear hfz27_1; try clear hfz7_0; try clear hfz7_1; try clear q28
      obtain ⟨x32_1, x235001_1, u235001, rfl, HA, HK1, HO_235000, HO_235001, BK228, BK229, BK234, HB⟩ := hrel
      cases gk with
      | zero => exact absurd HA.out (by simp [table_Cut.l0])
      | succ k1 =>
       have H := HA.out
       clear HA
       simp only [table_Cut.l0] at H
       by_cases c29 : x32_1 < (y235.length : Int)
       ·rw [if_pos c29] at H
        have c29b0 : decide (x32_1 < (y235.length : Int)) = true := yL c29
        clear c29
        by_cases c30 : 0 ≤ x32_1
        ·rw [if_pos c30] at H
         have c30b0 : decide (0 ≤ x32_1) = true := yL c30
         clear c30
         by_cases c31 : x32_1 < (y235.length : Int)
         ·rw [if_pos c31] at H
          have c31b0 : decide (x32_1 < (y235.length : Int)) = true := yL c31
          clear c31
          replace H := Option.bind_eq_some_iff.mp H
          obtain ⟨t240, A320, H⟩ := H
          replace H : (if x235001_1.length < 5864062014805 then (table_Cut.l0 k1 y235 (y235.length : Int) (wrap64 (x32_1 + 1)) t231 (x235001_1 ++ [t240])) else (none)) = some (r1, r2, r3) := H
          have A32 := yA A320
          clear A320
          by_cases c33 : x235001_1.length < 5864062014805
          ·rw [if_pos c33] at H
           have LMc33 := yA c33
           clear c33
           obtain ⟨y243, hy243⟩ : ∃ y_ : List (List (S52)), y_ = (x235001_1 ++ [t240]) := ⟨_, rfl⟩
           replace H : (table_Cut.l0 k1 y235 (y235.length : Int) (wrap64 (x32_1 + 1)) t231 y243) = some (r1, r2, r3) := by first | (rw [hy243]; with_reducible exact H) | (have H2_ := (Option.bind_some _ _).symm.trans H; rw [hy243]; with_reducible exact H2_) | (have H2_ := (Option.bind_some _ _).symm.trans H; with_reducible exact H2_) | with_reducible exact H | (rw [hy243]; exact H) | exact H
           have Ny243 := yA hy243
           clear hy243
           have H' := yA H
           clear H
           have p239 : 0 ≤ (x32_1 : Int) := yN (by first | (with_reducible assumption) | assumption)
           have q239 : x32_1 < (y235.length : Int) := yN (by first | (with_reducible assumption) | assumption)
           obtain ⟨ad239, A239_0, c239_0, e239, hx239_0, hl239_0, hi239_0⟩ := at_L4 HR238.out x32_1 p239 q239
           cases e239
           replace hx239_0 := (HB.out.cell (World.block_lt_of_cell? w _ hx239_0)).trans hx239_0
           have HR239_0 := yA hi239_0
           have HC239_0 := yA hl239_0
           clear hi239_0 hl239_0
           replace p239 := eq_true p239
           replace q239 := eq_true q239
           try go_wp2
           have n0_ := yA (Kd.R_drew HO_235000.out)
           have n1_ := yA (Kd.S_drew HO_235001.out)
           have n2_ := yA (yH BK228.out)
           have n3_ := yA (yH BK229.out)
           have n4_ := yA (yH BK234.out)
           have n5_ := yA (yD HB.out)
           clear HO_235000; clear HO_235001; clear BK228; clear BK229; clear BK234; clear HB
           have HO_235000 := n0_
           have HO_235001 := n1_
           have BK228 := n2_
           have BK229 := n3_
           have BK234 := n4_
           have HB := n5_
           clear n0_ n1_ n2_ n3_ n4_ n5_
           refine start_ (n := 8) (S := fun w' => w'.cell? ⟨gb234, 0, none⟩ = some (.slice Ao21 t231.length co21) ∧ w'.cell? ⟨gb234, 1, none⟩ = some (u235001)) (ds := [7]) #[false, false, false, false, false, false, false, false] (by kernel_rfl) rfl rfl ⟨(yR BK234.out 0).trans rfl, (yR BK234.out 1).trans rfl⟩ (fun hHeld => ?_); refine with_tabW table_Cut.tab10 table_Cut.bits10 (fun HT_ HW_ => ?_)
           generalize wr.drew = w34 at HO_235000 HO_235001 BK228 BK229 BK234 HB hHeld ⊢
           refine pure_ (i := 0) (N := some 36) (v := ?_) (a' := ?_) #[true, false, false, false, false, false, false, false] rfl rfl (any_of HT_.out (by kernel_rfl)) (fun _ _ _ h => h) (Or.inl ⟨by rfl, ?_⟩) ?_ ?_
           rotate_left
           ·intro w'
            go_simp
            with_reducible rfl
           rotate_left
           ·simp only [Act.put, lA, lB, lC, i64_w, i32_w]
            rfl
           refine pure_ (i := 2) (N := some 38) (v := ?_) (a' := ?_) #[true, false, true, false, false, false, false, false] rfl rfl (any_of HT_.out (by kernel_rfl)) (fun _ _ _ h => h) (Or.inl ⟨by rfl, ?_⟩) ?_ ?_
           rotate_left
           ·intro w'
            go_simp
            with_reducible rfl
           rotate_left
           ·simp only [Act.put, lA, lB, lC, i64_w, i32_w]
            rfl
           refine take_ (i := 1) (N := some 37) (v := ?_) (a' := ?_) #[true, true, true, false, false, false, false, false] rfl rfl (take_ofW HT_.out HW_.out (by kernel_rfl)) (fun _ _ _ h => h) (Or.inl ⟨by rfl, ?_⟩) hHeld ?_ ?_
           rotate_left
           ·rintro w' ⟨s0, s1⟩
            go_simp
            with_reducible rfl
           rotate_left
           ·simp only [Act.put, lA, lB, lC, i64_w, i32_w]
            rfl
           refine one_ (i := 3) (N := some 39) #[true, true, true, true, false, false, false, false] rfl rfl (one_of HT_.out (by kernel_rfl)) (by decide) (fun K hK => ?_)
           refine goes_ Tryd.func75 (by kernel_rfl) rfl #[.slice A239_0 (rd_L4 y235 x32_1).length c239_0] (by rfl) rfl rfl (by (try simp only [List.map_toArray, List.map_cons, List.map_nil]); first | done | rfl | (simp only [List.length_drop, List.length_take]; rfl)) ?_
           with_reducible refine (table_copiedRow.calls _ _ (rd_L4 y235 x32_1) t240 _ ?side1 ?side2 A32.out).mono ?_
           (case side1 => repeat (first | exact (Kd.C_below HR239_0.out HB.out) | (with_reducible refine Kd.C_alloc ?_ _) | (with_reducible refine Kd.C_drewN ?_ _) | (with_reducible refine Kd.C_drew ?_)))
           (case side2 => exact HC239_0.out)
           rintro e w35 ⟨v241, rfl, ho0, hb⟩
           refine ⟨_, rfl, ?_⟩
           have n0_ := yA (Kd.R_below (by first | exact HO_235000.out | exact Kd.R_drew HO_235000.out | exact Kd.R_alloc HO_235000.out _) hb)
           have n1_ := yA (Kd.S_elder' (by first | exact HO_235001.out | exact Kd.S_drew HO_235001.out | exact Kd.S_alloc HO_235001.out _) (Kd.R_base ho0) hb)
           have n2_ := yA (Kd.R_lower ho0 (below_size (by repeat (first | exact HB.out | apply yE | apply yD | refine yJ ?_ GE229.out | refine yJ ?_ GE234.out))))
           have n3_ := yA (yC (by first | exact BK228.out | exact yI BK228.out _) hb)
           have n4_ := yA (yC (by first | exact BK229.out | exact yI BK229.out _) hb)
           have n5_ := yA (yC (by first | exact BK234.out | exact yI BK234.out _) hb)
           have n6_ := yA (yB (by repeat (first | exact HB.out | apply yE | apply yD | refine yJ ?_ GE229.out | refine yJ ?_ GE234.out)) hb)
           clear HO_235000; clear HO_235001; clear BK228; clear BK229; clear BK234; clear HB
           have HO_235000 := n0_
           have HO_235001 := n1_
           have HO242 := n2_
           have BK228 := n3_
           have BK229 := n4_
           have BK234 := n5_
           have HB := n6_
           clear n0_ n1_ n2_ n3_ n4_ n5_ n6_
           (try clear hb)
           (try clear hb2)
           (try clear hk)
           (try clear hi)
           (try clear ho0)
           obtain ⟨Ao37, co37, eo37⟩ := Kd.R_slice HO242.out
           (first | subst eo37 | (injection eo37 with f1_ f2_ f3_; have f4_ := f1_.symm; have f5_ := f3_.symm; clear f1_ f2_ f3_; subst f4_; subst f5_))
           refine hK.out _ _ ⟨(yR BK234.out 0).trans rfl, (yR BK234.out 1).trans rfl⟩ (fun hHeld => ?_)
           clear hK K
           refine norm_ (a' := ?_) ?_ ?_
           rotate_left
           ·show Act.put _ (some 39) _ = _
            simp only [Act.put, lA, lB, lC, i64_w, i32_w]
            rfl
           refine one_ (i := 4) (N := some 40) #[true, true, true, true, true, false, false, false] rfl rfl (one_of HT_.out (by kernel_rfl)) (by decide) (fun K hK => ?_)
           refine value_ (w1 := ?_) (v := ?_) (by rfl) rfl ?_ ?_
           rotate_left 2
           ·go_simp
            constructor
            ·rfl
            ·rfl
           refine hK.out _ _ ⟨(yR (yI BK234.out _) 0).trans rfl, (yR (yI BK234.out _) 1).trans rfl⟩ (fun hHeld => ?_)
           clear hK K
           refine norm_ (a' := ?_) ?_ ?_
           rotate_left
           ·show Act.put _ (some 40) _ = _
            simp only [Act.put, lA, lB, lC, i64_w, i32_w]
            rfl
           refine one_ (i := 5) (N := some 41) #[true, true, true, true, true, true, false, false] rfl rfl (one_of HT_.out (by kernel_rfl)) (by decide) (fun K hK => ?_)
           refine Kd.S_append_step (Kd.slice 52 k52) (w0 := w) w.heap.size (by rfl) (.tmp 37) (.tmp 40) 23 54 (.slice none 0 0) 24 rfl Tryd.underlying23 info54 rfl (by decide) (by omega) u235001 x235001_1 t240 [.slice Ao37 t240.length co37] (fun _ => True) (fun k_ => some k_ = (.slice Ao37 t240.length co37 : Value).ownBlock) rfl rfl ?aP (fun k_ hk_ => ((Kd.R_mono (ok' := fun k_ => ((fun _ => True)) k_ ∧ some k_ ≠ (u235001 : Value).ownBlock) (Kd.R_apart' (HO242.out) (Kd.S_typed HO_235001.out) (by decide)) (fun k_ hk => ⟨trivial, hk.2⟩))).1 k_ hk_.symm) ?aF ?aO ?aB ?aS ?aL ?_
           (case aP => exact Kd.M_row (Kd.R_mono (Kd.R_tight rfl (Kd.R_mono (ok' := fun k_ => ((fun _ => True)) k_ ∧ some k_ ≠ (u235001 : Value).ownBlock) (Kd.R_apart' (HO242.out) (Kd.S_typed HO_235001.out) (by decide)) (fun k_ hk => ⟨trivial, hk.2⟩))) (fun _ h_ => h_)))
           (case aB => exact (by repeat (first | exact HB.out | apply yE | apply yD | refine yJ ?_ GE229.out | refine yJ ?_ GE234.out)))
           (case aF => exact (fun _ _ => trivial))
           (case aO => exact (by (with_reducible repeat (first | apply Kd.S_alloc | apply Kd.S_drewN | apply Kd.S_drew)); exact Kd.S_mono HO_235001.out (fun k_ hk => ⟨trivial, fun e_ => hk.2 e_⟩)))
           (case aS => exact (below_size (by repeat (first | exact HB.out | apply yE | apply yD | refine yJ ?_ GE229.out | refine yJ ?_ GE234.out))))
           (case aL => have := LMc33.out; omega)
           intro v244 w36 ho hb hg hat
           rw [← Ny243.out] at ho
           have n0_ := yA (Kd.R_over' (by first | exact HO_235000.out | exact Kd.R_drew HO_235000.out | exact Kd.R_alloc HO_235000.out _) (Kd.S_typed (by first | exact HO_235001.out | exact Kd.S_drew HO_235001.out | exact Kd.S_alloc HO_235001.out _)) (by decide) hg)
           have n1_ := yA (blk_grown (by first | exact BK228.out | exact yI BK228.out _) hg (Kd.S_ne HO_235001.out BK228.out (by decide)))
           have n2_ := yA (blk_grown (by first | exact BK229.out | exact yI BK229.out _) hg (Kd.S_ne HO_235001.out BK229.out (by decide)))
           have n3_ := yA (blk_grown (by first | exact BK234.out | exact yI BK234.out _) hg (Kd.S_ne HO_235001.out BK234.out (by decide)))
           have n4_ := yA (hb)
           have n5_ := yA (ho)
           clear HO_235000; clear BK228; clear BK229; clear BK234; clear HB; clear HO_235001; clear HO242
           have HO_235000 := n0_
           have BK228 := n1_
           have BK229 := n2_
           have BK234 := n3_
           have HB := n4_
           have HO245 := n5_
           clear n0_ n1_ n2_ n3_ n4_ n5_
           clear ho hb hg hat
           obtain ⟨Ao38, co38, eo38⟩ := Kd.S_slice HO245.out
           (first | subst eo38 | (injection eo38 with f1_ f2_ f3_; have f4_ := f1_.symm; have f5_ := f3_.symm; clear f1_ f2_ f3_; subst f4_; subst f5_))
           refine hK.out _ _ ⟨(yR BK234.out 0).trans rfl, (yR BK234.out 1).trans rfl⟩ (fun hHeld => ?_)
           clear hK K
           refine norm_ (a' := ?_) ?_ ?_
           rotate_left
           ·show Act.put _ (some 41) _ = _
            simp only [Act.put, lA, lB, lC, i64_w, i32_w]
            rfl
           refine pure_ (i := 6) (N := some 42) (v := ?_) (a' := ?_) #[true, true, true, true, true, true, true, false] rfl rfl (any_of HT_.out (by kernel_rfl)) (fun _ _ _ h => h) (Or.inl ⟨by rfl, ?_⟩) ?_ ?_
           rotate_left
           ·intro w'
            go_simp
            with_reducible rfl
           rotate_left
           ·simp only [Act.put, lA, lB, lC, i64_w, i32_w]
            rfl
           refine last_ (i := 7) (N := none) #[true, true, true, true, true, true, true, true] rfl rfl (one_of HT_.out (by kernel_rfl)) (by decide) (fun K hK => ?_)
           have hs39 : w36.cell? ⟨gb234, 1, none⟩ = some (u235001) := (yR BK234.out 1).trans rfl
           have hfs39 := yS BK234.out 1
           have hns39_0 := NB228_234.out
           have hns39_1 := NB229_234.out
           have hms39_0 := NB234_228.out
           have hms39_1 := NB234_229.out
           refine skip_ (w1 := ?_) (by rfl) rfl ?_ ?_
           rotate_left
           ·go_simp
            rfl
           refine hK.out _ _ ?_
           clear hK K
           refine done_ (done_of HT_.out (by kernel_rfl)) ?_
           try go_wp2
           go_roundg k1
           case measure => have := HK1.out; omega
           case rel => exact ⟨(wrap64 (x32_1 + 1)), (y243), (.slice Ao38 y243.length co38), (by first | rfl | (simp; done) | (simp [*]; done)), H', ⟨by have := HK1.out; omega⟩, ⟨by (with_reducible repeat (first | apply Kd.R_alloc | apply Kd.R_drewN | apply Kd.R_drew)); exact Kd.R_mono (Kd.R_far (p := ⟨gb234, 1, none⟩) (Kd.R_types HO_235000.out BK234.out (by decide)) (fun _ hk => hk.2) (.slice Ao38 y243.length co38)) (fun _ hk => trivial)⟩, ⟨by (with_reducible repeat (first | apply Kd.S_alloc | apply Kd.S_drewN | apply Kd.S_drew)); exact Kd.S_mono (Kd.S_far (p := ⟨gb234, 1, none⟩) (Kd.S_types HO245.out BK234.out (by decide)) (fun _ hk => hk.2) (.slice Ao38 y243.length co38)) (fun _ hk => trivial)⟩, ⟨by (with_reducible repeat (first | refine yG ?_ _ | refine yH ?_ | refine yI ?_ _)); refine blk_far ?_ NB228_234.out _; (with_reducible repeat (first | refine yG ?_ _ | refine yH ?_ | refine yI ?_ _)); exact BK228.out⟩, ⟨by (with_reducible repeat (first | refine yG ?_ _ | refine yH ?_ | refine yI ?_ _)); refine blk_far ?_ NB229_234.out _; (with_reducible repeat (first | refine yG ?_ _ | refine yH ?_ | refine yI ?_ _)); exact BK229.out⟩, ⟨by (with_reducible repeat (first | refine yG ?_ _ | refine yH ?_ | refine yI ?_ _)); refine blk_put (cs := #[.slice Ao21 t231.length co21, u235001]) ?_ 1 _ rfl; (with_reducible repeat (first | refine yG ?_ _ | refine yH ?_ | refine yI ?_ _)); exact BK234.out⟩, ⟨by repeat (first | exact HB.out | apply yE | apply yD | refine yJ ?_ GE229.out | refine yJ ?_ GE234.out)⟩⟩
          ·rw [if_neg c33] at H
           exact absurd H (by simp)
         ·rw [if_neg c31] at H
          exact absurd H (by simp)
        ·rw [if_neg c30] at H
         exact absurd H (by simp)
       ·rw [if_neg c29] at H
        have c29b0 : decide (x32_1 < (y235.length : Int)) = false := yM c29
        clear c29
        simp only [Option.some.injEq, Prod.mk.injEq] at H
        obtain ⟨rfl, rfl, rfl⟩ := H
        have hnb40 := NB234_228.out
        have hnc40 := NB228_234.out
        have hnb41 := NB234_229.out
        have hnc41 := NB229_234.out
        have hcz42_0 : wr.cell? ⟨gb234, 0, none⟩ = some (.slice Ao21 t231.length co21) := (yR BK234.out 0).trans rfl
        have hcz42_1 : wr.cell? ⟨gb234, 1, none⟩ = some (u235001) := (yR BK234.out 1).trans rfl
        have hfz42_0 := yS BK234.out 0
        have hfz42_1 := yS BK234.out 1
        have hnb43 := NB229_228.out
        have hnc43 := NB228_229.out
        have hcz44_0 : wr.cell? ⟨gb229, 0, none⟩ = some (.slice none 0 0) := (yR BK229.out 0).trans rfl
        have hcz44_1 : wr.cell? ⟨gb229, 1, none⟩ = some (.slice none 0 0) := (yR BK229.out 1).trans rfl
        have hfz44_0 := yS BK229.out 0
        have hfz44_1 := yS BK229.out 1
        obtain ⟨Ao45, co45, eo45⟩ := Kd.S_slice HO_235001.out
        subst eo45
        go_wp2
        refine bodyPost_ret (results_ct rfl _ _ gb229 25 #[.slice Ao21 t231.length co21, .slice Ao45 x235001_1.length co45] (0, 0) _ rfl (by (with_reducible repeat (first | refine yG ?_ _ | refine yH ?_ | refine yI ?_ _)); refine blk_put (cs := #[.slice Ao21 t231.length co21, .slice none 0 0]) ?_ 1 _ rfl; (with_reducible repeat (first | refine yG ?_ _ | refine yH ?_ | refine yI ?_ _)); refine blk_put (cs := #[.slice none 0 0, .slice none 0 0]) ?_ 0 _ rfl; (with_reducible repeat (first | refine yG ?_ _ | refine yH ?_ | refine yI ?_ _)); exact BK229.out) Tryd.underlying25 rfl (by kernel_rfl)) rfl ?_
        exact ⟨_, _, by first | rfl | (simp [errW_none, errW_some] <;> rfl) | (simp only [← hji11]; first | rfl | (simp [errW_none, errW_some] <;> rfl)) | (simp [*, errW_none, errW_some] <;> rfl), by (with_reducible repeat (first | apply Kd.R_alloc | apply Kd.R_drewN | apply Kd.R_drew)); exact Kd.R_mono (Kd.R_far (p := ⟨gb229, 1, none⟩) (Kd.R_far (p := ⟨gb229, 0, none⟩) (Kd.R_types HO_235000.out BK229.out (by decide)) (fun _ hk => hk.2) (.slice Ao21 t231.length co21)) (fun _ hk => hk.2) (.slice Ao45 x235001_1.length co45)) (fun _ hk => trivial), by (with_reducible repeat (first | apply Kd.S_alloc | apply Kd.S_drewN | apply Kd.S_drew)); exact Kd.S_mono (Kd.S_far (p := ⟨gb229, 1, none⟩) (Kd.S_far (p := ⟨gb229, 0, none⟩) (Kd.S_types HO_235001.out BK229.out (by decide)) (fun _ hk => hk.2) (.slice Ao21 t231.length co21)) (fun _ hk => hk.2) (.slice Ao45 x235001_1.length co45)) (fun _ hk => trivial), by repeat (first | exact HB.out | apply yE | apply yD | refine yJ ?_ GE229.out | refine yJ ?_ GE234.out)⟩
    ·rw [if_neg c13] at H
     exact absurd H (by simp)
   ·rw [if_neg c12] at H
    exact absurd H (by simp)
  ·rw [if_neg c9] at H
   have c9b0 : (t230 == 0) = false := beq_eq_false_iff_ne.mpr c9
   have c9b1 : (t230 != 0) = true := bne_iff_ne.mpr c9
   simp only [Option.some.injEq, Prod.mk.injEq] at H
   obtain ⟨rfl, rfl, rfl⟩ := H
   go_enter Tryd.func36, Tryd.ntmps36
   go_wp2_with (first | ((with_reducible refine yP (N := 2) rfl ?_); refine yQ ?hg (N := 2) ?hd (cs := #[.slice A0_0 l0_0.length c0_0, .slice A0_1 l0_1.length c0_1]) (t := 25) ?hr ?_; (case hd => rfl); (case hg => rfl); (case hr => first | (go_simp; done) | (go_simp; rfl)); intro gb228 hg w46 hbox hb; have n0_ := yA (yB (by repeat (first | exact HB.out | apply yE | apply yD)) hb); have n1_ := yA (hbox); have n2_ := yA ((by rw [hg]; exact (below_size (by repeat (first | exact HB.out | apply yE | apply yD))) : w.heap.size ≤ gb228)); have n3_ := yA ((by rw [hg]; exact (below_size (by repeat (first | exact HB.out | apply yE | apply yD))) : w.heap.size ≤ gb228)); clear HB; have HB := n0_; have BK228 := n1_; have GW228 := n2_; have GE228 := n3_; clear n0_ n1_ n2_ n3_; clear hb hbox hg) | ((with_reducible refine yP (N := 4) rfl ?_); refine yQ ?hg (N := 4) ?hd (cs := #[.slice none 0 0, .slice none 0 0]) (t := 25) ?hr ?_; (case hd => rfl); (case hg => rfl); (case hr => first | (go_simp; done) | (go_simp; rfl)); intro gb229 hg w47 hbox hb; have n0_ := yA (yC (by first | exact BK228.out | exact yI BK228.out _) hb); have n1_ := yA (yB (by repeat (first | exact HB.out | apply yE | apply yD)) hb); have n2_ := yA (hbox); have n3_ := yA ((by rw [hg]; exact (below_size (by repeat (first | exact HB.out | apply yE | apply yD))) : w.heap.size ≤ gb229)); have n4_ := yA ((by rw [hg]; exact (below_size (by repeat (first | exact HB.out | apply yE | apply yD))) : w.heap.size ≤ gb229)); have n5_ := yA ((by rw [hg]; exact Nat.ne_of_lt (blk_lt (by first | exact BK228.out | exact yI BK228.out _)) : gb228 ≠ gb229)); have n6_ := yA ((by rw [hg]; exact Nat.ne_of_gt (blk_lt (by first | exact BK228.out | exact yI BK228.out _)) : gb229 ≠ gb228)); clear BK228; clear HB; have BK228 := n0_; have HB := n1_; have BK229 := n2_; have GW229 := n3_; have GE229 := n4_; have NB228_229 := n5_; have NB229_228 := n6_; clear n0_ n1_ n2_ n3_ n4_ n5_ n6_; clear hb hbox hg; have hnb48 := NB228_229.out; have hnc48 := NB229_228.out; have hcz49_0 : w47.cell? ⟨gb228, 0, none⟩ = some (.slice A0_0 l0_0.length c0_0) := (yR BK228.out 0).trans rfl; have hcz49_1 : w47.cell? ⟨gb228, 1, none⟩ = some (.slice A0_1 l0_1.length c0_1) := (yR BK228.out 1).trans rfl; have hfz49_0 := yS BK228.out 0; have hfz49_1 := yS BK228.out 1) | ((with_reducible refine yO (f := 20) rfl ?_); refine goesL_ (some 14) rfl rfl Tryd.func20 (by kernel_rfl) rfl #[.agg #[.slice A0_0 l0_0.length c0_0, .slice A0_1 l0_1.length c0_1]] rfl (by (try simp only [List.map_toArray, List.map_cons, List.map_nil]); first | done | rfl | (simp only [List.length_drop, List.length_take]; rfl)) ?_; (with_reducible refine (table_Valid.calls k _ _ l0_0 _ _ l0_1 t230 _ ?side1 ?side2 ?side3 ?side4 A8.out).mono ?_); (case side1 => repeat (first | exact (Kd.C_below HR0_0.out HB.out) | (with_reducible refine Kd.C_alloc ?_ _) | (with_reducible refine Kd.C_drewN ?_ _) | (with_reducible refine Kd.C_drew ?_))); (case side2 => exact HC0_0.out); (case side3 => repeat (first | exact (Kd.C_below HR0_1.out HB.out) | (with_reducible refine Kd.C_alloc ?_ _) | (with_reducible refine Kd.C_drewN ?_ _) | (with_reducible refine Kd.C_drew ?_))); (case side4 => exact HC0_1.out); rintro e w50 ⟨rfl, hb⟩; refine ⟨_, rfl, ?_⟩; have n0_ := yA (yC (by first | exact BK228.out | exact yI BK228.out _) hb); have n1_ := yA (yC (by first | exact BK229.out | exact yI BK229.out _) hb); have n2_ := yA (yB (by repeat (first | exact HB.out | apply yE | apply yD | refine yJ ?_ GE229.out)) hb); clear BK228; clear BK229; clear HB; have BK228 := n0_; have BK229 := n1_; have HB := n2_; clear n0_ n1_ n2_; (try clear hb); (try clear hb2); (try clear hk); (try clear hi); have hcz51_0 : w50.cell? ⟨gb229, 0, none⟩ = some (.slice none 0 0) := (yR BK229.out 0).trans rfl; have hcz51_1 : w50.cell? ⟨gb229, 1, none⟩ = some (.slice none 0 0) := (yR BK229.out 1).trans rfl; have hfz51_0 := yS BK229.out 0; have hfz51_1 := yS BK229.out 1))
   refine bodyPost_ret (results_ct rfl _ _ gb229 25 #[.slice none 0 0, .slice none 0 0] (0, 0) _ rfl (by (with_reducible repeat (first | refine yG ?_ _ | refine yH ?_ | refine yI ?_ _)); refine blk_put (cs := #[.slice none 0 0, .slice none 0 0]) ?_ 1 _ rfl; (with_reducible repeat (first | refine yG ?_ _ | refine yH ?_ | refine yI ?_ _)); refine blk_put (cs := #[.slice none 0 0, .slice none 0 0]) ?_ 0 _ rfl; (with_reducible repeat (first | refine yG ?_ _ | refine yH ?_ | refine yI ?_ _)); exact BK229.out) Tryd.underlying25 rfl (by kernel_rfl)) rfl ?_
   exact ⟨_, _, by first | rfl | (simp [errW_none, errW_some] <;> rfl) | (simp [*, errW_none, errW_some] <;> rfl), by first | exact Kd.R_nil _ _ _ _ _ | exact Kd.N_nil _ _ _ _ _ | exact Kd.V_nil _ _ _ _ _ | exact Kd.Q_nil _ _ _ _ _ | exact Kd.S_nil _ _ _ _ _, by first | exact Kd.S_nil _ _ _ _ _ | exact Kd.N_nil _ _ _ _ _ | exact Kd.V_nil _ _ _ _ _ | exact Kd.Q_nil _ _ _ _ _ | exact Kd.R_nil _ _ _ _ _, by repeat (first | exact HB.out | apply yE | apply yD | refine yJ ?_ GE229.out)⟩
end Go.Proofs.YtppojbafagneeaaDoor.PTab
