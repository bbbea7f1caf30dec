/- Own text, for this claim: columns: the first column of each name, as a map made anew. -/
import Derived.Test.YtppojbafagneeaaDoorZQTab1
import Derived.WalkKit
import Derived.ProofKit
import Derived.Below
import Derived.Maps.OwnOps
import Derived.Maps.OwnSet
import Derived.Maps.Ext
import Derived.Deep.DeepMust
import Derived.Outline
namespace Go.Proofs.YtppojbafagneeaaDoor.PTab
open Go.RowKit Go.Maps Go.WideMaps Go.WideElems Go.Proofs.YtppojbafagneeaaDoorW.PrintWords Go.Proofs.YtppojbafagneeaaDoorW.PrintLast Go.Proofs.YtppojbafagneeaaDoorW.PrintMore
set_option linter.unusedVariables false
set_option linter.unusedSimpArgs false
abbrev keyS (n : ByteArray) : Lit := .string n.data.toList
def colD : List ByteArray → Nat → DataW Unit → DataW Unit
 | [], _, D => D
 | n :: t, i, D => colD t (i + 1) (if has D (keyS n) = true then D else D.put (keyS n) (.lit (.int .i64 (i : Int))))
theorem colD_snoc (n : ByteArray) : ∀ (l : List ByteArray) (i : Nat) (D : DataW Unit), colD (l ++ [n]) i D = (if has (colD l i D) (keyS n) = true then colD l i D else (colD l i D).put (keyS n) (.lit (.int .i64 ((i + l.length : Nat) : Int)))) := by
 intro l
 induction l with
 | nil => intro i D; rfl
 | cons m t ih =>
  intro i D
  rw [List.cons_append, colD, ih, colD]
  rw [show i + 1 + t.length = i + (m :: t).length by simp; omega]
abbrev OwnsCol (w : World) (b n : Nat) (D : DataW Unit) : Prop := w.ownsMap Tryd.prog 9 (plainElem (H := Unit) Tryd.prog 3) b n D
theorem gate_mapUpdate {P : Program} {ops : Array Oper} {rest : List Oper} {o : Oper} {a : Act} {Q : Exit → Act → World → Prop} {W : World} {t : TypeId} {m x v : Operand} (_ho : o.op = Op.mapUpdate t m x v) (h : wpList P ops Q (o :: rest) a W) : wpList P ops Q (o :: rest) a W := h
theorem wpList_makeMap_own {P : Program} (w : World) {ops : Array Oper} {rest : List Oper} {o : Oper} {a : Act} {Q : Exit → Act → World → Prop}
  (hg : o.guard = none) (t : TypeId) (hop : o.op = Op.makeMap t none) (hK : wpList P ops Q rest (a.put o.dst (.map (some w.heap.size))) (w.alloc (.map #[] 0))) :
  wpList P ops Q (o :: rest) a w := by
 refine wpList_plain hg fun K' hK' => ?_
 unfold Oper.wp
 simp [execOp, hop, run_makeMap, Result.andThen]
 exact hK' _ _ hK
theorem w64c (n : Nat) (h : n ≤ 9223372036854775806) : wrap64 ((n : Int) + 1) = ((n + 1 : Nat) : Int) := by unfold wrap64; omega
theorem wf_i64 (a : Int) (h : 0 ≤ a ∧ a ≤ 9223372036854775807) : (Lit.int .i64 a).wf = true := by
 simp only [Lit.wf, IntKind.min, IntKind.max, IntKind.signed, IntKind.bits, Bool.and_eq_true, decide_eq_true_eq, if_true]
 omega
theorem at_str {w : World} {A : Option Addr} {n : Nat} {xs : List ByteArray} (h : Kd.C Kd.string w A n xs) (i : Nat) (h1 : i < n) : ∃ ad, A = some ad ∧ w.cell? (ad.add i) = some (.string (xs.getD i ByteArray.empty)) := by
 obtain ⟨ad, c, e, -, hK, hc⟩ := Kd.C_get h ByteArray.empty (i : Int) (by omega) (by omega)
 have hK : c = [.string (xs.getD (i : Int).toNat ByteArray.empty)] := hK
 subst hK
 refine ⟨ad, e, ?_⟩
 have := hc 0 _ rfl
 simpa [Kd.string, Kd.scalar] using this
theorem take_snoc (l : List ByteArray) (i : Nat) (h : i < l.length) : l.take (i + 1) = l.take i ++ [l.getD i ByteArray.empty] := by
 rw [List.take_add_one, List.getElem?_eq_getElem h, List.getD_eq_getElem?_getD, List.getElem?_eq_getElem h]; rfl
set_option maxHeartbeats 8000000 in
set_option maxRecDepth 100000 in
theorem columns_any (A0 : Option Addr) (c0 : Nat) (l0 : List ByteArray) (w : World) (h0 : Kd.C Kd.string w A0 l0.length l0) (hc0 : l0.length ≤ c0) (hs : ∀ n ∈ l0, n.size ≤ 140737488351232) (hl : l0.length ≤ 140737488351232) :
  Calls Tryd.prog 46 #[.slice A0 l0.length c0] w fun e w' => ∃ b, e = .returned (.map (some b)) ∧ w.heap.size ≤ b ∧ OwnsCol w' b l0.length (colD l0 0 (.map [])) ∧ Below w.heap.size w w' := by
 have HR0 := yA h0
 have HS := yA hs
 have HL := yA hl
 clear h0 hc0 hs hl
 have HB := yA ((Below.refl w.heap.size w).alloc (Nat.le_refl _) (.map #[] 0))
 have HO := yA (World.ownsMap_made (H := Unit) w Tryd.prog 9 (plainElem Tryd.prog 3))
 obtain ⟨b, hb⟩ : ∃ b, b = w.heap.size := ⟨_, rfl⟩
 have GB : Aside0 (w.heap.size ≤ b) := ⟨by omega⟩
 have EB := yA hb
 rw [← hb] at HO
 clear hb
 have KL : Keyed Tryd.prog 9 := string_keyed Tryd.underlying9
 have hz0 : ∀ w : World, (zeroValue 3).run Tryd.prog w = .ok (.int .i64 0) w := fun _ => by kernel_rfl
 go_enter Tryd.func46, Tryd.ntmps46
 go_wp2_with (first | ((with_reducible refine yP (N := 8) rfl ?_); go_must (refine wpList_makeMap_own _ rfl 71 rfl ?_; (try rw [← EB.out]))))
 go_loopg [11] l0.length (fun kq v11 w' => ∃ (i : Nat), v11 = .int .i64 (i : Int) ∧ i + kq = l0.length ∧ Aside0 (OwnsCol w' b i (colD (l0.take i) 0 (.map []))) ∧ Aside0 (Below w.heap.size w w'))
 case atStart => exact ⟨0, rfl, by omega, ⟨HO.out⟩, ⟨HB.out⟩⟩
 case round =>
  obtain ⟨i, rfl, hik, HO, HB⟩ := hrel
  have HIK := yA hik
  clear hik
  cases gk with
  | zero =>
   have hd : decide ((i : Int) < (l0.length : Int)) = false := yM (by have := HIK.out; omega)
   have hd2 : decide (i < l0.length) = false := yM (by have := HIK.out; omega)
   have hd3 : (i < l0.length) = False := eq_false (by have := HIK.out; omega)
   go_wp2
   go_ret
   have hi : i = l0.length := by have := HIK.out; omega
   refine ⟨b, rfl, GB.out, ?_, HB.out⟩
   have h1 := HO.out
   rw [hi, List.take_length] at h1
   exact h1
  | succ g =>
   have hi : i < l0.length := by have := HIK.out; omega
   have hd : decide ((i : Int) < (l0.length : Int)) = true := yL (by omega)
   have q1 : ((i : Int) < (l0.length : Int)) = True := eq_true (by omega)
   obtain ⟨ad, e1, hx⟩ := at_str HR0.out i hi
   cases e1
   have hx := (HB.out.cell (World.block_lt_of_cell? w _ hx)).trans hx
   obtain ⟨nm, hnm⟩ : ∃ nm, l0.getD i ByteArray.empty = nm := ⟨_, rfl⟩
   rw [hnm] at hx
   have hsz : nm.size ≤ 140737488351232 := by
    rw [← hnm, List.getD_eq_getElem?_getD, List.getElem?_eq_getElem hi]
    exact HS.out _ (List.getElem_mem hi)
   have HT := yA (take_snoc l0 i hi)
   rw [hnm] at HT
   clear hnm hi
   have hk := keyOf_string_mk Tryd.underlying9 (s := nm) (by simp [maxLen]; omega)
   obtain ⟨hh, hhe⟩ : ∃ hh, has (colD (l0.take i) 0 (.map [])) (keyS nm) = hh := ⟨_, rfl⟩
   have HH := yA hhe
   clear hhe
   have HK := yA hk
   clear hk
   cases hh with
   | true =>
    go_wp2_with (first | (at_lookup; go_must (refine wpList_lookup_own_ok_int _ rfl _ _ 71 rfl 9 3 .i64 KL Tryd.underlying71 Tryd.underlying3 (hz0 _) _ _ _ rfl HO.out _ _ rfl HK.out ?_; intro c hat hwc; rw [HH.out]; clear hat hwc)))
    go_roundg g
    case measure => omega
    case rel => exact ⟨i + 1, by rw [w64c i (by have := HL.out; have := HIK.out; omega)], by have := HIK.out; omega, ⟨by rw [HT.out, colD_snoc, if_pos HH.out]; exact (HO.out).mono (by omega)⟩, ⟨HB.out⟩⟩
   | false =>
    go_wp2_with (first | (at_lookup; go_must (refine wpList_lookup_own_ok_int _ rfl _ _ 71 rfl 9 3 .i64 KL Tryd.underlying71 Tryd.underlying3 (hz0 _) _ _ _ rfl HO.out _ _ rfl HK.out ?_; intro c hat hwc; rw [HH.out]; clear hat hwc)) | ((with_reducible refine gate_mapUpdate (t := 71) rfl ?_); go_must (refine wpList_mapUpdate_own (H := Unit) _ rfl _ _ _ 71 rfl 9 3 KL Tryd.underlying71 (plainElem Tryd.prog 3) b _ _ rfl HO.out (by have := HL.out; have := HIK.out; simp [maxLen]; omega) _ _ _ rfl rfl HK.out _ _ (plainElem_int Tryd.underlying3 (wf_i64 (i : Int) (by have := HL.out; have := HIK.out; omega))) ?_; intro w' ho hg; have n0_ := yA ho; have n1_ := yA (pw_below_grown HB.out (some b) (Nat.le_trans HB.out.size (Nat.le_refl _)) hg (fun k hk => by cases hk; exact GB.out)); clear ho hg HO HB; have HO := n0_; have HB := n1_; clear n0_ n1_)))
    go_roundg g
    case measure => omega
    case rel => exact ⟨i + 1, by rw [w64c i (by have := HL.out; have := HIK.out; omega)], by have := HIK.out; omega, ⟨by rw [HT.out, colD_snoc, if_neg (by rw [HH.out]; decide), List.length_take, show 0 + min i l0.length = i by have := HIK.out; omega]; exact HO.out⟩, ⟨HB.out⟩⟩
theorem len_run {w : World} {b n : Nat} {D : DataW Unit} (h : OwnsCol w b n D) (e : Operand → Value) (x : Operand) (o : Oper) (hop : o.op = .call { callee := .builtin .len, args := #[x], argTypes := #[71] }) (hx : e x = .map (some b)) (r : Int) (hr : (Maps.size D : Int) = r) :
  (execOp e o).run Tryd.prog w = .ok (.value (.int .i64 r)) w := by
 subst hr
 simp [execOp, hop, resolve, invoke, builtin, hx, h.len Tryd.underlying71 o.type, Result.andThen]
def table_columns.f (l0 : List ByteArray) : Option Int := if l0.length ≤ 140737488351232 ∧ ∀ n ∈ l0, n.size ≤ 140737488351232 then some (Maps.size (colD l0 0 (.map [])) : Int) else none
theorem table_columns.calls (A0 : Option Addr) (c0 : Nat) (l0 : List ByteArray) (r : Int) (w : World) (hr0 : Kd.C Kd.string w A0 l0.length l0) (hc0 : l0.length ≤ c0) (h : table_columns.f l0 = some r) :
  Calls Tryd.prog 46 #[.slice A0 l0.length c0] w fun e w' => ∃ b, e = .returned (.map (some b)) ∧ OwnsCol w' b l0.length (colD l0 0 (.map [])) ∧ (Maps.size (colD l0 0 (.map [])) : Int) = r ∧ Below w.heap.size w w' := by
 unfold table_columns.f at h
 split at h
 ·rename_i hb
  refine (columns_any A0 c0 l0 w hr0 hc0 hb.2 hb.1).mono ?_
  rintro e w' ⟨b, rfl, -, ho, hbel⟩
  exact ⟨b, rfl, ho, Option.some.inj h, hbel⟩
 ·cases h
end Go.Proofs.YtppojbafagneeaaDoor.PTab
