/- Own text, for this claim: asm.operands: an instruction's operands as words. Printed by wip/tools/mkoper.py. -/
import Derived.Test.YtjhbiennmambkaaDoorZAsmText
import Derived.Test.YtjhbiennmambkaaDoorZPAsmInstrsx1
import Derived.Maps.OwnOps
import Derived.Maps.Ext
namespace Go.Proofs.YtjhbiennmambkaaDoor.Pure
open Go.RowKit Go.Proofs.YtjhbiennmambkaaDoorW.PrintWords Go.Proofs.YtjhbiennmambkaaDoorW.PrintLast Go.Proofs.YtjhbiennmambkaaDoorW.PrintMore Go.Proofs.YtjhbiennmambkaaDoor.PAsmInstrs
set_option linter.unusedVariables false
set_option linter.unusedSimpArgs false
def opn (i : Int) : Int := (kat i.toNat).n
theorem opn_any (i : Int) (hi : 0 ≤ i ∧ i < 29) (w : World) (hG : GA w) : Calls Tryd.prog 32 #[.int .i64 i] w fun e w' => e = .returned (.tuple #[.int .i64 (opn i), .int .i64 0]) ∧ Below w.heap.size w w' := by
 obtain ⟨t, fr, hK⟩ := hG.kin
 obtain ⟨j, rfl⟩ : ∃ j : Nat, i = j := ⟨i.toNat, by omega⟩
 refine (operands_in t fr j (by omega) w hK).mono ?_
 rintro e w' ⟨rfl, rfl⟩
 exact ⟨by unfold opn; rw [Int.toNat_natCast], Below.refl _ _⟩
def operT5_T : Bool × List (List Nat × List Nat) := (true, [([], []), ([0], [0]), ([], []), ([2], [2]), ([1, 3], [1, 3]), ([4], [4]), ([], []), ([6], [6]), ([7], [7]), ([5, 8], [5, 8]), ([9, 8, 0, 1, 2, 3, 4, 5, 6, 7, 8, 9], [9])])
def operT5_B : List Nat := [0, 1, 0, 4, 15, 31, 0, 64, 192, 511, 1023]
theorem operT5_tab : rtab .any (opsOf Tryd.f15 5) = operT5_T := by kernel_rfl
theorem operT5_bits : waitsOk operT5_T.2 operT5_B = true := by kernel_rfl
set_option maxHeartbeats 8000000 in
set_option maxRecDepth 100000 in
theorem oper_const (A0 A1 A2 A7 : Option Addr) (c0 c1 c2 c7 n7 : Nat) (l0 l1 : List ByteArray) (l2 : List Int) (a3 a4 a5 a6 : Int) (a : Nat) (b : Int) (w : World) (hG : GA w) (hC : (Kd.int .i64).C w A2 l2.length l2) (ha : a < l2.length) (hv : -9223372036854775808 ≤ rd l2 (a : Int) ∧ rd l2 (a : Int) ≤ 9223372036854775807) :
  Calls Tryd.prog 15 #[.agg #[.slice A0 l0.length c0, .slice A1 l1.length c1, .slice A2 l2.length c2, .int .i64 a3, .int .i64 a4, .int .i64 a5, .int .i64 a6, .slice A7 n7 c7], .agg #[.int .i64 1, .int .i64 (a : Int), .int .i64 b]] w fun e w' => ∃ v, e = .returned v ∧ Kd.R Kd.string 9 w' w.heap.size (fun _ => True) v [dec (rd l2 (a : Int))] ∧ Below w.heap.size w w' := by
 have hu26 := Tryd.underlying26
 have hu28 := Tryd.underlying28
 have HB := yA (Below.refl w.heap.size w)
 have HG := yA hG
 clear hG
 obtain ⟨ad, q, hx⟩ := Kd.at_int hC (a : Int) (by omega) (by omega)
 subst q
 rw [Int.toNat_natCast] at hx
 obtain ⟨nm, hnm⟩ : ∃ nm, rd l2 (a : Int) = nm := ⟨_, rfl⟩
 rw [hnm] at hx
 have HN := yA hnm
 have r0 : ((a : Int) < (l2.length : Int)) = True := eq_true (by omega)
 have r1 : (a < l2.length) = True := eq_true ha
 rw [hnm] at hv ⊢
 have V0 := yA hv.1
 have V1 := yA hv.2
 clear hC ha hv hnm
 go_enter Tryd.func15, Tryd.ntmps15
 go_upto_region 1 with (first | ((with_reducible refine yP (N := 2) rfl ?_); refine yQ ?hg (N := 2) ?hd (cs := #[.slice A0 l0.length c0, .slice A1 l1.length c1, .slice (some ad) l2.length c2, .int .i64 a3, .int .i64 a4, .int .i64 a5, .int .i64 a6, .slice A7 n7 c7]) (t := 26) ?hr ?_; (case hd => rfl); (case hg => rfl); (case hr => first | (go_simp; done) | (go_simp; rfl)); intro gp hg wb2 hbox hb; replace HB := yA (yB HB.out hb); have BKP := yA hbox; clear hg hb hbox) | ((with_reducible refine yP (N := 3) rfl ?_); refine yQ ?hg (N := 3) ?hd (cs := #[.int .i64 1, .int .i64 (a : Int), .int .i64 b]) (t := 28) ?hr ?_; (case hd => rfl); (case hg => rfl); (case hr => first | (go_simp; done) | (go_simp; rfl)); intro gi hg wb3 hbox hb; replace BKP := yA (yC BKP.out hb); replace HB := yA (yB HB.out hb); have BKI := yA hbox; clear hg hb hbox))
 have hp0 := yR BKP.out 0
 have hp1 := yR BKP.out 1
 have hp2 := yR BKP.out 2
 have hi0 := yR BKI.out 0
 have hi1 := yR BKI.out 1
 have hi2 := yR BKI.out 2
 have hup := HB.out
 replace hx := (hup.cell (World.block_lt_of_cell? w _ hx)).trans hx
 clear hup
 go_wp2_with (first | (go_at_call 26; refine (text_any nm V0.out V1.out _ (GA.below HG.out HB.out)).mono ?_; rintro e wt ⟨rfl, hb⟩; replace HB := yA (yB HB.out hb); replace BKP := yA (yC BKP.out hb); replace BKI := yA (yC BKI.out hb); clear hb) | ((with_reducible refine yP (N := 18) rfl ?_); refine Kd.R_lit Kd.string _ 9 ?hg (N := 18) ?hd (xs := [(dec nm)]) (inner := [.string (dec nm)]) (ok := fun _ => True) (okp := fun _ => True) ?hr ?hp (fun _ hk => hk) trivial (Below.refl _ _) (Nat.le_refl _) (by simp) ?_; (case hd => rfl); (case hg => rfl); (case hr => first | (go_simp; done) | (go_simp; rfl)); (case hp => exact (Reps.one (show Kd.M Kd.string _ _ _ (dec nm) [.string (dec nm)] from rfl) (Reps.none _ _))); intro vr wr hr hb _ _; have HR := yA (Kd.R_lower hr HB.out.size); replace HB := yA (yB HB.out hb); clear hr hb))
 go_ret
 exact ⟨vr, rfl, HR.out, HB.out⟩
set_option maxHeartbeats 8000000 in
set_option maxRecDepth 100000 in
theorem oper_obs (A0 A1 A2 A7 : Option Addr) (c0 c1 c2 c7 n7 : Nat) (l0 l1 : List ByteArray) (l2 : List Int) (a3 a4 a5 a6 : Int) (a : Nat) (b : Int) (w : World) (hG : GA w) (hC : Kd.string.C w A0 l0.length l0) (ha : a < l0.length) (hv : -9223372036854775808 ≤ b ∧ b ≤ 9223372036854775807) :
  Calls Tryd.prog 15 #[.agg #[.slice A0 l0.length c0, .slice A1 l1.length c1, .slice A2 l2.length c2, .int .i64 a3, .int .i64 a4, .int .i64 a5, .int .i64 a6, .slice A7 n7 c7], .agg #[.int .i64 3, .int .i64 (a : Int), .int .i64 b]] w fun e w' => ∃ v, e = .returned v ∧ Kd.R Kd.string 9 w' w.heap.size (fun _ => True) v [rdOf ByteArray.empty l0 (a : Int), dec b] ∧ Below w.heap.size w w' := by
 have hu26 := Tryd.underlying26
 have hu28 := Tryd.underlying28
 have HB := yA (Below.refl w.heap.size w)
 have HG := yA hG
 clear hG
 obtain ⟨ad, q, hx⟩ := Kd.at_string hC (a : Int) (by omega) (by omega)
 subst q
 rw [Int.toNat_natCast] at hx
 obtain ⟨nm, hnm⟩ : ∃ nm, rdOf ByteArray.empty l0 (a : Int) = nm := ⟨_, rfl⟩
 rw [hnm] at hx
 have HN := yA hnm
 have r0 : ((a : Int) < (l0.length : Int)) = True := eq_true (by omega)
 have r1 : (a < l0.length) = True := eq_true ha
 rw [hnm]
 have V0 := yA hv.1
 have V1 := yA hv.2
 clear hC ha hv hnm
 go_enter Tryd.func15, Tryd.ntmps15
 go_upto_region 1 with (first | ((with_reducible refine yP (N := 2) rfl ?_); refine yQ ?hg (N := 2) ?hd (cs := #[.slice (some ad) l0.length c0, .slice A1 l1.length c1, .slice A2 l2.length c2, .int .i64 a3, .int .i64 a4, .int .i64 a5, .int .i64 a6, .slice A7 n7 c7]) (t := 26) ?hr ?_; (case hd => rfl); (case hg => rfl); (case hr => first | (go_simp; done) | (go_simp; rfl)); intro gp hg wb2 hbox hb; replace HB := yA (yB HB.out hb); have BKP := yA hbox; clear hg hb hbox) | ((with_reducible refine yP (N := 3) rfl ?_); refine yQ ?hg (N := 3) ?hd (cs := #[.int .i64 3, .int .i64 (a : Int), .int .i64 b]) (t := 28) ?hr ?_; (case hd => rfl); (case hg => rfl); (case hr => first | (go_simp; done) | (go_simp; rfl)); intro gi hg wb3 hbox hb; replace BKP := yA (yC BKP.out hb); replace HB := yA (yB HB.out hb); have BKI := yA hbox; clear hg hb hbox))
 have hp0 := yR BKP.out 0
 have hp1 := yR BKP.out 1
 have hp2 := yR BKP.out 2
 have hi0 := yR BKI.out 0
 have hi1 := yR BKI.out 1
 have hi2 := yR BKI.out 2
 have hup := HB.out
 replace hx := (hup.cell (World.block_lt_of_cell? w _ hx)).trans hx
 clear hup
 go_upto_region 5 with (fail)
 refine start_ (n := 11) (S := fun w' => w'.cell? ⟨gp, 0, none⟩ = some (.slice (some ad) l0.length c0) ∧ w'.cell? ⟨gi, 1, none⟩ = some (.int .i64 (a : Int)) ∧ w'.cell? ⟨gi, 2, none⟩ = some (.int .i64 b) ∧ w'.cell? (ad.add a) = some (.string nm)) (ds := []) #[false, false, false, false, false, false, false, false, false, false, false] (by kernel_rfl) rfl rfl ⟨(yR BKP.out 0).trans rfl, (yR BKI.out 1).trans rfl, (yR BKI.out 2).trans rfl, hx⟩ (fun hHeld => ?_); refine with_tabW operT5_tab operT5_bits (fun HT_ HW_ => ?_)
 replace HB := yA (yD HB.out)
 replace BKP := yA (yH BKP.out)
 replace BKI := yA (yH BKI.out)
 replace hx : (World.drew _).cell? (ad.add a) = some (.string nm) := hx
 generalize World.drew _ = wd at HB BKP BKI hx hHeld ⊢
 refine pure_ (i := 0) (N := some 21) (v := ?_) (a' := ?_) #[true, false, false, false, false, false, false, false, false, false, false] rfl rfl (any_of HT_.out (by kernel_rfl)) (fun _ _ _ h => h) (Or.inl ⟨by rfl, ?_⟩) ?_ ?_
 rotate_left
 ·intro w'
  go_simp
  with_reducible rfl
 rotate_left
 ·simp only [Act.put, lA, lB, lC, i64_w, i32_w]
  rfl
 refine pure_ (i := 2) (N := some 23) (v := ?_) (a' := ?_) #[true, false, true, false, false, false, false, false, false, false, false] rfl rfl (any_of HT_.out (by kernel_rfl)) (fun _ _ _ h => h) (Or.inl ⟨by rfl, ?_⟩) ?_ ?_
 rotate_left
 ·intro w'
  go_simp
  with_reducible rfl
 rotate_left
 ·simp only [Act.put, lA, lB, lC, i64_w, i32_w]
  rfl
 refine pure_ (i := 6) (N := some 27) (v := ?_) (a' := ?_) #[true, false, true, false, false, false, true, false, false, false, false] rfl rfl (any_of HT_.out (by kernel_rfl)) (fun _ _ _ h => h) (Or.inl ⟨by rfl, ?_⟩) ?_ ?_
 rotate_left
 ·intro w'
  go_simp
  with_reducible rfl
 rotate_left
 ·simp only [Act.put, lA, lB, lC, i64_w, i32_w]
  rfl
 refine take_ (i := 1) (N := some 22) (v := ?_) (a' := ?_) #[true, true, true, false, false, false, true, false, false, false, false] rfl rfl (take_ofW HT_.out HW_.out (by kernel_rfl)) (fun _ _ _ h => h) (Or.inl ⟨by rfl, ?_⟩) hHeld ?_ ?_
 rotate_left
 ·rintro w' ⟨s0, s1, s2, s3⟩
  go_simp
  with_reducible rfl
 rotate_left
 ·simp only [Act.put, lA, lB, lC, i64_w, i32_w]
  rfl
 refine take_ (i := 3) (N := some 24) (v := ?_) (a' := ?_) #[true, true, true, true, false, false, true, false, false, false, false] rfl rfl (take_ofW HT_.out HW_.out (by kernel_rfl)) (fun _ _ _ h => h) (Or.inl ⟨by rfl, ?_⟩) hHeld ?_ ?_
 rotate_left
 ·rintro w' ⟨s0, s1, s2, s3⟩
  go_simp
  with_reducible rfl
 rotate_left
 ·simp only [Act.put, lA, lB, lC, i64_w, i32_w]
  rfl
 refine take_ (i := 7) (N := some 28) (v := ?_) (a' := ?_) #[true, true, true, true, false, false, true, true, false, false, false] rfl rfl (take_ofW HT_.out HW_.out (by kernel_rfl)) (fun _ _ _ h => h) (Or.inl ⟨by rfl, ?_⟩) hHeld ?_ ?_
 rotate_left
 ·rintro w' ⟨s0, s1, s2, s3⟩
  go_simp
  with_reducible rfl
 rotate_left
 ·simp only [Act.put, lA, lB, lC, i64_w, i32_w]
  rfl
 refine pure_ (i := 4) (N := some 25) (v := ?_) (a' := ?_) #[true, true, true, true, true, false, true, true, false, false, false] rfl rfl (any_of HT_.out (by kernel_rfl)) (fun _ _ _ h => h) (Or.inl ⟨by rfl, ?_⟩) ?_ ?_
 rotate_left
 ·intro w'
  go_simp
  with_reducible rfl
 rotate_left
 ·simp only [Act.put, lA, lB, lC, i64_w, i32_w]
  rfl
 refine take_ (i := 5) (N := some 26) (v := ?_) (a' := ?_) #[true, true, true, true, true, true, true, true, false, false, false] rfl rfl (take_ofW HT_.out HW_.out (by kernel_rfl)) (fun _ _ _ h => h) (Or.inl ⟨by rfl, ?_⟩) hHeld ?_ ?_
 rotate_left
 ·rintro w' ⟨s0, s1, s2, s3⟩
  go_simp
  with_reducible rfl
 rotate_left
 ·simp only [Act.put, lA, lB, lC, i64_w, i32_w]
  rfl
 refine one_ (i := 8) (N := some 29) #[true, true, true, true, true, true, true, true, true, false, false] rfl rfl (one_of HT_.out (by kernel_rfl)) (by decide) (fun K hK => ?_)
 refine goes_ Tryd.func26 (by kernel_rfl) rfl #[.int .i64 b] (by rfl) rfl rfl (by (try simp only [List.map_toArray, List.map_cons, List.map_nil]); first | done | rfl) ?_
 refine (text_any b V0.out V1.out _ (GA.below HG.out HB.out)).mono ?_
 rintro e wt ⟨rfl, hb⟩
 refine ⟨_, rfl, ?_⟩
 replace HB := yA (yB HB.out hb)
 replace BKP := yA (yC BKP.out hb)
 replace BKI := yA (yC BKI.out hb)
 replace hx := (hb.cell (World.block_lt_of_cell? _ _ hx)).trans hx
 clear hb
 refine hK.out _ _ ⟨(yR BKP.out 0).trans rfl, (yR BKI.out 1).trans rfl, (yR BKI.out 2).trans rfl, hx⟩ (fun hHeld => ?_)
 clear hK K
 refine norm_ (a' := ?_) ?_ ?_
 rotate_left
 ·show Act.put _ (some 29) _ = _
  simp only [Act.put, lA, lB, lC, i64_w, i32_w]
  rfl
 refine one_ (i := 9) (N := some 30) #[true, true, true, true, true, true, true, true, true, true, false] rfl rfl (one_of HT_.out (by kernel_rfl)) (by decide) (fun K hK => ?_)
 refine Kd.R_lit_step Kd.string _ 9 (by rfl) (N := 30) rfl (xs := [nm, dec b]) (inner := [.string nm, .string (dec b)]) (ok := fun _ => True) (okp := fun _ => True) ?hr (Reps.one (show Kd.M Kd.string _ _ _ nm [.string nm] from rfl) (Reps.one (show Kd.M Kd.string _ _ _ (dec b) [.string (dec b)] from rfl) (Reps.none _ _))) (fun _ hk => hk) trivial (Below.refl _ _) (Nat.le_refl _) (by simp) ?_
 (case hr => first | (go_simp; done) | (go_simp; rfl))
 intro vr wr hr hb _ _
 have HR := yA (Kd.R_lower hr HB.out.size)
 replace HB := yA (yB HB.out hb)
 replace BKP := yA (yC BKP.out hb)
 replace BKI := yA (yC BKI.out hb)
 replace hx := (hb.cell (World.block_lt_of_cell? _ _ hx)).trans hx
 clear hr hb
 refine hK.out _ _ ⟨(yR BKP.out 0).trans rfl, (yR BKI.out 1).trans rfl, (yR BKI.out 2).trans rfl, hx⟩ (fun hHeld => ?_)
 clear hK K
 refine norm_ (a' := ?_) ?_ ?_
 rotate_left
 ·show Act.put _ (some 30) _ = _
  simp only [Act.put, lA, lB, lC, i64_w, i32_w]
  rfl
 refine pure_ (i := 10) (N := some 4) (v := ?_) (a' := ?_) #[true, true, true, true, true, true, true, true, true, true, true] rfl rfl (any_of HT_.out (by kernel_rfl)) (fun _ _ _ h => h) (Or.inl ⟨by rfl, ?_⟩) ?_ ?_
 rotate_left
 ·intro w'
  go_simp
  with_reducible rfl
 rotate_left
 ·simp only [Act.put, lA, lB, lC, i64_w, i32_w]
  rfl
 refine done_ (done_of HT_.out (by kernel_rfl)) ?_
 try go_wp2
 go_ret
 exact ⟨vr, rfl, HR.out, HB.out⟩
set_option maxHeartbeats 8000000 in
set_option maxRecDepth 100000 in
theorem oper_flow (A0 A1 A2 A7 : Option Addr) (c0 c1 c2 c7 n7 : Nat) (l0 l1 : List ByteArray) (l2 : List Int) (a3 a4 a5 a6 : Int) (a : Nat) (b : Int) (w : World) (hG : GA w) (hC : Kd.string.C w A1 l1.length l1) (ha : a < l1.length) :
  Calls Tryd.prog 15 #[.agg #[.slice A0 l0.length c0, .slice A1 l1.length c1, .slice A2 l2.length c2, .int .i64 a3, .int .i64 a4, .int .i64 a5, .int .i64 a6, .slice A7 n7 c7], .agg #[.int .i64 28, .int .i64 (a : Int), .int .i64 b]] w fun e w' => ∃ v, e = .returned v ∧ Kd.R Kd.string 9 w' w.heap.size (fun _ => True) v [rdOf ByteArray.empty l1 (a : Int)] ∧ Below w.heap.size w w' := by
 have hu26 := Tryd.underlying26
 have hu28 := Tryd.underlying28
 have HB := yA (Below.refl w.heap.size w)
 have HG := yA hG
 clear hG
 obtain ⟨ad, q, hx⟩ := Kd.at_string hC (a : Int) (by omega) (by omega)
 subst q
 rw [Int.toNat_natCast] at hx
 obtain ⟨nm, hnm⟩ : ∃ nm, rdOf ByteArray.empty l1 (a : Int) = nm := ⟨_, rfl⟩
 rw [hnm] at hx
 have HN := yA hnm
 have r0 : ((a : Int) < (l1.length : Int)) = True := eq_true (by omega)
 have r1 : (a < l1.length) = True := eq_true ha
 rw [hnm]
 clear hC ha hnm
 go_enter Tryd.func15, Tryd.ntmps15
 go_upto_region 1 with (first | ((with_reducible refine yP (N := 2) rfl ?_); refine yQ ?hg (N := 2) ?hd (cs := #[.slice A0 l0.length c0, .slice (some ad) l1.length c1, .slice A2 l2.length c2, .int .i64 a3, .int .i64 a4, .int .i64 a5, .int .i64 a6, .slice A7 n7 c7]) (t := 26) ?hr ?_; (case hd => rfl); (case hg => rfl); (case hr => first | (go_simp; done) | (go_simp; rfl)); intro gp hg wb2 hbox hb; replace HB := yA (yB HB.out hb); have BKP := yA hbox; clear hg hb hbox) | ((with_reducible refine yP (N := 3) rfl ?_); refine yQ ?hg (N := 3) ?hd (cs := #[.int .i64 28, .int .i64 (a : Int), .int .i64 b]) (t := 28) ?hr ?_; (case hd => rfl); (case hg => rfl); (case hr => first | (go_simp; done) | (go_simp; rfl)); intro gi hg wb3 hbox hb; replace BKP := yA (yC BKP.out hb); replace HB := yA (yB HB.out hb); have BKI := yA hbox; clear hg hb hbox))
 have hp0 := yR BKP.out 0
 have hp1 := yR BKP.out 1
 have hp2 := yR BKP.out 2
 have hi0 := yR BKI.out 0
 have hi1 := yR BKI.out 1
 have hi2 := yR BKI.out 2
 have hup := HB.out
 replace hx := (hup.cell (World.block_lt_of_cell? w _ hx)).trans hx
 clear hup
 go_wp2_with (first | ((with_reducible refine yP (N := 39) rfl ?_); refine Kd.R_lit Kd.string _ 9 ?hg (N := 39) ?hd (xs := [nm]) (inner := [.string nm]) (ok := fun _ => True) (okp := fun _ => True) ?hr ?hp (fun _ hk => hk) trivial (Below.refl _ _) (Nat.le_refl _) (by simp) ?_; (case hd => rfl); (case hg => rfl); (case hr => first | (go_simp; done) | (go_simp; rfl)); (case hp => exact (Reps.one (show Kd.M Kd.string _ _ _ nm [.string nm] from rfl) (Reps.none _ _))); intro vr wr hr hb _ _; have HR := yA (Kd.R_lower hr HB.out.size); replace HB := yA (yB HB.out hb); clear hr hb))
 go_ret
 exact ⟨vr, rfl, HR.out, HB.out⟩
set_option maxHeartbeats 8000000 in
set_option maxRecDepth 100000 in
theorem oper_ratio (A0 A1 A2 A7 : Option Addr) (c0 c1 c2 c7 n7 : Nat) (l0 l1 : List ByteArray) (l2 : List Int) (a3 a4 a5 a6 : Int) (a : Nat) (b : Int) (w : World) (hG : GA w) (ha : a < 5) :
  Calls Tryd.prog 15 #[.agg #[.slice A0 l0.length c0, .slice A1 l1.length c1, .slice A2 l2.length c2, .int .i64 a3, .int .i64 a4, .int .i64 a5, .int .i64 a6, .slice A7 n7 c7], .agg #[.int .i64 18, .int .i64 (a : Int), .int .i64 b]] w fun e w' => ∃ v, e = .returned v ∧ Kd.R Kd.string 9 w' w.heap.size (fun _ => True) v [modeW a] ∧ Below w.heap.size w w' := by
 have hu26 := Tryd.underlying26
 have hu28 := Tryd.underlying28
 have HB := yA (Below.refl w.heap.size w)
 have HG := yA hG
 clear hG
 have hx := HG.out.mode a ha
 obtain ⟨nm, hnm⟩ : ∃ nm, modeW a = nm := ⟨_, rfl⟩
 rw [hnm] at hx ⊢
 have r0 : ((a : Int) < 5) = True := eq_true (by omega)
 have r1 : (a < 5) = True := eq_true ha
 clear ha hnm
 go_enter Tryd.func15, Tryd.ntmps15
 go_upto_region 1 with (first | ((with_reducible refine yP (N := 2) rfl ?_); refine yQ ?hg (N := 2) ?hd (cs := #[.slice A0 l0.length c0, .slice A1 l1.length c1, .slice A2 l2.length c2, .int .i64 a3, .int .i64 a4, .int .i64 a5, .int .i64 a6, .slice A7 n7 c7]) (t := 26) ?hr ?_; (case hd => rfl); (case hg => rfl); (case hr => first | (go_simp; done) | (go_simp; rfl)); intro gp hg wb2 hbox hb; replace HB := yA (yB HB.out hb); have BKP := yA hbox; clear hg hb hbox) | ((with_reducible refine yP (N := 3) rfl ?_); refine yQ ?hg (N := 3) ?hd (cs := #[.int .i64 18, .int .i64 (a : Int), .int .i64 b]) (t := 28) ?hr ?_; (case hd => rfl); (case hg => rfl); (case hr => first | (go_simp; done) | (go_simp; rfl)); intro gi hg wb3 hbox hb; replace BKP := yA (yC BKP.out hb); replace HB := yA (yB HB.out hb); have BKI := yA hbox; clear hg hb hbox))
 have hp0 := yR BKP.out 0
 have hp1 := yR BKP.out 1
 have hp2 := yR BKP.out 2
 have hi0 := yR BKI.out 0
 have hi1 := yR BKI.out 1
 have hi2 := yR BKI.out 2
 have hup := HB.out
 replace hx := (hup.cell (World.block_lt_of_cell? w _ hx)).trans hx
 clear hup
 go_wp2_with (first | ((with_reducible refine yP (N := 46) rfl ?_); refine Kd.R_lit Kd.string _ 9 ?hg (N := 46) ?hd (xs := [nm]) (inner := [.string nm]) (ok := fun _ => True) (okp := fun _ => True) ?hr ?hp (fun _ hk => hk) trivial (Below.refl _ _) (Nat.le_refl _) (by simp) ?_; (case hd => rfl); (case hg => rfl); (case hr => first | (go_simp; done) | (go_simp; rfl)); (case hp => exact (Reps.one (show Kd.M Kd.string _ _ _ nm [.string nm] from rfl) (Reps.none _ _))); intro vr wr hr hb _ _; have HR := yA (Kd.R_lower hr HB.out.size); replace HB := yA (yB HB.out hb); clear hr hb))
 go_ret
 exact ⟨vr, rfl, HR.out, HB.out⟩
set_option maxHeartbeats 8000000 in
set_option maxRecDepth 100000 in
theorem oper_none (A0 A1 A2 A7 : Option Addr) (c0 c1 c2 c7 n7 : Nat) (l0 l1 : List ByteArray) (l2 : List Int) (a3 a4 a5 a6 : Int) (op a b : Int) (w : World) (hG : GA w) (hop : 0 ≤ op ∧ op < 29) (h1 : op ≠ 1) (h3 : op ≠ 3) (h28 : op ≠ 28) (h18 : op ≠ 18) (h0 : opn op = 0) :
  Calls Tryd.prog 15 #[.agg #[.slice A0 l0.length c0, .slice A1 l1.length c1, .slice A2 l2.length c2, .int .i64 a3, .int .i64 a4, .int .i64 a5, .int .i64 a6, .slice A7 n7 c7], .agg #[.int .i64 op, .int .i64 a, .int .i64 b]] w fun e w' => ∃ v, e = .returned v ∧ Kd.R Kd.string 9 w' w.heap.size (fun _ => True) v ([] : List ByteArray) ∧ Below w.heap.size w w' := by
 have hu26 := Tryd.underlying26
 have hu28 := Tryd.underlying28
 have HB := yA (Below.refl w.heap.size w)
 have HG := yA hG
 clear hG
 have o1 : (op == 1) = false := beq_eq_false_iff_ne.2 (by omega)
 have o3 : (op == 3) = false := beq_eq_false_iff_ne.2 (by omega)
 have o28 : (op == 28) = false := beq_eq_false_iff_ne.2 (by omega)
 have o18 : (op == 18) = false := beq_eq_false_iff_ne.2 (by omega)
 have E0 := yA h0
 clear h1 h3 h28 h18 h0
 go_enter Tryd.func15, Tryd.ntmps15
 go_upto_region 1 with (first | ((with_reducible refine yP (N := 2) rfl ?_); refine yQ ?hg (N := 2) ?hd (cs := #[.slice A0 l0.length c0, .slice A1 l1.length c1, .slice A2 l2.length c2, .int .i64 a3, .int .i64 a4, .int .i64 a5, .int .i64 a6, .slice A7 n7 c7]) (t := 26) ?hr ?_; (case hd => rfl); (case hg => rfl); (case hr => first | (go_simp; done) | (go_simp; rfl)); intro gp hg wb2 hbox hb; replace HB := yA (yB HB.out hb); have BKP := yA hbox; clear hg hb hbox) | ((with_reducible refine yP (N := 3) rfl ?_); refine yQ ?hg (N := 3) ?hd (cs := #[.int .i64 op, .int .i64 a, .int .i64 b]) (t := 28) ?hr ?_; (case hd => rfl); (case hg => rfl); (case hr => first | (go_simp; done) | (go_simp; rfl)); intro gi hg wb3 hbox hb; replace BKP := yA (yC BKP.out hb); replace HB := yA (yB HB.out hb); have BKI := yA hbox; clear hg hb hbox))
 have hp0 := yR BKP.out 0
 have hp1 := yR BKP.out 1
 have hp2 := yR BKP.out 2
 have hi0 := yR BKI.out 0
 have hi1 := yR BKI.out 1
 have hi2 := yR BKI.out 2
 go_wp2_with (first | (go_at_call 32; refine (opn_any op hop _ (GA.below HG.out HB.out)).mono ?_; rintro e wo ⟨rfl, hb⟩; replace HB := yA (yB HB.out hb); replace BKP := yA (yC BKP.out hb); replace BKI := yA (yC BKI.out hb); try rw [E0.out]; have hi1 := yR BKI.out 1; clear hb))
 go_ret
 exact ⟨.slice none 0 0, rfl, Kd.R_nil _ _ _ _ _, HB.out⟩
set_option maxHeartbeats 8000000 in
set_option maxRecDepth 100000 in
theorem oper_one (A0 A1 A2 A7 : Option Addr) (c0 c1 c2 c7 n7 : Nat) (l0 l1 : List ByteArray) (l2 : List Int) (a3 a4 a5 a6 : Int) (op a b : Int) (w : World) (hG : GA w) (hop : 0 ≤ op ∧ op < 29) (h1 : op ≠ 1) (h3 : op ≠ 3) (h28 : op ≠ 28) (h18 : op ≠ 18) (h0 : opn op ≠ 0) (hv : -9223372036854775808 ≤ a ∧ a ≤ 9223372036854775807) :
  Calls Tryd.prog 15 #[.agg #[.slice A0 l0.length c0, .slice A1 l1.length c1, .slice A2 l2.length c2, .int .i64 a3, .int .i64 a4, .int .i64 a5, .int .i64 a6, .slice A7 n7 c7], .agg #[.int .i64 op, .int .i64 a, .int .i64 b]] w fun e w' => ∃ v, e = .returned v ∧ Kd.R Kd.string 9 w' w.heap.size (fun _ => True) v [dec a] ∧ Below w.heap.size w w' := by
 have hu26 := Tryd.underlying26
 have hu28 := Tryd.underlying28
 have HB := yA (Below.refl w.heap.size w)
 have HG := yA hG
 clear hG
 have o1 : (op == 1) = false := beq_eq_false_iff_ne.2 (by omega)
 have o3 : (op == 3) = false := beq_eq_false_iff_ne.2 (by omega)
 have o28 : (op == 28) = false := beq_eq_false_iff_ne.2 (by omega)
 have o18 : (op == 18) = false := beq_eq_false_iff_ne.2 (by omega)
 have n0 : (opn op == 0) = false := beq_eq_false_iff_ne.2 h0
 have V0 := yA hv.1
 have V1 := yA hv.2
 clear h1 h3 h28 h18 h0 hv
 go_enter Tryd.func15, Tryd.ntmps15
 go_upto_region 1 with (first | ((with_reducible refine yP (N := 2) rfl ?_); refine yQ ?hg (N := 2) ?hd (cs := #[.slice A0 l0.length c0, .slice A1 l1.length c1, .slice A2 l2.length c2, .int .i64 a3, .int .i64 a4, .int .i64 a5, .int .i64 a6, .slice A7 n7 c7]) (t := 26) ?hr ?_; (case hd => rfl); (case hg => rfl); (case hr => first | (go_simp; done) | (go_simp; rfl)); intro gp hg wb2 hbox hb; replace HB := yA (yB HB.out hb); have BKP := yA hbox; clear hg hb hbox) | ((with_reducible refine yP (N := 3) rfl ?_); refine yQ ?hg (N := 3) ?hd (cs := #[.int .i64 op, .int .i64 a, .int .i64 b]) (t := 28) ?hr ?_; (case hd => rfl); (case hg => rfl); (case hr => first | (go_simp; done) | (go_simp; rfl)); intro gi hg wb3 hbox hb; replace BKP := yA (yC BKP.out hb); replace HB := yA (yB HB.out hb); have BKI := yA hbox; clear hg hb hbox))
 have hp0 := yR BKP.out 0
 have hp1 := yR BKP.out 1
 have hp2 := yR BKP.out 2
 have hi0 := yR BKI.out 0
 have hi1 := yR BKI.out 1
 have hi2 := yR BKI.out 2
 go_wp2_with (first | (go_at_call 32; refine (opn_any op hop _ (GA.below HG.out HB.out)).mono ?_; rintro e wo ⟨rfl, hb⟩; replace HB := yA (yB HB.out hb); replace BKP := yA (yC BKP.out hb); replace BKI := yA (yC BKI.out hb); have hi1 := yR BKI.out 1; clear hb) | (go_at_call 26; refine (text_any a V0.out V1.out _ (GA.below HG.out HB.out)).mono ?_; rintro e wt ⟨rfl, hb⟩; replace HB := yA (yB HB.out hb); replace BKP := yA (yC BKP.out hb); replace BKI := yA (yC BKI.out hb); clear hb) | ((with_reducible refine yP (N := 58) rfl ?_); refine Kd.R_lit Kd.string _ 9 ?hg (N := 58) ?hd (xs := [(dec a)]) (inner := [.string (dec a)]) (ok := fun _ => True) (okp := fun _ => True) ?hr ?hp (fun _ hk => hk) trivial (Below.refl _ _) (Nat.le_refl _) (by simp) ?_; (case hd => rfl); (case hg => rfl); (case hr => first | (go_simp; done) | (go_simp; rfl)); (case hp => exact (Reps.one (show Kd.M Kd.string _ _ _ (dec a) [.string (dec a)] from rfl) (Reps.none _ _))); intro vr wr hr hb _ _; have HR := yA (Kd.R_lower hr HB.out.size); replace HB := yA (yB HB.out hb); clear hr hb))
 go_ret
 exact ⟨vr, rfl, HR.out, HB.out⟩
end Go.Proofs.YtjhbiennmambkaaDoor.Pure
