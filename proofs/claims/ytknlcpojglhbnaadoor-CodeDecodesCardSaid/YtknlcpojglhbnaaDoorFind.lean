/- Own text: the walks of code.Find, payoffref11.Find and CodeFinds. -/
import Derived.Test.YtknlcpojglhbnaaDoorTab
import Derived.Test.YtknlcpojglhbnaaDoorPCodeFindsx0
import Derived.Outline
import Derived.WalkKit
import Derived.Below
import Derived.Laws.Tables
import Derived.Laws.CopyOwn
import Derived.Deep.DeepMust
namespace Go.Proofs.YtknlcpojglhbnaaDoor.Pure
open Go.RowKit Go.Proofs.YtknlcpojglhbnaaDoorW.PrintWords Go.Proofs.YtknlcpojglhbnaaDoorW.PrintLast Go.Proofs.YtknlcpojglhbnaaDoorW.PrintMore
set_option linter.unusedVariables false
set_option linter.unusedSimpArgs false

/-- The first row from i on with that name. -/
def lookFrom (s : ByteArray) : List Rw → Int → Int × Int
  | [], _ => (0, 111)
  | r :: t, i => if r.nm = s.toList then (i, 0) else lookFrom s t (i + 1)
def look (s : ByteArray) : Int × Int := lookFrom s kinds 0
theorem look_step (s : ByteArray) (i : Nat) (hi : i < 29) : lookFrom s (kinds.drop i) i = if (kat i).nm = s.toList then ((i : Int), 0) else lookFrom s (kinds.drop (i + 1)) ((i + 1 : Nat) : Int) := by
  rw [List.drop_eq_getElem_cons (by exact hi), lookFrom, kat_eq i hi]; rfl
set_option maxHeartbeats 1000000 in
set_option maxRecDepth 100000 in
theorem find_any (s : ByteArray) (w : World) (t : TypeId) (fr : Nat × Nat) (hK : w.heap[0]? = some (.cells kA t fr)) :
    Calls Tryd.prog 14 #[.string s] w fun e w' => e = .returned (.tuple #[.int .i64 (look s).1, .int .i64 (look s).2]) ∧ Below w.heap.size w w' := by
  have HK := Aside0.mk hK
  clear hK
  have HB := Aside0.mk (Below.refl w.heap.size w)
  go_enter Tryd.func14, Tryd.ntmps14
  go_wp2_with ((with_reducible refine gate_dst (N := 6) rfl ?_); go_must (refine wpList_load_row rfl 55 (.global 0) rfl 0 rfl t kA fr (.array 29 54) HK.out Tryd.underlying55 rfl (by kernel_rfl) ?_))
  go_loopw [7] (fun v7 wr => ∃ i : Nat, i ≤ 29 ∧ v7 = .int .i64 i ∧ Aside0 (look s = lookFrom s (kinds.drop i) i) ∧ Aside0 (Below w.heap.size w wr)) (fun v7 _ => 29 - (intOf v7).toNat)
  case atStart => exact ⟨0, by omega, rfl, ⟨rfl⟩, HB⟩
  case round =>
    clear HB
    obtain ⟨i, hi, rfl, HL, HB⟩ := hrel
    by_cases hlt : i < 29
    · have hix := fun W => idx_kinds W i hlt
      have hst := look_step s i hlt
      unfold kRow at hix
      generalize kat i = r at hix hst
      obtain ⟨nm, n, a, b, t, p⟩ := r
      simp only at hix hst
      have HS := Aside0.mk hst
      clear hst
      by_cases hn : nm = s.toList
      · have HE : Aside0 (look s = ((i : Int), 0)) := ⟨by rw [HL.out, HS.out, if_pos hn]⟩
        have hb : (nm == s.toList) = true := beq_iff_eq.2 hn
        clear hn
        go_wp2
        go_ret2
        exact ⟨by rw [HE.out]; rfl, by repeat (first | (with_reducible first | exact HB.out | apply below_alloc | apply pw_below_drewN | apply below_drew1) | exact HB.out)⟩
      · have HE : Aside0 (look s = lookFrom s (kinds.drop (i + 1)) ((i + 1 : Nat) : Int)) := ⟨by rw [HL.out, HS.out, if_neg hn]⟩
        have hb : (nm == s.toList) = false := beq_eq_false_iff_ne.2 hn
        go_wp2
        go_roundw
        case rel => exact ⟨i + 1, by omega, by go_num, HE, ⟨by repeat (first | (with_reducible first | exact HB.out | apply below_alloc | apply pw_below_drewN | apply below_drew1) | exact HB.out)⟩⟩
        case measure => simp [intOf]; omega
    · have HE : Aside0 (look s = (0, 111)) := ⟨by rw [HL.out, List.drop_eq_nil_of_le (by rw [kinds_len]; omega)]; rfl⟩
      go_wp2
      go_ret2
      exact ⟨by rw [HE.out]; rfl, HB.out⟩
set_option maxHeartbeats 1000000 in
set_option maxRecDepth 100000 in
theorem rfind_any (s : ByteArray) (w : World) (t : TypeId) (fr : Nat × Nat) (hT : w.heap[1]? = some (.cells tA t fr)) :
    Calls Tryd.prog 15 #[.string s] w fun e w' => e = .returned (.tuple #[.int .i64 (look s).1, .int .i64 (look s).2]) ∧ w' = w := by
  have HT := Aside0.mk hT
  clear hT
  go_enter Tryd.func15, Tryd.ntmps15
  go_wp2_with fail
  go_loop [4] (fun v7 => ∃ i : Nat, i ≤ 29 ∧ v7 = .int .i64 i ∧ Aside0 (look s = lookFrom s (kinds.drop i) i)) (fun v7 => 29 - (intOf v7).toNat)
  case atStart => exact ⟨0, by omega, rfl, ⟨rfl⟩⟩
  case round =>
    obtain ⟨i, hi, rfl, HL⟩ := hrel
    by_cases hlt : i < 29
    · have hc : w.cell? ⟨1, i * 5, none⟩ = some (.string ⟨(kat i).nm.toArray⟩) := (cell_of_row w 1 (i * 5) tA t fr HT.out).trans (tA_get i 0 hlt (by omega))
      have hst := look_step s i hlt
      generalize (kat i).nm = nm at hc hst
      have HS := Aside0.mk hst
      clear hst
      by_cases hn : nm = s.toList
      · have HE : Aside0 (look s = ((i : Int), 0)) := ⟨by rw [HL.out, HS.out, if_pos hn]⟩
        have hb : (nm == s.toList) = true := beq_iff_eq.2 hn
        clear hn
        go_wp2
        go_ret2
        exact ⟨by rw [HE.out]; rfl, rfl⟩
      · have HE : Aside0 (look s = lookFrom s (kinds.drop (i + 1)) ((i + 1 : Nat) : Int)) := ⟨by rw [HL.out, HS.out, if_neg hn]⟩
        have hb : (nm == s.toList) = false := beq_eq_false_iff_ne.2 hn
        go_wp2
        go_round
        case rel => exact ⟨i + 1, by omega, by go_num, HE⟩
        case measure => simp [intOf]; omega
    · have HE : Aside0 (look s = (0, 111)) := ⟨by rw [HL.out, List.drop_eq_nil_of_le (by rw [kinds_len]; omega)]; rfl⟩
      go_wp2
      go_ret2
      exact ⟨by rw [HE.out]; rfl, rfl⟩
set_option maxHeartbeats 1000000 in
set_option maxRecDepth 100000 in
theorem CodeFinds_walk (s : ByteArray) (w : World) (hs : s.size ≤ 140737488351232) (hL : (∃ t fr, w.heap[0]? = some (.cells kA t fr)) ∧ ∃ t fr, w.heap[1]? = some (.cells tA t fr)) :
    Calls Tryd.prog 3 #[.string s] w fun e w' => e = .returned (.bool true) ∧ Below w.heap.size w w' := by
  obtain ⟨⟨t, fr, hK⟩, ⟨t2, fr2, hT⟩⟩ := hL
  have HK := Aside0.mk hK
  have HT := Aside0.mk hT
  clear hK hT
  go_enter Tryd.func3, Tryd.ntmps3
  go_wp2_with fail
  refine (find_any s _ t fr HK.out).mono ?_
  rintro e w1 ⟨rfl, hb⟩
  have HB := Aside0.mk hb
  clear hb
  go_wp2_with fail
  refine (rfind_any s _ t2 fr2 (blk_below HT.out HB.out)).mono ?_
  rintro e w2 ⟨rfl, rfl⟩
  go_wp2
  go_ret
  exact ⟨rfl, HB.out⟩
end Go.Proofs.YtknlcpojglhbnaaDoor.Pure
