/- Own text: what Itoa and Repeat answer, in the printed callers' form. -/
import Derived.Test.YtogbeegkhgkdaaaDoorQTextx0
import Derived.Test.YtogbeegkhgkdaaaDoorTextGl
import Derived.Test.YtogbeegkhgkdaaaDoorShText
import Derived.Sort.Grow
namespace Go.Proofs.YtogbeegkhgkdaaaDoor.PText
open Go.RowKit Go.Proofs.YtogbeegkhgkdaaaDoorW.PrintWords Go.Proofs.YtogbeegkhgkdaaaDoorW.PrintLast Go.Proofs.YtogbeegkhgkdaaaDoorW.PrintMore
set_option linter.unusedVariables false
theorem grow_below (w : World) (k : Nat) (os : Array Obj) : Below w.heap.size w (Sort.grow (w.drewN k) os) :=
  ⟨rfl, rfl, rfl, by simp [Sort.grow], fun i hi => by show (w.heap ++ os)[i]? = w.heap[i]?; rw [Array.getElem?_append_left hi]⟩
def strconv_Itoa_10.f (a0 : Int) : Option (ByteArray) := if -9223372036854775808 ≤ a0 ∧ a0 ≤ 9223372036854775807 then some ⟨(Lib.itoa a0).toArray⟩ else none
theorem strconv_Itoa_10.calls (a0 : Int) (r : ByteArray) (w : World) (h : strconv_Itoa_10.f a0 = some r) (hG : Pure.Gl w) :
    Calls Tryd.prog 10 #[.int .i64 a0] w fun e w' => e = .returned (.string r) ∧ Below w.heap.size w w' := by
  unfold strconv_Itoa_10.f at h
  split at h
  · rename_i hb
    obtain rfl := Option.some.inj h
    refine (Shelf.Tryd.strconv_Itoa a0 hb.1 hb.2 w hG).mono ?_
    rintro e w' ⟨rfl, k, os, rfl⟩
    exact ⟨rfl, grow_below _ k os⟩
  · cases h
def strings_Repeat.f (a0 : ByteArray) (a1 : Int) : Option (ByteArray) := if 0 ≤ a1 ∧ a1 ≤ 9223372036854775807 ∧ a0.size * a1.toNat ≤ 140737488355328 then some ⟨(Lib.repeatL a0.data.toList a1.toNat).toArray⟩ else none
theorem strings_Repeat.calls (a0 : ByteArray) (a1 : Int) (r : ByteArray) (w : World) (h : strings_Repeat.f a0 a1 = some r) :
    Calls Tryd.prog 11 #[.string a0, .int .i64 a1] w fun e w' => e = .returned (.string r) ∧ Below w.heap.size w w' := by
  unfold strings_Repeat.f at h
  split at h
  · rename_i hb
    obtain rfl := Option.some.inj h
    obtain ⟨n, rfl⟩ : ∃ n : Nat, a1 = n := ⟨a1.toNat, by omega⟩
    rw [Int.toNat_natCast] at hb ⊢
    exact Shelf.Tryd.strings_Repeat a0 n w (by omega) hb.2.2
  · cases h
end Go.Proofs.YtogbeegkhgkdaaaDoor.PText
