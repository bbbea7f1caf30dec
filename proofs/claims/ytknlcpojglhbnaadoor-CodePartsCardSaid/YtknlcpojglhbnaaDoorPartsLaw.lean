/- Own text: CodeParts: for every instruction, its bytes are its operation and its operands, each as octet writes it; no condition but that the program's table stands. -/
import Derived.Test.YtknlcpojglhbnaaDoorQCodePartsx2
import Derived.Test.YtknlcpojglhbnaaDoorTable
import Derived.Test.YtknlcpojglhbnaaDoorNames
namespace Go.Proofs.YtknlcpojglhbnaaDoor.Pure
open Go.RowKit Go.ChangeShapes Go.WideShapes Go.Proofs.YtknlcpojglhbnaaDoor.PCodeParts Go.Proofs.YtknlcpojglhbnaaDoorW.PrintWords Go.Proofs.YtknlcpojglhbnaaDoorW.PrintLast Go.Proofs.YtknlcpojglhbnaaDoorW.PrintMore
set_option linter.unusedVariables false
set_option linter.unusedSimpArgs false
/-! Rounds: an answer that stands from some number of rounds on -/
theorem Ev.pos {α : Type} {c : Prop} [Decidable c] {a b : Nat → Option α} {r : α} (h : c) (k : Ev a r) : Ev (fun n => if c then a n else b n) r := by
  simpa only [if_pos h] using k
theorem Ev.neg {α : Type} {c : Prop} [Decidable c] {a b : Nat → Option α} {r : α} (h : ¬c) (k : Ev b r) : Ev (fun n => if c then a n else b n) r := by
  simpa only [if_neg h] using k
/-- A call without rounds. -/
theorem Ev.call {α β : Type} {x : Option α} {f : Nat → α → Option β} {a : α} {r : β} (h : x = some a) (k : Ev (fun n => f n a) r) : Ev (fun n => x.bind (f n)) r := by
  subst h; simpa only [Option.bind_some] using k
theorem Ev.ret {α : Type} {r s : α} (h : s = r) : Ev (fun _ => some s) r := ⟨0, fun _ _ => by rw [h]⟩
theorem w64 {n : Int} (h : -9223372036854775808 ≤ n ∧ n ≤ 9223372036854775807) : wrap64 n = n := by unfold wrap64; omega
theorem wu64 {n : Int} (h : 0 ≤ n ∧ n ≤ 18446744073709551615) : IntKind.u64.wrap n = n := by
  simp only [IntKind.wrap, IntKind.bits, IntKind.signed]; simp; omega
theorem wf64 {a : Int} (h : (Lit.int .i64 a).wf = true) : -9223372036854775808 ≤ a ∧ a ≤ 9223372036854775807 := by
  simp only [Lit.wf, IntKind.min, IntKind.max, IntKind.signed, IntKind.bits, Bool.and_eq_true, decide_eq_true_eq, if_true] at h
  omega
theorem wfu64 {a : Int} (h : (Lit.int .u64 a).wf = true) : 0 ≤ a ∧ a ≤ 18446744073709551615 := by
  simp only [Lit.wf, IntKind.min, IntKind.max, IntKind.signed, IntKind.bits, Bool.and_eq_true, decide_eq_true_eq] at h
  simp at h
  omega
theorem wf8 {a : Int} (h : (Lit.int .u8 a).wf = true) : 0 ≤ a ∧ a ≤ 255 := by
  simp only [Lit.wf, IntKind.min, IntKind.max, IntKind.signed, IntKind.bits, Bool.and_eq_true, decide_eq_true_eq] at h
  simp at h
  omega

/-! A varint behind a list -/
/-- AppendUint of a number, as 64 bits, answers so. -/
def AU (x : List Int) (a : Int) (r : List Int) : Prop := Ev (fun k => octet_AppendUint.f k x (IntKind.u64.wrap a)) r
theorem u64_range (a : Int) : 0 ≤ IntKind.u64.wrap a ∧ IntKind.u64.wrap a < 18446744073709551616 := by
  simp only [IntKind.wrap, IntKind.bits, IntKind.signed]; simp; omega
theorem au_l0 : ∀ (n : Nat) (x : Int) (l : List Int), 0 ≤ x → x < 128 ^ (n + 1) → l.length + n + 1 < 140737488355328 → ∃ r, Ev (fun k => octet_AppendUint.l0 k l x) r ∧ l.length ≤ r.length ∧ r.length ≤ l.length + n + 1 := by
  intro n
  induction n with
  | zero =>
    intro x l h0 h1 h2
    exact ⟨_, Ev.step (fun k => octet_AppendUint.l0.eq_2 ..) (Ev.neg (by omega) (Ev.pos (by omega) (Ev.ret rfl))), by simp, by simp⟩
  | succ n ih =>
    intro x l h0 h1 h2
    by_cases h : x > 127
    · obtain ⟨r, r1, r2, r3⟩ := ih (x / 128) (l ++ [Go.bits .or .u8 (x % 256) 128]) (by omega) (by rw [Int.pow_succ] at h1; omega) (by simp; omega)
      simp only [List.length_append, List.length_cons, List.length_nil] at r2 r3
      exact ⟨r, Ev.step (fun k => octet_AppendUint.l0.eq_2 ..) (Ev.pos h (Ev.pos (by omega) r1)), by omega, by omega⟩
    · exact ⟨_, Ev.step (fun k => octet_AppendUint.l0.eq_2 ..) (Ev.neg h (Ev.pos (by omega) (Ev.ret rfl))), by simp, by simp⟩
theorem au (x : List Int) (a : Int) (hx : x.length ≤ 100000000) : ∃ r, AU x a r ∧ x.length ≤ r.length ∧ r.length ≤ x.length + 10 :=
  au_l0 9 (IntKind.u64.wrap a) x (u64_range a).1 (by have := (u64_range a).2; omega) (by omega)

theorem encode_l1 (x4 : List Int) (l : List S27) (n i : Int) (y : List Int) (r : List Int) (res : List Int × Int) (h4 : x4.length ≤ 1000000) (hi : 0 ≤ i ∧ i < 1000000000)
    (hy : y = [] ∧ r = x4 ∨ (∃ a, y = [a] ∧ AU x4 a r) ∨ ∃ a b s, y = [a, b] ∧ AU x4 a s ∧ AU s b r) (h : Ev (fun k => code_Encode.l0 k r l n (wrap64 (i + 1))) res) :
    Ev (fun k => code_Encode.l1 k x4 l n i y (y.length : Int) 0) res := by
  rcases hy with ⟨rfl, rfl⟩ | ⟨a, rfl, ha⟩ | ⟨a, b, s, rfl, ha, hb⟩
  · exact Ev.step (fun k => code_Encode.l1.eq_2 ..) (Ev.neg (by simp) h)
  · refine Ev.step (fun k => code_Encode.l1.eq_2 ..) (Ev.pos (by simp) (Ev.pos (by omega) (Ev.pos (by simp) (Ev.bind ha ?_))))
    exact Ev.step (fun k => code_Encode.l1.eq_2 ..) (Ev.neg (by simp [w64]) h)
  · refine Ev.step (fun k => code_Encode.l1.eq_2 ..) (Ev.pos (by simp) (Ev.pos (by omega) (Ev.pos (by simp) (Ev.bind ha ?_))))
    have e : rd [a, b] (wrap64 (0 + 1)) = b := by rw [w64 (by omega)]; rfl
    refine Ev.step (fun k => code_Encode.l1.eq_2 ..) (Ev.pos (by simp [w64]) (Ev.pos (by simp [w64]) (Ev.pos (by simp [w64]) ?_)))
    rw [e]
    refine Ev.bind hb ?_
    exact Ev.step (fun k => code_Encode.l1.eq_2 ..) (Ev.neg (by simp [w64]) h)
theorem opn_bounds {i : Int} (h : 0 ≤ i ∧ i < 29) : opn i = 0 ∨ opn i = 1 ∨ opn i = 2 := by
  have := operands_bounds i.toNat (by omega)
  unfold opn
  rw [this]
  split <;> split <;> simp
/-- What follows the operation's byte. -/
def Parts (n a b : Int) (x r : List Int) : Prop := n = 0 ∧ r = x ∨ n = 1 ∧ AU x a r ∨ n = 2 ∧ ∃ s, AU x a s ∧ AU s b r
theorem parts_of {n : Int} (h : n = 0 ∨ n = 1 ∨ n = 2) (a b : Int) (x : List Int) (hx : x.length ≤ 1000000) : ∃ r, Parts n a b x r ∧ x.length ≤ r.length ∧ r.length ≤ x.length + 20 := by
  rcases h with rfl | rfl | rfl
  · exact ⟨x, .inl ⟨rfl, rfl⟩, by omega, by omega⟩
  · obtain ⟨r, h1, h2, h3⟩ := au x a (by omega)
    exact ⟨r, .inr (.inl ⟨rfl, h1⟩), by omega, by omega⟩
  · obtain ⟨s, h1, h2, h3⟩ := au x a (by omega)
    obtain ⟨r, h4, h5, h6⟩ := au s b (by omega)
    exact ⟨r, .inr (.inr ⟨rfl, s, h1, h4⟩), by omega, by omega⟩
theorem encode_one (a0 a1 a2 : Int) (h : valid a0 a1 a2 = 0) (r : List Int) (hr : Parts (opn a0) a1 a2 [a0 % 256] r) : Ev (fun k => code_Encode.f k [(⟨a0, a1, a2⟩ : S27)]) (r, 0) := by
  have hop := valid_op h
  refine Ev.neg (by simp) (Ev.step (fun k => code_Encode.l0.eq_2 ..) (Ev.pos (by simp) (Ev.pos (by omega) (Ev.pos (by simp) ?_))))
  have e : rd_T27 [(⟨a0, a1, a2⟩ : S27)] 0 = ⟨a0, a1, a2⟩ := rfl
  rw [e]
  refine Ev.call (show code_Valid.f a0 a1 a2 = some 0 by rw [← h]; rfl) (Ev.pos rfl (Ev.pos (by simp) (Ev.call rfl ?_)))
  have hb := opn_bounds hop
  refine Ev.pos (by rcases hb with h | h | h <;> rw [h] <;> decide) (Ev.pos (by rcases hb with h | h | h <;> rw [h] <;> simp) (Ev.call rfl ?_))
  refine encode_l1 _ _ _ _ _ r _ (by simp) (by omega) ?_ (Ev.step (fun k => code_Encode.l0.eq_2 ..) (Ev.neg (by simp [w64]) (Ev.ret rfl)))
  rcases hr with ⟨h1, h2⟩ | ⟨h1, h2⟩ | ⟨h1, s, h2, h3⟩
  · exact .inl ⟨by rw [h1]; rfl, h2⟩
  · exact .inr (.inl ⟨a1, by rw [h1]; rfl, h2⟩)
  · exact .inr (.inr ⟨a1, a2, s, by rw [h1]; rfl, h2, h3⟩)
theorem encode_bad (a0 a1 a2 t : Int) (h : valid a0 a1 a2 = t) (ht : t ≠ 0) : Ev (fun k => code_Encode.f k [(⟨a0, a1, a2⟩ : S27)]) ([], 111) := by
  refine Ev.neg (by simp) (Ev.step (fun k => code_Encode.l0.eq_2 ..) (Ev.pos (by simp) (Ev.pos (by omega) (Ev.pos (by simp) ?_))))
  have e : rd_T27 [(⟨a0, a1, a2⟩ : S27)] 0 = ⟨a0, a1, a2⟩ := rfl
  rw [e]
  exact Ev.call (show code_Valid.f a0 a1 a2 = some t by rw [← h]; rfl) (Ev.neg ht (Ev.ret rfl))
theorem same_l0 (l : List Int) (hl : l.length ≤ 1000000000) : ∀ (d i : Nat), i + d = l.length → Ev (fun k => payofflaw11_sameBytes.l0 k l l (i : Int)) true := by
  intro d
  induction d with
  | zero => intro i h; exact Ev.step (fun k => payofflaw11_sameBytes.l0.eq_2 ..) (Ev.neg (by omega) (Ev.ret rfl))
  | succ d ih =>
    intro i h
    refine Ev.step (fun k => payofflaw11_sameBytes.l0.eq_2 ..) (Ev.pos (by omega) (Ev.pos (by omega) (Ev.pos (by omega) (Ev.pos rfl ?_))))
    rw [w64 (by omega)]
    exact ih (i + 1) (by omega)
theorem same_f (l : List Int) (hl : l.length ≤ 1000000000) : Ev (fun k => payofflaw11_sameBytes.f k l l) true := Ev.pos rfl (same_l0 l hl l.length 0 (by omega))
theorem parts_all (a0 a1 a2 : Int) : Ev (fun k => payofflaw11_CodeParts.f k a0 a1 a2) true := by
  unfold payofflaw11_CodeParts.f
  obtain ⟨t, ht⟩ : ∃ t, valid a0 a1 a2 = t := ⟨_, rfl⟩
  refine Ev.call (show code_Valid.f a0 a1 a2 = some t by rw [← ht]; rfl) (Ev.call (show code_Operands.f a0 = some (opsOf2 a0) from rfl) ?_)
  by_cases h : t = 0
  · subst h
    have hop := valid_op ht
    have hb := opn_bounds hop
    obtain ⟨r, hr, hl1, hl2⟩ := parts_of hb a1 a2 [a0 % 256] (by simp)
    have ho : opsOf2 a0 = (opn a0, 0) := if_pos hop
    rw [ho]
    have hl3 : r.length ≤ 1000 := by simp at hl2; omega
    refine Ev.bind (encode_one a0 a1 a2 ht r hr) (Ev.pos rfl (Ev.pos rfl ?_))
    refine Ev.step (fun k => payofflaw11_CodeParts.j0.eq_2 ..) (Ev.neg (by simp) (Ev.call rfl ?_))
    rcases hr with ⟨h1, h2⟩ | ⟨h1, h2⟩ | ⟨h1, s, h2, h3⟩
    · subst h2
      exact Ev.neg (by rw [h1]; decide) (Ev.step (fun k => payofflaw11_CodeParts.j1.eq_2 ..) (Ev.neg (by rw [h1]; decide) (Ev.bind (same_f [a0 % 256] (by simp)) (Ev.ret rfl))))
    · exact Ev.pos (by rw [h1]; decide) (Ev.bind h2 (Ev.step (fun k => payofflaw11_CodeParts.j1.eq_2 ..) (Ev.neg (by rw [h1]; decide) (Ev.bind (same_f r (by omega)) (Ev.ret rfl)))))
    · exact Ev.pos (by rw [h1]; decide) (Ev.bind h2 (Ev.step (fun k => payofflaw11_CodeParts.j1.eq_2 ..) (Ev.pos (by rw [h1]; decide) (Ev.bind h3 (Ev.bind (same_f r (by omega)) (Ev.ret rfl))))))
  · exact Ev.bind (encode_bad a0 a1 a2 t ht h) (Ev.neg h (Ev.ret rfl))
theorem CodeParts_walk (a0 a1 a2 : Int) (w : World) (h0 : (Lit.int .i64 a0).wf = true) (h1 : (Lit.int .i64 a1).wf = true) (h2 : (Lit.int .i64 a2).wf = true) (hL : ∃ t fr, w.heap[0]? = some (.cells kA t fr)) :
    Calls Tryd.prog 8 #[.agg #[.int .i64 a0, .int .i64 a1, .int .i64 a2]] w fun e w' => e = .returned (.bool true) ∧ Below w.heap.size w w' := by
  obtain ⟨k, h⟩ := (parts_all a0 a1 a2).rounds
  exact payofflaw11_CodeParts.calls k a0 a1 a2 true w h hL
end Go.Proofs.YtknlcpojglhbnaaDoor.Pure
