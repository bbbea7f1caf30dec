/- Own text: CodeEncodes: every list is written as the document says, again and again, and what came is new memory; no condition but that the program's two tables stand and the list fits the memory. -/
import Derived.Test.YtknlcpojglhbnaaDoorQCodeEncodesx4
import Derived.Test.YtknlcpojglhbnaaDoorNames
import Derived.Laws.BitsLemmas
import Derived.SizedLaws
import Derived.Deep.Slices
namespace Go.Proofs.YtknlcpojglhbnaaDoor.Pure
open Go.RowKit Go.ChangeShapes Go.WideShapes Go.Proofs.YtknlcpojglhbnaaDoor.PCodeEncodes Go.Proofs.YtknlcpojglhbnaaDoorW.PrintWords Go.Proofs.YtknlcpojglhbnaaDoorW.PrintLast Go.Proofs.YtknlcpojglhbnaaDoorW.PrintMore
set_option linter.unusedVariables false
set_option linter.unusedSimpArgs false
/-! Rounds: an answer that stands from some number of rounds on -/
theorem Ev.pos {α : Type} {c : Prop} [Decidable c] {a b : Nat → Option α} {r : α} (h : c) (k : Ev a r) : Ev (fun n => if c then a n else b n) r := by
  simpa only [if_pos h] using k
theorem Ev.neg {α : Type} {c : Prop} [Decidable c] {a b : Nat → Option α} {r : α} (h : ¬c) (k : Ev b r) : Ev (fun n => if c then a n else b n) r := by
  simpa only [if_neg h] using k
/-- A call without rounds. -/
theorem Ev.call {α β : Type} {x : Option α} {f : Nat → α → Option β} {a : α} {r : β} (h : x = some a) (k : Ev (fun n => f n a) r) : Ev (fun n => x.bind (f n)) r := by
  subst h; simpa only [Option.bind_some] using k
theorem Ev.ret {α : Type} {r s : α} (h : s = r) : Ev (fun _ => some s) r := ⟨0, fun _ _ => by rw [h]⟩
theorem w64 {n : Int} (h : -9223372036854775808 ≤ n ∧ n ≤ 9223372036854775807) : wrap64 n = n := by unfold wrap64; omega
theorem wu64 {n : Int} (h : 0 ≤ n ∧ n ≤ 18446744073709551615) : IntKind.u64.wrap n = n := by
  simp only [IntKind.wrap, IntKind.bits, IntKind.signed]; simp; omega
theorem wf64 {a : Int} (h : (Lit.int .i64 a).wf = true) : -9223372036854775808 ≤ a ∧ a ≤ 9223372036854775807 := by
  simp only [Lit.wf, IntKind.min, IntKind.max, IntKind.signed, IntKind.bits, Bool.and_eq_true, decide_eq_true_eq, if_true] at h
  omega
theorem wfu64 {a : Int} (h : (Lit.int .u64 a).wf = true) : 0 ≤ a ∧ a ≤ 18446744073709551615 := by
  simp only [Lit.wf, IntKind.min, IntKind.max, IntKind.signed, IntKind.bits, Bool.and_eq_true, decide_eq_true_eq] at h
  simp at h
  omega
theorem wf8 {a : Int} (h : (Lit.int .u8 a).wf = true) : 0 ≤ a ∧ a ≤ 255 := by
  simp only [Lit.wf, IntKind.min, IntKind.max, IntKind.signed, IntKind.bits, Bool.and_eq_true, decide_eq_true_eq] at h
  simp at h
  omega

/-! Bits of 64 -/
theorem wrap_u64 (n : Int) : IntKind.u64.wrap n = n % 18446744073709551616 := by simp [IntKind.wrap, IntKind.bits, IntKind.signed]
theorem wraps_u64 (n : Int) (h₀ : 0 ≤ n) (h₁ : n < 2 ^ 64) : IntKind.u64.wrap n = n := by
  rw [wrap_u64]; rw [show (2 : Int) ^ 64 = 18446744073709551616 from rfl] at h₁; omega
theorem and_mask (i : Nat) (hi : i ≤ 64) (x m : Int) (hm : m = 2 ^ i - 1) (h0 : 0 ≤ x) (h1 : x < 18446744073709551616) : Go.bits .and .u64 x m = x % 2 ^ i := by
  rw [hm]; exact bits_mask .u64 64 (by decide) wraps_u64 i hi x h0 h1
theorem and_one (x : Int) (h0 : 0 ≤ x) (h1 : x < 18446744073709551616) : Go.bits .and .u64 x 1 = x % 2 := and_mask 1 (by decide) x 1 (by decide) h0 h1
theorem and_half (x : Int) (h0 : 0 ≤ x) (h1 : x < 18446744073709551616) : Go.bits .and .u64 x 4294967295 = x % 4294967296 := and_mask 32 (by decide) x 4294967295 (by decide) h0 h1
theorem or_join (i : Nat) (x y : Int) (hx0 : 0 ≤ x) (hx : x % 2 ^ i = 0) (hx1 : x < 18446744073709551616) (hy0 : 0 ≤ y) (hy : y < 2 ^ i) (hy1 : y < 18446744073709551616) : Go.bits .or .u64 x y = x + y :=
  bits_join .u64 64 (by decide) wraps_u64 i x y hx0 hx hx1 hy0 hy hy1
theorem shl_one (i : Nat) (hi : i ≤ 63) : shl .u64 1 (i : Int) = 2 ^ i := by
  unfold shl
  rw [Int.toNat_natCast, show IntKind.u64.bits = 64 from rfl, Nat.min_eq_left (by omega), Int.one_mul]
  refine wraps_u64 _ (Int.le_of_lt (Int.pow_pos (by decide))) ?_
  have := Nat.pow_lt_pow_right (show 1 < 2 by decide) (show i < 64 by omega)
  exact_mod_cast this
theorem shr_nat (x : Int) (i : Nat) (hi : i ≤ 63) : shr .u64 x (i : Int) = x / 2 ^ i := by
  unfold shr
  rw [Int.toNat_natCast, show IntKind.u64.bits = 64 from rfl, Nat.min_eq_left (by omega)]
theorem pow2_pos (n : Nat) : (0 : Int) < 2 ^ n := Int.pow_pos (by decide)
theorem pow2_le {m n : Nat} (h : m ≤ n) : (2 : Int) ^ m ≤ 2 ^ n := by
  have := Nat.pow_le_pow_right (show 2 > 0 by decide) h
  exact_mod_cast this

/-! Varints: what AppendUint writes, what varint reads -/
theorem or128 (n : Nat) (hn : n < 256) : Go.bits .or .u8 (n : Int) 128 = ((n % 128 + 128 : Nat) : Int) := by
  have h : ((List.range 256).all fun n => Go.bits .or .u8 (n : Int) 128 == ((n % 128 + 128 : Nat) : Int)) = true := by kernel_rfl
  exact beq_iff_eq.mp (List.all_eq_true.1 h n (List.mem_range.2 hn))
theorem and127 (n : Nat) (hn : n < 256) : Go.bits .and .u8 (n : Int) 127 = ((n % 128 : Nat) : Int) := by
  have h : ((List.range 256).all fun n => Go.bits .and .u8 (n : Int) 127 == ((n % 128 : Nat) : Int)) = true := by kernel_rfl
  exact beq_iff_eq.mp (List.all_eq_true.1 h n (List.mem_range.2 hn))
/-- The bytes of a number below 128 ^ (f + 1). -/
def uvf : Nat → Nat → List Int
  | 0, n => [(n : Int)]
  | f + 1, n => if n < 128 then [(n : Int)] else ((n % 128 + 128 : Nat) : Int) :: uvf f (n / 128)
def uv (n : Nat) : List Int := uvf 9 n
theorem uvf_ne (f n : Nat) : uvf f n ≠ [] := by cases f <;> unfold uvf <;> (try split) <;> simp
theorem uvf_pos (f n : Nat) : 0 < (uvf f n).length := List.length_pos_iff.2 (uvf_ne f n)
theorem uvf_small (f n : Nat) (h : n < 128) : uvf f n = [(n : Int)] := by cases f <;> unfold uvf <;> simp [h]
theorem uvf_len : ∀ (j f n : Nat), n < 128 ^ (j + 1) → (uvf f n).length ≤ j + 1 := by
  intro j
  induction j with
  | zero => intro f n h; rw [uvf_small f n (by omega)]; simp
  | succ j ih =>
    intro f n h
    cases f with
    | zero => unfold uvf; simp
    | succ f =>
      unfold uvf
      split
      · simp
      · rw [List.length_cons]
        have := ih f (n / 128) (by rw [Nat.pow_succ] at h; omega)
        omega
theorem au_uv : ∀ (f n : Nat) (l : List Int), n < 128 ^ (f + 1) → l.length + f + 1 < 140737488355328 → Ev (fun k => octet_AppendUint.l0 k l (n : Int)) (l ++ uvf f n) := by
  intro f
  induction f with
  | zero =>
    intro n l h1 h2
    refine Ev.step (fun k => octet_AppendUint.l0.eq_2 ..) (Ev.neg (by omega) (Ev.pos (by omega) (Ev.ret ?_)))
    rw [uvf_small 0 n (by omega), Int.emod_eq_of_lt (by omega) (by omega)]
  | succ f ih =>
    intro n l h1 h2
    by_cases h : n < 128
    · refine Ev.step (fun k => octet_AppendUint.l0.eq_2 ..) (Ev.neg (by omega) (Ev.pos (by omega) (Ev.ret ?_)))
      rw [uvf_small _ n h, Int.emod_eq_of_lt (by omega) (by omega)]
    · have e : Go.bits .or .u8 ((n : Int) % 256) 128 = ((n % 128 + 128 : Nat) : Int) := by
        have := or128 (n % 256) (by omega)
        rw [show ((n : Int) % 256) = ((n % 256 : Nat) : Int) by omega, this]; omega
      have e2 : (n : Int) / 128 = ((n / 128 : Nat) : Int) := by omega
      have := ih (n / 128) (l ++ [((n % 128 + 128 : Nat) : Int)]) (by rw [Nat.pow_succ] at h1; omega) (by simp; omega)
      rw [List.append_assoc, List.singleton_append] at this
      refine Ev.step (fun k => octet_AppendUint.l0.eq_2 ..) (Ev.pos (by omega) (Ev.pos (by omega) ?_))
      rw [e, e2]
      unfold uvf
      rw [if_neg h]
      exact this
theorem au_f (x : Int) (l : List Int) (h0 : 0 ≤ x) (h1 : x < 9223372036854775808) (h2 : l.length < 140737488355000) : Ev (fun k => octet_AppendUint.f k l (IntKind.u64.wrap x)) (l ++ uv x.toNat) := by
  obtain ⟨n, rfl⟩ := Int.eq_ofNat_of_zero_le h0
  rw [wu64 ⟨by omega, by omega⟩]
  exact au_uv 9 n l (by rw [show 128 ^ (9 + 1) = 1180591620717411303424 from rfl]; omega) (by omega)
def Bytes (l : List Int) : Prop := ∀ b ∈ l, 0 ≤ b ∧ b < 256
theorem Bytes.drop {l : List Int} (h : Bytes l) (n : Nat) : Bytes (l.drop n) := fun b hb => h b (List.mem_of_mem_drop hb)

/-! Instructions as bytes: Encode, read, Decode -/
/-- What stands of each operation: how many operands, their bounds; each operation with its operands is at most four bytes. -/
def L3 (m : Int) : Nat := if m < 128 then 1 else if m < 16384 then 2 else 3
theorem kats : ∀ i : Nat, i < 29 → ((kat i).n = 0 ∧ (kat i).a = 0 ∧ (kat i).b = 0 ∨ (kat i).n = 1 ∧ (kat i).b = 0 ∧ L3 (kat i).a ≤ 3 ∨ (kat i).n = 2 ∧ L3 (kat i).a + L3 (kat i).b ≤ 3) ∧ 0 ≤ (kat i).a ∧ (kat i).a < 2097152 ∧ 0 ≤ (kat i).b ∧ (kat i).b < 2097152 := by
  intro i hi
  have h : ((List.range 29).all fun i => decide (((kat i).n = 0 ∧ (kat i).a = 0 ∧ (kat i).b = 0 ∨ (kat i).n = 1 ∧ (kat i).b = 0 ∧ L3 (kat i).a ≤ 3 ∨ (kat i).n = 2 ∧ L3 (kat i).a + L3 (kat i).b ≤ 3) ∧ 0 ≤ (kat i).a ∧ (kat i).a < 2097152 ∧ 0 ≤ (kat i).b ∧ (kat i).b < 2097152)) = true := by decide +kernel
  exact of_decide_eq_true (List.all_eq_true.1 h i (List.mem_range.2 hi))
theorem uv_L3 (n : Nat) (m : Int) (h : (n : Int) ≤ m) (hm : m < 2097152) : (uv n).length ≤ L3 m := by
  unfold L3 uv
  split
  · exact uvf_len 0 9 n (by omega)
  · split
    · exact uvf_len 1 9 n (by omega)
    · exact uvf_len 2 9 n (by omega)
def ops (x : S27) : List Int := if opn x.f0 = 0 then [] else if opn x.f0 = 1 then uv x.f1.toNat else uv x.f1.toNat ++ uv x.f2.toNat
def enc1 (x : S27) : List Int := x.f0 :: ops x
def enc (l : List S27) : List Int := (l.map enc1).flatten
/-- Is an instruction valid? -/
def Ok (x : S27) : Prop := valid x.f0 x.f1 x.f2 = 0
instance (x : S27) : Decidable (Ok x) := inferInstanceAs (Decidable (_ = _))
theorem Ok.parts {x : S27} (h : Ok x) : (0 ≤ x.f0 ∧ x.f0 < 29) ∧ (0 ≤ x.f1 ∧ x.f1 ≤ (kat x.f0.toNat).a) ∧ 0 ≤ x.f2 ∧ x.f2 ≤ (kat x.f0.toNat).b := by
  unfold Ok valid at h
  split at h
  · rename_i g
    obtain ⟨g0, g1, g2⟩ := g
    have := of_decide_eq_true g2
    exact ⟨⟨g0, g1⟩, ⟨this.1, this.2.1⟩, this.2.2⟩
  · cases h
theorem Ok.mk' {a b c : Int} (h0 : 0 ≤ a ∧ a < 29) (h1 : 0 ≤ b ∧ b ≤ (kat a.toNat).a) (h2 : 0 ≤ c ∧ c ≤ (kat a.toNat).b) : Ok ⟨a, b, c⟩ := by
  unfold Ok valid
  exact if_pos ⟨h0.1, h0.2, decide_eq_true ⟨h1.1, h1.2, h2.1, h2.2⟩⟩
theorem valid_two (x : S27) : valid x.f0 x.f1 x.f2 = 0 ∨ valid x.f0 x.f1 x.f2 = 111 := by unfold valid; split <;> simp
/-- The three forms. -/
theorem Ok.forms {x : S27} (h : Ok x) : (∃ i a b : Nat, x = ⟨i, a, b⟩ ∧ i < 29 ∧ (a : Int) ≤ (kat i).a ∧ (b : Int) ≤ (kat i).b ∧ (kat i).a < 2097152 ∧ (kat i).b < 2097152 ∧
    ((kat i).n = 0 ∧ a = 0 ∧ b = 0 ∧ ops x = [] ∨ (kat i).n = 1 ∧ b = 0 ∧ ops x = uv a ∧ (uv a).length ≤ 3 ∨ (kat i).n = 2 ∧ ops x = uv a ++ uv b ∧ (uv a).length + (uv b).length ≤ 3)) := by
  obtain ⟨f0, f1, f2⟩ := x
  obtain ⟨⟨p0, p1⟩, ⟨p2, p3⟩, p4, p5⟩ := h.parts
  simp only at p0 p1 p2 p3 p4 p5
  obtain ⟨i, rfl⟩ := Int.eq_ofNat_of_zero_le p0
  obtain ⟨a, rfl⟩ := Int.eq_ofNat_of_zero_le p2
  obtain ⟨b, rfl⟩ := Int.eq_ofNat_of_zero_le p4
  rw [Int.toNat_natCast] at p3 p5
  obtain ⟨k1, k2, k3, k4, k5⟩ := kats i (by omega)
  have la := uv_L3 a _ p3 k3
  have lb := uv_L3 b _ p5 k5
  refine ⟨i, a, b, rfl, by omega, p3, p5, k3, k5, ?_⟩
  have e : opn ((i : Nat) : Int) = (kat i).n := by unfold opn; rw [Int.toNat_natCast]
  unfold ops
  rw [e]
  rcases k1 with ⟨q1, q2, q3⟩ | ⟨q1, q2, q3⟩ | ⟨q1, q2⟩
  · exact .inl ⟨q1, by omega, by omega, by rw [if_pos q1]⟩
  · exact .inr (.inl ⟨q1, by omega, by rw [if_neg (by omega), if_pos q1, Int.toNat_natCast], by omega⟩)
  · exact .inr (.inr ⟨q1, by rw [if_neg (by omega), if_neg (by omega), Int.toNat_natCast, Int.toNat_natCast], by omega⟩)
theorem enc1_len {x : S27} (h : Ok x) : 1 ≤ (enc1 x).length ∧ (enc1 x).length ≤ 4 := by
  obtain ⟨i, a, b, -, -, -, -, -, -, hf⟩ := h.forms
  unfold enc1
  rcases hf with ⟨-, -, -, e⟩ | ⟨-, -, e, hl⟩ | ⟨-, e, hl⟩
  · rw [e]; simp
  · rw [e, List.length_cons]; omega
  · rw [e, List.length_cons, List.length_append]; omega
def AllOk (l : List S27) : Prop := ∀ x ∈ l, Ok x
instance (l : List S27) : Decidable (AllOk l) := inferInstanceAs (Decidable (∀ x ∈ l, Ok x))
theorem enc_nil : enc [] = [] := rfl
theorem enc_cons (x : S27) (l : List S27) : enc (x :: l) = enc1 x ++ enc l := rfl
theorem enc_append (a b : List S27) : enc (a ++ b) = enc a ++ enc b := by unfold enc; rw [List.map_append, List.flatten_append]
theorem enc_len : ∀ (l : List S27), AllOk l → l.length ≤ (enc l).length ∧ (enc l).length ≤ 4 * l.length
  | [], _ => by simp [enc]
  | x :: l, h => by
    have h1 := enc1_len (h x (by simp))
    have h2 := enc_len l (fun y hy => h y (by simp [hy]))
    rw [enc_cons, List.length_append, List.length_cons]
    omega
theorem AllOk.drop {l : List S27} (h : AllOk l) (n : Nat) : AllOk (l.drop n) := fun x hx => h x (List.mem_of_mem_drop hx)
theorem AllOk.tail {x : S27} {l : List S27} (h : AllOk (x :: l)) : Ok x ∧ AllOk l := ⟨h x (by simp), fun y hy => h y (by simp [hy])⟩
theorem AllOk.cons {x : S27} {l : List S27} (h : Ok x) (g : AllOk l) : AllOk (x :: l) := fun z hz => by
  rcases List.mem_cons.1 hz with rfl | hz
  · exact h
  · exact g z hz
theorem AllOk.append {a b : List S27} (h : AllOk a) (g : AllOk b) : AllOk (a ++ b) := fun x hx => by
  rcases List.mem_append.1 hx with h1 | h1
  · exact h x h1
  · exact g x h1
theorem uvf_bytes : ∀ (f n : Nat), n < 128 ^ (f + 1) → Bytes (uvf f n) := by
  intro f
  induction f with
  | zero => intro n h b hb; rw [uvf_small 0 n (by omega)] at hb; simp at hb; omega
  | succ f ih =>
    intro n h b hb
    unfold uvf at hb
    split at hb
    · simp at hb; omega
    · rcases List.mem_cons.1 hb with rfl | hb
      · omega
      · exact ih (n / 128) (by rw [Nat.pow_succ] at h; omega) b hb
theorem uv_bytes (n : Nat) (h : n < 2097152) : Bytes (uv n) := uvf_bytes 9 n (by rw [show 128 ^ (9 + 1) = 1180591620717411303424 from rfl]; omega)
theorem Bytes.append {a b : List Int} (h : Bytes a) (g : Bytes b) : Bytes (a ++ b) := fun x hx => by
  rcases List.mem_append.1 hx with h1 | h1
  · exact h x h1
  · exact g x h1
theorem enc1_bytes {x : S27} (h : Ok x) : Bytes (enc1 x) := by
  obtain ⟨i, a, b, rfl, hi, ha, hb, hka, hkb, hf⟩ := h.forms
  have h0 : Bytes (ops ⟨i, a, b⟩) := by
    rcases hf with ⟨-, -, -, e⟩ | ⟨-, -, e, hl⟩ | ⟨-, e, hl⟩
    · rw [e]; intro z hz; cases hz
    · rw [e]; exact uv_bytes a (by omega)
    · rw [e]; exact (uv_bytes a (by omega)).append (uv_bytes b (by omega))
  intro z hz
  rcases List.mem_cons.1 hz with rfl | hz
  · show 0 ≤ (i : Int) ∧ (i : Int) < 256; omega
  · exact h0 z hz
theorem enc_bytes : ∀ (l : List S27), AllOk l → Bytes (enc l)
  | [], _ => by intro z hz; cases hz
  | x :: l, h => by rw [enc_cons]; exact (enc1_bytes h.tail.1).append (enc_bytes l h.tail.2)
/-! Encode -/
theorem l1_done (x4 : List Int) (l : List S27) (n i : Int) (y r : List Int) (res : List Int × Int) (hi : 0 ≤ i ∧ i < 1000000000)
    (hy : y = [] ∧ r = x4 ∨ (∃ a, y = [a] ∧ Ev (fun k => octet_AppendUint.f k x4 (IntKind.u64.wrap a)) r) ∨ ∃ a b s, y = [a, b] ∧ Ev (fun k => octet_AppendUint.f k x4 (IntKind.u64.wrap a)) s ∧ Ev (fun k => octet_AppendUint.f k s (IntKind.u64.wrap b)) r) (h : Ev (fun k => code_Encode.l0 k r l n (wrap64 (i + 1))) res) :
    Ev (fun k => code_Encode.l1 k x4 l n i y (y.length : Int) 0) res := by
  rcases hy with ⟨rfl, rfl⟩ | ⟨a, rfl, ha⟩ | ⟨a, b, s, rfl, ha, hb⟩
  · exact Ev.step (fun k => code_Encode.l1.eq_2 ..) (Ev.neg (by simp) h)
  · refine Ev.step (fun k => code_Encode.l1.eq_2 ..) (Ev.pos (by simp) (Ev.pos (by omega) (Ev.pos (by simp) (Ev.bind ha ?_))))
    exact Ev.step (fun k => code_Encode.l1.eq_2 ..) (Ev.neg (by simp [w64]) h)
  · refine Ev.step (fun k => code_Encode.l1.eq_2 ..) (Ev.pos (by simp) (Ev.pos (by omega) (Ev.pos (by simp) (Ev.bind ha ?_))))
    have e : rd [a, b] (wrap64 (0 + 1)) = b := by rw [w64 (by omega)]; rfl
    refine Ev.step (fun k => code_Encode.l1.eq_2 ..) (Ev.pos (by simp [w64]) (Ev.pos (by simp [w64]) (Ev.pos (by simp [w64]) ?_)))
    rw [e]
    refine Ev.bind hb ?_
    exact Ev.step (fun k => code_Encode.l1.eq_2 ..) (Ev.neg (by simp [w64]) h)
theorem drop_T27 (l : List S27) (i : Nat) (h : i < l.length) : l.drop i = rd_T27 l (i : Int) :: l.drop (i + 1) := by
  rw [List.drop_eq_getElem_cons h]; unfold rd_T27; rw [Int.toNat_natCast, List.getD_eq_getElem?_getD, List.getElem?_eq_getElem h]; rfl
theorem lt_of_len {a b c : Nat} (h : a = b) (g : b < c) : a < c := h ▸ g
theorem small1 {x : Nat} (h : x ≤ 1048576) : x + 1 < 140737488355000 := by omega
theorem small2 {x u v : Nat} (h : x ≤ 1048576) (g : u + v ≤ 3) : x + (u + 1) < 140737488355000 := by omega
theorem encode_l0 (l : List S27) (hl : l.length ≤ 262144) : ∀ (d i : Nat) (x4 : List Int), i + d = l.length → x4.length ≤ 4 * i →
    Ev (fun k => code_Encode.l0 k x4 l (l.length : Int) (i : Int)) (if AllOk (l.drop i) then (x4 ++ enc (l.drop i), 0) else ([], 111)) := by
  intro d
  induction d with
  | zero =>
    intro i x4 hi h4
    rw [List.drop_eq_nil_of_le (by omega), if_pos (by intro x hx; cases hx), enc_nil, List.append_nil]
    exact Ev.step (fun k => code_Encode.l0.eq_2 ..) (Ev.neg (by omega) (Ev.ret rfl))
  | succ d ih =>
    intro i x4 hi h4
    have hil : i < l.length := by omega
    have hx4 : x4.length ≤ 1048576 := by omega
    have hx5 : x4.length < 140737488355328 := by omega
    have hi9 : 0 ≤ (i : Int) ∧ (i : Int) < 1000000000 := by omega
    have hw : wrap64 ((i : Int) + 1) = ((i + 1 : Nat) : Int) := by rw [w64 (by omega)]; omega
    rw [drop_T27 l i hil]
    refine Ev.step (fun k => code_Encode.l0.eq_2 ..) (Ev.pos (by omega) (Ev.pos (by omega) (Ev.pos (by omega) ?_)))
    generalize rd_T27 l (i : Int) = x
    rcases valid_two x with hv | hv
    · have hx : Ok x := hv
      refine Ev.call (show code_Valid.f x.f0 x.f1 x.f2 = some 0 by rw [← hv]; rfl) (Ev.pos rfl (Ev.pos hx5 (Ev.call rfl ?_)))
      have hlen := enc1_len hx
      obtain ⟨j, a, b, rfl, hj, ha, hb, hka, hkb, hf⟩ := hx.forms
      have ha9 : (a : Int) < 9223372036854775808 := Int.lt_of_le_of_lt ha (Int.lt_trans hka (by decide))
      have hb9 : (b : Int) < 9223372036854775808 := Int.lt_of_le_of_lt hb (Int.lt_trans hkb (by decide))
      have e : opn ((j : Nat) : Int) = (kat j).n := by unfold opn; rw [Int.toNat_natCast]
      show Ev (fun k => if 0 ≤ opn ((j : Nat) : Int) then _ else _) _
      rw [e]
      have e0 : ((j : Nat) : Int) % 256 = (j : Int) := by omega
      have hnext := ih (i + 1) (x4 ++ enc1 ⟨j, a, b⟩) (by omega) (by rw [List.length_append]; omega)
      have hres : (if AllOk (⟨j, a, b⟩ :: l.drop (i + 1)) then (x4 ++ enc (⟨j, a, b⟩ :: l.drop (i + 1)), (0 : Int)) else ([], 111)) = (if AllOk (l.drop (i + 1)) then ((x4 ++ enc1 ⟨j, a, b⟩) ++ enc (l.drop (i + 1)), 0) else ([], 111)) := by
        by_cases hq : AllOk (l.drop (i + 1))
        · rw [if_pos hq, if_pos (AllOk.cons hx hq), enc_cons, List.append_assoc]
        · rw [if_neg hq, if_neg (fun h => hq h.tail.2)]
      rw [hres]
      rw [← hw] at hnext
      have hA := au_f (a : Int) (x4 ++ [(j : Int)]) (Int.natCast_nonneg a) ha9 (lt_of_len List.length_append (small1 hx4))
      rw [Int.toNat_natCast, List.append_assoc, List.singleton_append] at hA
      rcases hf with ⟨hn, -, -, he⟩ | ⟨hn, -, he, hul⟩ | ⟨hn, he, hul⟩
      · rw [hn]
        refine Ev.pos (by decide) (Ev.pos (by simp) (Ev.call rfl ?_))
        refine l1_done _ _ _ _ _ (x4 ++ enc1 ⟨j, a, b⟩) _ hi9 (.inl ⟨rfl, ?_⟩) hnext
        unfold enc1; rw [he, e0]
      · rw [hn]
        refine Ev.pos (by decide) (Ev.pos (by simp) (Ev.call rfl ?_))
        refine l1_done _ _ _ _ _ (x4 ++ enc1 ⟨j, a, b⟩) _ hi9 (.inr (.inl ⟨a, rfl, ?_⟩)) hnext
        show Ev (fun k => octet_AppendUint.f k (x4 ++ [((j : Nat) : Int) % 256]) _) _
        unfold enc1; rw [he, e0]; exact hA
      · rw [hn]
        have hB := au_f (b : Int) (x4 ++ (j : Int) :: uv a) (Int.natCast_nonneg b) hb9 (lt_of_len List.length_append (small2 hx4 hul))
        rw [Int.toNat_natCast, List.append_assoc, List.cons_append] at hB
        refine Ev.pos (by decide) (Ev.pos (by simp) (Ev.call rfl ?_))
        refine l1_done _ _ _ _ _ (x4 ++ enc1 ⟨j, a, b⟩) _ hi9 (.inr (.inr ⟨a, b, x4 ++ (j : Int) :: uv a, rfl, ?_, ?_⟩)) hnext
        · show Ev (fun k => octet_AppendUint.f k (x4 ++ [((j : Nat) : Int) % 256]) _) _
          rw [e0]; exact hA
        · unfold enc1; rw [he]; exact hB
    · rw [if_neg (fun h => by have := h.tail.1; unfold Ok at this; omega)]
      exact Ev.call (show code_Valid.f x.f0 x.f1 x.f2 = some 111 by rw [← hv]; rfl) (Ev.neg (by decide) (Ev.ret rfl))
theorem encode_all (l : List S27) : Ev (fun k => code_Encode.f k l) (if l.length > 262144 then ([], 6) else if AllOk l then (enc l, 0) else ([], 111)) := by
  unfold code_Encode.f
  by_cases h : l.length > 262144
  · rw [if_pos h]; exact Ev.pos (by omega) (Ev.ret rfl)
  · rw [if_neg h]
    have := encode_l0 l (by omega) l.length 0 [] (by omega) (by simp)
    rw [List.drop_zero, List.nil_append] at this
    exact Ev.neg (by omega) this

/-! The reference's Encode -/
theorem nat_small {n : Nat} (h : (n : Int) < 2097152) : n < 9223372036854775808 := by omega
theorem within_ok (x b k : Int) (h : b < 0 ∧ k = 0 ∨ 0 ≤ b ∧ k = b) : payoffref11_within.f x b = some (decide (0 ≤ x ∧ x ≤ k)) := by
  unfold payoffref11_within.f
  rcases h with ⟨h1, rfl⟩ | ⟨h1, rfl⟩
  · rw [if_pos h1]
    congr 1
    by_cases hx : x = 0
    · subst hx; rfl
    · rw [beq_eq_false_iff_ne.mpr hx, decide_eq_false (by omega)]
  · rw [if_neg (by omega)]
    by_cases hx : x ≥ 0
    · rw [if_pos hx]; congr 1; exact decide_eq_decide.mpr ⟨fun h => ⟨hx, h⟩, fun h => h.2⟩
    · rw [if_neg hx, decide_eq_false (by omega)]
theorem rvalid (x : S27) : payoffref11_Valid.f x.f0 x.f1 x.f2 = some (valid x.f0 x.f1 x.f2) := by
  obtain ⟨a, b, c⟩ := x
  unfold payoffref11_Valid.f payoffref11_row.f rowOf
  show _ = some (valid a b c)
  by_cases h : 0 ≤ a ∧ a < 29
  · obtain ⟨hA, hB⟩ := bounds_ok a.toNat (by omega)
    rw [if_pos h, Option.bind_some]
    dsimp only
    rw [if_pos rfl, within_ok b _ _ hA, Option.bind_some, within_ok c _ _ hB, Option.bind_some]
    unfold valid okB
    by_cases h1 : 0 ≤ b ∧ b ≤ (kat a.toNat).a
    · rw [decide_eq_true h1, if_pos rfl]
      by_cases h2 : 0 ≤ c ∧ c ≤ (kat a.toNat).b
      · rw [decide_eq_true h2, if_pos rfl, if_pos ⟨h.1, h.2, decide_eq_true ⟨h1.1, h1.2, h2.1, h2.2⟩⟩]
      · rw [decide_eq_false h2, if_neg (by decide), if_neg (fun g => h2 ⟨(of_decide_eq_true g.2.2).2.2.1, (of_decide_eq_true g.2.2).2.2.2⟩)]
    · rw [decide_eq_false h1, if_neg (by decide), if_neg (fun g => h1 ⟨(of_decide_eq_true g.2.2).1, (of_decide_eq_true g.2.2).2.1⟩)]
  · rw [if_neg h]
    rw [Option.bind_some]
    dsimp only
    rw [if_neg (by decide)]
    unfold valid
    rw [if_neg (fun g => h ⟨g.1, g.2.1⟩)]
theorem rv_l0 : ∀ (f n : Nat) (l : List Int), n < 128 ^ (f + 1) → n < 9223372036854775808 → l.length + f + 1 < 140737488355328 → Ev (fun k => payoffref04_Varint.l0 k (n : Int) l) (l ++ uvf f n) := by
  intro f
  induction f with
  | zero =>
    intro n l h1 h0 h2
    refine Ev.step (fun k => payoffref04_Varint.l0.eq_2 ..) (Ev.neg (by omega) (Ev.pos (by omega) (Ev.ret ?_)))
    rw [uvf_small 0 n (by omega), Int.emod_eq_of_lt (by omega) (by omega)]
  | succ f ih =>
    intro n l h1 h0 h2
    by_cases h : n < 128
    · refine Ev.step (fun k => payoffref04_Varint.l0.eq_2 ..) (Ev.neg (by omega) (Ev.pos (by omega) (Ev.ret ?_)))
      rw [uvf_small _ n h, Int.emod_eq_of_lt (by omega) (by omega)]
    · have e1 : IntKind.u64.wrap (Int.tdiv (n : Int) 128) = ((n / 128 : Nat) : Int) := by
        rw [show Int.tdiv (n : Int) 128 = ((n / 128 : Nat) : Int) from rfl]; exact wu64 ⟨by omega, by omega⟩
      have e2 : (IntKind.u64.wrap (Int.tmod (n : Int) 128 + 128)) % 256 = ((n % 128 + 128 : Nat) : Int) := by
        rw [show Int.tmod (n : Int) 128 = ((n % 128 : Nat) : Int) from rfl, wu64 ⟨by omega, by omega⟩]; omega
      have := ih (n / 128) (l ++ [((n % 128 + 128 : Nat) : Int)]) (by rw [Nat.pow_succ] at h1; omega) (by omega) (by simp; omega)
      rw [List.append_assoc, List.singleton_append] at this
      refine Ev.step (fun k => payoffref04_Varint.l0.eq_2 ..) (Ev.pos (by omega) (Ev.pos (by omega) ?_))
      rw [e1, e2]
      unfold uvf
      rw [if_neg h]
      exact this
theorem rv_f (n : Nat) (h : n < 9223372036854775808) : Ev (fun k => payoffref04_Varint.f k (IntKind.u64.wrap (n : Int))) (uv n) := by
  rw [wu64 ⟨by omega, by omega⟩]
  have := rv_l0 9 n [] (by rw [show 128 ^ (9 + 1) = 1180591620717411303424 from rfl]; omega) h (by simp)
  rw [List.nil_append] at this
  exact this
theorem bats : ∀ i : Nat, i < 29 → ((kat i).n = 0 ∧ (bat i).1 < 0 ∧ (bat i).2 < 0 ∨ (kat i).n = 1 ∧ 0 ≤ (bat i).1 ∧ (bat i).2 < 0 ∨ (kat i).n = 2 ∧ 0 ≤ (bat i).1 ∧ 0 ≤ (bat i).2) := by
  intro i hi
  have h : ((List.range 29).all fun i => decide ((kat i).n = 0 ∧ (bat i).1 < 0 ∧ (bat i).2 < 0 ∨ (kat i).n = 1 ∧ 0 ≤ (bat i).1 ∧ (bat i).2 < 0 ∨ (kat i).n = 2 ∧ 0 ≤ (bat i).1 ∧ 0 ≤ (bat i).2)) = true := by decide +kernel
  exact of_decide_eq_true (List.all_eq_true.1 h i (List.mem_range.2 hi))
theorem rencode_l0 (l : List S27) (hl : l.length ≤ 262144) : ∀ (d i : Nat) (x4 : List Int), i + d = l.length → x4.length ≤ 4 * i →
    Ev (fun k => payoffref11_Encode.l0 k l x4 (i : Int)) (if AllOk (l.drop i) then (x4 ++ enc (l.drop i), 0) else ([], 111)) := by
  intro d
  induction d with
  | zero =>
    intro i x4 hi h4
    rw [List.drop_eq_nil_of_le (by omega), if_pos (by intro x hx; cases hx), enc_nil, List.append_nil]
    exact Ev.step (fun k => payoffref11_Encode.l0.eq_2 ..) (Ev.neg (by omega) (Ev.ret rfl))
  | succ d ih =>
    intro i x4 hi h4
    have hil : i < l.length := by omega
    have hx5 : x4.length < 140737488355328 := by omega
    have hx4 : x4.length ≤ 1048576 := by omega
    have hw : wrap64 ((i : Int) + 1) = ((i + 1 : Nat) : Int) := by rw [w64 (by omega)]; omega
    rw [drop_T27 l i hil]
    refine Ev.step (fun k => payoffref11_Encode.l0.eq_2 ..) (Ev.pos (by omega) (Ev.pos (by omega) ?_))
    generalize rd_T27 l (i : Int) = x
    refine Ev.call (rvalid x) ?_
    rcases valid_two x with hv | hv
    · have hx : Ok x := hv
      rw [hv]
      refine Ev.pos rfl ?_
      have hlen := enc1_len hx
      obtain ⟨j, a, b, rfl, hj, ha, hb, hka, hkb, hf⟩ := hx.forms
      have ha9 : a < 9223372036854775808 := nat_small (Int.lt_of_le_of_lt ha hka)
      have hb9 : b < 9223372036854775808 := nat_small (Int.lt_of_le_of_lt hb hkb)
      have hrow : payoffref11_row.f ((j : Nat) : Int) = some (⟨(kat j).nm.toArray⟩, (bat j).1, (bat j).2, (kat j).t, (kat j).p, 0) := by
        unfold payoffref11_row.f rowOf
        rw [if_pos ⟨Int.natCast_nonneg j, by omega⟩, Int.toNat_natCast]
      have e0 : ((j : Nat) : Int) % 256 = (j : Int) := by omega
      have hnext := ih (i + 1) (x4 ++ enc1 ⟨j, a, b⟩) (by omega) (by rw [List.length_append]; omega)
      have hres : (if AllOk (⟨j, a, b⟩ :: l.drop (i + 1)) then (x4 ++ enc (⟨j, a, b⟩ :: l.drop (i + 1)), (0 : Int)) else ([], 111)) = (if AllOk (l.drop (i + 1)) then ((x4 ++ enc1 ⟨j, a, b⟩) ++ enc (l.drop (i + 1)), 0) else ([], 111)) := by
        by_cases hq : AllOk (l.drop (i + 1))
        · rw [if_pos hq, if_pos (AllOk.cons hx hq), enc_cons, List.append_assoc]
        · rw [if_neg hq, if_neg (fun h => hq h.tail.2)]
      rw [hres]
      rw [← hw] at hnext
      have hbt := bats j hj
      refine Ev.call hrow (Ev.pos hx5 (Ev.call rfl ?_))
      show Ev (fun k => if (bat j).1 ≥ 0 then _ else _) _
      have hra := rv_f a ha9
      have hrb := rv_f b hb9
      have l1 : (x4 ++ [((j : Nat) : Int) % 256]).length = x4.length + 1 := by rw [List.length_append]; rfl
      rcases hf with ⟨hn, -, -, he⟩ | ⟨hn, -, he, hul⟩ | ⟨hn, he, hul⟩
      · have q : (bat j).1 < 0 ∧ (bat j).2 < 0 := by rcases hbt with h | h | h <;> omega
        unfold enc1 at hnext; rw [he] at hnext
        refine Ev.neg (by omega) (Ev.neg (show ¬ (bat j).2 ≥ 0 by omega) ?_)
        rw [e0]; unfold enc1; rw [he]; exact hnext
      · have q : 0 ≤ (bat j).1 ∧ (bat j).2 < 0 := by rcases hbt with h | h | h <;> omega
        unfold enc1 at hnext; rw [he] at hnext
        refine Ev.pos q.1 (Ev.bind hra (Ev.pos (lt_of_len (congrArg (· + (uv a).length) l1) (by show x4.length + 1 + (uv a).length < 140737488355328; have := hul; have := hx4; clear hnext hres hx hv hrow hra hrb hbt; omega)) (Ev.call rfl (Ev.neg (show ¬ (bat j).2 ≥ 0 by omega) ?_))))
        rw [e0, List.append_assoc, List.singleton_append]; unfold enc1; rw [he]; exact hnext
      · have q : 0 ≤ (bat j).1 ∧ 0 ≤ (bat j).2 := by rcases hbt with h | h | h <;> omega
        unfold enc1 at hnext; rw [he] at hnext
        refine Ev.pos q.1 (Ev.bind hra (Ev.pos (lt_of_len (congrArg (· + (uv a).length) l1) (by show x4.length + 1 + (uv a).length < 140737488355328; have := hul; have := hx4; clear hnext hres hx hv hrow hra hrb hbt; omega)) (Ev.call rfl (Ev.pos q.2 (Ev.bind hrb (Ev.pos ?_ ?_))))))
        · have l2 : ((x4 ++ [((j : Nat) : Int) % 256]) ++ uv a).length = x4.length + 1 + (uv a).length := by rw [List.length_append, l1]
          exact lt_of_len (congrArg (· + (uv b).length) l2) (by show x4.length + 1 + (uv a).length + (uv b).length < 140737488355328; have := hul; have := hx4; clear hnext hres hx hv hrow hra hrb hbt; omega)
        · rw [e0, List.append_assoc, List.append_assoc, List.singleton_append]; unfold enc1; rw [he]; exact hnext
    · rw [hv, if_neg (fun h => by have := h.tail.1; unfold Ok at this; omega)]
      exact Ev.neg (by decide) (Ev.ret rfl)
/-- What both Encodes answer. -/
def encR (l : List S27) : List Int × Int := if l.length > 262144 then ([], 6) else if AllOk l then (enc l, 0) else ([], 111)
theorem rencode_all (l : List S27) : Ev (fun k => payoffref11_Encode.f k l) (encR l) := by
  unfold payoffref11_Encode.f encR
  by_cases h : l.length > 262144
  · rw [if_pos h]; exact Ev.pos (by omega) (Ev.ret rfl)
  · rw [if_neg h]
    have := rencode_l0 l (by omega) l.length 0 [] (by omega) (by simp)
    rw [List.drop_zero, List.nil_append] at this
    exact Ev.neg (by omega) this
theorem encR_len (l : List S27) : (encR l).1.length ≤ 1048576 := by
  unfold encR
  split
  · simp
  · split
    · rename_i h1 h2
      have := enc_len l h2
      show (enc l).length ≤ _
      omega
    · simp

/-! A slice of structs of three ints, as a law's argument -/
theorem rows3 {H : Type} {enc : TypeId × Value → H} {P : Program} {W : World} {base : Nat} {spare : Nat → Bool} {held : Bool} {t e ft : TypeId} {f0 f1 f2 : Field} {a : Option Addr} {len cap : Nat} {d : DataW H} {ps : List MemPlace} {ts : List TypeId} {ds : List (DataW H)} {j : Nat}
    (hsz : (DataW.weightsEach P ts ds).all (· ≤ reachBytes) = true) (ht : ts[j]? = some t) (hd : ds[j]? = some d) (hu : P.underlying t = some (.slice e)) (he : P.underlying e = some (.struct #[f0, f1, f2])) (hf : P.underlying ft = some (.int .i64))
    (hk : (P.cellsOf e == 3 && P.cellsOf ft == 1 && P.bytesOf e == 24 && f0.type == ft && f1.type == ft && f2.type == ft && f0.offset == 0 && f1.offset == 1 && f2.offset == 2) = true)
    (h : DataW.Trod enc P W base spare held t (.slice a len cap) d ps) :
    ∃ xs : List S27, len = xs.length ∧ Kd.C k27 W a xs.length xs ∧ xs.length ≤ cap ∧ len * 24 ≤ 140737488351232 ∧ ∀ x ∈ xs, (Lit.int .i64 x.f0).wf = true ∧ (Lit.int .i64 x.f1).wf = true ∧ (Lit.int .i64 x.f2).wf = true := by
  simp only [Bool.and_eq_true, beq_iff_eq] at hk
  obtain ⟨⟨⟨⟨⟨⟨⟨⟨ce, c0⟩, hB⟩, t0⟩, t1⟩, t2⟩, o0⟩, o1⟩, o2⟩ := hk
  obtain ⟨fuel, hq⟩ := h
  rcases Deep.open_slice hu hq with ⟨hcs, -⟩ | ⟨x, l, c, m, n, D, Pl, hcs, hb, hl, hm, hmm, hx, hel⟩
  · simp [Value.cells] at hcs
    obtain ⟨rfl, rfl, rfl⟩ := hcs
    exact ⟨[], rfl, ⟨rfl, by decide, fun h => absurd h (by decide)⟩, Nat.zero_le _, by omega, fun x hx => by cases hx⟩
  · simp [Value.cells] at hcs
    obtain ⟨rfl, rfl, rfl⟩ := hcs
    obtain ⟨hx, -⟩ := Prod.mk.inj hx
    have hlm : len ≤ m := by rw [hmm]; split <;> omega
    have each : ∀ i, i < m → ∃ q : Int × Int × Int, W.cell? (x.add (i * 3 + 0)) = some (.int .i64 q.1) ∧ W.cell? (x.add (i * 3 + 1)) = some (.int .i64 q.2.1) ∧ W.cell? (x.add (i * 3 + 2)) = some (.int .i64 q.2.2) ∧
        (Lit.int .i64 q.1).wf = true ∧ (Lit.int .i64 q.2.1).wf = true ∧ (Lit.int .i64 q.2.2).wf = true := by
      intro i hi
      obtain ⟨cs', h1, h2⟩ := hel i hi
      rw [ce] at h1
      obtain ⟨_, hlen, hcell⟩ := World.cells?_some h1
      obtain ⟨ys, k, hk, hxy, _, hxl, hg⟩ := DataW.trod_struct he h2
      match ys, hxl, cs', hlen with
      | [y0, y1, y2], _, [v0, v1, v2], _ =>
        have g0 := hg 0 f0 rfl
        have g1 := hg 1 f1 rfl
        have g2 := hg 2 f2 rfl
        simp [o0, o1, o2, t0, t1, t2, c0] at g0 g1 g2
        have e0 := hcell 0 (by omega)
        have e1 := hcell 1 (by omega)
        have e2 := hcell 2 (by omega)
        rw [Deep.add_add] at e0 e1 e2
        obtain ⟨p0, q0, -, w0⟩ := DataW.trod_int hf g0
        obtain ⟨p1, q1, -, w1⟩ := DataW.trod_int hf g1
        obtain ⟨p2, q2, -, w2⟩ := DataW.trod_int hf g2
        simp only [List.cons.injEq, and_true] at q0 q1 q2
        subst q0 q1 q2
        exact ⟨(p0, p1, p2), by simpa using e0, by simpa using e1, by simpa using e2, w0, w1, w2⟩
    obtain ⟨q, hq⟩ := Deep.choose_lt each
    have hz := sized_slice hsz ht (hx ▸ hd) hu
    rw [hB] at hz
    replace hz : _ ≤ 140737488351232 := hz
    simp only [List.length_map, List.length_range] at hz
    refine ⟨(List.range len).map fun i => ⟨(q i).1, (q i).2.1, (q i).2.2⟩, by simp, ⟨by simp, by simp; omega, fun _ => ⟨x, rfl, fun j p hj => ?_⟩⟩, by simpa using hl, by omega, fun p hp => ?_⟩
    · rw [List.getElem?_map] at hj
      obtain ⟨i, hi, rfl⟩ := Option.map_eq_some_iff.1 hj
      obtain ⟨hi1, hi2⟩ := List.getElem?_eq_some_iff.1 hi
      rw [List.getElem_range] at hi2
      subst hi2
      simp only [List.length_range] at hi1
      obtain ⟨a0, a1, a2, -⟩ := hq j (by omega)
      refine ⟨_, rfl, k27_mk W _, fun i u hu => ?_⟩
      match i, hu with
      | 0, hu => cases hu; exact a0
      | 1, hu => cases hu; exact a1
      | 2, hu => cases hu; exact a2
      | i + 3, hu => simp at hu
    · obtain ⟨i, hi, rfl⟩ := List.mem_map.1 hp
      exact (hq i (by have := List.mem_range.1 hi; omega)).2.2.2

theorem same_l0 (l : List Int) (hl : l.length ≤ 1000000000000000) : ∀ (d i : Nat), i + d = l.length → Ev (fun k => payofflaw11_sameBytes.l0 k l l (i : Int)) true := by
  intro d
  induction d with
  | zero => intro i h; exact Ev.step (fun k => payofflaw11_sameBytes.l0.eq_2 ..) (Ev.neg (by omega) (Ev.ret rfl))
  | succ d ih =>
    intro i h
    refine Ev.step (fun k => payofflaw11_sameBytes.l0.eq_2 ..) (Ev.pos (by omega) (Ev.pos (by omega) (Ev.pos (by omega) (Ev.pos rfl ?_))))
    rw [w64 (by omega)]
    exact ih (i + 1) (by omega)
theorem same_f (l : List Int) (hl : l.length ≤ 1000000000000000) : Ev (fun k => payofflaw11_sameBytes.f k l l) true := Ev.pos rfl (same_l0 l hl l.length 0 (by omega))

theorem samec_l0 (l : List S27) (hl : l.length ≤ 1000000000000000) : ∀ (d i : Nat), i + d = l.length → Ev (fun k => payofflaw11_sameCode.l0 k l l (i : Int)) true := by
  intro d
  induction d with
  | zero => intro i h; exact Ev.step (fun k => payofflaw11_sameCode.l0.eq_2 ..) (Ev.neg (by omega) (Ev.ret rfl))
  | succ d ih =>
    intro i h
    refine Ev.step (fun k => payofflaw11_sameCode.l0.eq_2 ..) (Ev.pos (by omega) (Ev.pos (by omega) (Ev.pos (by omega) (Ev.neg (by simp) ?_))))
    rw [w64 (by omega)]
    exact ih (i + 1) (by omega)
theorem samec_f (l : List S27) (hl : l.length ≤ 1000000000000000) : Ev (fun k => payofflaw11_sameCode.f k l l) true := Ev.pos rfl (samec_l0 l hl l.length 0 (by omega))

/-! CodeEncodes' loops -/
def sev : S27 := ⟨77, 0, 0⟩
def sevs : List S27 := [sev, sev, sev]
theorem set_at {α : Type} (a : List α) (x y : α) (t : List α) : (a ++ x :: t).set a.length y = a ++ y :: t := by
  induction a with
  | nil => rfl
  | cons b a ih => simp [ih]
theorem rd_at (a : List S27) (x : S27) (t : List S27) (i : Nat) (h : i = a.length) : rd_T27 (a ++ x :: t) (i : Int) = x := by
  subst h; unfold rd_T27; rw [Int.toNat_natCast, List.getD_eq_getElem?_getD, List.getElem?_append_right (Nat.le_refl _), Nat.sub_self]; rfl
theorem rdb_at (a : List Int) (x : Int) (t : List Int) (i : Nat) (h : i = a.length) : rd (a ++ x :: t) (i : Int) = x := by
  subst h; unfold rd; rw [Int.toNat_natCast, List.getD_eq_getElem?_getD, List.getElem?_append_right (Nat.le_refl _), Nat.sub_self]; rfl
theorem same_ev (l : List Int) (hl : l.length ≤ 1048576) : Ev (fun k => payofflaw11_sameBytes.f k l l) true := same_f l (by omega)
/-- The last loop: turned and in go over, one by one. -/
theorem enc_l5 (l : List S27) (hl : l.length ≤ 5864062014634) (x9 x11 : List Int) (h9 : x9 = x11) (hx : x11.length ≤ 1048576) : ∀ (d i : Nat), i + d = l.length →
    Ev (fun k => payofflaw11_CodeEncodes.l5 k l (l.reverse.take i ++ l.drop i ++ sevs) x9 x11 (l.reverse.take i ++ l.drop i) (i : Int)) true := by
  intro d
  induction d with
  | zero =>
    intro i hi
    have hr : l.reverse.take i ++ l.drop i = l.reverse := by rw [List.drop_eq_nil_of_le (by omega), List.append_nil, List.take_of_length_le (by simp; omega)]
    rw [hr]
    refine Ev.step (fun k => payofflaw11_CodeEncodes.l5.eq_2 ..) (Ev.neg (by omega) (Ev.pos (by omega) (Ev.pos (by simp; omega) ?_)))
    have ht : (l.reverse ++ sevs).take ((l.length : Int) : Int).toNat = l.reverse := by rw [Int.toNat_natCast, show l.length = l.reverse.length by simp, List.take_left]
    rw [ht]
    have e1 := encode_all l.reverse
    have e2 := rencode_all l.reverse
    have hb := encR_len l.reverse
    subst h9
    exact Ev.bind e1 (Ev.bind e2 (Ev.pos rfl (Ev.bind (same_ev _ hb) (Ev.pos rfl (Ev.bind (same_ev _ hx) (Ev.ret rfl))))))
  | succ d ih =>
    intro i hi
    have hil : i < l.length := by omega
    have hw1 : wrap64 ((l.length : Int) - 1) = (l.length : Int) - 1 := w64 (by omega)
    have hw2 : wrap64 ((l.length : Int) - 1 - (i : Int)) = ((l.length - 1 - i : Nat) : Int) := by rw [w64 (by omega)]; omega
    have hw3 : wrap64 ((i : Int) + 1) = ((i + 1 : Nat) : Int) := by rw [w64 (by omega)]; omega
    have hrl : (l.reverse.take i).length = i := by rw [List.length_take, List.length_reverse]; omega
    have hlen : (l.reverse.take i ++ l.drop i).length = l.length := by rw [List.length_append, hrl, List.length_drop]; omega
    refine Ev.step (fun k => payofflaw11_CodeEncodes.l5.eq_2 ..) (Ev.pos (by omega) ?_)
    rw [hw1, hw2, hw3]
    refine Ev.pos (by omega) (Ev.pos (by omega) (Ev.pos (by omega) (Ev.pos (by rw [hlen]; omega) (Ev.call rfl (Ev.pos (by rw [List.length_append, hlen]; show (i : Int) < ((l.length + 3 : Nat) : Int); omega) ?_)))))
    have hx : rd_T27 l ((l.length - 1 - i : Nat) : Int) = l.reverse[i]'(by simp; omega) := by
      unfold rd_T27; rw [Int.toNat_natCast, List.getD_eq_getElem?_getD, List.getElem?_eq_getElem (by omega), List.getElem_reverse]; rfl
    rw [hx]
    have hset : (l.reverse.take i ++ l.drop i).set ((i : Nat) : Int).toNat ⟨(l.reverse[i]'(by simp; omega)).f0, (l.reverse[i]'(by simp; omega)).f1, (l.reverse[i]'(by simp; omega)).f2⟩ = l.reverse.take (i + 1) ++ l.drop (i + 1) := by
      rw [Int.toNat_natCast, List.drop_eq_getElem_cons hil]
      conv => lhs; arg 2; rw [← hrl]
      rw [set_at, List.take_succ_eq_append_getElem (by simp; omega), List.append_assoc]; rfl
    rw [hset]
    have hrd : rd_T27 (l.reverse.take (i + 1) ++ l.drop (i + 1)) (i : Int) = l.reverse[i]'(by simp; omega) := by
      rw [List.take_succ_eq_append_getElem (by simp; omega), List.append_assoc, List.singleton_append]
      exact rd_at _ _ _ i hrl.symm
    rw [hrd]
    have hset2 : (l.reverse.take i ++ l.drop i ++ sevs).set ((i : Nat) : Int).toNat ⟨(l.reverse[i]'(by simp; omega)).f0, (l.reverse[i]'(by simp; omega)).f1, (l.reverse[i]'(by simp; omega)).f2⟩ = l.reverse.take (i + 1) ++ l.drop (i + 1) ++ sevs := by
      rw [← hset, Int.toNat_natCast, List.set_append_left _ _ (by rw [hlen]; exact hil)]
    rw [hset2]
    exact ih (i + 1) (by omega)
theorem enc_l4 (l : List S27) (hl : l.length ≤ 5864062014634) (n : Nat) (hn : n ≤ 1048576) (x7 x9 x11 x13 x19 : List Int) (x12 x20 : Int) (h9 : x9 = x11) (h7 : x7 = x13) (h19 : x19 = x11) (h20 : x20 = x12) (hx : x11.length ≤ 1048576) (hx13 : x13.length ≤ 1048576) : ∀ (d i : Nat), i + d = n + 70 →
    Ev (fun k => payofflaw11_CodeEncodes.l4 k l (l ++ sevs) (List.replicate n 238) x7 x9 x11 x12 x13 (List.replicate n 238 ++ List.replicate 70 239) x19 x20 (i : Int)) true := by
  intro d
  induction d with
  | zero =>
    intro i hi
    subst h9 h7 h19 h20
    refine Ev.step (fun k => payofflaw11_CodeEncodes.l4.eq_2 ..) (Ev.neg (by simp; omega) (Ev.pos rfl (Ev.bind (same_ev _ hx) (Ev.pos rfl (Ev.bind (same_ev _ hx) (Ev.pos rfl (Ev.bind (same_ev _ hx13) ?_)))))))
    refine Ev.step (fun k => payofflaw11_CodeEncodes.j6.eq_2 ..) (Ev.neg (by decide) (Ev.call rfl (Ev.pos (by simp; omega) ?_)))
    have := enc_l5 l hl x19 x19 rfl hx l.length 0 (by omega)
    rw [List.take_zero, List.drop_zero, List.nil_append] at this
    exact this
  | succ d ih =>
    intro i hi
    have hw3 : wrap64 ((i : Int) + 1) = ((i + 1 : Nat) : Int) := by rw [w64 (by omega)]; omega
    have hL : (List.replicate n (238 : Int)).length = n := List.length_replicate
    have hR : (List.replicate n (238 : Int) ++ List.replicate 70 239).length = n + 70 := by rw [List.length_append, hL, List.length_replicate]
    refine Ev.step (fun k => payofflaw11_CodeEncodes.l4.eq_2 ..) (Ev.pos (by rw [hR]; omega) ?_)
    rw [hw3]
    have hnext := ih (i + 1) (by omega)
    by_cases h : i < n
    · have e1 : rd (List.replicate n (238 : Int)) (i : Int) = 238 := by
        unfold rd; rw [Int.toNat_natCast, List.getD_eq_getElem?_getD, List.getElem?_replicate, if_pos h]; rfl
      have e2 : rd (List.replicate n (238 : Int) ++ List.replicate 70 239) (i : Int) = 238 := by
        unfold rd; rw [Int.toNat_natCast, List.getD_eq_getElem?_getD, List.getElem?_append_left (by rw [hL]; exact h), List.getElem?_replicate, if_pos h]; rfl
      exact Ev.pos (by rw [hL]; omega) (Ev.pos (by omega) (Ev.pos e1 (Ev.pos e2 (Ev.neg (by rw [hL]; omega) hnext))))
    · have e3 : rd (List.replicate n (238 : Int) ++ List.replicate 70 239) (i : Int) = 239 := by
        unfold rd; rw [Int.toNat_natCast, List.getD_eq_getElem?_getD, List.getElem?_append_right (by rw [hL]; omega), hL, List.getElem?_replicate, if_pos (by omega)]; rfl
      exact Ev.neg (by rw [hL]; omega) (Ev.pos (by rw [hL]; omega) (Ev.pos (by omega) (Ev.pos e3 hnext)))
theorem take_len {α : Type} (a b : List α) : (a ++ b).take ((a.length : Nat) : Int).toNat = a := by rw [Int.toNat_natCast, List.take_left]
theorem enc_l3 (l : List S27) (hl : l.length ≤ 5864062014634) (n : Nat) (hn : n ≤ 1048576) (x7 x9 x11 x13 : List Int) (x12 : Int) (h9 : x9 = x11) (h7 : x7 = x13) (h11 : (x11, x12) = encR l) (hx13 : x13.length ≤ 1048576) : ∀ (d i : Nat), i + d = 70 →
    Ev (fun k => payofflaw11_CodeEncodes.l3 k l (l ++ sevs) (List.replicate n 238) x7 x9 x11 x12 x13 (List.replicate n 238 ++ List.replicate i 239) (i : Int)) true := by
  intro d
  have hx : x11.length ≤ 1048576 := by have := encR_len l; rw [← h11] at this; exact this
  induction d with
  | zero =>
    intro i hi
    obtain rfl : i = 70 := by omega
    refine Ev.step (fun k => payofflaw11_CodeEncodes.l3.eq_2 ..) (Ev.neg (by decide) (Ev.pos (by omega) (Ev.pos (by rw [List.length_append]; omega) ?_)))
    rw [take_len]
    have e1 := encode_all l
    change Ev _ (encR l) at e1
    rw [← h11] at e1
    exact Ev.bind e1 (enc_l4 l hl n hn x7 x9 x11 x13 x11 x12 x12 h9 h7 rfl rfl hx hx13 (n + 70) 0 (by omega))
  | succ d ih =>
    intro i hi
    have hw3 : wrap64 ((i : Int) + 1) = ((i + 1 : Nat) : Int) := by rw [w64 (by omega)]; omega
    refine Ev.step (fun k => payofflaw11_CodeEncodes.l3.eq_2 ..) (Ev.pos (by omega) (Ev.pos (by simp; omega) ?_))
    rw [hw3, List.append_assoc, ← List.replicate_succ']
    exact ih (i + 1) (by omega)
theorem enc_l2 (l : List S27) (hl : l.length ≤ 5864062014634) (x7 x9 x11 x13 : List Int) (x12 : Int) (h9 : x9 = x11) (h7 : x7 = x13) (h11 : (x11, x12) = encR l) (hx13 : x13.length ≤ 1048576) : ∀ (t : List Int) (i : Nat), i + t.length ≤ 1048576 →
    Ev (fun k => payofflaw11_CodeEncodes.l2 k l (l ++ sevs) (List.replicate i 238 ++ t) x7 x9 x11 x12 x13 (i : Int)) true := by
  intro t
  induction t with
  | nil =>
    intro i hi
    rw [List.append_nil]
    refine Ev.step (fun k => payofflaw11_CodeEncodes.l2.eq_2 ..) (Ev.neg (by simp) (Ev.call rfl (Ev.pos (by simp; simp at hi; omega) ?_)))
    have := enc_l3 l hl i (by simp at hi; omega) x7 x9 x11 x13 x12 h9 h7 h11 hx13 70 0 (by omega)
    rw [List.replicate_zero, List.append_nil] at this
    exact this
  | cons b t ih =>
    intro i hi
    rw [List.length_cons] at hi
    have hw3 : wrap64 ((i : Int) + 1) = ((i + 1 : Nat) : Int) := by rw [w64 (by omega)]; omega
    have hrl : (List.replicate i (238 : Int)).length = i := List.length_replicate
    have hset : (List.replicate i (238 : Int) ++ b :: t).set ((i : Nat) : Int).toNat 238 = List.replicate (i + 1) 238 ++ t := by
      rw [Int.toNat_natCast]
      conv => lhs; arg 2; rw [← hrl]
      rw [set_at, List.replicate_succ', List.append_assoc]; rfl
    refine Ev.step (fun k => payofflaw11_CodeEncodes.l2.eq_2 ..) (Ev.pos (by rw [List.length_append, hrl, List.length_cons]; omega) (Ev.pos (by omega) ?_))
    rw [hw3, hset]
    exact ih (i + 1) (by omega)
theorem enc_l1 (l : List S27) (hl : l.length ≤ 5864062014634) (x5 x7 x9 x11 x13 : List Int) (x12 : Int) (h5 : x5.length ≤ 1048576) (h9 : x9 = x11) (h7 : x7 = x13) (h11 : (x11, x12) = encR l) (hx13 : x13.length ≤ 1048576) : ∀ (d i : Nat), i + d = 3 →
    Ev (fun k => payofflaw11_CodeEncodes.l1 k l (l ++ sevs) x5 x7 x9 x11 x12 x13 ((l.length + i : Nat) : Int)) true := by
  intro d
  have hlen : (l ++ sevs).length = l.length + 3 := by rw [List.length_append]; rfl
  induction d with
  | zero =>
    intro i hi
    refine Ev.step (fun k => payofflaw11_CodeEncodes.l1.eq_2 ..) (Ev.neg (by rw [hlen]; omega) ?_)
    exact enc_l2 l hl x7 x9 x11 x13 x12 h9 h7 h11 hx13 x5 0 (by omega)
  | succ d ih =>
    intro i hi
    have hw3 : wrap64 (((l.length + i : Nat) : Int) + 1) = ((l.length + (i + 1) : Nat) : Int) := by rw [w64 (by omega)]; omega
    have hrd : rd_T27 (l ++ sevs) ((l.length + i : Nat) : Int) = sev := by
      unfold rd_T27
      rw [Int.toNat_natCast, List.getD_eq_getElem?_getD, List.getElem?_append_right (by omega), show l.length + i - l.length = i by omega]
      rcases (show i = 0 ∨ i = 1 ∨ i = 2 by omega) with rfl | rfl | rfl <;> rfl
    refine Ev.step (fun k => payofflaw11_CodeEncodes.l1.eq_2 ..) (Ev.pos (by rw [hlen]; omega) (Ev.pos (by omega) (Ev.neg (by rw [hrd]; decide) ?_)))
    rw [hw3]
    exact ih (i + 1) (by omega)
theorem enc_l0 (l : List S27) (hl : l.length ≤ 5864062014634) : ∀ (d i : Nat), i + d = 3 →
    Ev (fun k => payofflaw11_CodeEncodes.l0 k l (l ++ (List.replicate i sev ++ List.replicate d z27)) ((l.length + i : Nat) : Int)) true := by
  intro d
  induction d with
  | zero =>
    intro i hi
    obtain rfl : i = 3 := by omega
    have hs : l ++ (List.replicate 3 sev ++ List.replicate 0 z27) = l ++ sevs := rfl
    rw [hs]
    have hlen : (l ++ sevs).length = l.length + 3 := by rw [List.length_append]; rfl
    refine Ev.step (fun k => payofflaw11_CodeEncodes.l0.eq_2 ..) (Ev.neg (by rw [hlen]; omega) (Ev.pos (by omega) (Ev.pos (by rw [hlen]; omega) ?_)))
    rw [take_len]
    have e1 := encode_all l
    change Ev _ (encR l) at e1
    have e2 := rencode_all l
    have f1 := encode_all [(⟨12, 0, 0⟩ : S27), ⟨0, 0, 0⟩]
    change Ev _ (encR [(⟨12, 0, 0⟩ : S27), ⟨0, 0, 0⟩]) at f1
    have f2 := rencode_all [(⟨12, 0, 0⟩ : S27), ⟨0, 0, 0⟩]
    have hb := encR_len l
    have hb2 := encR_len [(⟨12, 0, 0⟩ : S27), ⟨0, 0, 0⟩]
    have hsame := samec_f l (by omega)
    refine Ev.bind e1 (Ev.bind f1 (Ev.bind e1 (Ev.bind e2 (Ev.bind f2 (Ev.pos rfl (Ev.bind (same_ev _ hb) (Ev.pos rfl (Ev.bind (same_ev _ hb) (Ev.pos rfl (Ev.bind (same_ev _ hb2) (Ev.pos rfl (Ev.bind hsame ?_))))))))))))
    refine Ev.step (fun k => payofflaw11_CodeEncodes.j1.eq_2 ..) (Ev.neg (by decide) ?_)
    exact enc_l1 l hl (encR l).1 _ (encR l).1 (encR l).1 _ (encR l).2 hb rfl rfl rfl hb2 3 0 (by omega)
  | succ d ih =>
    intro i hi
    have hw3 : wrap64 (((l.length + i : Nat) : Int) + 1) = ((l.length + (i + 1) : Nat) : Int) := by rw [w64 (by omega)]; omega
    have hpre : (l ++ List.replicate i sev).length = l.length + i := by rw [List.length_append, List.length_replicate]
    have hset : (l ++ (List.replicate i sev ++ List.replicate (d + 1) z27)).set ((l.length + i : Nat) : Int).toNat (⟨77, 0, 0⟩ : S27) = l ++ (List.replicate (i + 1) sev ++ List.replicate d z27) := by
      rw [Int.toNat_natCast, List.replicate_succ, ← List.append_assoc]
      conv => lhs; arg 2; rw [← hpre]
      rw [set_at, List.replicate_succ', List.append_assoc, List.append_assoc]; rfl
    refine Ev.step (fun k => payofflaw11_CodeEncodes.l0.eq_2 ..) (Ev.pos (by simp; omega) (Ev.pos (by omega) ?_))
    rw [hw3, hset]
    exact ih (i + 1) (by omega)
theorem encodes_all (l : List S27) (hl : l.length ≤ 5864062014634) : Ev (fun k => payofflaw11_CodeEncodes.f k l) true := by
  unfold payofflaw11_CodeEncodes.f
  have hw : wrap64 ((l.length : Int) + 3) = ((l.length + 3 : Nat) : Int) := by rw [w64 (by omega)]; omega
  rw [hw, Int.toNat_natCast]
  refine Ev.pos (by omega) (Ev.pos (by omega) ?_)
  rw [List.drop_replicate, show l.length + 3 - l.length = 3 by omega]
  exact enc_l0 l hl 3 0 (by omega)

theorem CodeEncodes_walk (A0 : Option Addr) (n c0 : Nat) (l0 : List S27) (w : World) (hn : n = l0.length) (hr0 : Kd.C k27 w A0 l0.length l0) (hc0 : l0.length ≤ c0) (hy : n * 24 ≤ 140737488351232)
    (_hw : ∀ x ∈ l0, (Lit.int .i64 x.f0).wf = true ∧ (Lit.int .i64 x.f1).wf = true ∧ (Lit.int .i64 x.f2).wf = true) (hL : (∃ t fr, w.heap[0]? = some (.cells kA t fr)) ∧ ∃ t fr, w.heap[1]? = some (.cells tA t fr)) :
    Calls Tryd.prog 7 #[.slice A0 n c0] w fun e w' => e = .returned (.bool true) ∧ Below w.heap.size w w' := by
  subst hn
  obtain ⟨k, h⟩ := (encodes_all l0 (by omega)).rounds
  exact payofflaw11_CodeEncodes.calls k A0 c0 l0 true w hr0 hc0 h hL
end Go.Proofs.YtknlcpojglhbnaaDoor.Pure
