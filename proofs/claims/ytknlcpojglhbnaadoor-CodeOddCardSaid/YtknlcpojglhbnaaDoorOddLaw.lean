/- Own text: CodeOdd: one instruction that is not valid makes a list refused, wherever it stands, and one that is valid is read back; no condition but that the program's table stands and the arguments fit the memory. -/
import Derived.Test.YtknlcpojglhbnaaDoorQCodeOddx4
import Derived.Test.YtknlcpojglhbnaaDoorQCodeOddx5
import Derived.Test.YtknlcpojglhbnaaDoorNames
import Derived.Laws.BitsLemmas
import Derived.SizedLaws
import Derived.Deep.Slices
namespace Go.Proofs.YtknlcpojglhbnaaDoor.Pure
open Go.RowKit Go.ChangeShapes Go.WideShapes Go.Proofs.YtknlcpojglhbnaaDoor.PCodeOdd Go.Proofs.YtknlcpojglhbnaaDoorW.PrintWords Go.Proofs.YtknlcpojglhbnaaDoorW.PrintLast Go.Proofs.YtknlcpojglhbnaaDoorW.PrintMore
set_option linter.unusedVariables false
set_option linter.unusedSimpArgs false
/-! Rounds: an answer that stands from some number of rounds on -/
theorem Ev.pos {α : Type} {c : Prop} [Decidable c] {a b : Nat → Option α} {r : α} (h : c) (k : Ev a r) : Ev (fun n => if c then a n else b n) r := by
  simpa only [if_pos h] using k
theorem Ev.neg {α : Type} {c : Prop} [Decidable c] {a b : Nat → Option α} {r : α} (h : ¬c) (k : Ev b r) : Ev (fun n => if c then a n else b n) r := by
  simpa only [if_neg h] using k
/-- A call without rounds. -/
theorem Ev.call {α β : Type} {x : Option α} {f : Nat → α → Option β} {a : α} {r : β} (h : x = some a) (k : Ev (fun n => f n a) r) : Ev (fun n => x.bind (f n)) r := by
  subst h; simpa only [Option.bind_some] using k
theorem Ev.ret {α : Type} {r s : α} (h : s = r) : Ev (fun _ => some s) r := ⟨0, fun _ _ => by rw [h]⟩
theorem w64 {n : Int} (h : -9223372036854775808 ≤ n ∧ n ≤ 9223372036854775807) : wrap64 n = n := by unfold wrap64; omega
theorem wu64 {n : Int} (h : 0 ≤ n ∧ n ≤ 18446744073709551615) : IntKind.u64.wrap n = n := by
  simp only [IntKind.wrap, IntKind.bits, IntKind.signed]; simp; omega
theorem wf64 {a : Int} (h : (Lit.int .i64 a).wf = true) : -9223372036854775808 ≤ a ∧ a ≤ 9223372036854775807 := by
  simp only [Lit.wf, IntKind.min, IntKind.max, IntKind.signed, IntKind.bits, Bool.and_eq_true, decide_eq_true_eq, if_true] at h
  omega
theorem wfu64 {a : Int} (h : (Lit.int .u64 a).wf = true) : 0 ≤ a ∧ a ≤ 18446744073709551615 := by
  simp only [Lit.wf, IntKind.min, IntKind.max, IntKind.signed, IntKind.bits, Bool.and_eq_true, decide_eq_true_eq] at h
  simp at h
  omega
theorem wf8 {a : Int} (h : (Lit.int .u8 a).wf = true) : 0 ≤ a ∧ a ≤ 255 := by
  simp only [Lit.wf, IntKind.min, IntKind.max, IntKind.signed, IntKind.bits, Bool.and_eq_true, decide_eq_true_eq] at h
  simp at h
  omega

/-! Bits of 64 -/
theorem wrap_u64 (n : Int) : IntKind.u64.wrap n = n % 18446744073709551616 := by simp [IntKind.wrap, IntKind.bits, IntKind.signed]
theorem wraps_u64 (n : Int) (h₀ : 0 ≤ n) (h₁ : n < 2 ^ 64) : IntKind.u64.wrap n = n := by
  rw [wrap_u64]; rw [show (2 : Int) ^ 64 = 18446744073709551616 from rfl] at h₁; omega
theorem and_mask (i : Nat) (hi : i ≤ 64) (x m : Int) (hm : m = 2 ^ i - 1) (h0 : 0 ≤ x) (h1 : x < 18446744073709551616) : Go.bits .and .u64 x m = x % 2 ^ i := by
  rw [hm]; exact bits_mask .u64 64 (by decide) wraps_u64 i hi x h0 h1
theorem and_one (x : Int) (h0 : 0 ≤ x) (h1 : x < 18446744073709551616) : Go.bits .and .u64 x 1 = x % 2 := and_mask 1 (by decide) x 1 (by decide) h0 h1
theorem and_half (x : Int) (h0 : 0 ≤ x) (h1 : x < 18446744073709551616) : Go.bits .and .u64 x 4294967295 = x % 4294967296 := and_mask 32 (by decide) x 4294967295 (by decide) h0 h1
theorem or_join (i : Nat) (x y : Int) (hx0 : 0 ≤ x) (hx : x % 2 ^ i = 0) (hx1 : x < 18446744073709551616) (hy0 : 0 ≤ y) (hy : y < 2 ^ i) (hy1 : y < 18446744073709551616) : Go.bits .or .u64 x y = x + y :=
  bits_join .u64 64 (by decide) wraps_u64 i x y hx0 hx hx1 hy0 hy hy1
theorem shl_one (i : Nat) (hi : i ≤ 63) : shl .u64 1 (i : Int) = 2 ^ i := by
  unfold shl
  rw [Int.toNat_natCast, show IntKind.u64.bits = 64 from rfl, Nat.min_eq_left (by omega), Int.one_mul]
  refine wraps_u64 _ (Int.le_of_lt (Int.pow_pos (by decide))) ?_
  have := Nat.pow_lt_pow_right (show 1 < 2 by decide) (show i < 64 by omega)
  exact_mod_cast this
theorem shr_nat (x : Int) (i : Nat) (hi : i ≤ 63) : shr .u64 x (i : Int) = x / 2 ^ i := by
  unfold shr
  rw [Int.toNat_natCast, show IntKind.u64.bits = 64 from rfl, Nat.min_eq_left (by omega)]
theorem pow2_pos (n : Nat) : (0 : Int) < 2 ^ n := Int.pow_pos (by decide)
theorem pow2_le {m n : Nat} (h : m ≤ n) : (2 : Int) ^ m ≤ 2 ^ n := by
  have := Nat.pow_le_pow_right (show 2 > 0 by decide) h
  exact_mod_cast this

/-! Varints: what AppendUint writes, what varint reads -/
theorem or128 (n : Nat) (hn : n < 256) : Go.bits .or .u8 (n : Int) 128 = ((n % 128 + 128 : Nat) : Int) := by
  have h : ((List.range 256).all fun n => Go.bits .or .u8 (n : Int) 128 == ((n % 128 + 128 : Nat) : Int)) = true := by kernel_rfl
  exact beq_iff_eq.mp (List.all_eq_true.1 h n (List.mem_range.2 hn))
theorem and127 (n : Nat) (hn : n < 256) : Go.bits .and .u8 (n : Int) 127 = ((n % 128 : Nat) : Int) := by
  have h : ((List.range 256).all fun n => Go.bits .and .u8 (n : Int) 127 == ((n % 128 : Nat) : Int)) = true := by kernel_rfl
  exact beq_iff_eq.mp (List.all_eq_true.1 h n (List.mem_range.2 hn))
/-- The bytes of a number below 128 ^ (f + 1). -/
def uvf : Nat → Nat → List Int
  | 0, n => [(n : Int)]
  | f + 1, n => if n < 128 then [(n : Int)] else ((n % 128 + 128 : Nat) : Int) :: uvf f (n / 128)
def uv (n : Nat) : List Int := uvf 9 n
theorem uvf_ne (f n : Nat) : uvf f n ≠ [] := by cases f <;> unfold uvf <;> (try split) <;> simp
theorem uvf_pos (f n : Nat) : 0 < (uvf f n).length := List.length_pos_iff.2 (uvf_ne f n)
theorem uvf_small (f n : Nat) (h : n < 128) : uvf f n = [(n : Int)] := by cases f <;> unfold uvf <;> simp [h]
theorem uvf_len : ∀ (j f n : Nat), n < 128 ^ (j + 1) → (uvf f n).length ≤ j + 1 := by
  intro j
  induction j with
  | zero => intro f n h; rw [uvf_small f n (by omega)]; simp
  | succ j ih =>
    intro f n h
    cases f with
    | zero => unfold uvf; simp
    | succ f =>
      unfold uvf
      split
      · simp
      · rw [List.length_cons]
        have := ih f (n / 128) (by rw [Nat.pow_succ] at h; omega)
        omega
theorem au_uv : ∀ (f n : Nat) (l : List Int), n < 128 ^ (f + 1) → l.length + f + 1 < 140737488355328 → Ev (fun k => octet_AppendUint.l0 k l (n : Int)) (l ++ uvf f n) := by
  intro f
  induction f with
  | zero =>
    intro n l h1 h2
    refine Ev.step (fun k => octet_AppendUint.l0.eq_2 ..) (Ev.neg (by omega) (Ev.pos (by omega) (Ev.ret ?_)))
    rw [uvf_small 0 n (by omega), Int.emod_eq_of_lt (by omega) (by omega)]
  | succ f ih =>
    intro n l h1 h2
    by_cases h : n < 128
    · refine Ev.step (fun k => octet_AppendUint.l0.eq_2 ..) (Ev.neg (by omega) (Ev.pos (by omega) (Ev.ret ?_)))
      rw [uvf_small _ n h, Int.emod_eq_of_lt (by omega) (by omega)]
    · have e : Go.bits .or .u8 ((n : Int) % 256) 128 = ((n % 128 + 128 : Nat) : Int) := by
        have := or128 (n % 256) (by omega)
        rw [show ((n : Int) % 256) = ((n % 256 : Nat) : Int) by omega, this]; omega
      have e2 : (n : Int) / 128 = ((n / 128 : Nat) : Int) := by omega
      have := ih (n / 128) (l ++ [((n % 128 + 128 : Nat) : Int)]) (by rw [Nat.pow_succ] at h1; omega) (by simp; omega)
      rw [List.append_assoc, List.singleton_append] at this
      refine Ev.step (fun k => octet_AppendUint.l0.eq_2 ..) (Ev.pos (by omega) (Ev.pos (by omega) ?_))
      rw [e, e2]
      unfold uvf
      rw [if_neg h]
      exact this
theorem au_f (x : Int) (l : List Int) (h0 : 0 ≤ x) (h1 : x < 9223372036854775808) (h2 : l.length < 140737488355000) : Ev (fun k => octet_AppendUint.f k l (IntKind.u64.wrap x)) (l ++ uv x.toNat) := by
  obtain ⟨n, rfl⟩ := Int.eq_ofNat_of_zero_le h0
  rw [wu64 ⟨by omega, by omega⟩]
  exact au_uv 9 n l (by rw [show 128 ^ (9 + 1) = 1180591620717411303424 from rfl]; omega) (by omega)
/-- What varint answers from byte i on, x so far. -/
def vr : Nat → Int → List Int → Int × Int × Int
  | i, _, [] => (0, 0, if i < 10 then 41 else 42)
  | i, x, b :: t => if i < 10 then (if b > 127 then vr (i + 1) (x + (b - 128) * 128 ^ i) t else if (0 < i ∧ b = 0) ∨ (i = 9 ∧ b > 1) then (0, 0, 42) else (x + b * 128 ^ i, (i : Int) + 1, 0)) else (0, 0, 42)
theorem vr10 (x : Int) (l : List Int) : vr 10 x l = (0, 0, 42) := by cases l <;> simp [vr]
theorem bits_or_comm (x y : Int) (hx : 0 ≤ x) (hy : 0 ≤ y) (hy1 : y < 18446744073709551616) (i : Nat) (hi : y % 2 ^ i = 0) (hx1 : x < 2 ^ i) (hx2 : x < 18446744073709551616) : Go.bits .or .u64 x y = x + y := by
  have h := or_join i y x hy hi hy1 hx hx1 hx2
  rw [Int.add_comm, ← h]
  obtain ⟨a, rfl⟩ := Int.eq_ofNat_of_zero_le hx
  obtain ⟨b, rfl⟩ := Int.eq_ofNat_of_zero_le hy
  simp [Go.bits]
  rw [Nat.or_comm]
theorem pow128 (i : Nat) : (128 : Int) ^ i = 2 ^ (7 * i) := by rw [Int.pow_mul]; rfl
theorem or_next (i : Nat) (hi : i ≤ 9) (x c : Int) (hx : 0 ≤ x) (hx1 : x < 128 ^ i) (hc : 0 ≤ c) (hc1 : c < 128) (h9 : i = 9 → c ≤ 1) :
    Go.bits .or .u64 x (shl .u64 c (7 * (i : Int))) = x + c * 128 ^ i := by
  have hp : (128 : Int) ^ i ≤ 9223372036854775808 := by
    have : ∀ j : Nat, j ≤ 9 → (128 : Int) ^ j ≤ 9223372036854775808 := by decide
    exact this i hi
  have hp0 : (0 : Int) < 128 ^ i := Int.pow_pos (by decide)
  have hcp : c * 128 ^ i < 18446744073709551616 := by
    by_cases h : i = 9
    · subst h; have := h9 rfl; rw [show (128 : Int) ^ 9 = 9223372036854775808 by decide]; omega
    · have : ∀ j : Nat, j ≤ 8 → (128 : Int) ^ j ≤ 72057594037927936 := by decide
      have h8 := this i (by omega)
      have := Int.mul_le_mul (show c ≤ 127 by omega) h8 (by omega) (by omega)
      omega
  have hcp0 : 0 ≤ c * 128 ^ i := Int.mul_nonneg hc (by omega)
  have hs : shl .u64 c (7 * (i : Int)) = c * 128 ^ i := by
    unfold shl
    rw [show (7 * (i : Int)).toNat = 7 * i by omega, show IntKind.u64.bits = 64 from rfl, Nat.min_eq_left (by omega), ← pow128]
    exact wu64 ⟨hcp0, by omega⟩
  rw [hs]
  refine bits_or_comm x _ hx hcp0 hcp (7 * i) ?_ (by rw [← pow128]; exact hx1) (by omega)
  rw [← pow128]; exact Int.mul_emod_left _ _
def Bytes (l : List Int) : Prop := ∀ b ∈ l, 0 ≤ b ∧ b < 256
theorem Bytes.drop {l : List Int} (h : Bytes l) (n : Nat) : Bytes (l.drop n) := fun b hb => h b (List.mem_of_mem_drop hb)
theorem mn_eq (a b : Nat) : mn (a : Int) (b : Int) = ((min a b : Nat) : Int) := by unfold mn; split <;> omega
theorem drop_rd (l : List Int) (i : Nat) (h : i < l.length) : l.drop i = rd l (i : Int) :: l.drop (i + 1) := by
  rw [List.drop_eq_getElem_cons h]; unfold rd; rw [Int.toNat_natCast, List.getD_eq_getElem?_getD, List.getElem?_eq_getElem h]; rfl
theorem rd_byte {l : List Int} (hb : Bytes l) (i : Nat) (h : i < l.length) : 0 ≤ rd l (i : Int) ∧ rd l (i : Int) < 256 := by
  refine hb _ ?_
  unfold rd; rw [Int.toNat_natCast, List.getD_eq_getElem?_getD, List.getElem?_eq_getElem h]; exact List.getElem_mem h
theorem varint_l0 (bs : List Int) (hb : Bytes bs) (hl : bs.length < 9000000000000000000) : ∀ (d e i : Nat) (x : Int), i + d = min bs.length 10 → (i ≤ 9 → 0 ≤ x ∧ x < 128 ^ i) →
    octet_varint.l0 (d + 1 + e) bs x ((min bs.length 10 : Nat) : Int) (i : Int) = some (vr i x (bs.drop i)) := by
  intro d
  induction d with
  | zero =>
    intro e i x hi hx
    rw [show 0 + 1 + e = e + 1 by omega, octet_varint.l0.eq_2, if_neg (by omega)]
    by_cases h : bs.length < 10
    · rw [if_pos (by omega), List.drop_eq_nil_of_le (by omega)]
      unfold vr; rw [if_pos (by omega)]
    · rw [if_neg (by omega), show i = 10 by omega, vr10]
  | succ d ih =>
    intro e i x hi hx
    have hi9 : i ≤ 9 := by omega
    have hil : i < bs.length := by omega
    obtain ⟨hx0, hx1⟩ := hx hi9
    have hbi := rd_byte hb i hil
    rw [show d + 1 + 1 + e = (d + 1 + e) + 1 by omega, octet_varint.l0.eq_2, if_pos (by omega), if_pos (by omega), if_pos (by omega), if_pos (by rw [w64 (by omega)]; omega)]
    rw [drop_rd bs i hil]
    generalize hg : rd bs (i : Int) = b at *
    obtain ⟨c, rfl⟩ := Int.eq_ofNat_of_zero_le hbi.1
    have hc : c < 256 := by omega
    rw [and127 c hc, wu64 ⟨by omega, by omega⟩, w64 (show -9223372036854775808 ≤ 7 * (i : Int) ∧ 7 * (i : Int) ≤ 9223372036854775807 by omega), w64 (show -9223372036854775808 ≤ (i : Int) + 1 ∧ (i : Int) + 1 ≤ 9223372036854775807 by omega)]
    unfold vr
    rw [if_pos (show i < 10 by omega)]
    by_cases h1 : c > 127
    · rw [if_pos (show ((c : Nat) : Int) > 127 by omega), if_pos (show ((c : Nat) : Int) > 127 by omega)]
      have e1 : (i : Int) + 1 = ((i + 1 : Nat) : Int) := by omega
      rw [e1]
      by_cases h9 : i = 9
      · subst h9
        rw [ih e (9 + 1) _ (by omega) (by omega), vr10, vr10]
      · have e2 : ((c % 128 : Nat) : Int) = (c : Int) - 128 := by omega
        have hp0 : (0 : Int) < 128 ^ i := Int.pow_pos (by decide)
        rw [e2, or_next i hi9 x _ hx0 hx1 (by omega) (by omega) (by omega)]
        rw [ih e (i + 1) _ (by omega) (fun _ => ?_)]
        have a1 : 0 ≤ ((c : Int) - 128) * 128 ^ i := Int.mul_nonneg (by omega) (by omega)
        have a2 : ((c : Int) - 128) * 128 ^ i ≤ 127 * 128 ^ i := Int.mul_le_mul_of_nonneg_right (by omega) (by omega)
        rw [Int.pow_succ]
        omega
    · rw [if_neg (show ¬ ((c : Nat) : Int) > 127 by omega), if_neg (show ¬ ((c : Nat) : Int) > 127 by omega)]
      have e2 : ((c % 128 : Nat) : Int) = (c : Int) := by omega
      rw [e2]
      by_cases h0 : i > 0
      · rw [if_pos (show (i : Int) > 0 by omega)]
        by_cases hc0 : c = 0
        · rw [if_pos (show (c : Int) = 0 by omega), if_pos (.inl ⟨h0, by omega⟩)]
        · rw [if_neg (show ¬ (c : Int) = 0 by omega)]
          by_cases h9 : i = 9
          · rw [if_pos (show (i : Int) = 9 by omega)]
            by_cases hc1 : c > 1
            · rw [if_pos (show (c : Int) > 1 by omega), if_pos (.inr ⟨h9, by omega⟩)]
            · rw [if_neg (show ¬ (c : Int) > 1 by omega), if_neg (by omega), or_next i hi9 x _ hx0 hx1 (by omega) (by omega) (by omega)]
          · rw [if_neg (show ¬ (i : Int) = 9 by omega), if_neg (by omega), or_next i hi9 x _ hx0 hx1 (by omega) (by omega) (by omega)]
      · rw [if_neg (show ¬ (i : Int) > 0 by omega), if_neg (show ¬ (i : Int) = 9 by omega), if_neg (by omega), or_next i hi9 x _ hx0 hx1 (by omega) (by omega) (by omega)]
theorem varint_f (bs : List Int) (hb : Bytes bs) (hl : bs.length < 9000000000000000000) : octet_varint.f 16 bs = some (vr 0 0 bs) := by
  have h := varint_l0 bs hb hl (min bs.length 10) (15 - min bs.length 10) 0 0 (by omega) (by intro _; simp)
  unfold octet_varint.f
  rw [show (10 : Int) = ((10 : Nat) : Int) from rfl, mn_eq]
  rw [show min bs.length 10 + 1 + (15 - min bs.length 10) = 16 by omega] at h
  exact h
theorem vr_uv : ∀ (f n i : Nat) (x : Int) (rest : List Int), n < 128 ^ (f + 1) → i + f ≤ 9 → (0 < i → 0 < n) → (n : Int) * 128 ^ i < 18446744073709551616 →
    vr i x (uvf f n ++ rest) = (x + n * 128 ^ i, (i : Int) + (uvf f n).length, 0) := by
  intro f
  have last : ∀ (f n i : Nat) (x : Int) (rest : List Int), n < 128 → i ≤ 9 → (0 < i → 0 < n) → (n : Int) * 128 ^ i < 18446744073709551616 → vr i x (uvf f n ++ rest) = (x + n * 128 ^ i, (i : Int) + (uvf f n).length, 0) := by
    intro f n i x rest h1 h2 h3 h4
    rw [uvf_small f n h1, List.singleton_append]
    unfold vr
    rw [if_pos (by omega), if_neg (by omega), if_neg]
    · simp
    · rintro (⟨a, b⟩ | ⟨a, b⟩)
      · have := h3 a; omega
      · subst a
        have : (2 : Int) * 128 ^ 9 ≤ n * 128 ^ 9 := Int.mul_le_mul_of_nonneg_right (by omega) (by decide)
        rw [show (2 : Int) * 128 ^ 9 = 18446744073709551616 by decide] at this
        omega
  induction f with
  | zero => intro n i x rest h1 h2 h3 h4; exact last 0 n i x rest (by omega) (by omega) h3 h4
  | succ f ih =>
    intro n i x rest h1 h2 h3 h4
    by_cases h : n < 128
    · exact last _ n i x rest h (by omega) h3 h4
    · unfold uvf
      rw [if_neg h, List.cons_append]
      unfold vr
      rw [if_pos (by omega), if_pos (by omega)]
      have hp0 : (0 : Int) < 128 ^ i := Int.pow_pos (by decide)
      have en : (n : Int) * 128 ^ i = ((n % 128 : Nat) : Int) * 128 ^ i + ((n / 128 : Nat) : Int) * 128 ^ (i + 1) := by
        rw [Int.pow_succ, Int.mul_comm (128 ^ i) 128, ← Int.mul_assoc, ← Int.add_mul]
        congr 1; omega
      have a1 : 0 ≤ ((n % 128 : Nat) : Int) * 128 ^ i := Int.mul_nonneg (by omega) (by omega)
      rw [ih (n / 128) (i + 1) _ rest (by rw [Nat.pow_succ] at h1; omega) (by omega) (by omega) (by omega)]
      have e3 : ((n % 128 + 128 : Nat) : Int) - 128 = ((n % 128 : Nat) : Int) := by omega
      rw [e3, en, List.length_cons]
      refine Prod.ext ?_ (Prod.ext ?_ rfl)
      · show _ = _; omega
      · show _ = _; push_cast; omega
theorem vr_cut : ∀ (f n i : Nat) (x : Int) (pre suf : List Int), uvf f n = pre ++ suf → suf ≠ [] → i + f ≤ 9 → vr i x pre = (0, 0, 41) := by
  intro f
  induction f with
  | zero =>
    intro n i x pre suf h hs hi
    cases pre with
    | nil => unfold vr; rw [if_pos (by omega)]
    | cons a t => unfold uvf at h; have := congrArg List.length h; rw [List.length_append, List.length_cons, List.length_cons, List.length_nil] at this; exact absurd (List.eq_nil_of_length_eq_zero (by omega)) hs
  | succ f ih =>
    intro n i x pre suf h hs hi
    cases pre with
    | nil => unfold vr; rw [if_pos (by omega)]
    | cons a t =>
      unfold uvf at h
      split at h
      · have := congrArg List.length h; rw [List.length_append, List.length_cons, List.length_cons, List.length_nil] at this; exact absurd (List.eq_nil_of_length_eq_zero (by omega)) hs
      · rw [List.cons_append] at h
        injection h with h1 h2
        unfold vr
        rw [if_pos (by omega), if_pos (by rw [← h1]; omega)]
        exact ih _ _ _ t suf h2 hs (by omega)
theorem vr_inv : ∀ (bs : List Int) (i : Nat) (x y m : Int), Bytes bs → vr i x bs = (y, m, 0) →
    ∃ n : Nat, bs = uvf (9 - i) n ++ bs.drop (uvf (9 - i) n).length ∧ m = i + (uvf (9 - i) n).length ∧ y = x + n * 128 ^ i ∧ (0 < i → 0 < n) ∧ i ≤ 9 := by
  intro bs
  induction bs with
  | nil => intro i x y m hb h; unfold vr at h; injection h with _ h; injection h with _ h; split at h <;> cases h
  | cons b t ih =>
    intro i x y m hb h
    unfold vr at h
    by_cases hi : i < 10
    · rw [if_pos hi] at h
      have hbb := hb b (by simp)
      obtain ⟨c, rfl⟩ := Int.eq_ofNat_of_zero_le hbb.1
      by_cases h1 : (c : Int) > 127
      · rw [if_pos h1] at h
        by_cases h9 : i = 9
        · subst h9; rw [vr10] at h; cases h
        · obtain ⟨n, e1, e2, e3, e4, e5⟩ := ih (i + 1) _ y m (fun z hz => hb z (by simp [hz])) h
          have hn : 0 < n := e4 (by omega)
          have ef : 9 - i = (9 - (i + 1)) + 1 := by omega
          have hu : uvf (9 - i) (c - 128 + 128 * n) = (c : Int) :: uvf (9 - (i + 1)) n := by
            rw [ef]
            conv => lhs; unfold uvf
            rw [if_neg (by omega), show (c - 128 + 128 * n) / 128 = n by omega]
            congr 1; omega
          refine ⟨c - 128 + 128 * n, ?_, ?_, ?_, by omega, by omega⟩
          · rw [hu, List.length_cons, List.drop_succ_cons, List.cons_append, ← e1]
          · rw [hu, List.length_cons, e2]; push_cast; omega
          · rw [e3]
            have : ((c - 128 + 128 * n : Nat) : Int) = ((c : Int) - 128) + n * 128 := by omega
            rw [this, Int.add_mul, Int.pow_succ, Int.mul_assoc, Int.mul_comm 128]; omega
      · rw [if_neg h1] at h
        by_cases h2 : (0 < i ∧ (c : Int) = 0) ∨ (i = 9 ∧ (c : Int) > 1)
        · rw [if_pos h2] at h; cases h
        · rw [if_neg h2] at h
          cases h
          refine ⟨c, ?_, ?_, rfl, ?_, by omega⟩
          · rw [uvf_small _ c (by omega)]; rfl
          · rw [uvf_small _ c (by omega)]; rfl
          · intro h0
            rcases Nat.eq_zero_or_pos c with e | e
            · exact absurd (.inl ⟨h0, by omega⟩) h2
            · exact e
    · rw [if_neg hi] at h; cases h
/-- Uint, of bytes. -/
theorem uint_eq (bs : List Int) (hb : Bytes bs) (p : Nat) (hp : p ≤ bs.length) (hl : bs.length ≤ 140737488355328) (lim : Int) :
    octet_Reader_Uint.f 16 bs (p : Int) lim = (if (vr 0 0 (bs.drop p)).2.2 = 0 then (if (vr 0 0 (bs.drop p)).1 > lim then some (0, 42, (p : Int)) else some ((vr 0 0 (bs.drop p)).1, 0, wrap64 ((p : Int) + (vr 0 0 (bs.drop p)).2.1))) else some (0, (vr 0 0 (bs.drop p)).2.2, (p : Int))) := by
  unfold octet_Reader_Uint.f
  rw [if_pos ⟨by omega, by omega, hl⟩, Int.toNat_natCast, varint_f _ (hb.drop p) (by rw [List.length_drop]; omega)]
  rfl
theorem uint_ok (bs : List Int) (hb : Bytes bs) (p n : Nat) (rest : List Int) (hl : bs.length ≤ 140737488355328) (lim : Int) (h : bs.drop p = uv n ++ rest) (hn : n < 9223372036854775808) (hlim : (n : Int) ≤ lim) :
    octet_Reader_Uint.f 16 bs (p : Int) lim = some ((n : Int), 0, ((p + (uv n).length : Nat) : Int)) := by
  have hlen := congrArg List.length h
  rw [List.length_drop, List.length_append] at hlen
  have := uvf_pos 9 n
  have hp : p + (uv n).length ≤ bs.length := by unfold uv at *; omega
  rw [uint_eq bs hb p (by omega) hl, h]
  have hv := vr_uv 9 n 0 0 rest (by rw [show 128 ^ (9 + 1) = 1180591620717411303424 from rfl]; omega) (by omega) (by omega) (by simp; omega)
  unfold uv at *
  rw [hv]
  rw [if_pos rfl, if_neg (by simp; omega), w64 (by show _ ≤ (p : Int) + (((0 : Nat) : Int) + ((uvf 9 n).length : Nat)) ∧ (p : Int) + (((0 : Nat) : Int) + ((uvf 9 n).length : Nat)) ≤ _; omega)]
  simp
theorem uint_cut (bs : List Int) (hb : Bytes bs) (p n : Nat) (suf : List Int) (hp : p ≤ bs.length) (hl : bs.length ≤ 140737488355328) (lim : Int) (h : uv n = bs.drop p ++ suf) (hs : suf ≠ []) :
    octet_Reader_Uint.f 16 bs (p : Int) lim = some (0, 41, (p : Int)) := by
  rw [uint_eq bs hb p hp hl, vr_cut 9 n 0 0 _ suf h hs (by omega)]
  rfl
theorem uint_inv (bs : List Int) (hb : Bytes bs) (p : Nat) (hp : p ≤ bs.length) (hl : bs.length ≤ 140737488355328) (lim : Int) :
    (∃ n : Nat, (n : Int) ≤ lim ∧ bs.drop p = uv n ++ bs.drop (p + (uv n).length) ∧ p + (uv n).length ≤ bs.length ∧ octet_Reader_Uint.f 16 bs (p : Int) lim = some ((n : Int), 0, ((p + (uv n).length : Nat) : Int))) ∨
    ∃ e, e ≠ 0 ∧ octet_Reader_Uint.f 16 bs (p : Int) lim = some (0, e, (p : Int)) := by
  rw [uint_eq bs hb p hp hl]
  obtain ⟨⟨y, m, e⟩, hv⟩ : ∃ t, vr 0 0 (bs.drop p) = t := ⟨_, rfl⟩
  rw [hv]
  by_cases he : e = 0
  · subst he
    obtain ⟨n, e1, e2, e3, -, -⟩ := vr_inv _ 0 0 y m (hb.drop p) hv
    simp only [Nat.sub_zero, Int.pow_zero, Int.mul_one, Int.zero_add] at e1 e2 e3
    subst e3
    have hlen := congrArg List.length e1
    rw [List.length_append, List.length_drop, List.length_drop, List.length_drop] at hlen
    have hpos := uvf_pos 9 n
    rw [List.drop_drop] at e1
    by_cases hlim : (n : Int) > lim
    · exact .inr ⟨42, by decide, by rw [if_pos rfl, if_pos hlim]⟩
    · refine .inl ⟨n, by omega, e1, ?_, ?_⟩
      · unfold uv; omega
      · rw [if_pos rfl, if_neg hlim]
        subst e2
        show some ((n : Int), (0 : Int), wrap64 ((p : Int) + (((0 : Nat) : Int) + ((uvf 9 n).length : Nat)))) = _
        rw [w64 (by omega)]
        simp [uv]
  · exact .inr ⟨e, he, by rw [if_neg he]⟩

/-! Instructions as bytes: Encode, read, Decode -/
/-- What stands of each operation: how many operands, their bounds; each operation with its operands is at most four bytes. -/
def L3 (m : Int) : Nat := if m < 128 then 1 else if m < 16384 then 2 else 3
theorem kats : ∀ i : Nat, i < 29 → ((kat i).n = 0 ∧ (kat i).a = 0 ∧ (kat i).b = 0 ∨ (kat i).n = 1 ∧ (kat i).b = 0 ∧ L3 (kat i).a ≤ 3 ∨ (kat i).n = 2 ∧ L3 (kat i).a + L3 (kat i).b ≤ 3) ∧ 0 ≤ (kat i).a ∧ (kat i).a < 2097152 ∧ 0 ≤ (kat i).b ∧ (kat i).b < 2097152 := by
  intro i hi
  have h : ((List.range 29).all fun i => decide (((kat i).n = 0 ∧ (kat i).a = 0 ∧ (kat i).b = 0 ∨ (kat i).n = 1 ∧ (kat i).b = 0 ∧ L3 (kat i).a ≤ 3 ∨ (kat i).n = 2 ∧ L3 (kat i).a + L3 (kat i).b ≤ 3) ∧ 0 ≤ (kat i).a ∧ (kat i).a < 2097152 ∧ 0 ≤ (kat i).b ∧ (kat i).b < 2097152)) = true := by decide +kernel
  exact of_decide_eq_true (List.all_eq_true.1 h i (List.mem_range.2 hi))
theorem uv_L3 (n : Nat) (m : Int) (h : (n : Int) ≤ m) (hm : m < 2097152) : (uv n).length ≤ L3 m := by
  unfold L3 uv
  split
  · exact uvf_len 0 9 n (by omega)
  · split
    · exact uvf_len 1 9 n (by omega)
    · exact uvf_len 2 9 n (by omega)
def ops (x : S27) : List Int := if opn x.f0 = 0 then [] else if opn x.f0 = 1 then uv x.f1.toNat else uv x.f1.toNat ++ uv x.f2.toNat
def enc1 (x : S27) : List Int := x.f0 :: ops x
def enc (l : List S27) : List Int := (l.map enc1).flatten
/-- Is an instruction valid? -/
def Ok (x : S27) : Prop := valid x.f0 x.f1 x.f2 = 0
instance (x : S27) : Decidable (Ok x) := inferInstanceAs (Decidable (_ = _))
theorem Ok.parts {x : S27} (h : Ok x) : (0 ≤ x.f0 ∧ x.f0 < 29) ∧ (0 ≤ x.f1 ∧ x.f1 ≤ (kat x.f0.toNat).a) ∧ 0 ≤ x.f2 ∧ x.f2 ≤ (kat x.f0.toNat).b := by
  unfold Ok valid at h
  split at h
  · rename_i g
    obtain ⟨g0, g1, g2⟩ := g
    have := of_decide_eq_true g2
    exact ⟨⟨g0, g1⟩, ⟨this.1, this.2.1⟩, this.2.2⟩
  · cases h
theorem Ok.mk' {a b c : Int} (h0 : 0 ≤ a ∧ a < 29) (h1 : 0 ≤ b ∧ b ≤ (kat a.toNat).a) (h2 : 0 ≤ c ∧ c ≤ (kat a.toNat).b) : Ok ⟨a, b, c⟩ := by
  unfold Ok valid
  exact if_pos ⟨h0.1, h0.2, decide_eq_true ⟨h1.1, h1.2, h2.1, h2.2⟩⟩
theorem valid_two (x : S27) : valid x.f0 x.f1 x.f2 = 0 ∨ valid x.f0 x.f1 x.f2 = 111 := by unfold valid; split <;> simp
/-- The three forms. -/
theorem Ok.forms {x : S27} (h : Ok x) : (∃ i a b : Nat, x = ⟨i, a, b⟩ ∧ i < 29 ∧ (a : Int) ≤ (kat i).a ∧ (b : Int) ≤ (kat i).b ∧ (kat i).a < 2097152 ∧ (kat i).b < 2097152 ∧
    ((kat i).n = 0 ∧ a = 0 ∧ b = 0 ∧ ops x = [] ∨ (kat i).n = 1 ∧ b = 0 ∧ ops x = uv a ∧ (uv a).length ≤ 3 ∨ (kat i).n = 2 ∧ ops x = uv a ++ uv b ∧ (uv a).length + (uv b).length ≤ 3)) := by
  obtain ⟨f0, f1, f2⟩ := x
  obtain ⟨⟨p0, p1⟩, ⟨p2, p3⟩, p4, p5⟩ := h.parts
  simp only at p0 p1 p2 p3 p4 p5
  obtain ⟨i, rfl⟩ := Int.eq_ofNat_of_zero_le p0
  obtain ⟨a, rfl⟩ := Int.eq_ofNat_of_zero_le p2
  obtain ⟨b, rfl⟩ := Int.eq_ofNat_of_zero_le p4
  rw [Int.toNat_natCast] at p3 p5
  obtain ⟨k1, k2, k3, k4, k5⟩ := kats i (by omega)
  have la := uv_L3 a _ p3 k3
  have lb := uv_L3 b _ p5 k5
  refine ⟨i, a, b, rfl, by omega, p3, p5, k3, k5, ?_⟩
  have e : opn ((i : Nat) : Int) = (kat i).n := by unfold opn; rw [Int.toNat_natCast]
  unfold ops
  rw [e]
  rcases k1 with ⟨q1, q2, q3⟩ | ⟨q1, q2, q3⟩ | ⟨q1, q2⟩
  · exact .inl ⟨q1, by omega, by omega, by rw [if_pos q1]⟩
  · exact .inr (.inl ⟨q1, by omega, by rw [if_neg (by omega), if_pos q1, Int.toNat_natCast], by omega⟩)
  · exact .inr (.inr ⟨q1, by rw [if_neg (by omega), if_neg (by omega), Int.toNat_natCast, Int.toNat_natCast], by omega⟩)
theorem enc1_len {x : S27} (h : Ok x) : 1 ≤ (enc1 x).length ∧ (enc1 x).length ≤ 4 := by
  obtain ⟨i, a, b, -, -, -, -, -, -, hf⟩ := h.forms
  unfold enc1
  rcases hf with ⟨-, -, -, e⟩ | ⟨-, -, e, hl⟩ | ⟨-, e, hl⟩
  · rw [e]; simp
  · rw [e, List.length_cons]; omega
  · rw [e, List.length_cons, List.length_append]; omega
def AllOk (l : List S27) : Prop := ∀ x ∈ l, Ok x
instance (l : List S27) : Decidable (AllOk l) := inferInstanceAs (Decidable (∀ x ∈ l, Ok x))
theorem enc_nil : enc [] = [] := rfl
theorem enc_cons (x : S27) (l : List S27) : enc (x :: l) = enc1 x ++ enc l := rfl
theorem enc_append (a b : List S27) : enc (a ++ b) = enc a ++ enc b := by unfold enc; rw [List.map_append, List.flatten_append]
theorem enc_len : ∀ (l : List S27), AllOk l → l.length ≤ (enc l).length ∧ (enc l).length ≤ 4 * l.length
  | [], _ => by simp [enc]
  | x :: l, h => by
    have h1 := enc1_len (h x (by simp))
    have h2 := enc_len l (fun y hy => h y (by simp [hy]))
    rw [enc_cons, List.length_append, List.length_cons]
    omega
theorem AllOk.drop {l : List S27} (h : AllOk l) (n : Nat) : AllOk (l.drop n) := fun x hx => h x (List.mem_of_mem_drop hx)
theorem AllOk.tail {x : S27} {l : List S27} (h : AllOk (x :: l)) : Ok x ∧ AllOk l := ⟨h x (by simp), fun y hy => h y (by simp [hy])⟩
theorem AllOk.cons {x : S27} {l : List S27} (h : Ok x) (g : AllOk l) : AllOk (x :: l) := fun z hz => by
  rcases List.mem_cons.1 hz with rfl | hz
  · exact h
  · exact g z hz
theorem AllOk.append {a b : List S27} (h : AllOk a) (g : AllOk b) : AllOk (a ++ b) := fun x hx => by
  rcases List.mem_append.1 hx with h1 | h1
  · exact h x h1
  · exact g x h1
theorem uvf_bytes : ∀ (f n : Nat), n < 128 ^ (f + 1) → Bytes (uvf f n) := by
  intro f
  induction f with
  | zero => intro n h b hb; rw [uvf_small 0 n (by omega)] at hb; simp at hb; omega
  | succ f ih =>
    intro n h b hb
    unfold uvf at hb
    split at hb
    · simp at hb; omega
    · rcases List.mem_cons.1 hb with rfl | hb
      · omega
      · exact ih (n / 128) (by rw [Nat.pow_succ] at h; omega) b hb
theorem uv_bytes (n : Nat) (h : n < 2097152) : Bytes (uv n) := uvf_bytes 9 n (by rw [show 128 ^ (9 + 1) = 1180591620717411303424 from rfl]; omega)
theorem Bytes.append {a b : List Int} (h : Bytes a) (g : Bytes b) : Bytes (a ++ b) := fun x hx => by
  rcases List.mem_append.1 hx with h1 | h1
  · exact h x h1
  · exact g x h1
theorem enc1_bytes {x : S27} (h : Ok x) : Bytes (enc1 x) := by
  obtain ⟨i, a, b, rfl, hi, ha, hb, hka, hkb, hf⟩ := h.forms
  have h0 : Bytes (ops ⟨i, a, b⟩) := by
    rcases hf with ⟨-, -, -, e⟩ | ⟨-, -, e, hl⟩ | ⟨-, e, hl⟩
    · rw [e]; intro z hz; cases hz
    · rw [e]; exact uv_bytes a (by omega)
    · rw [e]; exact (uv_bytes a (by omega)).append (uv_bytes b (by omega))
  intro z hz
  rcases List.mem_cons.1 hz with rfl | hz
  · show 0 ≤ (i : Int) ∧ (i : Int) < 256; omega
  · exact h0 z hz
theorem enc_bytes : ∀ (l : List S27), AllOk l → Bytes (enc l)
  | [], _ => by intro z hz; cases hz
  | x :: l, h => by rw [enc_cons]; exact (enc1_bytes h.tail.1).append (enc_bytes l h.tail.2)
/-! Encode -/
theorem l1_done (x4 : List Int) (l : List S27) (n i : Int) (y r : List Int) (res : List Int × Int) (hi : 0 ≤ i ∧ i < 1000000000)
    (hy : y = [] ∧ r = x4 ∨ (∃ a, y = [a] ∧ Ev (fun k => octet_AppendUint.f k x4 (IntKind.u64.wrap a)) r) ∨ ∃ a b s, y = [a, b] ∧ Ev (fun k => octet_AppendUint.f k x4 (IntKind.u64.wrap a)) s ∧ Ev (fun k => octet_AppendUint.f k s (IntKind.u64.wrap b)) r) (h : Ev (fun k => code_Encode.l0 k r l n (wrap64 (i + 1))) res) :
    Ev (fun k => code_Encode.l1 k x4 l n i y (y.length : Int) 0) res := by
  rcases hy with ⟨rfl, rfl⟩ | ⟨a, rfl, ha⟩ | ⟨a, b, s, rfl, ha, hb⟩
  · exact Ev.step (fun k => code_Encode.l1.eq_2 ..) (Ev.neg (by simp) h)
  · refine Ev.step (fun k => code_Encode.l1.eq_2 ..) (Ev.pos (by simp) (Ev.pos (by omega) (Ev.pos (by simp) (Ev.bind ha ?_))))
    exact Ev.step (fun k => code_Encode.l1.eq_2 ..) (Ev.neg (by simp [w64]) h)
  · refine Ev.step (fun k => code_Encode.l1.eq_2 ..) (Ev.pos (by simp) (Ev.pos (by omega) (Ev.pos (by simp) (Ev.bind ha ?_))))
    have e : rd [a, b] (wrap64 (0 + 1)) = b := by rw [w64 (by omega)]; rfl
    refine Ev.step (fun k => code_Encode.l1.eq_2 ..) (Ev.pos (by simp [w64]) (Ev.pos (by simp [w64]) (Ev.pos (by simp [w64]) ?_)))
    rw [e]
    refine Ev.bind hb ?_
    exact Ev.step (fun k => code_Encode.l1.eq_2 ..) (Ev.neg (by simp [w64]) h)
theorem drop_T27 (l : List S27) (i : Nat) (h : i < l.length) : l.drop i = rd_T27 l (i : Int) :: l.drop (i + 1) := by
  rw [List.drop_eq_getElem_cons h]; unfold rd_T27; rw [Int.toNat_natCast, List.getD_eq_getElem?_getD, List.getElem?_eq_getElem h]; rfl
theorem lt_of_len {a b c : Nat} (h : a = b) (g : b < c) : a < c := h ▸ g
theorem small1 {x : Nat} (h : x ≤ 1048576) : x + 1 < 140737488355000 := by omega
theorem small2 {x u v : Nat} (h : x ≤ 1048576) (g : u + v ≤ 3) : x + (u + 1) < 140737488355000 := by omega
theorem encode_l0 (l : List S27) (hl : l.length ≤ 262144) : ∀ (d i : Nat) (x4 : List Int), i + d = l.length → x4.length ≤ 4 * i →
    Ev (fun k => code_Encode.l0 k x4 l (l.length : Int) (i : Int)) (if AllOk (l.drop i) then (x4 ++ enc (l.drop i), 0) else ([], 111)) := by
  intro d
  induction d with
  | zero =>
    intro i x4 hi h4
    rw [List.drop_eq_nil_of_le (by omega), if_pos (by intro x hx; cases hx), enc_nil, List.append_nil]
    exact Ev.step (fun k => code_Encode.l0.eq_2 ..) (Ev.neg (by omega) (Ev.ret rfl))
  | succ d ih =>
    intro i x4 hi h4
    have hil : i < l.length := by omega
    have hx4 : x4.length ≤ 1048576 := by omega
    have hx5 : x4.length < 140737488355328 := by omega
    have hi9 : 0 ≤ (i : Int) ∧ (i : Int) < 1000000000 := by omega
    have hw : wrap64 ((i : Int) + 1) = ((i + 1 : Nat) : Int) := by rw [w64 (by omega)]; omega
    rw [drop_T27 l i hil]
    refine Ev.step (fun k => code_Encode.l0.eq_2 ..) (Ev.pos (by omega) (Ev.pos (by omega) (Ev.pos (by omega) ?_)))
    generalize rd_T27 l (i : Int) = x
    rcases valid_two x with hv | hv
    · have hx : Ok x := hv
      refine Ev.call (show code_Valid.f x.f0 x.f1 x.f2 = some 0 by rw [← hv]; rfl) (Ev.pos rfl (Ev.pos hx5 (Ev.call rfl ?_)))
      have hlen := enc1_len hx
      obtain ⟨j, a, b, rfl, hj, ha, hb, hka, hkb, hf⟩ := hx.forms
      have ha9 : (a : Int) < 9223372036854775808 := Int.lt_of_le_of_lt ha (Int.lt_trans hka (by decide))
      have hb9 : (b : Int) < 9223372036854775808 := Int.lt_of_le_of_lt hb (Int.lt_trans hkb (by decide))
      have e : opn ((j : Nat) : Int) = (kat j).n := by unfold opn; rw [Int.toNat_natCast]
      show Ev (fun k => if 0 ≤ opn ((j : Nat) : Int) then _ else _) _
      rw [e]
      have e0 : ((j : Nat) : Int) % 256 = (j : Int) := by omega
      have hnext := ih (i + 1) (x4 ++ enc1 ⟨j, a, b⟩) (by omega) (by rw [List.length_append]; omega)
      have hres : (if AllOk (⟨j, a, b⟩ :: l.drop (i + 1)) then (x4 ++ enc (⟨j, a, b⟩ :: l.drop (i + 1)), (0 : Int)) else ([], 111)) = (if AllOk (l.drop (i + 1)) then ((x4 ++ enc1 ⟨j, a, b⟩) ++ enc (l.drop (i + 1)), 0) else ([], 111)) := by
        by_cases hq : AllOk (l.drop (i + 1))
        · rw [if_pos hq, if_pos (AllOk.cons hx hq), enc_cons, List.append_assoc]
        · rw [if_neg hq, if_neg (fun h => hq h.tail.2)]
      rw [hres]
      rw [← hw] at hnext
      have hA := au_f (a : Int) (x4 ++ [(j : Int)]) (Int.natCast_nonneg a) ha9 (lt_of_len List.length_append (small1 hx4))
      rw [Int.toNat_natCast, List.append_assoc, List.singleton_append] at hA
      rcases hf with ⟨hn, -, -, he⟩ | ⟨hn, -, he, hul⟩ | ⟨hn, he, hul⟩
      · rw [hn]
        refine Ev.pos (by decide) (Ev.pos (by simp) (Ev.call rfl ?_))
        refine l1_done _ _ _ _ _ (x4 ++ enc1 ⟨j, a, b⟩) _ hi9 (.inl ⟨rfl, ?_⟩) hnext
        unfold enc1; rw [he, e0]
      · rw [hn]
        refine Ev.pos (by decide) (Ev.pos (by simp) (Ev.call rfl ?_))
        refine l1_done _ _ _ _ _ (x4 ++ enc1 ⟨j, a, b⟩) _ hi9 (.inr (.inl ⟨a, rfl, ?_⟩)) hnext
        show Ev (fun k => octet_AppendUint.f k (x4 ++ [((j : Nat) : Int) % 256]) _) _
        unfold enc1; rw [he, e0]; exact hA
      · rw [hn]
        have hB := au_f (b : Int) (x4 ++ (j : Int) :: uv a) (Int.natCast_nonneg b) hb9 (lt_of_len List.length_append (small2 hx4 hul))
        rw [Int.toNat_natCast, List.append_assoc, List.cons_append] at hB
        refine Ev.pos (by decide) (Ev.pos (by simp) (Ev.call rfl ?_))
        refine l1_done _ _ _ _ _ (x4 ++ enc1 ⟨j, a, b⟩) _ hi9 (.inr (.inr ⟨a, b, x4 ++ (j : Int) :: uv a, rfl, ?_, ?_⟩)) hnext
        · show Ev (fun k => octet_AppendUint.f k (x4 ++ [((j : Nat) : Int) % 256]) _) _
          rw [e0]; exact hA
        · unfold enc1; rw [he]; exact hB
    · rw [if_neg (fun h => by have := h.tail.1; unfold Ok at this; omega)]
      exact Ev.call (show code_Valid.f x.f0 x.f1 x.f2 = some 111 by rw [← hv]; rfl) (Ev.neg (by decide) (Ev.ret rfl))
theorem encode_all (l : List S27) : Ev (fun k => code_Encode.f k l) (if l.length > 262144 then ([], 6) else if AllOk l then (enc l, 0) else ([], 111)) := by
  unfold code_Encode.f
  by_cases h : l.length > 262144
  · rw [if_pos h]; exact Ev.pos (by omega) (Ev.ret rfl)
  · rw [if_neg h]
    have := encode_l0 l (by omega) l.length 0 [] (by omega) (by simp)
    rw [List.drop_zero, List.nil_append] at this
    exact Ev.neg (by omega) this
/-! read -/
theorem n41 : ¬ ((41 : Int) = 0) := by decide
theorem take_f (bs : List Int) (p : Nat) (hp : p ≤ bs.length) (hl : bs.length ≤ 140737488355328) : octet_Reader_Take.f bs (p : Int) = if p < bs.length then some ([rd bs (p : Int)], 0, ((p + 1 : Nat) : Int)) else some ([], 41, (p : Int)) := by
  unfold octet_Reader_Take.f
  rw [if_pos ⟨by omega, by omega, hl⟩]
  by_cases h : p < bs.length
  · rw [if_pos h, if_pos (by omega)]; rfl
  · rw [if_neg h, if_neg (by omega)]
/-- read, at a byte that is there. -/
theorem read_in (bs : List Int) (hb : Bytes bs) (p : Nat) (hp : p < bs.length) (hl : bs.length ≤ 140737488355328) (lb : Int) : code_read.f 16 bs (p : Int) lb =
    if rd bs (p : Int) < 29 then
      (if opn (rd bs (p : Int)) = 0 then some (rd bs (p : Int), 0, 0, 0, 0, ((p + 1 : Nat) : Int))
      else (octet_Reader_Uint.f 16 bs ((p + 1 : Nat) : Int) (kat (rd bs (p : Int)).toNat).a).bind fun u =>
        if u.2.1 = 0 then (if opn (rd bs (p : Int)) = 1 then some (rd bs (p : Int), wrap64 u.1, 0, 0, 0, u.2.2)
          else (octet_Reader_Uint.f 16 bs u.2.2 (kat (rd bs (p : Int)).toNat).b).bind fun v =>
            if v.2.1 = 0 then some (rd bs (p : Int), wrap64 u.1, wrap64 v.1, 0, 0, v.2.2) else some (0, 0, 0, if v.2.1 = 41 then lb else u.2.2, v.2.1, v.2.2))
        else some (0, 0, 0, if u.2.1 = 41 then lb else ((p + 1 : Nat) : Int), u.2.1, u.2.2))
    else some (0, 0, 0, (p : Int), 111, ((p + 1 : Nat) : Int)) := by
  have h0 := rd_byte hb p hp
  unfold code_read.f
  rw [take_f bs p (by omega) hl, if_pos hp, Option.bind_some]
  have e : wrap64 (rd [rd bs (p : Int)] 0) = rd bs (p : Int) := by
    show wrap64 (rd bs (p : Int)) = _
    exact w64 (by omega)
  simp only [e]
  rw [if_pos trivial]
  by_cases h29 : rd bs (p : Int) < 29
  · rw [if_pos h29, if_pos ⟨h0.1, h29⟩]
    obtain ⟨-, k2, k3, k4, k5⟩ := kats (rd bs (p : Int)).toNat (by omega)
    unfold code_read.one
    rw [wu64 ⟨k2, by omega⟩, wu64 ⟨k4, by omega⟩]
  · rw [if_neg h29, if_neg (by omega)]
theorem bytes_of_drop {bs : List Int} {p : Nat} {a : Int} {t : List Int} (h : bs.drop p = a :: t) : p < bs.length ∧ rd bs (p : Int) = a ∧ bs.drop (p + 1) = t := by
  have hp : p < bs.length := by
    rcases Nat.lt_or_ge p bs.length with g | g
    · exact g
    · rw [List.drop_eq_nil_of_le g] at h; cases h
  rw [drop_rd bs p hp] at h
  injection h with h1 h2
  exact ⟨hp, h1, h2⟩
theorem drop_at {bs a r : List Int} {p : Nat} (h : bs.drop p = a ++ r) : bs.drop (p + a.length) = r := by
  rw [← List.drop_drop, h, List.drop_left]
theorem read_ok (bs : List Int) (hb : Bytes bs) (p : Nat) (hl : bs.length ≤ 140737488355328) (lb : Int) (x : S27) (hx : Ok x) (rest : List Int) (h : bs.drop p = enc1 x ++ rest) :
    code_read.f 16 bs (p : Int) lb = some (x.f0, x.f1, x.f2, 0, 0, ((p + (enc1 x).length : Nat) : Int)) := by
  obtain ⟨i, a, b, rfl, hi, ha, hbb, hka, hkb, hf⟩ := hx.forms
  unfold enc1 at h ⊢
  obtain ⟨hp, h1, h2⟩ := bytes_of_drop h
  rw [read_in bs hb p hp hl, h1]
  have e : opn ((i : Nat) : Int) = (kat i).n := by unfold opn; rw [Int.toNat_natCast]
  show (if ((i : Nat) : Int) < 29 then _ else _) = _
  rw [if_pos (by omega)]
  show (if opn ((i : Nat) : Int) = 0 then _ else _) = _
  rw [e, Int.toNat_natCast]
  rcases hf with ⟨hn, rfl, rfl, he⟩ | ⟨hn, rfl, he, hul⟩ | ⟨hn, he, hul⟩
  · rw [hn, he, if_pos rfl]; simp
  · rw [hn, if_neg (by decide)]
    rw [he] at h2 ⊢
    rw [uint_ok bs hb (p + 1) a rest hl _ h2 (by omega) ha, Option.bind_some, if_pos rfl]
    rw [if_pos rfl, w64 (by omega), List.length_cons, show p + 1 + (uv a).length = p + ((uv a).length + 1) by omega]; rfl
  · rw [hn, if_neg (by decide)]
    rw [he] at h2 ⊢
    replace h2 : bs.drop (p + 1) = uv a ++ uv b ++ rest := h2
    rw [List.append_assoc] at h2
    rw [uint_ok bs hb (p + 1) a _ hl _ h2 (by omega) ha, Option.bind_some, if_pos rfl, if_neg (by decide)]
    show (octet_Reader_Uint.f 16 bs ((p + 1 + (uv a).length : Nat) : Int) _).bind _ = _
    rw [uint_ok bs hb (p + 1 + (uv a).length) b rest hl _ (drop_at h2) (by omega) hbb, Option.bind_some, if_pos rfl]
    rw [w64 (by omega), w64 (by omega), List.length_cons, List.length_append, show p + 1 + (uv a).length + (uv b).length = p + ((uv a).length + (uv b).length + 1) by omega]
theorem split_append {α : Type} : ∀ {a b c d : List α}, a ++ b = c ++ d → (∃ t, a = c ++ t ∧ d = t ++ b) ∨ ∃ t, c = a ++ t ∧ b = t ++ d ∧ t ≠ []
  | [], b, c, d, h => by
    cases c with
    | nil => exact .inl ⟨[], rfl, h.symm⟩
    | cons x c => exact .inr ⟨x :: c, rfl, h, by simp⟩
  | x :: a, b, [], d, h => .inl ⟨x :: a, rfl, h.symm⟩
  | x :: a, b, y :: c, d, h => by
    rw [List.cons_append, List.cons_append] at h
    injection h with h1 h2
    subst h1
    rcases split_append h2 with ⟨t, rfl, e⟩ | ⟨t, rfl, e, n⟩
    · exact .inl ⟨t, rfl, e⟩
    · exact .inr ⟨t, rfl, e, n⟩
theorem read_cut (bs : List Int) (hb : Bytes bs) (p : Nat) (hp : p ≤ bs.length) (hl : bs.length ≤ 140737488355328) (lb : Int) (x : S27) (hx : Ok x) (suf : List Int) (hs : suf ≠ []) (h : enc1 x = bs.drop p ++ suf) :
    ∃ q, code_read.f 16 bs (p : Int) lb = some (0, 0, 0, lb, 41, q) := by
  rcases Nat.lt_or_ge p bs.length with hlt | hge
  · obtain ⟨i, a, b, rfl, hi, ha, hbb, hka, hkb, hf⟩ := hx.forms
    rw [drop_rd bs p hlt, List.cons_append] at h
    unfold enc1 at h
    injection h with h1 h2
    rw [read_in bs hb p hlt hl, ← h1]
    have e : opn ((i : Nat) : Int) = (kat i).n := by unfold opn; rw [Int.toNat_natCast]
    show ∃ q, (if ((i : Nat) : Int) < 29 then _ else _) = _
    rw [if_pos (by omega)]
    show ∃ q, (if opn ((i : Nat) : Int) = 0 then _ else _) = _
    rw [e, Int.toNat_natCast]
    rcases hf with ⟨hn, rfl, rfl, he⟩ | ⟨hn, rfl, he, hul⟩ | ⟨hn, he, hul⟩
    · rw [he] at h2
      exact absurd (List.append_eq_nil_iff.1 h2.symm).2 hs
    · rw [he] at h2
      rw [hn, if_neg (by decide), uint_cut bs hb (p + 1) a suf (by omega) hl _ h2 hs, Option.bind_some, if_neg n41]
      exact ⟨_, rfl⟩
    · rw [he] at h2
      rw [hn, if_neg (by decide)]
      rcases split_append h2 with ⟨t, h3, h4⟩ | ⟨t, h3, h4, h5⟩
      · rcases t with _ | ⟨c, t⟩
        · rw [List.append_nil] at h3
          rw [List.nil_append] at h4
          rw [uint_ok bs hb (p + 1) a [] hl _ (by rw [List.append_nil]; exact h3.symm) (by omega) ha, Option.bind_some, if_pos rfl, if_neg (by decide)]
          have hle := congrArg List.length h3
          rw [List.length_drop] at hle
          have hd : bs.drop (p + 1 + (uv a).length) = [] := List.drop_eq_nil_of_le (by omega)
          show ∃ q, (octet_Reader_Uint.f 16 bs ((p + 1 + (uv a).length : Nat) : Int) _).bind _ = _
          rw [uint_cut bs hb _ b suf (by omega) hl _ (by rw [hd, List.nil_append]; exact h4.symm) hs, Option.bind_some, if_neg n41]
          exact ⟨_, rfl⟩
        · rw [uint_cut bs hb (p + 1) a (c :: t) (by omega) hl _ h3 (by simp), Option.bind_some, if_neg n41]
          exact ⟨_, rfl⟩
      · have hle := congrArg List.length h3
        rw [List.length_drop, List.length_append] at hle
        rw [uint_ok bs hb (p + 1) a t hl _ h3 (by omega) ha, Option.bind_some, if_pos rfl, if_neg (by decide)]
        show ∃ q, (octet_Reader_Uint.f 16 bs ((p + 1 + (uv a).length : Nat) : Int) _).bind _ = _
        rw [uint_cut bs hb _ b suf (by omega) hl _ (by rw [drop_at h3]; exact h4) hs, Option.bind_some, if_neg n41]
        exact ⟨_, rfl⟩
  · unfold code_read.f
    rw [take_f bs p hp hl, if_neg (by omega), Option.bind_some, if_neg n41]
    exact ⟨_, rfl⟩
theorem read_inv (bs : List Int) (hb : Bytes bs) (p : Nat) (hp : p ≤ bs.length) (hl : bs.length ≤ 140737488355328) :
    (∃ x : S27, Ok x ∧ p + (enc1 x).length ≤ bs.length ∧ bs.drop p = enc1 x ++ bs.drop (p + (enc1 x).length) ∧ code_read.f 16 bs (p : Int) bs.length = some (x.f0, x.f1, x.f2, 0, 0, ((p + (enc1 x).length : Nat) : Int))) ∨
    ∃ at_ e q : Int, e ≠ 0 ∧ 0 ≤ at_ ∧ at_ ≤ bs.length ∧ code_read.f 16 bs (p : Int) bs.length = some (0, 0, 0, at_, e, q) := by
  rcases Nat.lt_or_ge p bs.length with hlt | hge
  · rw [read_in bs hb p hlt hl]
    have h0 := rd_byte hb p hlt
    have hd := drop_rd bs p hlt
    obtain ⟨i, hi⟩ := Int.eq_ofNat_of_zero_le h0.1
    rw [hi] at hd ⊢
    by_cases h29 : i < 29
    · rw [if_pos (by omega), Int.toNat_natCast]
      obtain ⟨k1, k2, k3, k4, k5⟩ := kats i h29
      have e : opn ((i : Nat) : Int) = (kat i).n := by unfold opn; rw [Int.toNat_natCast]
      rw [e]
      have hops : ∀ a b : Nat, (a : Int) ≤ (kat i).a → (b : Int) ≤ (kat i).b → Ok ⟨i, a, b⟩ := fun a b h1 h2 => Ok.mk' ⟨by omega, by omega⟩ ⟨by omega, by rw [Int.toNat_natCast]; exact h1⟩ ⟨by omega, by rw [Int.toNat_natCast]; exact h2⟩
      rcases k1 with ⟨hn, ha, hbb⟩ | ⟨hn, hbb, -⟩ | ⟨hn, -⟩
      · rw [hn, if_pos rfl]
        have ho : ops ⟨i, (0 : Nat), (0 : Nat)⟩ = [] := by unfold ops; rw [if_pos (by rw [← hn]; exact e)]
        refine .inl ⟨⟨i, (0 : Nat), (0 : Nat)⟩, hops 0 0 (by omega) (by omega), ?_, ?_, ?_⟩
        · unfold enc1; rw [ho]; simp; omega
        · unfold enc1; rw [ho, hd]; simp
        · unfold enc1; rw [ho]; simp
      · rw [hn, if_neg (by decide)]
        rcases uint_inv bs hb (p + 1) (by omega) hl (kat i).a with ⟨n, h1, h2, h3, h4⟩ | ⟨e2, he2, h4⟩
        · rw [h4, Option.bind_some, if_pos rfl, if_pos rfl, w64 (by omega)]
          have ho : ops ⟨i, n, (0 : Nat)⟩ = uv n := by unfold ops; rw [if_neg (by show ¬ opn ((i : Nat) : Int) = 0; rw [e]; omega), if_pos (by show opn ((i : Nat) : Int) = 1; rw [e]; exact hn)]; simp
          refine .inl ⟨⟨i, n, (0 : Nat)⟩, hops n 0 h1 (by omega), ?_, ?_, ?_⟩
          · unfold enc1; rw [ho, List.length_cons]; omega
          · unfold enc1; rw [ho, hd, List.length_cons, List.cons_append, show p + ((uv n).length + 1) = p + 1 + (uv n).length by omega, ← h2]
          · unfold enc1; rw [ho, List.length_cons, show p + ((uv n).length + 1) = p + 1 + (uv n).length by omega]; rfl
        · rw [h4, Option.bind_some, if_neg he2]
          refine .inr ⟨_, e2, _, he2, ?_, ?_, rfl⟩ <;> split <;> omega
      · rw [hn, if_neg (by decide)]
        rcases uint_inv bs hb (p + 1) (by omega) hl (kat i).a with ⟨n, h1, h2, h3, h4⟩ | ⟨e2, he2, h4⟩
        · rw [h4, Option.bind_some, if_pos rfl, if_neg (by decide)]
          rcases uint_inv bs hb (p + 1 + (uv n).length) h3 hl (kat i).b with ⟨m, g1, g2, g3, g4⟩ | ⟨e2, he2, g4⟩
          · show _ ∨ ∃ at_ e q : Int, e ≠ 0 ∧ 0 ≤ at_ ∧ at_ ≤ _ ∧ (octet_Reader_Uint.f 16 bs ((p + 1 + (uv n).length : Nat) : Int) _).bind _ = _
            have ho : ops ⟨i, n, m⟩ = uv n ++ uv m := by unfold ops; rw [if_neg (by show ¬ opn ((i : Nat) : Int) = 0; rw [e]; omega), if_neg (by show ¬ opn ((i : Nat) : Int) = 1; rw [e]; omega)]; simp
            refine .inl ⟨⟨i, n, m⟩, hops n m h1 g1, ?_, ?_, ?_⟩
            · unfold enc1; rw [ho, List.length_cons, List.length_append]; omega
            · unfold enc1; rw [ho, hd, List.length_cons, List.length_append, List.cons_append, List.append_assoc, show p + ((uv n).length + (uv m).length + 1) = p + 1 + (uv n).length + (uv m).length by omega, ← g2, ← h2]
            · unfold enc1; rw [ho, List.length_cons, List.length_append, show p + ((uv n).length + (uv m).length + 1) = p + 1 + (uv n).length + (uv m).length by omega]
              show (octet_Reader_Uint.f 16 bs ((p + 1 + (uv n).length : Nat) : Int) _).bind _ = _
              rw [g4, Option.bind_some, if_pos rfl, w64 (by omega), w64 (by omega)]
          · refine .inr ⟨if e2 = 41 then (bs.length : Int) else ((p + 1 + (uv n).length : Nat) : Int), e2, ((p + 1 + (uv n).length : Nat) : Int), he2, ?_, ?_, ?_⟩
            · split <;> omega
            · split <;> omega
            · show (octet_Reader_Uint.f 16 bs ((p + 1 + (uv n).length : Nat) : Int) _).bind _ = _
              rw [g4, Option.bind_some, if_neg he2]
        · rw [h4, Option.bind_some, if_neg he2]
          refine .inr ⟨_, e2, _, he2, ?_, ?_, rfl⟩ <;> split <;> omega
    · rw [if_neg (by omega)]
      exact .inr ⟨_, 111, _, by decide, by omega, by omega, rfl⟩
  · right
    unfold code_read.f
    rw [take_f bs p hp hl, if_neg (by omega), Option.bind_some, if_neg n41]
    exact ⟨_, 41, _, by decide, by omega, by omega, rfl⟩
/-! Decode -/
theorem dec_end (bs b0 : List Int) (acc : List S27) (cnt : Int) (p : Nat) (hp : p ≤ bs.length) (hl : bs.length ≤ 140737488355328) :
    Ev (fun k => code_Decode.l0 k b0 acc cnt cnt bs (p : Int)) (if p < bs.length then ([], (p : Int), 46) else (acc, 0, 0)) := by
  refine Ev.step (fun k => code_Decode.l0.eq_2 ..) (Ev.neg (by omega) (Ev.call (show octet_Reader_Left.f bs (p : Int) = some (wrap64 ((bs.length : Int) - p), (p : Int)) from rfl) ?_))
  by_cases h : p < bs.length
  · rw [if_pos h]
    exact Ev.pos (by show wrap64 _ > 0; rw [w64 (by omega)]; omega) (Ev.call (show octet_Reader_Place.f bs (p : Int) = some ((p : Int), (p : Int)) from rfl) (Ev.ret rfl))
  · rw [if_neg h]
    exact Ev.neg (by show ¬ wrap64 _ > 0; rw [w64 (by omega)]; omega) (Ev.ret rfl)
theorem dec_ok (bs b0 : List Int) (hb : Bytes bs) (hl : bs.length ≤ 140737488355328) (cnt : Int) (hc : cnt ≤ 262144) (rest : List Int) : ∀ (l : List S27), AllOk l → ∀ (acc : List S27) (i : Int) (p : Nat), p ≤ bs.length → 0 ≤ i → i + l.length = cnt → (acc.length : Int) ≤ i → bs.drop p = enc l ++ rest →
    Ev (fun k => code_Decode.l0 k b0 acc cnt i bs (p : Int)) (if rest = [] then (acc ++ l, 0, 0) else ([], ((p + (enc l).length : Nat) : Int), 46)) := by
  intro l
  induction l with
  | nil =>
    intro _ acc i p hp hi h1 h2 h3
    rw [List.length_nil] at h1
    obtain rfl : i = cnt := by omega
    rw [enc_nil, List.nil_append] at h3
    have := dec_end bs b0 acc i p hp hl
    have hlen := congrArg List.length h3
    rw [List.length_drop] at hlen
    rw [List.append_nil, enc_nil, List.length_nil, Nat.add_zero]
    by_cases hr : rest = []
    · rw [if_pos hr]; rw [hr] at hlen; simp at hlen; rw [if_neg (by omega)] at this; exact this
    · rw [if_neg hr]; have hrl := List.length_pos_iff.2 hr; rw [if_pos (by omega)] at this; exact this
  | cons x l ih =>
    intro hk acc i p hp hi h1 h2 h3
    rw [enc_cons, List.append_assoc] at h3
    rw [List.length_cons] at h1
    have hr := read_ok bs hb p hl b0.length x hk.tail.1 _ h3
    have hlen := congrArg List.length h3
    rw [List.length_drop, List.length_append, List.length_append] at hlen
    have h4 := ih hk.tail.2 (acc ++ [x]) (i + 1) (p + (enc1 x).length) (by omega) (by omega) (by omega) (by simp; omega) (drop_at h3)
    refine Ev.step (fun k => code_Decode.l0.eq_2 ..) (Ev.pos (by omega) (Ev.call hr (Ev.pos rfl (Ev.pos (by omega) ?_))))
    rw [w64 (by omega)]
    rw [enc_cons, List.length_append, ← Nat.add_assoc]
    rw [List.append_assoc] at h4
    exact h4
theorem dec_cut (bs b0 : List Int) (hb : Bytes bs) (hl : bs.length ≤ 140737488355328) (cnt : Int) (hc : cnt ≤ 262144) (suf : List Int) (hs : suf ≠ []) : ∀ (l : List S27), AllOk l → ∀ (acc : List S27) (i : Int) (p : Nat), p ≤ bs.length → 0 ≤ i → i + l.length ≤ cnt → (acc.length : Int) ≤ i → enc l = bs.drop p ++ suf →
    Ev (fun k => code_Decode.l0 k b0 acc cnt i bs (p : Int)) ([], (b0.length : Int), 41) := by
  intro l
  induction l with
  | nil =>
    intro _ acc i p hp hi h1 h2 h3
    rw [enc_nil] at h3
    exact absurd (List.append_eq_nil_iff.1 h3.symm).2 hs
  | cons x l ih =>
    intro hk acc i p hp hi h1 h2 h3
    rw [enc_cons] at h3
    rw [List.length_cons] at h1
    rcases split_append h3 with ⟨t, h4, h5⟩ | ⟨t, h4, h5, -⟩
    · rcases t with _ | ⟨c, t⟩
      · rw [List.append_nil] at h4
        rw [List.nil_append] at h5
        have hr := read_ok bs hb p hl b0.length x hk.tail.1 [] (by rw [List.append_nil]; exact h4.symm)
        have hlen := congrArg List.length h4
        rw [List.length_drop] at hlen
        have hd : bs.drop (p + (enc1 x).length) = [] := List.drop_eq_nil_of_le (by omega)
        have h6 := ih hk.tail.2 (acc ++ [x]) (i + 1) (p + (enc1 x).length) (by omega) (by omega) (by omega) (by simp; omega) (by rw [hd, List.nil_append]; exact h5.symm)
        refine Ev.step (fun k => code_Decode.l0.eq_2 ..) (Ev.pos (by omega) (Ev.call hr (Ev.pos rfl (Ev.pos (by omega) ?_))))
        rw [w64 (by omega)]
        exact h6
      · obtain ⟨q, hr⟩ := read_cut bs hb p hp hl b0.length x hk.tail.1 (c :: t) (by simp) h4
        exact Ev.step (fun k => code_Decode.l0.eq_2 ..) (Ev.pos (by omega) (Ev.call hr (Ev.neg n41 (Ev.ret rfl))))
    · have hr := read_ok bs hb p hl b0.length x hk.tail.1 t h4
      have hlen := congrArg List.length h4
      rw [List.length_drop, List.length_append] at hlen
      have h6 := ih hk.tail.2 (acc ++ [x]) (i + 1) (p + (enc1 x).length) (by omega) (by omega) (by omega) (by simp; omega) (by rw [drop_at h4]; exact h5)
      refine Ev.step (fun k => code_Decode.l0.eq_2 ..) (Ev.pos (by omega) (Ev.call hr (Ev.pos rfl (Ev.pos (by omega) ?_))))
      rw [w64 (by omega)]
      exact h6
theorem dec_inv (bs : List Int) (hb : Bytes bs) (hl : bs.length ≤ 140737488355328) (cnt : Int) (hc : cnt ≤ 262144) : ∀ (d : Nat) (acc : List S27) (i : Int) (p : Nat), p ≤ bs.length → 0 ≤ i → i + d = cnt → (acc.length : Int) ≤ i →
    (∃ l : List S27, l.length = d ∧ AllOk l ∧ bs.drop p = enc l ∧ Ev (fun k => code_Decode.l0 k bs acc cnt i bs (p : Int)) (acc ++ l, 0, 0)) ∨
    ∃ at_ e : Int, e ≠ 0 ∧ 0 ≤ at_ ∧ at_ ≤ (bs.length : Int) ∧ Ev (fun k => code_Decode.l0 k bs acc cnt i bs (p : Int)) ([], at_, e) := by
  intro d
  induction d with
  | zero =>
    intro acc i p hp hi h1 h2
    obtain rfl : i = cnt := by omega
    have := dec_end bs bs acc i p hp hl
    by_cases h : p < bs.length
    · rw [if_pos h] at this; exact .inr ⟨_, 46, by decide, by omega, by omega, this⟩
    · rw [if_neg h] at this
      exact .inl ⟨[], rfl, by intro x hx; (cases hx), by rw [List.drop_eq_nil_of_le (by omega), enc_nil], by rw [List.append_nil]; exact this⟩
  | succ d ih =>
    intro acc i p hp hi h1 h2
    rcases read_inv bs hb p hp hl with ⟨x, hx, hq, h3, h4⟩ | ⟨at_, e, q, he, ha0, ha1, h4⟩
    · have hstep : ∀ res, Ev (fun k => code_Decode.l0 k bs (acc ++ [x]) cnt (i + 1) bs ((p + (enc1 x).length : Nat) : Int)) res → Ev (fun k => code_Decode.l0 k bs acc cnt i bs (p : Int)) res := by
        intro res hr
        refine Ev.step (fun k => code_Decode.l0.eq_2 ..) (Ev.pos (by omega) (Ev.call h4 (Ev.pos rfl (Ev.pos (by omega) ?_))))
        rw [w64 (by omega)]
        exact hr
      rcases ih (acc ++ [x]) (i + 1) (p + (enc1 x).length) hq (by omega) (by omega) (by simp; omega) with ⟨l, g1, g2, g3, g4⟩ | ⟨at_, e, he, ha0, ha1, g4⟩
      · refine .inl ⟨x :: l, by simp [g1], ?_, by rw [h3, g3, enc_cons], ?_⟩
        · intro z hz
          rcases List.mem_cons.1 hz with rfl | hz
          · exact hx
          · exact g2 z hz
        · rw [List.append_assoc, List.singleton_append] at g4; exact hstep _ g4
      · exact .inr ⟨at_, e, he, ha0, ha1, hstep _ g4⟩
    · exact .inr ⟨at_, e, he, ha0, ha1, Ev.step (fun k => code_Decode.l0.eq_2 ..) (Ev.pos (by omega) (Ev.call h4 (Ev.neg he (Ev.ret rfl))))⟩

/-! The laws' own functions -/
theorem dec_f_ok (l : List S27) (hk : AllOk l) (hc : l.length ≤ 262144) (rest : List Int) (hb : Bytes rest) (hl : (enc l ++ rest).length ≤ 140737488355328) :
    Ev (fun k => code_Decode.f k (enc l ++ rest) (l.length : Int)) (if rest = [] then (l, 0, 0) else ([], ((enc l).length : Int), 46)) := by
  have h := dec_ok (enc l ++ rest) (enc l ++ rest) ((enc_bytes l hk).append hb) hl l.length (by omega) rest l hk [] 0 0 (by omega) (by omega) (by omega) (by simp) (by rw [List.drop_zero])
  rw [List.nil_append, Nat.zero_add] at h
  unfold code_Decode.f
  exact Ev.neg (by omega) (Ev.neg (by omega) (Ev.call (show octet_NewReader.f (enc l ++ rest) = some (enc l ++ rest, 0) by unfold octet_NewReader.f; rw [if_pos hl]) h))
theorem dec_f_cut (l : List S27) (hk : AllOk l) (cnt : Int) (hc0 : l.length ≤ cnt) (hc : cnt ≤ 262144) (bs suf : List Int) (hs : suf ≠ []) (h : enc l = bs ++ suf) (hl : bs.length ≤ 140737488355328) :
    Ev (fun k => code_Decode.f k bs cnt) ([], (bs.length : Int), 41) := by
  have hb : Bytes bs := fun z hz => enc_bytes l hk z (by rw [h]; exact List.mem_append_left _ hz)
  have := dec_cut bs bs hb hl cnt hc suf hs l hk [] 0 0 (by omega) (by omega) (by omega) (by simp) (by rw [List.drop_zero]; exact h)
  unfold code_Decode.f
  exact Ev.neg (by omega) (Ev.neg (by omega) (Ev.call (show octet_NewReader.f bs = some (bs, 0) by unfold octet_NewReader.f; rw [if_pos hl]) this))
theorem dec_f_inv (bs : List Int) (hb : Bytes bs) (hl : bs.length ≤ 140737488355328) (cnt : Int) (h0 : 0 ≤ cnt) (hc : cnt ≤ 262144) :
    (∃ l : List S27, (l.length : Int) = cnt ∧ AllOk l ∧ bs = enc l ∧ Ev (fun k => code_Decode.f k bs cnt) (l, 0, 0)) ∨
    ∃ at_ e : Int, e ≠ 0 ∧ 0 ≤ at_ ∧ at_ ≤ (bs.length : Int) ∧ Ev (fun k => code_Decode.f k bs cnt) ([], at_, e) := by
  have step : ∀ res, Ev (fun k => code_Decode.l0 k bs [] cnt 0 bs 0) res → Ev (fun k => code_Decode.f k bs cnt) res := by
    intro res hr
    unfold code_Decode.f
    exact Ev.neg (by omega) (Ev.neg (by omega) (Ev.call (show octet_NewReader.f bs = some (bs, 0) by unfold octet_NewReader.f; rw [if_pos hl]) hr))
  rcases dec_inv bs hb hl cnt hc cnt.toNat [] 0 0 (by omega) (by omega) (by omega) (by simp) with ⟨l, h1, h2, h3, h4⟩ | ⟨at_, e, h1, h2, h3, h4⟩
  · exact .inl ⟨l, by omega, h2, by rw [List.drop_zero] at h3; exact h3, step _ h4⟩
  · exact .inr ⟨at_, e, h1, h2, h3, step _ h4⟩
/-- Those of a list that are valid. -/
def goodL (l : List S27) : List S27 := l.filter fun x => decide (Ok x)
theorem goodL_ok (l : List S27) : AllOk (goodL l) := fun x hx => of_decide_eq_true (List.mem_filter.1 hx).2
theorem goodL_len (l : List S27) : (goodL l).length ≤ l.length := List.length_filter_le _ _
theorem good_l0 (l : List S27) (hl : l.length ≤ 5864062014700) : ∀ (d i : Nat) (acc : List S27), i + d = l.length → acc.length ≤ i →
    Ev (fun k => payofflaw11_good.l0 k l acc (i : Int)) (acc ++ goodL (l.drop i)) := by
  intro d
  induction d with
  | zero =>
    intro i acc hi ha
    rw [List.drop_eq_nil_of_le (by omega)]
    exact Ev.step (fun k => payofflaw11_good.l0.eq_2 ..) (Ev.neg (by omega) (Ev.ret (by simp [goodL])))
  | succ d ih =>
    intro i acc hi ha
    rw [drop_T27 l i (by omega)]
    have hw : wrap64 ((i : Int) + 1) = ((i + 1 : Nat) : Int) := by rw [w64 (by omega)]; omega
    refine Ev.step (fun k => payofflaw11_good.l0.eq_2 ..) (Ev.pos (by omega) (Ev.pos (by omega) ?_))
    have ha9 : acc.length < 5864062014805 := by omega
    have h1 := ih (i + 1) acc (by omega) (by omega)
    have h2 := ih (i + 1) (acc ++ [rd_T27 l (i : Int)]) (by omega) (by rw [List.length_append]; simp; omega)
    rw [hw]
    generalize rd_T27 l (i : Int) = x at h2 ⊢
    rcases valid_two x with hv | hv
    · refine Ev.call (show code_Valid.f x.f0 x.f1 x.f2 = some 0 by rw [← hv]; rfl) (Ev.pos rfl (Ev.pos ha9 ?_))
      have e : goodL (x :: l.drop (i + 1)) = x :: goodL (l.drop (i + 1)) := List.filter_cons_of_pos (decide_eq_true (show Ok x from hv))
      rw [e]
      rw [List.append_assoc] at h2
      exact h2
    · refine Ev.call (show code_Valid.f x.f0 x.f1 x.f2 = some 111 by rw [← hv]; rfl) (Ev.neg (by decide) ?_)
      have e : goodL (x :: l.drop (i + 1)) = goodL (l.drop (i + 1)) := List.filter_cons_of_neg (by rw [decide_eq_true_eq]; intro h; unfold Ok at h; rw [hv] at h; cases h)
      rw [e]
      exact h1
theorem good_f (l : List S27) (hl : l.length ≤ 5864062014700) : Ev (fun k => payofflaw11_good.f k l) (goodL l) := good_l0 l hl l.length 0 [] (by omega) (by simp)
def plainL : List S27 := [⟨1, 16383, 0⟩, ⟨3, 63, 3660⟩, ⟨18, 4, 0⟩, ⟨27, 262143, 0⟩, ⟨28, 4095, 0⟩, ⟨5, 32767, 0⟩, ⟨0, 0, 0⟩]
theorem plain_f : payofflaw11_plain.f = some plainL := rfl
theorem plain_ok : AllOk plainL := by
  intro x hx
  have h : plainL.all (fun x => decide (valid x.f0 x.f1 x.f2 = 0)) = true := by decide +kernel
  exact of_decide_eq_true (List.all_eq_true.1 h x hx)
theorem encode_ok (l : List S27) (hl : l.length ≤ 262144) (h : AllOk l) : Ev (fun k => code_Encode.f k l) (enc l, 0) := by
  have := encode_all l
  rw [if_neg (by omega), if_pos h] at this
  exact this
theorem encode_long (l : List S27) (hl : l.length > 262144) : Ev (fun k => code_Encode.f k l) ([], 6) := by
  have := encode_all l
  rw [if_pos hl] at this
  exact this

/-! A slice of structs of three ints, as a law's argument -/
theorem rows3 {H : Type} {enc : TypeId × Value → H} {P : Program} {W : World} {base : Nat} {spare : Nat → Bool} {held : Bool} {t e ft : TypeId} {f0 f1 f2 : Field} {a : Option Addr} {len cap : Nat} {d : DataW H} {ps : List MemPlace} {ts : List TypeId} {ds : List (DataW H)} {j : Nat}
    (hsz : (DataW.weightsEach P ts ds).all (· ≤ reachBytes) = true) (ht : ts[j]? = some t) (hd : ds[j]? = some d) (hu : P.underlying t = some (.slice e)) (he : P.underlying e = some (.struct #[f0, f1, f2])) (hf : P.underlying ft = some (.int .i64))
    (hk : (P.cellsOf e == 3 && P.cellsOf ft == 1 && P.bytesOf e == 24 && f0.type == ft && f1.type == ft && f2.type == ft && f0.offset == 0 && f1.offset == 1 && f2.offset == 2) = true)
    (h : DataW.Trod enc P W base spare held t (.slice a len cap) d ps) :
    ∃ xs : List S27, len = xs.length ∧ Kd.C k27 W a xs.length xs ∧ xs.length ≤ cap ∧ len * 24 ≤ 140737488351232 ∧ ∀ x ∈ xs, (Lit.int .i64 x.f0).wf = true ∧ (Lit.int .i64 x.f1).wf = true ∧ (Lit.int .i64 x.f2).wf = true := by
  simp only [Bool.and_eq_true, beq_iff_eq] at hk
  obtain ⟨⟨⟨⟨⟨⟨⟨⟨ce, c0⟩, hB⟩, t0⟩, t1⟩, t2⟩, o0⟩, o1⟩, o2⟩ := hk
  obtain ⟨fuel, hq⟩ := h
  rcases Deep.open_slice hu hq with ⟨hcs, -⟩ | ⟨x, l, c, m, n, D, Pl, hcs, hb, hl, hm, hmm, hx, hel⟩
  · simp [Value.cells] at hcs
    obtain ⟨rfl, rfl, rfl⟩ := hcs
    exact ⟨[], rfl, ⟨rfl, by decide, fun h => absurd h (by decide)⟩, Nat.zero_le _, by omega, fun x hx => by cases hx⟩
  · simp [Value.cells] at hcs
    obtain ⟨rfl, rfl, rfl⟩ := hcs
    obtain ⟨hx, -⟩ := Prod.mk.inj hx
    have hlm : len ≤ m := by rw [hmm]; split <;> omega
    have each : ∀ i, i < m → ∃ q : Int × Int × Int, W.cell? (x.add (i * 3 + 0)) = some (.int .i64 q.1) ∧ W.cell? (x.add (i * 3 + 1)) = some (.int .i64 q.2.1) ∧ W.cell? (x.add (i * 3 + 2)) = some (.int .i64 q.2.2) ∧
        (Lit.int .i64 q.1).wf = true ∧ (Lit.int .i64 q.2.1).wf = true ∧ (Lit.int .i64 q.2.2).wf = true := by
      intro i hi
      obtain ⟨cs', h1, h2⟩ := hel i hi
      rw [ce] at h1
      obtain ⟨_, hlen, hcell⟩ := World.cells?_some h1
      obtain ⟨ys, k, hk, hxy, _, hxl, hg⟩ := DataW.trod_struct he h2
      match ys, hxl, cs', hlen with
      | [y0, y1, y2], _, [v0, v1, v2], _ =>
        have g0 := hg 0 f0 rfl
        have g1 := hg 1 f1 rfl
        have g2 := hg 2 f2 rfl
        simp [o0, o1, o2, t0, t1, t2, c0] at g0 g1 g2
        have e0 := hcell 0 (by omega)
        have e1 := hcell 1 (by omega)
        have e2 := hcell 2 (by omega)
        rw [Deep.add_add] at e0 e1 e2
        obtain ⟨p0, q0, -, w0⟩ := DataW.trod_int hf g0
        obtain ⟨p1, q1, -, w1⟩ := DataW.trod_int hf g1
        obtain ⟨p2, q2, -, w2⟩ := DataW.trod_int hf g2
        simp only [List.cons.injEq, and_true] at q0 q1 q2
        subst q0 q1 q2
        exact ⟨(p0, p1, p2), by simpa using e0, by simpa using e1, by simpa using e2, w0, w1, w2⟩
    obtain ⟨q, hq⟩ := Deep.choose_lt each
    have hz := sized_slice hsz ht (hx ▸ hd) hu
    rw [hB] at hz
    replace hz : _ ≤ 140737488351232 := hz
    simp only [List.length_map, List.length_range] at hz
    refine ⟨(List.range len).map fun i => ⟨(q i).1, (q i).2.1, (q i).2.2⟩, by simp, ⟨by simp, by simp; omega, fun _ => ⟨x, rfl, fun j p hj => ?_⟩⟩, by simpa using hl, by omega, fun p hp => ?_⟩
    · rw [List.getElem?_map] at hj
      obtain ⟨i, hi, rfl⟩ := Option.map_eq_some_iff.1 hj
      obtain ⟨hi1, hi2⟩ := List.getElem?_eq_some_iff.1 hi
      rw [List.getElem_range] at hi2
      subst hi2
      simp only [List.length_range] at hi1
      obtain ⟨a0, a1, a2, -⟩ := hq j (by omega)
      refine ⟨_, rfl, k27_mk W _, fun i u hu => ?_⟩
      match i, hu with
      | 0, hu => cases hu; exact a0
      | 1, hu => cases hu; exact a1
      | 2, hu => cases hu; exact a2
      | i + 3, hu => simp at hu
    · obtain ⟨i, hi, rfl⟩ := List.mem_map.1 hp
      exact (hq i (by have := List.mem_range.1 hi; omega)).2.2.2

theorem samec_l0 (l : List S27) (hl : l.length ≤ 1000000000000000) : ∀ (d i : Nat), i + d = l.length → Ev (fun k => payofflaw11_sameCode.l0 k l l (i : Int)) true := by
  intro d
  induction d with
  | zero => intro i h; exact Ev.step (fun k => payofflaw11_sameCode.l0.eq_2 ..) (Ev.neg (by omega) (Ev.ret rfl))
  | succ d ih =>
    intro i h
    refine Ev.step (fun k => payofflaw11_sameCode.l0.eq_2 ..) (Ev.pos (by omega) (Ev.pos (by omega) (Ev.pos (by omega) (Ev.neg (by simp) ?_))))
    rw [w64 (by omega)]
    exact ih (i + 1) (by omega)
theorem samec_f (l : List S27) (hl : l.length ≤ 1000000000000000) : Ev (fun k => payofflaw11_sameCode.f k l l) true := Ev.pos rfl (samec_l0 l hl l.length 0 (by omega))

theorem AllOk.take {l : List S27} (h : AllOk l) (n : Nat) : AllOk (l.take n) := fun x hx => h x (List.mem_of_mem_take hx)
theorem odd_list (l : List S27) (x : S27) (i : Nat) (hi : i ≤ l.length) : ((([] ++ l.take i) ++ [x]) ++ l.drop i).length = l.length + 1 := by
  simp; omega
theorem odd_valid (l0 : List S27) (x0 x1 x2 a : Int) (hl : l0.length ≤ 5864062014634) (hx : Ok ⟨x0, x1, x2⟩) : Ev (fun k => payofflaw11_CodeOddV.f k l0 x0 x1 x2 a) true := by
  unfold payofflaw11_CodeOddV.f
  have hg := goodL_len l0
  have hkk : AllOk (plainL ++ goodL l0) := plain_ok.append (goodL_ok l0)
  refine Ev.call plain_f (Ev.bind (good_f l0 (by omega)) (Ev.pos (by show 7 + _ < _; omega) (Ev.call rfl ?_)))
  have hla : (plainL ++ goodL l0).length ≤ 5864062014641 := by rw [List.length_append]; show 7 + _ ≤ _; omega
  generalize plainL ++ goodL l0 = l at hkk hla
  have hout : Ev (fun k => payofflaw11_CodeOddV.j0 k a l true x0 x1 x2) true := Ev.step (fun k => payofflaw11_CodeOddV.j0.eq_2 ..) (Ev.pos rfl (Ev.ret rfl))
  by_cases h1 : a < 0
  · exact Ev.pos h1 hout
  · by_cases h2 : a > (l.length : Int)
    · exact Ev.neg h1 (Ev.pos h2 hout)
    · by_cases h3 : (l.length : Int) ≥ 262144
      · refine Ev.neg h1 (Ev.neg h2 ?_)
        rw [decide_eq_true h3]
        exact hout
      · refine Ev.neg h1 (Ev.neg h2 ?_)
        rw [decide_eq_false h3]
        obtain ⟨i, rfl⟩ : ∃ i : Nat, a = i := ⟨a.toNat, by omega⟩
        have hlen := odd_list l ⟨x0, x1, x2⟩ i (by omega)
        have hall : AllOk ((([] ++ l.take i) ++ [⟨x0, x1, x2⟩]) ++ l.drop i) := AllOk.append (AllOk.append (hkk.take i) (AllOk.cons hx (fun z hz => by cases hz))) (hkk.drop i)
        refine Ev.step (fun k => payofflaw11_CodeOddV.j0.eq_2 ..) (Ev.neg (by decide) (Ev.call rfl (Ev.pos (by omega) (Ev.pos (by omega) ?_))))
        rw [Int.toNat_natCast]
        refine Ev.call rfl (Ev.pos (by simp; omega) (Ev.call rfl (Ev.call rfl (Ev.pos (by simp; omega) (Ev.call rfl (Ev.pos (by simp; omega) (Ev.call rfl ?_)))))))
        generalize ((([] ++ l.take i) ++ [⟨x0, x1, x2⟩]) ++ l.drop i) = m at hlen hall
        have henc := enc_len m hall
        have hd := dec_f_ok m hall (by omega) [] (fun z hz => by cases hz) (by rw [List.append_nil]; omega)
        rw [List.append_nil, if_pos rfl] at hd
        have hp := hx.parts
        have hs := samec_f m (by omega)
        have hv : code_Valid.f x0 x1 x2 = some 0 := by unfold code_Valid.f; exact congrArg some hx
        have ho : code_Operands.f x0 = some (opn x0, 0) := by unfold code_Operands.f opsOf2; rw [if_pos hp.1]
        refine Ev.bind (encode_ok m (by omega) hall) (Ev.call hv (Ev.call ho (Ev.pos rfl (Ev.bind hd (Ev.pos rfl (Ev.pos rfl ?_))))))
        have hopn : opn x0 = (kat x0.toNat).n := rfl
        have p0 : 0 ≤ x0 ∧ x0 < 29 := hp.1
        obtain ⟨k1, -⟩ := kats x0.toNat (by omega)
        have p1 : x1 ≥ 0 := hp.2.1.1
        have p2 : x2 ≥ 0 := hp.2.2.1
        have q1 : x1 ≤ (kat x0.toNat).a := hp.2.1.2
        have q2 : x2 ≤ (kat x0.toNat).b := hp.2.2.2
        show Ev (fun k => if opn x0 > 0 then _ else _) _
        rw [hopn]
        rcases k1 with ⟨r1, r2, r3⟩ | ⟨r1, r2, -⟩ | ⟨r1, -⟩
        · rw [r1]
          refine Ev.neg (by decide) (Ev.pos (by omega) (Ev.neg (by decide) (Ev.pos (by omega) (Ev.pos p1 (Ev.pos p2 (Ev.pos rfl (Ev.bind hs (Ev.ret rfl))))))))
        · rw [r1]
          refine Ev.pos (by decide) (Ev.neg (by decide) (Ev.pos (by omega) (Ev.pos p1 (Ev.pos p2 (Ev.pos rfl (Ev.bind hs (Ev.ret rfl)))))))
        · rw [r1]
          refine Ev.pos (by decide) (Ev.pos (by decide) (Ev.pos p1 (Ev.pos p2 (Ev.pos rfl (Ev.bind hs (Ev.ret rfl))))))
theorem odd_bad (l0 : List S27) (x0 x1 x2 a : Int) (hl : l0.length ≤ 5864062014634) (hx : ¬ Ok ⟨x0, x1, x2⟩) : Ev (fun k => payofflaw11_CodeOddI.f k l0 x0 x1 x2 a) true := by
  unfold payofflaw11_CodeOddI.f
  have hg := goodL_len l0
  refine Ev.call plain_f (Ev.bind (good_f l0 (by omega)) (Ev.pos (by show 7 + _ < _; omega) (Ev.call rfl ?_)))
  have hla : (plainL ++ goodL l0).length ≤ 5864062014641 := by rw [List.length_append]; show 7 + _ ≤ _; omega
  generalize plainL ++ goodL l0 = l at hla
  have hout : Ev (fun k => payofflaw11_CodeOddI.j0 k a l true x0 x1 x2) true := Ev.step (fun k => payofflaw11_CodeOddI.j0.eq_2 ..) (Ev.pos rfl (Ev.ret rfl))
  by_cases h1 : a < 0
  · exact Ev.pos h1 hout
  · by_cases h2 : a > (l.length : Int)
    · exact Ev.neg h1 (Ev.pos h2 hout)
    · by_cases h3 : (l.length : Int) ≥ 262144
      · refine Ev.neg h1 (Ev.neg h2 ?_)
        rw [decide_eq_true h3]
        exact hout
      · refine Ev.neg h1 (Ev.neg h2 ?_)
        rw [decide_eq_false h3]
        obtain ⟨i, rfl⟩ : ∃ i : Nat, a = i := ⟨a.toNat, by omega⟩
        have hlen := odd_list l ⟨x0, x1, x2⟩ i (by omega)
        have hall : ¬ AllOk ((([] ++ l.take i) ++ [⟨x0, x1, x2⟩]) ++ l.drop i) := fun h => hx (h _ (by simp))
        refine Ev.step (fun k => payofflaw11_CodeOddI.j0.eq_2 ..) (Ev.neg (by decide) (Ev.call rfl (Ev.pos (by omega) (Ev.pos (by omega) ?_))))
        rw [Int.toNat_natCast]
        refine Ev.call rfl (Ev.pos (by simp; omega) (Ev.call rfl (Ev.call rfl (Ev.pos (by simp; omega) (Ev.call rfl (Ev.pos (by simp; omega) (Ev.call rfl ?_)))))))
        generalize ((([] ++ l.take i) ++ [⟨x0, x1, x2⟩]) ++ l.drop i) = m at hlen hall
        have he := encode_all m
        rw [if_neg (by omega), if_neg hall] at he
        have hv : code_Valid.f x0 x1 x2 = some 111 := by
          unfold code_Valid.f
          rcases valid_two ⟨x0, x1, x2⟩ with h | h
          · exact absurd h hx
          · exact congrArg some h
        refine Ev.bind he (Ev.call hv ?_)
        by_cases hop : 0 ≤ x0 ∧ x0 < 29
        · have ho : code_Operands.f x0 = some (opn x0, 0) := by unfold code_Operands.f opsOf2; rw [if_pos hop]
          refine Ev.call ho (Ev.neg (by decide) (Ev.pos rfl (Ev.pos rfl (Ev.step (fun k => payofflaw11_CodeOddI.j1.eq_2 ..) (Ev.neg (by simp) (Ev.pos rfl ?_))))))
          have hf : Ev (fun k => payofflaw11_CodeOddI.j2 k false) true := Ev.step (fun k => payofflaw11_CodeOddI.j2.eq_2 ..) (Ev.neg (by decide) (Ev.ret rfl))
          by_cases hn : opn x0 = 0
          · refine Ev.pos hn ?_
            by_cases h4 : x1 = 0
            · refine Ev.pos h4 ?_
              have h5 : x2 ≠ 0 := by
                intro h5
                obtain ⟨k1, -⟩ := kats x0.toNat (by omega)
                have hopn : opn x0 = (kat x0.toNat).n := rfl
                rcases k1 with ⟨r1, r2, r3⟩ | ⟨r1, -, -⟩ | ⟨r1, -⟩
                · exact hx (Ok.mk' hop ⟨by omega, by omega⟩ ⟨by omega, by omega⟩)
                · omega
                · omega
              rw [beq_eq_false_iff_ne.mpr h5]
              exact hf
            · exact Ev.neg h4 hf
          · exact Ev.neg hn hf
        · have ho : code_Operands.f x0 = some (0, 111) := by unfold code_Operands.f opsOf2; rw [if_neg hop]
          refine Ev.call ho (Ev.neg (by decide) (Ev.pos rfl (Ev.pos rfl (Ev.step (fun k => payofflaw11_CodeOddI.j1.eq_2 ..) (Ev.neg (by simp) (Ev.neg (by decide) ?_))))))
          exact Ev.step (fun k => payofflaw11_CodeOddI.j2.eq_2 ..) (Ev.neg (by decide) (Ev.ret rfl))
theorem CodeOdd_walk (A0 : Option Addr) (n0 c0 : Nat) (l0 : List S27) (x0 x1 x2 : Int) (a : Int) (w : World)
    (hn0 : n0 = l0.length) (hr0 : Kd.C k27 w A0 l0.length l0) (hc0 : l0.length ≤ c0) (hy0 : n0 * 24 ≤ 140737488351232) (_hw0 : ∀ x ∈ l0, (Lit.int .i64 x.f0).wf = true ∧ (Lit.int .i64 x.f1).wf = true ∧ (Lit.int .i64 x.f2).wf = true)
    (_h0 : (Lit.int .i64 x0).wf = true) (_h1 : (Lit.int .i64 x1).wf = true) (_h2 : (Lit.int .i64 x2).wf = true) (_h3 : (Lit.int .i64 a).wf = true) (hL : ∃ t fr, w.heap[0]? = some (.cells kA t fr)) :
    Calls Tryd.prog 13 #[.slice A0 n0 c0, .agg #[.int .i64 x0, .int .i64 x1, .int .i64 x2], .int .i64 a] w fun e w' => e = .returned (.bool true) ∧ Below w.heap.size w w' := by
  subst hn0
  by_cases hx : Ok ⟨x0, x1, x2⟩
  · obtain ⟨k, h⟩ := (odd_valid l0 x0 x1 x2 a (by omega) hx).rounds
    exact payofflaw11_CodeOddV.calls k A0 c0 l0 x0 x1 x2 a true w hr0 hc0 h hL
  · obtain ⟨k, h⟩ := (odd_bad l0 x0 x1 x2 a (by omega) hx).rounds
    exact payofflaw11_CodeOddI.calls k A0 c0 l0 x0 x1 x2 a true w hr0 hc0 h hL
end Go.Proofs.YtknlcpojglhbnaaDoor.Pure
