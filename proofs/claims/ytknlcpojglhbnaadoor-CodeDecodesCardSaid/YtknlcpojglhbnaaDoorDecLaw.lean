/- Own text: CodeDecodes: any bytes, any count: the document's answer, again and again; nothing but that the program's two tables stand. -/
import Derived.Test.YtknlcpojglhbnaaDoorQCodeDecodesx6
import Derived.Laws.BitsLemmas
import Derived.Test.YtknlcpojglhbnaaDoorNames
import Derived.SizedLaws
import Derived.Deep.Slices
namespace Go.Proofs.YtknlcpojglhbnaaDoor.Pure
open Go.RowKit Go.ChangeShapes Go.WideShapes Go.Proofs.YtknlcpojglhbnaaDoor.PCodeDecodes Go.Proofs.YtknlcpojglhbnaaDoorW.PrintWords Go.Proofs.YtknlcpojglhbnaaDoorW.PrintLast Go.Proofs.YtknlcpojglhbnaaDoorW.PrintMore
set_option linter.unusedVariables false
set_option linter.unusedSimpArgs false
/-! Rounds: an answer that stands from some number of rounds on -/
theorem Ev.pos {α : Type} {c : Prop} [Decidable c] {a b : Nat → Option α} {r : α} (h : c) (k : Ev a r) : Ev (fun n => if c then a n else b n) r := by
  simpa only [if_pos h] using k
theorem Ev.neg {α : Type} {c : Prop} [Decidable c] {a b : Nat → Option α} {r : α} (h : ¬c) (k : Ev b r) : Ev (fun n => if c then a n else b n) r := by
  simpa only [if_neg h] using k
/-- A call without rounds. -/
theorem Ev.call {α β : Type} {x : Option α} {f : Nat → α → Option β} {a : α} {r : β} (h : x = some a) (k : Ev (fun n => f n a) r) : Ev (fun n => x.bind (f n)) r := by
  subst h; simpa only [Option.bind_some] using k
theorem Ev.ret {α : Type} {r s : α} (h : s = r) : Ev (fun _ => some s) r := ⟨0, fun _ _ => by rw [h]⟩
theorem w64 {n : Int} (h : -9223372036854775808 ≤ n ∧ n ≤ 9223372036854775807) : wrap64 n = n := by unfold wrap64; omega
theorem wu64 {n : Int} (h : 0 ≤ n ∧ n ≤ 18446744073709551615) : IntKind.u64.wrap n = n := by
  simp only [IntKind.wrap, IntKind.bits, IntKind.signed]; simp; omega
theorem wf64 {a : Int} (h : (Lit.int .i64 a).wf = true) : -9223372036854775808 ≤ a ∧ a ≤ 9223372036854775807 := by
  simp only [Lit.wf, IntKind.min, IntKind.max, IntKind.signed, IntKind.bits, Bool.and_eq_true, decide_eq_true_eq, if_true] at h
  omega
theorem wfu64 {a : Int} (h : (Lit.int .u64 a).wf = true) : 0 ≤ a ∧ a ≤ 18446744073709551615 := by
  simp only [Lit.wf, IntKind.min, IntKind.max, IntKind.signed, IntKind.bits, Bool.and_eq_true, decide_eq_true_eq] at h
  simp at h
  omega
theorem wf8 {a : Int} (h : (Lit.int .u8 a).wf = true) : 0 ≤ a ∧ a ≤ 255 := by
  simp only [Lit.wf, IntKind.min, IntKind.max, IntKind.signed, IntKind.bits, Bool.and_eq_true, decide_eq_true_eq] at h
  simp at h
  omega

/-! Bits of 64 -/
theorem wrap_u64 (n : Int) : IntKind.u64.wrap n = n % 18446744073709551616 := by simp [IntKind.wrap, IntKind.bits, IntKind.signed]
theorem wraps_u64 (n : Int) (h₀ : 0 ≤ n) (h₁ : n < 2 ^ 64) : IntKind.u64.wrap n = n := by
  rw [wrap_u64]; rw [show (2 : Int) ^ 64 = 18446744073709551616 from rfl] at h₁; omega
theorem and_mask (i : Nat) (hi : i ≤ 64) (x m : Int) (hm : m = 2 ^ i - 1) (h0 : 0 ≤ x) (h1 : x < 18446744073709551616) : Go.bits .and .u64 x m = x % 2 ^ i := by
  rw [hm]; exact bits_mask .u64 64 (by decide) wraps_u64 i hi x h0 h1
theorem and_one (x : Int) (h0 : 0 ≤ x) (h1 : x < 18446744073709551616) : Go.bits .and .u64 x 1 = x % 2 := and_mask 1 (by decide) x 1 (by decide) h0 h1
theorem and_half (x : Int) (h0 : 0 ≤ x) (h1 : x < 18446744073709551616) : Go.bits .and .u64 x 4294967295 = x % 4294967296 := and_mask 32 (by decide) x 4294967295 (by decide) h0 h1
theorem or_join (i : Nat) (x y : Int) (hx0 : 0 ≤ x) (hx : x % 2 ^ i = 0) (hx1 : x < 18446744073709551616) (hy0 : 0 ≤ y) (hy : y < 2 ^ i) (hy1 : y < 18446744073709551616) : Go.bits .or .u64 x y = x + y :=
  bits_join .u64 64 (by decide) wraps_u64 i x y hx0 hx hx1 hy0 hy hy1
theorem shl_one (i : Nat) (hi : i ≤ 63) : shl .u64 1 (i : Int) = 2 ^ i := by
  unfold shl
  rw [Int.toNat_natCast, show IntKind.u64.bits = 64 from rfl, Nat.min_eq_left (by omega), Int.one_mul]
  refine wraps_u64 _ (Int.le_of_lt (Int.pow_pos (by decide))) ?_
  have := Nat.pow_lt_pow_right (show 1 < 2 by decide) (show i < 64 by omega)
  exact_mod_cast this
theorem shr_nat (x : Int) (i : Nat) (hi : i ≤ 63) : shr .u64 x (i : Int) = x / 2 ^ i := by
  unfold shr
  rw [Int.toNat_natCast, show IntKind.u64.bits = 64 from rfl, Nat.min_eq_left (by omega)]
theorem pow2_pos (n : Nat) : (0 : Int) < 2 ^ n := Int.pow_pos (by decide)
theorem pow2_le {m n : Nat} (h : m ≤ n) : (2 : Int) ^ m ≤ 2 ^ n := by
  have := Nat.pow_le_pow_right (show 2 > 0 by decide) h
  exact_mod_cast this

/-! Varints: what AppendUint writes, what varint reads -/
theorem or128 (n : Nat) (hn : n < 256) : Go.bits .or .u8 (n : Int) 128 = ((n % 128 + 128 : Nat) : Int) := by
  have h : ((List.range 256).all fun n => Go.bits .or .u8 (n : Int) 128 == ((n % 128 + 128 : Nat) : Int)) = true := by kernel_rfl
  exact beq_iff_eq.mp (List.all_eq_true.1 h n (List.mem_range.2 hn))
theorem and127 (n : Nat) (hn : n < 256) : Go.bits .and .u8 (n : Int) 127 = ((n % 128 : Nat) : Int) := by
  have h : ((List.range 256).all fun n => Go.bits .and .u8 (n : Int) 127 == ((n % 128 : Nat) : Int)) = true := by kernel_rfl
  exact beq_iff_eq.mp (List.all_eq_true.1 h n (List.mem_range.2 hn))
/-- The bytes of a number below 128 ^ (f + 1). -/
def uvf : Nat → Nat → List Int
  | 0, n => [(n : Int)]
  | f + 1, n => if n < 128 then [(n : Int)] else ((n % 128 + 128 : Nat) : Int) :: uvf f (n / 128)
def uv (n : Nat) : List Int := uvf 9 n
theorem uvf_ne (f n : Nat) : uvf f n ≠ [] := by cases f <;> unfold uvf <;> (try split) <;> simp
theorem uvf_pos (f n : Nat) : 0 < (uvf f n).length := List.length_pos_iff.2 (uvf_ne f n)
theorem uvf_small (f n : Nat) (h : n < 128) : uvf f n = [(n : Int)] := by cases f <;> unfold uvf <;> simp [h]
theorem uvf_len : ∀ (j f n : Nat), n < 128 ^ (j + 1) → (uvf f n).length ≤ j + 1 := by
  intro j
  induction j with
  | zero => intro f n h; rw [uvf_small f n (by omega)]; simp
  | succ j ih =>
    intro f n h
    cases f with
    | zero => unfold uvf; simp
    | succ f =>
      unfold uvf
      split
      · simp
      · rw [List.length_cons]
        have := ih f (n / 128) (by rw [Nat.pow_succ] at h; omega)
        omega
def Bytes (l : List Int) : Prop := ∀ b ∈ l, 0 ≤ b ∧ b < 256
theorem Bytes.drop {l : List Int} (h : Bytes l) (n : Nat) : Bytes (l.drop n) := fun b hb => h b (List.mem_of_mem_drop hb)

/-- What varint answers from byte i on, x so far. -/
def vr : Nat → Int → List Int → Int × Int × Int
  | i, _, [] => (0, 0, if i < 10 then 41 else 42)
  | i, x, b :: t => if i < 10 then (if b > 127 then vr (i + 1) (x + (b - 128) * 128 ^ i) t else if (0 < i ∧ b = 0) ∨ (i = 9 ∧ b > 1) then (0, 0, 42) else (x + b * 128 ^ i, (i : Int) + 1, 0)) else (0, 0, 42)
theorem vr10 (x : Int) (l : List Int) : vr 10 x l = (0, 0, 42) := by cases l <;> simp [vr]
theorem bits_or_comm (x y : Int) (hx : 0 ≤ x) (hy : 0 ≤ y) (hy1 : y < 18446744073709551616) (i : Nat) (hi : y % 2 ^ i = 0) (hx1 : x < 2 ^ i) (hx2 : x < 18446744073709551616) : Go.bits .or .u64 x y = x + y := by
  have h := or_join i y x hy hi hy1 hx hx1 hx2
  rw [Int.add_comm, ← h]
  obtain ⟨a, rfl⟩ := Int.eq_ofNat_of_zero_le hx
  obtain ⟨b, rfl⟩ := Int.eq_ofNat_of_zero_le hy
  simp [Go.bits]
  rw [Nat.or_comm]
theorem pow128 (i : Nat) : (128 : Int) ^ i = 2 ^ (7 * i) := by rw [Int.pow_mul]; rfl
theorem or_next (i : Nat) (hi : i ≤ 9) (x c : Int) (hx : 0 ≤ x) (hx1 : x < 128 ^ i) (hc : 0 ≤ c) (hc1 : c < 128) (h9 : i = 9 → c ≤ 1) :
    Go.bits .or .u64 x (shl .u64 c (7 * (i : Int))) = x + c * 128 ^ i := by
  have hp : (128 : Int) ^ i ≤ 9223372036854775808 := by
    have : ∀ j : Nat, j ≤ 9 → (128 : Int) ^ j ≤ 9223372036854775808 := by decide
    exact this i hi
  have hp0 : (0 : Int) < 128 ^ i := Int.pow_pos (by decide)
  have hcp : c * 128 ^ i < 18446744073709551616 := by
    by_cases h : i = 9
    · subst h; have := h9 rfl; rw [show (128 : Int) ^ 9 = 9223372036854775808 by decide]; omega
    · have : ∀ j : Nat, j ≤ 8 → (128 : Int) ^ j ≤ 72057594037927936 := by decide
      have h8 := this i (by omega)
      have := Int.mul_le_mul (show c ≤ 127 by omega) h8 (by omega) (by omega)
      omega
  have hcp0 : 0 ≤ c * 128 ^ i := Int.mul_nonneg hc (by omega)
  have hs : shl .u64 c (7 * (i : Int)) = c * 128 ^ i := by
    unfold shl
    rw [show (7 * (i : Int)).toNat = 7 * i by omega, show IntKind.u64.bits = 64 from rfl, Nat.min_eq_left (by omega), ← pow128]
    exact wu64 ⟨hcp0, by omega⟩
  rw [hs]
  refine bits_or_comm x _ hx hcp0 hcp (7 * i) ?_ (by rw [← pow128]; exact hx1) (by omega)
  rw [← pow128]; exact Int.mul_emod_left _ _
theorem mn_eq (a b : Nat) : mn (a : Int) (b : Int) = ((min a b : Nat) : Int) := by unfold mn; split <;> omega
theorem drop_rd (l : List Int) (i : Nat) (h : i < l.length) : l.drop i = rd l (i : Int) :: l.drop (i + 1) := by
  rw [List.drop_eq_getElem_cons h]; unfold rd; rw [Int.toNat_natCast, List.getD_eq_getElem?_getD, List.getElem?_eq_getElem h]; rfl
theorem rd_byte {l : List Int} (hb : Bytes l) (i : Nat) (h : i < l.length) : 0 ≤ rd l (i : Int) ∧ rd l (i : Int) < 256 := by
  refine hb _ ?_
  unfold rd; rw [Int.toNat_natCast, List.getD_eq_getElem?_getD, List.getElem?_eq_getElem h]; exact List.getElem_mem h
theorem varint_l0 (bs : List Int) (hb : Bytes bs) (hl : bs.length < 9000000000000000000) : ∀ (d e i : Nat) (x : Int), i + d = min bs.length 10 → (i ≤ 9 → 0 ≤ x ∧ x < 128 ^ i) →
    octet_varint.l0 (d + 1 + e) bs x ((min bs.length 10 : Nat) : Int) (i : Int) = some (vr i x (bs.drop i)) := by
  intro d
  induction d with
  | zero =>
    intro e i x hi hx
    rw [show 0 + 1 + e = e + 1 by omega, octet_varint.l0.eq_2, if_neg (by omega)]
    by_cases h : bs.length < 10
    · rw [if_pos (by omega), List.drop_eq_nil_of_le (by omega)]
      unfold vr; rw [if_pos (by omega)]
    · rw [if_neg (by omega), show i = 10 by omega, vr10]
  | succ d ih =>
    intro e i x hi hx
    have hi9 : i ≤ 9 := by omega
    have hil : i < bs.length := by omega
    obtain ⟨hx0, hx1⟩ := hx hi9
    have hbi := rd_byte hb i hil
    rw [show d + 1 + 1 + e = (d + 1 + e) + 1 by omega, octet_varint.l0.eq_2, if_pos (by omega), if_pos (by omega), if_pos (by omega), if_pos (by rw [w64 (by omega)]; omega)]
    rw [drop_rd bs i hil]
    generalize hg : rd bs (i : Int) = b at *
    obtain ⟨c, rfl⟩ := Int.eq_ofNat_of_zero_le hbi.1
    have hc : c < 256 := by omega
    rw [and127 c hc, wu64 ⟨by omega, by omega⟩, w64 (show -9223372036854775808 ≤ 7 * (i : Int) ∧ 7 * (i : Int) ≤ 9223372036854775807 by omega), w64 (show -9223372036854775808 ≤ (i : Int) + 1 ∧ (i : Int) + 1 ≤ 9223372036854775807 by omega)]
    unfold vr
    rw [if_pos (show i < 10 by omega)]
    by_cases h1 : c > 127
    · rw [if_pos (show ((c : Nat) : Int) > 127 by omega), if_pos (show ((c : Nat) : Int) > 127 by omega)]
      have e1 : (i : Int) + 1 = ((i + 1 : Nat) : Int) := by omega
      rw [e1]
      by_cases h9 : i = 9
      · subst h9
        rw [ih e (9 + 1) _ (by omega) (by omega), vr10, vr10]
      · have e2 : ((c % 128 : Nat) : Int) = (c : Int) - 128 := by omega
        have hp0 : (0 : Int) < 128 ^ i := Int.pow_pos (by decide)
        rw [e2, or_next i hi9 x _ hx0 hx1 (by omega) (by omega) (by omega)]
        rw [ih e (i + 1) _ (by omega) (fun _ => ?_)]
        have a1 : 0 ≤ ((c : Int) - 128) * 128 ^ i := Int.mul_nonneg (by omega) (by omega)
        have a2 : ((c : Int) - 128) * 128 ^ i ≤ 127 * 128 ^ i := Int.mul_le_mul_of_nonneg_right (by omega) (by omega)
        rw [Int.pow_succ]
        omega
    · rw [if_neg (show ¬ ((c : Nat) : Int) > 127 by omega), if_neg (show ¬ ((c : Nat) : Int) > 127 by omega)]
      have e2 : ((c % 128 : Nat) : Int) = (c : Int) := by omega
      rw [e2]
      by_cases h0 : i > 0
      · rw [if_pos (show (i : Int) > 0 by omega)]
        by_cases hc0 : c = 0
        · rw [if_pos (show (c : Int) = 0 by omega), if_pos (.inl ⟨h0, by omega⟩)]
        · rw [if_neg (show ¬ (c : Int) = 0 by omega)]
          by_cases h9 : i = 9
          · rw [if_pos (show (i : Int) = 9 by omega)]
            by_cases hc1 : c > 1
            · rw [if_pos (show (c : Int) > 1 by omega), if_pos (.inr ⟨h9, by omega⟩)]
            · rw [if_neg (show ¬ (c : Int) > 1 by omega), if_neg (by omega), or_next i hi9 x _ hx0 hx1 (by omega) (by omega) (by omega)]
          · rw [if_neg (show ¬ (i : Int) = 9 by omega), if_neg (by omega), or_next i hi9 x _ hx0 hx1 (by omega) (by omega) (by omega)]
      · rw [if_neg (show ¬ (i : Int) > 0 by omega), if_neg (show ¬ (i : Int) = 9 by omega), if_neg (by omega), or_next i hi9 x _ hx0 hx1 (by omega) (by omega) (by omega)]
theorem varint_f (bs : List Int) (hb : Bytes bs) (hl : bs.length < 9000000000000000000) : octet_varint.f 16 bs = some (vr 0 0 bs) := by
  have h := varint_l0 bs hb hl (min bs.length 10) (15 - min bs.length 10) 0 0 (by omega) (by intro _; simp)
  unfold octet_varint.f
  rw [show (10 : Int) = ((10 : Nat) : Int) from rfl, mn_eq]
  rw [show min bs.length 10 + 1 + (15 - min bs.length 10) = 16 by omega] at h
  exact h
theorem vr_uv : ∀ (f n i : Nat) (x : Int) (rest : List Int), n < 128 ^ (f + 1) → i + f ≤ 9 → (0 < i → 0 < n) → (n : Int) * 128 ^ i < 18446744073709551616 →
    vr i x (uvf f n ++ rest) = (x + n * 128 ^ i, (i : Int) + (uvf f n).length, 0) := by
  intro f
  have last : ∀ (f n i : Nat) (x : Int) (rest : List Int), n < 128 → i ≤ 9 → (0 < i → 0 < n) → (n : Int) * 128 ^ i < 18446744073709551616 → vr i x (uvf f n ++ rest) = (x + n * 128 ^ i, (i : Int) + (uvf f n).length, 0) := by
    intro f n i x rest h1 h2 h3 h4
    rw [uvf_small f n h1, List.singleton_append]
    unfold vr
    rw [if_pos (by omega), if_neg (by omega), if_neg]
    · simp
    · rintro (⟨a, b⟩ | ⟨a, b⟩)
      · have := h3 a; omega
      · subst a
        have : (2 : Int) * 128 ^ 9 ≤ n * 128 ^ 9 := Int.mul_le_mul_of_nonneg_right (by omega) (by decide)
        rw [show (2 : Int) * 128 ^ 9 = 18446744073709551616 by decide] at this
        omega
  induction f with
  | zero => intro n i x rest h1 h2 h3 h4; exact last 0 n i x rest (by omega) (by omega) h3 h4
  | succ f ih =>
    intro n i x rest h1 h2 h3 h4
    by_cases h : n < 128
    · exact last _ n i x rest h (by omega) h3 h4
    · unfold uvf
      rw [if_neg h, List.cons_append]
      unfold vr
      rw [if_pos (by omega), if_pos (by omega)]
      have hp0 : (0 : Int) < 128 ^ i := Int.pow_pos (by decide)
      have en : (n : Int) * 128 ^ i = ((n % 128 : Nat) : Int) * 128 ^ i + ((n / 128 : Nat) : Int) * 128 ^ (i + 1) := by
        rw [Int.pow_succ, Int.mul_comm (128 ^ i) 128, ← Int.mul_assoc, ← Int.add_mul]
        congr 1; omega
      have a1 : 0 ≤ ((n % 128 : Nat) : Int) * 128 ^ i := Int.mul_nonneg (by omega) (by omega)
      rw [ih (n / 128) (i + 1) _ rest (by rw [Nat.pow_succ] at h1; omega) (by omega) (by omega) (by omega)]
      have e3 : ((n % 128 + 128 : Nat) : Int) - 128 = ((n % 128 : Nat) : Int) := by omega
      rw [e3, en, List.length_cons]
      refine Prod.ext ?_ (Prod.ext ?_ rfl)
      · show _ = _; omega
      · show _ = _; push_cast; omega
theorem vr_cut : ∀ (f n i : Nat) (x : Int) (pre suf : List Int), uvf f n = pre ++ suf → suf ≠ [] → i + f ≤ 9 → vr i x pre = (0, 0, 41) := by
  intro f
  induction f with
  | zero =>
    intro n i x pre suf h hs hi
    cases pre with
    | nil => unfold vr; rw [if_pos (by omega)]
    | cons a t => unfold uvf at h; have := congrArg List.length h; rw [List.length_append, List.length_cons, List.length_cons, List.length_nil] at this; exact absurd (List.eq_nil_of_length_eq_zero (by omega)) hs
  | succ f ih =>
    intro n i x pre suf h hs hi
    cases pre with
    | nil => unfold vr; rw [if_pos (by omega)]
    | cons a t =>
      unfold uvf at h
      split at h
      · have := congrArg List.length h; rw [List.length_append, List.length_cons, List.length_cons, List.length_nil] at this; exact absurd (List.eq_nil_of_length_eq_zero (by omega)) hs
      · rw [List.cons_append] at h
        injection h with h1 h2
        unfold vr
        rw [if_pos (by omega), if_pos (by rw [← h1]; omega)]
        exact ih _ _ _ t suf h2 hs (by omega)
theorem vr_inv : ∀ (bs : List Int) (i : Nat) (x y m : Int), Bytes bs → vr i x bs = (y, m, 0) →
    ∃ n : Nat, bs = uvf (9 - i) n ++ bs.drop (uvf (9 - i) n).length ∧ m = i + (uvf (9 - i) n).length ∧ y = x + n * 128 ^ i ∧ (0 < i → 0 < n) ∧ i ≤ 9 := by
  intro bs
  induction bs with
  | nil => intro i x y m hb h; unfold vr at h; injection h with _ h; injection h with _ h; split at h <;> cases h
  | cons b t ih =>
    intro i x y m hb h
    unfold vr at h
    by_cases hi : i < 10
    · rw [if_pos hi] at h
      have hbb := hb b (by simp)
      obtain ⟨c, rfl⟩ := Int.eq_ofNat_of_zero_le hbb.1
      by_cases h1 : (c : Int) > 127
      · rw [if_pos h1] at h
        by_cases h9 : i = 9
        · subst h9; rw [vr10] at h; cases h
        · obtain ⟨n, e1, e2, e3, e4, e5⟩ := ih (i + 1) _ y m (fun z hz => hb z (by simp [hz])) h
          have hn : 0 < n := e4 (by omega)
          have ef : 9 - i = (9 - (i + 1)) + 1 := by omega
          have hu : uvf (9 - i) (c - 128 + 128 * n) = (c : Int) :: uvf (9 - (i + 1)) n := by
            rw [ef]
            conv => lhs; unfold uvf
            rw [if_neg (by omega), show (c - 128 + 128 * n) / 128 = n by omega]
            congr 1; omega
          refine ⟨c - 128 + 128 * n, ?_, ?_, ?_, by omega, by omega⟩
          · rw [hu, List.length_cons, List.drop_succ_cons, List.cons_append, ← e1]
          · rw [hu, List.length_cons, e2]; push_cast; omega
          · rw [e3]
            have : ((c - 128 + 128 * n : Nat) : Int) = ((c : Int) - 128) + n * 128 := by omega
            rw [this, Int.add_mul, Int.pow_succ, Int.mul_assoc, Int.mul_comm 128]; omega
      · rw [if_neg h1] at h
        by_cases h2 : (0 < i ∧ (c : Int) = 0) ∨ (i = 9 ∧ (c : Int) > 1)
        · rw [if_pos h2] at h; cases h
        · rw [if_neg h2] at h
          cases h
          refine ⟨c, ?_, ?_, rfl, ?_, by omega⟩
          · rw [uvf_small _ c (by omega)]; rfl
          · rw [uvf_small _ c (by omega)]; rfl
          · intro h0
            rcases Nat.eq_zero_or_pos c with e | e
            · exact absurd (.inl ⟨h0, by omega⟩) h2
            · exact e
    · rw [if_neg hi] at h; cases h
/-- Uint, of bytes. -/
theorem uint_eq (bs : List Int) (hb : Bytes bs) (p : Nat) (hp : p ≤ bs.length) (hl : bs.length ≤ 140737488355328) (lim : Int) :
    octet_Reader_Uint.f 16 bs (p : Int) lim = (if (vr 0 0 (bs.drop p)).2.2 = 0 then (if (vr 0 0 (bs.drop p)).1 > lim then some (0, 42, (p : Int)) else some ((vr 0 0 (bs.drop p)).1, 0, wrap64 ((p : Int) + (vr 0 0 (bs.drop p)).2.1))) else some (0, (vr 0 0 (bs.drop p)).2.2, (p : Int))) := by
  unfold octet_Reader_Uint.f
  rw [if_pos ⟨by omega, by omega, hl⟩, Int.toNat_natCast, varint_f _ (hb.drop p) (by rw [List.length_drop]; omega)]
  rfl
theorem uint_ok (bs : List Int) (hb : Bytes bs) (p n : Nat) (rest : List Int) (hl : bs.length ≤ 140737488355328) (lim : Int) (h : bs.drop p = uv n ++ rest) (hn : n < 9223372036854775808) (hlim : (n : Int) ≤ lim) :
    octet_Reader_Uint.f 16 bs (p : Int) lim = some ((n : Int), 0, ((p + (uv n).length : Nat) : Int)) := by
  have hlen := congrArg List.length h
  rw [List.length_drop, List.length_append] at hlen
  have := uvf_pos 9 n
  have hp : p + (uv n).length ≤ bs.length := by unfold uv at *; omega
  rw [uint_eq bs hb p (by omega) hl, h]
  have hv := vr_uv 9 n 0 0 rest (by rw [show 128 ^ (9 + 1) = 1180591620717411303424 from rfl]; omega) (by omega) (by omega) (by simp; omega)
  unfold uv at *
  rw [hv]
  rw [if_pos rfl, if_neg (by simp; omega), w64 (by show _ ≤ (p : Int) + (((0 : Nat) : Int) + ((uvf 9 n).length : Nat)) ∧ (p : Int) + (((0 : Nat) : Int) + ((uvf 9 n).length : Nat)) ≤ _; omega)]
  simp
theorem uint_cut (bs : List Int) (hb : Bytes bs) (p n : Nat) (suf : List Int) (hp : p ≤ bs.length) (hl : bs.length ≤ 140737488355328) (lim : Int) (h : uv n = bs.drop p ++ suf) (hs : suf ≠ []) :
    octet_Reader_Uint.f 16 bs (p : Int) lim = some (0, 41, (p : Int)) := by
  rw [uint_eq bs hb p hp hl, vr_cut 9 n 0 0 _ suf h hs (by omega)]
  rfl
theorem uint_inv (bs : List Int) (hb : Bytes bs) (p : Nat) (hp : p ≤ bs.length) (hl : bs.length ≤ 140737488355328) (lim : Int) :
    (∃ n : Nat, (n : Int) ≤ lim ∧ bs.drop p = uv n ++ bs.drop (p + (uv n).length) ∧ p + (uv n).length ≤ bs.length ∧ octet_Reader_Uint.f 16 bs (p : Int) lim = some ((n : Int), 0, ((p + (uv n).length : Nat) : Int))) ∨
    ∃ e, e ≠ 0 ∧ octet_Reader_Uint.f 16 bs (p : Int) lim = some (0, e, (p : Int)) := by
  rw [uint_eq bs hb p hp hl]
  obtain ⟨⟨y, m, e⟩, hv⟩ : ∃ t, vr 0 0 (bs.drop p) = t := ⟨_, rfl⟩
  rw [hv]
  by_cases he : e = 0
  · subst he
    obtain ⟨n, e1, e2, e3, -, -⟩ := vr_inv _ 0 0 y m (hb.drop p) hv
    simp only [Nat.sub_zero, Int.pow_zero, Int.mul_one, Int.zero_add] at e1 e2 e3
    subst e3
    have hlen := congrArg List.length e1
    rw [List.length_append, List.length_drop, List.length_drop, List.length_drop] at hlen
    have hpos := uvf_pos 9 n
    rw [List.drop_drop] at e1
    by_cases hlim : (n : Int) > lim
    · exact .inr ⟨42, by decide, by rw [if_pos rfl, if_pos hlim]⟩
    · refine .inl ⟨n, by omega, e1, ?_, ?_⟩
      · unfold uv; omega
      · rw [if_pos rfl, if_neg hlim]
        subst e2
        show some ((n : Int), (0 : Int), wrap64 ((p : Int) + (((0 : Nat) : Int) + ((uvf 9 n).length : Nat)))) = _
        rw [w64 (by omega)]
        simp [uv]
  · exact .inr ⟨e, he, by rw [if_neg he]⟩

/-! The reference's reader answers as the code's -/
theorem kats : ∀ i : Nat, i < 29 → ((kat i).n = 0 ∧ bat i = (-1, -1) ∨ (kat i).n = 1 ∧ bat i = ((kat i).a, -1) ∨ (kat i).n = 2 ∧ bat i = ((kat i).a, (kat i).b)) ∧ 0 ≤ (kat i).a ∧ (kat i).a < 2097152 ∧ 0 ≤ (kat i).b ∧ (kat i).b < 2097152 := by
  decide
/-- What bytes of 128 or more, and the last, make. -/
def val : List Int → Int
  | [] => 0
  | b :: t => b % 128 + 128 * val t
theorem val_nonneg : ∀ l : List Int, 0 ≤ val l
  | [] => by simp [val]
  | b :: t => by have := val_nonneg t; unfold val; omega
theorem val_lt : ∀ l : List Int, val l < 128 ^ l.length
  | [] => by simp [val]
  | b :: t => by have := val_lt t; unfold val; rw [List.length_cons, Int.pow_succ]; omega
theorem val_append : ∀ (a : List Int) (b : List Int), val (a ++ b) = val a + 128 ^ a.length * val b
  | [], b => by simp [val]
  | c :: t, b => by
    rw [List.cons_append, val, val, val_append t b, List.length_cons, Int.pow_succ, Int.mul_add, Int.mul_comm (128 ^ t.length) 128, Int.mul_assoc]; omega
/-- Bytes that are followed by another. -/
def Goes (l : List Int) : Prop := ∀ b ∈ l, 128 ≤ b ∧ b < 256
theorem vr_goes : ∀ (pre rest : List Int) (i : Nat) (x : Int), Goes pre → i + pre.length ≤ 10 → vr i x (pre ++ rest) = vr (i + pre.length) (x + val pre * 128 ^ i) rest
  | [], rest, i, x, _, _ => by simp [val]
  | b :: t, rest, i, x, h, hl => by
    rw [List.length_cons] at hl
    have hb := h b (by simp)
    rw [List.cons_append]
    conv => lhs; unfold vr
    rw [if_pos (by omega), if_pos (by omega), vr_goes t rest (i + 1) _ (fun c hc => h c (by simp [hc])) (by omega), List.length_cons, show i + 1 + t.length = i + (t.length + 1) by omega]
    congr 1
    rw [val, show b % 128 = b - 128 by omega, Int.add_mul, Int.pow_succ, Int.mul_comm (128 ^ i) 128, ← Int.mul_assoc, Int.mul_comm (val t) 128]; omega
/-- The first bytes that go on: as many as ten. -/
theorem split_goes : ∀ (d : Nat) (l : List Int), Bytes l → ∃ pre rest, l = pre ++ rest ∧ Goes pre ∧ pre.length ≤ d ∧ (pre.length = d ∨ rest = [] ∨ ∃ b t, rest = b :: t ∧ 0 ≤ b ∧ b < 128)
  | 0, l, _ => ⟨[], l, rfl, (by intro b hb; cases hb), by simp, .inl rfl⟩
  | d + 1, [], _ => ⟨[], [], rfl, (by intro b hb; cases hb), by simp, .inr (.inl rfl)⟩
  | d + 1, b :: t, h => by
    have hb := h b (by simp)
    by_cases hx : 128 ≤ b
    · obtain ⟨pre, rest, e, g, hl, hc⟩ := split_goes d t (fun c hc => h c (by simp [hc]))
      refine ⟨b :: pre, rest, by rw [e]; rfl, ?_, by simp; omega, ?_⟩
      · intro c hc
        rcases List.mem_cons.1 hc with rfl | hc
        · exact ⟨hx, hb.2⟩
        · exact g c hc
      · rcases hc with hc | hc
        · exact .inl (by simp; omega)
        · exact .inr hc
    · exact ⟨[], b :: t, rfl, (by intro c hc; cases hc), by simp, .inr (.inr ⟨b, t, rfl, hb.1, by omega⟩)⟩
theorem rd_app_left (a b : List Int) (i : Nat) (h : i < a.length) : rd (a ++ b) (i : Int) = a[i] := by
  unfold rd; rw [Int.toNat_natCast, List.getD_eq_getElem?_getD, List.getElem?_append_left h, List.getElem?_eq_getElem h]; rfl
theorem rd_app_mid (a : List Int) (x : Int) (t : List Int) : rd (a ++ x :: t) (a.length : Int) = x := by
  unfold rd; rw [Int.toNat_natCast, List.getD_eq_getElem?_getD, List.getElem?_append_right (Nat.le_refl _), Nat.sub_self]; rfl
theorem vi_uv : ∀ (f n : Nat) (l : List Int), n < 128 ^ (f + 1) → n < 18446744073709551616 → l.length + f + 1 < 140737488355328 → Ev (fun k => payoffref04_Varint.l0 k (n : Int) l) (l ++ uvf f n) := by
  intro f
  induction f with
  | zero =>
    intro n l h1 h3 h2
    refine Ev.step (fun k => payoffref04_Varint.l0.eq_2 ..) (Ev.neg (by omega) (Ev.pos (by omega) (Ev.ret ?_)))
    rw [uvf_small 0 n (by omega), Int.emod_eq_of_lt (by omega) (by omega)]
  | succ f ih =>
    intro n l h1 h3 h2
    by_cases h : n < 128
    · refine Ev.step (fun k => payoffref04_Varint.l0.eq_2 ..) (Ev.neg (by omega) (Ev.pos (by omega) (Ev.ret ?_)))
      rw [uvf_small _ n h, Int.emod_eq_of_lt (by omega) (by omega)]
    · have e : (IntKind.u64.wrap (Int.tmod (n : Int) 128 + 128)) % 256 = ((n % 128 + 128 : Nat) : Int) := by
        rw [Int.tmod_eq_emod_of_nonneg (by omega), wrap_u64]; omega
      have e2 : IntKind.u64.wrap (Int.tdiv (n : Int) 128) = ((n / 128 : Nat) : Int) := by
        rw [Int.tdiv_eq_ediv_of_nonneg (by omega), wrap_u64]; omega
      have := ih (n / 128) (l ++ [((n % 128 + 128 : Nat) : Int)]) (by rw [Nat.pow_succ] at h1; omega) (by omega) (by simp; omega)
      rw [List.append_assoc, List.singleton_append] at this
      refine Ev.step (fun k => payoffref04_Varint.l0.eq_2 ..) (Ev.pos (by omega) (Ev.pos (by omega) ?_))
      rw [e, e2]
      unfold uvf
      rw [if_neg h]
      exact this
theorem vi_f (x : Int) (h0 : 0 ≤ x) (h1 : x < 18446744073709551616) : Ev (fun k => payoffref04_Varint.f k x) (uv x.toNat) := by
  obtain ⟨n, rfl⟩ := Int.eq_ofNat_of_zero_le h0
  exact vi_uv 9 n [] (by rw [show 128 ^ (9 + 1) = 1180591620717411303424 from rfl]; omega) (by omega) (by simp)
/-- A number's bytes are those that make it, if the last is not in vain. -/
theorem uvf_val : ∀ (pre : List Int) (b : Int) (f : Nat), Goes pre → 0 ≤ b → b < 128 → (pre ≠ [] → 0 < b) → pre.length ≤ f → uvf f (val (pre ++ [b])).toNat = pre ++ [b]
  | [], b, f, _, h0, h1, _, _ => by
    have e : val ([] ++ [b]) = b := by simp [val]; omega
    rw [e, uvf_small f _ (by omega), show ((b.toNat : Nat) : Int) = b by omega]; rfl
  | a :: t, b, 0, _, _, _, _, hl => by simp at hl
  | a :: t, b, f + 1, hg, h0, h1, hp, hl => by
    rw [List.length_cons] at hl
    have ha := hg a (by simp)
    have hb := hp (by simp)
    have ih := uvf_val t b f (fun c hc => hg c (by simp [hc])) h0 h1 (fun _ => hb) (by omega)
    have hv : 0 < val (t ++ [b]) := by
      have hvt := val_nonneg t
      have hp0 : (0 : Int) < 128 ^ t.length := Int.pow_pos (by decide)
      have e : val [b] = b := by simp [val]; omega
      rw [val_append, e]
      have := Int.mul_pos hp0 hb
      omega
    rw [List.cons_append, val]
    generalize val (t ++ [b]) = v at ih hv ⊢
    unfold uvf
    rw [if_neg (by omega), show (a % 128 + 128 * v).toNat / 128 = v.toNat by omega, ih]
    congr 1; omega
/-! ahead -/
theorem ah_l0 (bs pre rest : List Int) (hbs : bs = pre ++ rest) (hg : Goes pre) (hl : bs.length < 9000000000000000000) (hp : pre.length ≤ 10) (hs : pre.length = 10 ∨ rest = [] ∨ ∃ b t, rest = b :: t ∧ 0 ≤ b ∧ b < 128)
    (lim : Int) (r : Int × Int × Int) (h : Ev (fun k => payoffref04_ahead.j1 k bs lim (pre.length : Int)) r) : ∀ (d i : Nat), i + d = pre.length → Ev (fun k => payoffref04_ahead.l0 k bs lim (i : Int)) r := by
  have hlen : bs.length = pre.length + rest.length := by rw [hbs, List.length_append]
  intro d
  induction d with
  | zero =>
    intro i hi
    obtain rfl : i = pre.length := by omega
    refine Ev.step (fun k => payoffref04_ahead.l0.eq_2 ..) ?_
    rcases hs with hs | rfl | ⟨b, t, rfl, hb0, hb1⟩
    · by_cases hx : (pre.length : Int) < (bs.length : Int)
      · exact Ev.pos hx (Ev.neg (by omega) h)
      · exact Ev.neg hx h
    · exact Ev.neg (by rw [hlen]; simp) h
    · have hx : (pre.length : Int) < (bs.length : Int) := by rw [hlen, List.length_cons]; omega
      refine Ev.pos hx ?_
      by_cases h10 : (pre.length : Int) < 10
      · refine Ev.pos h10 (Ev.pos (by omega) (Ev.neg ?_ h))
        rw [hbs, rd_app_mid]; omega
      · exact Ev.neg h10 h
  | succ d ih =>
    intro i hi
    have hw : wrap64 ((i : Int) + 1) = ((i + 1 : Nat) : Int) := by rw [w64 (by omega)]; omega
    refine Ev.step (fun k => payoffref04_ahead.l0.eq_2 ..) (Ev.pos (by omega) (Ev.pos (by omega) (Ev.pos (by omega) (Ev.pos ?_ ?_))))
    · rw [hbs, rd_app_left _ _ _ (by omega)]
      exact (hg _ (List.getElem_mem _)).1
    · rw [hw]; exact ih (i + 1) (by omega)
theorem ah_l1 (bs L rest : List Int) (hbs : bs = L ++ rest) (hb : Bytes L) (hl : bs.length < 9000000000000000000) (lim c : Int) (r : Int × Int × Int)
    (h : Ev (fun k => (payoffref04_Varint.f k (IntKind.u64.wrap (val L))).bind fun t153 => (if (t153.length : Int) = (wrap64 (c + 1)) then (payoffref04_ahead.j3 k bs c (IntKind.u64.wrap (val L)) t153 (decide (IntKind.u64.wrap (val L) > lim))) else (payoffref04_ahead.j3 k bs c (IntKind.u64.wrap (val L)) t153 true))) r) :
    ∀ (j : Nat), j ≤ L.length → Ev (fun k => payoffref04_ahead.l1 k bs lim c (IntKind.u64.wrap (val (L.drop j))) ((j : Int) - 1)) r := by
  have hlen : bs.length = L.length + rest.length := by rw [hbs, List.length_append]
  intro j
  induction j with
  | zero =>
    intro _
    rw [List.drop_zero]
    exact Ev.step (fun k => payoffref04_ahead.l1.eq_2 ..) (Ev.neg (by omega) h)
  | succ j ih =>
    intro hj
    have e1 : (((j + 1 : Nat) : Int) - 1) = (j : Int) := by omega
    rw [e1]
    have hrd : rd bs (j : Int) = L[j] := by rw [hbs, rd_app_left _ _ _ (by omega)]
    refine Ev.step (fun k => payoffref04_ahead.l1.eq_2 ..) (Ev.pos (by omega) (Ev.pos (by omega) (Ev.pos (by omega) ?_)))
    have hx := hb L[j] (List.getElem_mem _)
    have e2 : IntKind.u64.wrap (IntKind.u64.wrap (IntKind.u64.wrap (val (L.drop (j + 1))) * 128) + IntKind.u64.wrap (Int.tmod (rd bs (j : Int)) 128)) = IntKind.u64.wrap (val (L.drop j)) := by
      rw [hrd, List.drop_eq_getElem_cons (show j < L.length by omega), val, Int.tmod_eq_emod_of_nonneg hx.1]
      generalize val (L.drop (j + 1)) = v
      generalize L[j] = b at hx
      simp only [wrap_u64]
      omega
    rw [e2, w64 (by omega)]
    exact ih (by omega)
theorem ah_l2 (bs u : List Int) (hu : u.length ≤ bs.length) (hl : bs.length < 9000000000000000000) (c x : Int) : ∀ (d i : Nat), i + d = u.length →
    Ev (fun k => payoffref04_ahead.l2 k bs c x u (i : Int)) (if u.drop i = (bs.drop i).take d then (x, wrap64 (c + 1), 0) else (0, 0, 42)) := by
  intro d
  induction d with
  | zero =>
    intro i hi
    rw [if_pos (by rw [List.drop_eq_nil_of_le (by omega), List.take_zero])]
    exact Ev.step (fun k => payoffref04_ahead.l2.eq_2 ..) (Ev.neg (by omega) (Ev.ret rfl))
  | succ d ih =>
    intro i hi
    have hw : wrap64 ((i : Int) + 1) = ((i + 1 : Nat) : Int) := by rw [w64 (by omega)]; omega
    refine Ev.step (fun k => payoffref04_ahead.l2.eq_2 ..) (Ev.pos (by omega) (Ev.pos (by omega) (Ev.pos (by omega) ?_)))
    rw [hw, drop_rd u i (by omega), drop_rd bs i (by omega), List.take_succ_cons]
    have := ih (i + 1) (by omega)
    by_cases he : rd u (i : Int) = rd bs (i : Int)
    · refine Ev.pos he ?_
      have e : (rd u (i : Int) :: u.drop (i + 1) = rd bs (i : Int) :: (bs.drop (i + 1)).take d) ↔ (u.drop (i + 1) = (bs.drop (i + 1)).take d) := by
        rw [he]; simp
      simp only [e]
      exact this
    · rw [if_neg (by intro h; injection h with h _; exact he h)]
      exact Ev.neg he (Ev.ret rfl)
/-- What ahead answers: varint's, its bound looked at. -/
def aw (v : Int × Int × Int) (lim : Int) : Int × Int × Int := if v.2.2 = 0 then (if v.1 > lim then (0, 0, 42) else (v.1, v.2.1, 0)) else (0, 0, v.2.2)
/-- Behind the number's making. -/
theorem ah_end (bs L t u : List Int) (hbs : bs = L ++ t) (hl : bs.length < 9000000000000000000) (c : Nat) (hc : L.length = c + 1) (X lim : Int) :
    Ev (fun k => if (u.length : Int) = (wrap64 ((c : Int) + 1)) then (payoffref04_ahead.j3 k bs (c : Int) X u (decide (X > lim))) else (payoffref04_ahead.j3 k bs (c : Int) X u true))
      (if u.length = c + 1 then (if X > lim then (0, 0, 42) else if u = L then (X, (c : Int) + 1, 0) else (0, 0, 42)) else (0, 0, 42)) := by
  have hlen : bs.length = L.length + t.length := by rw [hbs, List.length_append]
  have hw : wrap64 ((c : Int) + 1) = ((c + 1 : Nat) : Int) := by rw [w64 (by omega)]; omega
  rw [hw]
  by_cases hu : u.length = c + 1
  · rw [if_pos hu]
    refine Ev.pos (by omega) (Ev.step (fun k => payoffref04_ahead.j3.eq_2 ..) ?_)
    by_cases hlim : X > lim
    · rw [if_pos hlim]
      exact Ev.pos (decide_eq_true hlim) (Ev.ret rfl)
    · rw [if_neg hlim]
      have h2 := ah_l2 bs u (by omega) hl (c : Int) X u.length 0 (by omega)
      have e3 : bs.take u.length = L := by rw [hbs, hu, ← hc, List.take_left]
      rw [List.drop_zero, List.drop_zero, e3, hw] at h2
      exact Ev.neg (by rw [decide_eq_false hlim]; decide) h2
  · rw [if_neg hu]
    exact Ev.neg (by omega) (Ev.step (fun k => payoffref04_ahead.j3.eq_2 ..) (Ev.pos rfl (Ev.ret rfl)))
/-- The last byte's worth. -/
theorem pow9 (j : Nat) (h : j ≤ 9) : (128 : Int) ^ j ≤ 9223372036854775808 := by
  have : ∀ j : Nat, j ≤ 9 → (128 : Int) ^ j ≤ 9223372036854775808 := by decide
  exact this j h
theorem val_last (pre : List Int) (b : Int) (h0 : 0 ≤ b) (h1 : b < 128) : val (pre ++ [b]) = val pre + b * 128 ^ pre.length := by
  have e1 : val [b] = b := by simp [val]; omega
  rw [val_append, e1, Int.mul_comm]
theorem uv_ne (x : Int) (c : Nat) (h0 : 0 ≤ x) (h1 : x < 128 ^ c) (h2 : 0 < c) : (uv x.toNat).length ≠ c + 1 := by
  obtain ⟨n, rfl⟩ := Int.eq_ofNat_of_zero_le h0
  have := uvf_len (c - 1) 9 n (by rw [show c - 1 + 1 = c by omega]; exact_mod_cast h1)
  rw [Int.toNat_natCast]
  unfold uv
  omega
theorem ah_aw (pre : List Int) (b : Int) (t : List Int) (hg : Goes pre) (hp : pre.length ≤ 9) (h0 : 0 ≤ b) (h1 : b < 128) (lim X : Int) (hX : X = IntKind.u64.wrap (val (pre ++ [b]))) (u : List Int) (hu : u = uv X.toNat) :
    (if u.length = pre.length + 1 then (if X > lim then (0, 0, 42) else if u = pre ++ [b] then (X, (pre.length : Int) + 1, 0) else (0, 0, 42)) else (0, 0, 42)) = aw (vr pre.length (val pre) (b :: t)) lim := by
  have hvp0 := val_nonneg pre
  have hvp1 := val_lt pre
  have hp9 := pow9 pre.length hp
  have hvr : vr pre.length (val pre) (b :: t) = if (0 < pre.length ∧ b = 0) ∨ (pre.length = 9 ∧ b > 1) then (0, 0, 42) else (val pre + b * 128 ^ pre.length, (pre.length : Int) + 1, 0) := by
    conv => lhs; unfold vr
    rw [if_pos (by omega), if_neg (by omega)]
  rw [hvr]
  rw [val_last pre b h0 h1, wrap_u64] at hX
  have hgood : ∀ c : Int, 0 ≤ c → c < 128 → X = val (pre ++ [c]) → (pre ≠ [] → 0 < c) → u = pre ++ [c] := by
    intro c g0 g1 g2 g3
    have h5 := uvf_val pre c 9 hg g0 g1 g3 hp
    rw [hu, g2]; unfold uv
    exact h5
  by_cases hv : (0 < pre.length ∧ b = 0) ∨ (pre.length = 9 ∧ b > 1)
  · rw [if_pos hv]
    show _ = (0, 0, 42)
    rcases hv with ⟨h1, h2⟩ | ⟨h9, hb2⟩
    · have e : X = val pre := by rw [hX, h2, Int.zero_mul]; omega
      rw [if_neg (by rw [hu, e]; exact uv_ne _ _ hvp0 hvp1 h1)]
    · have ep : (128 : Int) ^ pre.length = 9223372036854775808 := by rw [h9]; decide
      have e : X = val (pre ++ [b % 2]) := by
        rw [hX, val_last pre (b % 2) (by omega) (by omega), ep]
        rw [ep] at hvp1
        omega
      by_cases hb3 : b % 2 = 0
      · rw [if_neg ?_]
        rw [hu, e, hb3]
        refine uv_ne _ _ (val_nonneg _) ?_ (by omega)
        rw [val_last pre 0 (by omega) (by omega), Int.zero_mul]; omega
      · have e5 := hgood (b % 2) (by omega) (by omega) e (fun _ => by omega)
        rw [e5, if_pos (by simp), if_neg (show ¬ pre ++ [b % 2] = pre ++ [b] by intro h; have := List.append_cancel_left h; injection this with h _; omega)]
        split <;> rfl
  · rw [if_neg hv]
    have e : X = val pre + b * 128 ^ pre.length := by
      rw [hX]
      have hb0' : 0 ≤ b * 128 ^ pre.length := Int.mul_nonneg h0 (by omega)
      by_cases h9 : pre.length = 9
      · have ep : (128 : Int) ^ pre.length = 9223372036854775808 := by rw [h9]; decide
        have hb4 : b ≤ 1 := by
          rcases Int.lt_or_le 1 b with g | g
          · exact absurd (.inr ⟨h9, g⟩) hv
          · exact g
        rw [ep] at hvp1 ⊢; omega
      · have h8 := pow9 (pre.length + 1) (by omega)
        have := val_lt (pre ++ [b])
        rw [val_last pre b h0 h1, List.length_append] at this
        have h7 : pre.length + [b].length = pre.length + 1 := rfl
        rw [h7] at this
        omega
    have e5 := hgood b h0 h1 (by rw [e, val_last pre b h0 h1]) (fun hne => by
      rcases Int.lt_or_le 0 b with g | g
      · exact g
      · exact absurd (.inl ⟨List.length_pos_iff.2 hne, by omega⟩) hv)
    rw [if_pos e5, if_pos (by rw [e5]; simp), e]
    rfl
theorem ahead_f (bs : List Int) (hb : Bytes bs) (hl : bs.length < 9000000000000000000) (lim : Int) : Ev (fun k => payoffref04_ahead.f k bs lim) (aw (vr 0 0 bs) lim) := by
  obtain ⟨pre, rest, hbs, hg, hp, hs⟩ := split_goes 10 bs hb
  have hlen : bs.length = pre.length + rest.length := by rw [hbs, List.length_append]
  refine ah_l0 bs pre rest hbs hg hl hp hs lim _ ?_ pre.length 0 (by omega)
  have hv : vr 0 0 bs = vr pre.length (val pre) rest := by
    rw [hbs, vr_goes pre rest 0 0 hg (by omega), Nat.zero_add, Int.zero_add, Int.pow_zero, Int.mul_one]
  rw [hv]
  refine Ev.step (fun k => payoffref04_ahead.j1.eq_2 ..) ?_
  by_cases h10 : pre.length = 10
  · rw [h10, vr10]
    exact Ev.pos (by omega) (Ev.ret rfl)
  refine Ev.neg (by omega) ?_
  rcases hs with hs | rfl | ⟨b, t, rfl, hb0, hb1⟩
  · exact absurd hs h10
  · refine Ev.pos (by rw [hlen]; simp) (Ev.ret ?_)
    unfold vr; rw [if_pos (by omega)]; rfl
  refine Ev.neg (by rw [hlen, List.length_cons]; omega) ?_
  have hbs2 : bs = (pre ++ [b]) ++ t := by rw [hbs, List.append_assoc]; rfl
  have hL : (pre ++ [b]).length = pre.length + 1 := by simp
  have hBL : Bytes (pre ++ [b]) := fun z hz => hb z (by rw [hbs2]; exact List.mem_append_left _ hz)
  obtain ⟨X, hX⟩ : ∃ X, X = IntKind.u64.wrap (val (pre ++ [b])) := ⟨_, rfl⟩
  have hX0 : 0 ≤ X := by rw [hX, wrap_u64]; omega
  have hX1 : X < 18446744073709551616 := by rw [hX, wrap_u64]; omega
  have e0 : (((pre ++ [b]).length : Nat) : Int) - 1 = (pre.length : Int) := by rw [hL]; omega
  have h := ah_l1 bs (pre ++ [b]) t hbs2 hBL hl lim (pre.length : Int) (aw (vr pre.length (val pre) (b :: t)) lim) (by
    rw [← hX]
    refine Ev.bind (vi_f X hX0 hX1) ?_
    rw [← ah_aw pre b t hg (by omega) hb0 hb1 lim X hX _ rfl]
    exact ah_end bs (pre ++ [b]) t (uv X.toNat) hbs2 hl pre.length hL X lim) (pre ++ [b]).length (Nat.le_refl _)
  rw [List.drop_length, e0] at h
  exact h

/-! read, at a byte that is there -/
theorem n41 : ¬ ((41 : Int) = 0) := by decide
theorem take_f (bs : List Int) (p : Nat) (hp : p ≤ bs.length) (hl : bs.length ≤ 140737488355328) : octet_Reader_Take.f bs (p : Int) = if p < bs.length then some ([rd bs (p : Int)], 0, ((p + 1 : Nat) : Int)) else some ([], 41, (p : Int)) := by
  unfold octet_Reader_Take.f
  rw [if_pos ⟨by omega, by omega, hl⟩]
  by_cases h : p < bs.length
  · rw [if_pos h, if_pos (by omega)]; rfl
  · rw [if_neg h, if_neg (by omega)]
/-- read, at a byte that is there. -/
theorem read_in (bs : List Int) (hb : Bytes bs) (p : Nat) (hp : p < bs.length) (hl : bs.length ≤ 140737488355328) (lb : Int) : code_read.f 16 bs (p : Int) lb =
    if rd bs (p : Int) < 29 then
      (if opn (rd bs (p : Int)) = 0 then some (rd bs (p : Int), 0, 0, 0, 0, ((p + 1 : Nat) : Int))
      else (octet_Reader_Uint.f 16 bs ((p + 1 : Nat) : Int) (kat (rd bs (p : Int)).toNat).a).bind fun u =>
        if u.2.1 = 0 then (if opn (rd bs (p : Int)) = 1 then some (rd bs (p : Int), wrap64 u.1, 0, 0, 0, u.2.2)
          else (octet_Reader_Uint.f 16 bs u.2.2 (kat (rd bs (p : Int)).toNat).b).bind fun v =>
            if v.2.1 = 0 then some (rd bs (p : Int), wrap64 u.1, wrap64 v.1, 0, 0, v.2.2) else some (0, 0, 0, if v.2.1 = 41 then lb else u.2.2, v.2.1, v.2.2))
        else some (0, 0, 0, if u.2.1 = 41 then lb else ((p + 1 : Nat) : Int), u.2.1, u.2.2))
    else some (0, 0, 0, (p : Int), 111, ((p + 1 : Nat) : Int)) := by
  have h0 := rd_byte hb p hp
  unfold code_read.f
  rw [take_f bs p (by omega) hl, if_pos hp, Option.bind_some]
  have e : wrap64 (rd [rd bs (p : Int)] 0) = rd bs (p : Int) := by
    show wrap64 (rd bs (p : Int)) = _
    exact w64 (by omega)
  simp only [e]
  rw [if_pos trivial]
  by_cases h29 : rd bs (p : Int) < 29
  · rw [if_pos h29, if_pos ⟨h0.1, h29⟩]
    obtain ⟨-, k2, k3, k4, k5⟩ := kats (rd bs (p : Int)).toNat (by omega)
    unfold code_read.one
    rw [wu64 ⟨k2, by omega⟩, wu64 ⟨k4, by omega⟩]
  · rw [if_neg h29, if_neg (by omega)]

/-! Both Decodes -/
theorem ruint (bs : List Int) (hb : Bytes bs) (p : Nat) (hp : p ≤ bs.length) (hl : bs.length ≤ 140737488355328) (lim : Int) :
    ∃ (x e : Int) (q : Nat), q ≤ bs.length ∧ (e = 41 → q = p) ∧ octet_Reader_Uint.f 16 bs (p : Int) lim = some (x, e, (q : Int)) ∧ Ev (fun k => payoffref04_Reader_Uint.f k bs (p : Int) lim) (x, e, (q : Int)) := by
  have ha := ahead_f (bs.drop p) (hb.drop p) (by rw [List.length_drop]; omega) lim
  have hq := uint_eq bs hb p hp hl lim
  have hi := uint_inv bs hb p hp hl lim
  obtain ⟨⟨y, m, e⟩, hv⟩ : ∃ t, vr 0 0 (bs.drop p) = t := ⟨_, rfl⟩
  rw [hv] at ha hq
  have hr : ∀ U, aw (y, m, e) lim = U → Ev (fun k => payoffref04_Reader_Uint.f k bs (p : Int) lim) (U.1, U.2.2, wrap64 ((p : Int) + U.2.1)) := by
    intro U hU
    unfold payoffref04_Reader_Uint.f
    rw [hU] at ha
    refine Ev.pos ⟨by omega, by omega, hl⟩ ?_
    rw [Int.toNat_natCast]
    exact Ev.bind ha (Ev.ret rfl)
  have hw0 : wrap64 ((p : Int) + 0) = (p : Int) := by rw [w64 (by omega)]; omega
  by_cases he : e = 0
  · subst he
    by_cases hlim : y > lim
    · have := hr (0, 0, 42) (by unfold aw; rw [if_pos rfl, if_pos hlim])
      rw [hw0] at this
      exact ⟨0, 42, p, hp, (fun h => by cases h), by rw [hq, if_pos rfl, if_pos hlim], this⟩
    · have := hr (y, m, 0) (by unfold aw; rw [if_pos rfl, if_neg hlim])
      rw [if_pos rfl, if_neg hlim] at hq
      rcases hi with ⟨n, h1, h2, h3, h4⟩ | ⟨e2, he2, h4⟩
      · rw [hq] at h4
        injection h4 with h4
        injection h4 with h5 h4
        injection h4 with h6 h7
        have h7' : wrap64 ((p : Int) + m) = ((p + (uv n).length : Nat) : Int) := h7
        exact ⟨y, 0, p + (uv n).length, h3, (fun h => by cases h), by rw [hq, ← h7'], by rw [h7'] at this; exact this⟩
      · rw [hq] at h4
        injection h4 with h4
        injection h4 with h5 h4
        injection h4 with h6 h7
        exact absurd h6.symm he2
  · have := hr (0, 0, e) (by unfold aw; rw [if_neg he])
    rw [hw0] at this
    exact ⟨0, e, p, hp, (fun _ => rfl), by rw [hq, if_neg he], this⟩
/-- The reference's operand. -/
theorem roperand_none (bs : List Int) (p : Int) (a : Int) (ha : a < 0) : Ev (fun k => payoffref11_operand.f k bs p a) (0, 0, 0, p) := Ev.pos ha (Ev.ret rfl)
theorem roperand (bs : List Int) (hb : Bytes bs) (p : Nat) (hp : p ≤ bs.length) (hl : bs.length ≤ 140737488355328) (a : Int) (ha : 0 ≤ a) (ha1 : a < 2097152) :
    ∃ (x e : Int) (q : Nat), q ≤ bs.length ∧ octet_Reader_Uint.f 16 bs (p : Int) a = some (x, e, (q : Int)) ∧ Ev (fun k => payoffref11_operand.f k bs (p : Int) a) (wrap64 x, if e = 41 then (bs.length : Int) else (p : Int), e, (q : Int)) := by
  obtain ⟨x, e, q, hq, hqp, h1, h2⟩ := ruint bs hb p hp hl a
  refine ⟨x, e, q, hq, h1, ?_⟩
  unfold payoffref11_operand.f
  refine Ev.neg (by omega) (Ev.call (show payoffref04_Reader_Place.f bs (p : Int) = some ((p : Int), (p : Int)) from rfl) ?_)
  rw [wu64 ⟨ha, by omega⟩]
  refine Ev.bind h2 ?_
  by_cases he : e = 41
  · rw [show (if e = 41 then (bs.length : Int) else (p : Int)) = (bs.length : Int) from if_pos he]
    obtain rfl := hqp he
    refine Ev.pos he (Ev.call (show payoffref04_Reader_Left.f bs (q : Int) = some (wrap64 ((bs.length : Int) - q), (q : Int)) from rfl) (Ev.ret ?_))
    have e1 : wrap64 ((bs.length : Int) - q) = (bs.length : Int) - q := w64 (by omega)
    have e2 : wrap64 ((q : Int) + ((bs.length : Int) - q)) = (bs.length : Int) := by rw [w64 (by omega)]; omega
    rw [e1, e2]
  · rw [show (if e = 41 then (bs.length : Int) else (p : Int)) = (p : Int) from if_neg he]
    exact Ev.neg he (Ev.ret rfl)
theorem rtake_f (bs : List Int) (p : Nat) (hp : p < bs.length) (hl : bs.length ≤ 140737488355328) : payoffref04_Reader_Take.f bs (p : Int) 1 = some ([rd bs (p : Int)], 0, ((p + 1 : Nat) : Int)) := by
  unfold payoffref04_Reader_Take.f
  rw [if_pos ⟨rfl, by omega, by omega, hl⟩, if_pos (by omega)]; rfl
theorem rleft_f (bs : List Int) (p : Int) : payoffref04_Reader_Left.f bs p = some (wrap64 ((bs.length : Int) - p), p) := rfl
theorem rplace_f (bs : List Int) (p : Int) : payoffref04_Reader_Place.f bs p = some (p, p) := rfl
theorem both_l0 (bs : List Int) (hb : Bytes bs) (hl : bs.length ≤ 140737488355328) (cnt : Int) (hc : cnt ≤ 262144) : ∀ (d : Nat) (acc : List S27) (i : Int) (p : Nat), p ≤ bs.length → 0 ≤ i → i + d = cnt → (acc.length : Int) ≤ i →
    ∃ r : List S27 × Int × Int, r.1.length ≤ 262144 ∧ Ev (fun k => code_Decode.l0 k bs acc cnt i bs (p : Int)) r ∧ Ev (fun k => payoffref11_Decode.l0 k bs cnt acc i bs (p : Int)) r := by
  intro d
  induction d with
  | zero =>
    intro acc i p hp hi h1 h2
    obtain rfl : i = cnt := by omega
    refine ⟨if p < bs.length then ([], (p : Int), 46) else (acc, 0, 0), ?_, ?_, ?_⟩
    · split
      · simp
      · show acc.length ≤ _; omega
    · refine Ev.step (fun k => code_Decode.l0.eq_2 ..) (Ev.neg (by omega) (Ev.call (show octet_Reader_Left.f bs (p : Int) = some (wrap64 ((bs.length : Int) - p), (p : Int)) from rfl) ?_))
      by_cases h : p < bs.length
      · rw [if_pos h]
        exact Ev.pos (by show wrap64 _ > 0; rw [w64 (by omega)]; omega) (Ev.call (show octet_Reader_Place.f bs (p : Int) = some ((p : Int), (p : Int)) from rfl) (Ev.ret rfl))
      · rw [if_neg h]
        exact Ev.neg (by show ¬ wrap64 _ > 0; rw [w64 (by omega)]; omega) (Ev.ret rfl)
    · refine Ev.step (fun k => payoffref11_Decode.l0.eq_2 ..) (Ev.neg (by omega) (Ev.call (rleft_f bs p) ?_))
      by_cases h : p < bs.length
      · rw [if_pos h]
        exact Ev.pos (by show wrap64 _ > 0; rw [w64 (by omega)]; omega) (Ev.call (rplace_f bs p) (Ev.ret rfl))
      · rw [if_neg h]
        exact Ev.neg (by show ¬ wrap64 _ > 0; rw [w64 (by omega)]; omega) (Ev.ret rfl)
  | succ d ih =>
    intro acc i p hp hi h1 h2
    rcases Nat.lt_or_ge p bs.length with hlt | hge
    · have h0 := rd_byte hb p hlt
      obtain ⟨o, ho⟩ := Int.eq_ofNat_of_zero_le h0.1
      have hread := read_in bs hb p hlt hl (bs.length : Int)
      rw [ho] at hread
      have hw1 : wrap64 (rd [rd bs (p : Int)] 0) = (o : Int) := by
        show wrap64 (rd bs (p : Int)) = _
        rw [ho]; exact w64 (by omega)
      have hleft : ¬ (wrap64 ((bs.length : Int) - p)) = 0 := by rw [w64 (by omega)]; omega
      -- what is left to show of the reference
      have hstep : ∀ r, Ev (fun k => (payoffref11_row.f (o : Int)).bind fun bt178 => (if bt178.2.2.2.2.2 = 0 then ((payoffref11_operand.f k bs ((p + 1 : Nat) : Int) bt178.2.1).bind fun bt187 => (if bt187.2.2.1 = 0 then ((payoffref11_operand.f k bs bt187.2.2.2 bt178.2.2.1).bind fun bt191 => (if bt191.2.2.1 = 0 then (if acc.length < 5864062014805 then (payoffref11_Decode.l0 k bs cnt (acc ++ [(⟨(o : Int), bt187.1, bt191.1⟩ : S27)]) (wrap64 (i + 1)) bs bt191.2.2.2) else (none)) else (some (([] : List (S27)), bt191.2.1, bt191.2.2.1)))) else (some (([] : List (S27)), bt187.2.1, bt187.2.2.1)))) else (some (([] : List (S27)), (p : Int), bt178.2.2.2.2.2)))) r →
          Ev (fun k => payoffref11_Decode.l0 k bs cnt acc i bs (p : Int)) r := by
        intro r hr
        refine Ev.step (fun k => payoffref11_Decode.l0.eq_2 ..) (Ev.pos (by omega) (Ev.call (rleft_f bs p) (Ev.neg hleft (Ev.call (rplace_f bs p) (Ev.call (rtake_f bs p hlt hl) (Ev.pos (show (0 : Int) < ((1 : Nat) : Int) by decide) ?_))))))
        simp only [hw1]
        exact hr
      have hcstep : ∀ (res : Int × Int × Int × Int × Int × Int) r, code_read.f 16 bs (p : Int) (bs.length : Int) = some res →
          Ev (fun k => if res.2.2.2.2.1 = 0 then (if acc.length < 5864062014805 then (code_Decode.l0 k bs (acc ++ [(⟨res.1, res.2.1, res.2.2.1⟩ : S27)]) cnt (wrap64 (i + 1)) bs res.2.2.2.2.2) else (none)) else (some (([] : List (S27)), res.2.2.2.1, res.2.2.2.2.1))) r →
          Ev (fun k => code_Decode.l0 k bs acc cnt i bs (p : Int)) r := by
        intro res r he hr
        exact Ev.step (fun k => code_Decode.l0.eq_2 ..) (Ev.pos (by omega) (Ev.call he hr))
      have hwi : wrap64 (i + 1) = i + 1 := w64 (by omega)
      have hacc : acc.length < 5864062014805 := by omega
      rw [hwi] at hstep hcstep
      -- one instruction more
      have hnext : ∀ (x y : Int) (q : Nat), q ≤ bs.length → ∃ r : List S27 × Int × Int, r.1.length ≤ 262144 ∧ Ev (fun k => code_Decode.l0 k bs (acc ++ [(⟨(o : Int), x, y⟩ : S27)]) cnt (i + 1) bs (q : Int)) r ∧ Ev (fun k => payoffref11_Decode.l0 k bs cnt (acc ++ [(⟨(o : Int), x, y⟩ : S27)]) (i + 1) bs (q : Int)) r :=
        fun x y q hq => ih _ (i + 1) q hq (by omega) (by omega) (by rw [List.length_append]; simp; omega)
      by_cases h29 : o < 29
      · obtain ⟨k1, k2, k3, k4, k5⟩ := kats o h29
        have eo : opn ((o : Nat) : Int) = (kat o).n := by unfold opn; rw [Int.toNat_natCast]
        have hrow : payoffref11_row.f (o : Int) = some (⟨(kat o).nm.toArray⟩, (bat o).1, (bat o).2, (kat o).t, (kat o).p, 0) := by
          unfold payoffref11_row.f rowOf; rw [if_pos ⟨by omega, by omega⟩, Int.toNat_natCast]
        rw [if_pos (by omega), eo, Int.toNat_natCast] at hread
        have hstep2 := fun r hr => hstep r (Ev.call hrow (Ev.pos rfl hr))
        clear hstep
        rcases k1 with ⟨hn, hbat⟩ | ⟨hn, hbat⟩ | ⟨hn, hbat⟩
        · rw [hn, if_pos rfl] at hread
          rw [hbat] at hstep2
          obtain ⟨r, hr1, hr2, hr3⟩ := hnext 0 0 (p + 1) (by omega)
          exact ⟨r, hr1, hcstep _ r hread (Ev.pos rfl (Ev.pos hacc hr2)), hstep2 r (Ev.bind (roperand_none bs _ (-1) (by decide)) (Ev.pos rfl (Ev.bind (roperand_none bs _ (-1) (by decide)) (Ev.pos rfl (Ev.pos hacc hr3)))))⟩
        · rw [hn, if_neg (by decide)] at hread
          rw [hbat] at hstep2
          obtain ⟨x, e, q, hq, hu, hop⟩ := roperand bs hb (p + 1) (by omega) hl (kat o).a k2 k3
          rw [hu, Option.bind_some] at hread
          by_cases he : e = 0
          · subst he
            rw [if_pos rfl, if_pos rfl] at hread
            obtain ⟨r, hr1, hr2, hr3⟩ := hnext (wrap64 x) 0 q hq
            exact ⟨r, hr1, hcstep _ r hread (Ev.pos rfl (Ev.pos hacc hr2)), hstep2 r (Ev.bind hop (Ev.pos rfl (Ev.bind (roperand_none bs _ (-1) (by decide)) (Ev.pos rfl (Ev.pos hacc hr3)))))⟩
          · rw [if_neg he] at hread
            exact ⟨([], _, e), by simp, hcstep _ _ hread (Ev.neg he (Ev.ret rfl)), hstep2 _ (Ev.bind hop (Ev.neg he (Ev.ret rfl)))⟩
        · rw [hn, if_neg (by decide)] at hread
          rw [hbat] at hstep2
          obtain ⟨x, e, q, hq, hu, hop⟩ := roperand bs hb (p + 1) (by omega) hl (kat o).a k2 k3
          rw [hu, Option.bind_some] at hread
          by_cases he : e = 0
          · subst he
            rw [if_pos rfl, if_neg (by decide)] at hread
            obtain ⟨y, e, q2, hq2, hu2, hop2⟩ := roperand bs hb q hq hl (kat o).b k4 k5
            rw [hu2, Option.bind_some] at hread
            by_cases he : e = 0
            · subst he
              rw [if_pos rfl] at hread
              obtain ⟨r, hr1, hr2, hr3⟩ := hnext (wrap64 x) (wrap64 y) q2 hq2
              exact ⟨r, hr1, hcstep _ r hread (Ev.pos rfl (Ev.pos hacc hr2)), hstep2 r (Ev.bind hop (Ev.pos rfl (Ev.bind hop2 (Ev.pos rfl (Ev.pos hacc hr3)))))⟩
            · rw [if_neg he] at hread
              exact ⟨([], _, e), by simp, hcstep _ _ hread (Ev.neg he (Ev.ret rfl)), hstep2 _ (Ev.bind hop (Ev.pos rfl (Ev.bind hop2 (Ev.neg he (Ev.ret rfl)))))⟩
          · rw [if_neg he] at hread
            exact ⟨([], _, e), by simp, hcstep _ _ hread (Ev.neg he (Ev.ret rfl)), hstep2 _ (Ev.bind hop (Ev.neg he (Ev.ret rfl)))⟩
      · have hrow : payoffref11_row.f (o : Int) = some (⟨#[]⟩, 0, 0, 0, 0, 111) := by
          unfold payoffref11_row.f rowOf; rw [if_neg (by omega)]
        rw [if_neg (by omega)] at hread
        exact ⟨([], (p : Int), 111), by simp, hcstep _ _ hread (Ev.neg (show ¬ (111 : Int) = 0 by decide) (Ev.ret rfl)), hstep _ (Ev.call hrow (Ev.neg (show ¬ (111 : Int) = 0 by decide) (Ev.ret rfl)))⟩
    · have hread : code_read.f 16 bs (p : Int) (bs.length : Int) = some (0, 0, 0, (bs.length : Int), 41, (p : Int)) := by
        unfold code_read.f
        rw [take_f bs p hp hl, if_neg (by omega), Option.bind_some, if_neg n41]
      refine ⟨([], (bs.length : Int), 41), by simp, Ev.step (fun k => code_Decode.l0.eq_2 ..) (Ev.pos (by omega) (Ev.call hread (Ev.neg n41 (Ev.ret rfl)))), ?_⟩
      refine Ev.step (fun k => payoffref11_Decode.l0.eq_2 ..) (Ev.pos (by omega) (Ev.call (rleft_f bs p) (Ev.pos ?_ (Ev.ret rfl))))
      show wrap64 _ = 0
      rw [w64 (by omega)]; omega
/-- Whatever is asked, both answer the same. -/
theorem both_f (bs : List Int) (hb : Bytes bs) (hl : bs.length < 140737488355328) (cnt : Int) :
    ∃ r : List S27 × Int × Int, r.1.length ≤ 262144 ∧ Ev (fun k => code_Decode.f k bs cnt) r ∧ Ev (fun k => payoffref11_Decode.f k bs cnt) r := by
  unfold code_Decode.f payoffref11_Decode.f
  by_cases h0 : cnt < 0
  · exact ⟨([], 0, 1), by simp, Ev.pos h0 (Ev.ret rfl), Ev.pos h0 (Ev.ret rfl)⟩
  by_cases h1 : cnt > 262144
  · exact ⟨([], 0, 6), by simp, Ev.neg h0 (Ev.pos h1 (Ev.ret rfl)), Ev.neg h0 (Ev.pos h1 (Ev.ret rfl))⟩
  obtain ⟨r, hr1, hr2, hr3⟩ := both_l0 bs hb (by omega) cnt (by omega) cnt.toNat [] 0 0 (by omega) (by omega) (by omega) (by simp)
  exact ⟨r, hr1, Ev.neg h0 (Ev.neg h1 (Ev.call (show octet_NewReader.f bs = some (bs, 0) by unfold octet_NewReader.f; rw [if_pos (by omega)]) hr2)), Ev.neg h0 (Ev.neg h1 (Ev.call (show payoffref04_NewReader.f bs = some (bs, 0) by unfold payoffref04_NewReader.f; rw [if_pos hl]) hr3))⟩

theorem same_l0 (l : List Int) (hl : l.length ≤ 1000000000000000) : ∀ (d i : Nat), i + d = l.length → Ev (fun k => payofflaw11_sameBytes.l0 k l l (i : Int)) true := by
  intro d
  induction d with
  | zero => intro i h; exact Ev.step (fun k => payofflaw11_sameBytes.l0.eq_2 ..) (Ev.neg (by omega) (Ev.ret rfl))
  | succ d ih =>
    intro i h
    refine Ev.step (fun k => payofflaw11_sameBytes.l0.eq_2 ..) (Ev.pos (by omega) (Ev.pos (by omega) (Ev.pos (by omega) (Ev.pos rfl ?_))))
    rw [w64 (by omega)]
    exact ih (i + 1) (by omega)
theorem same_f (l : List Int) (hl : l.length ≤ 1000000000000000) : Ev (fun k => payofflaw11_sameBytes.f k l l) true := Ev.pos rfl (same_l0 l hl l.length 0 (by omega))

theorem samec_l0 (l : List S27) (hl : l.length ≤ 1000000000000000) : ∀ (d i : Nat), i + d = l.length → Ev (fun k => payofflaw11_sameCode.l0 k l l (i : Int)) true := by
  intro d
  induction d with
  | zero => intro i h; exact Ev.step (fun k => payofflaw11_sameCode.l0.eq_2 ..) (Ev.neg (by omega) (Ev.ret rfl))
  | succ d ih =>
    intro i h
    refine Ev.step (fun k => payofflaw11_sameCode.l0.eq_2 ..) (Ev.pos (by omega) (Ev.pos (by omega) (Ev.pos (by omega) (Ev.neg (by simp) ?_))))
    rw [w64 (by omega)]
    exact ih (i + 1) (by omega)
theorem samec_f (l : List S27) (hl : l.length ≤ 1000000000000000) : Ev (fun k => payofflaw11_sameCode.f k l l) true := Ev.pos rfl (samec_l0 l hl l.length 0 (by omega))

/-! CodeDecodes' loops -/
def s77 : S27 := ⟨77, 0, 0⟩
def s78 : S27 := ⟨78, 0, 0⟩
def tl8 : List Int := [0, 9, 18, 27, 36, 45, 54, 63]
theorem tl8_at (i : Nat) (h : i < 8) : (wrap64 (9 * (i : Int))) % 256 = 9 * (i : Int) := by rw [w64 (by omega)]; omega
theorem tl8_get (i : Nat) (h : i < 8) : tl8[i]? = some (9 * (i : Int)) := by
  rcases (show i = 0 ∨ i = 1 ∨ i = 2 ∨ i = 3 ∨ i = 4 ∨ i = 5 ∨ i = 6 ∨ i = 7 by omega) with rfl | rfl | rfl | rfl | rfl | rfl | rfl | rfl <;> rfl
theorem tl8_take (i : Nat) (h : i < 8) : tl8.take (i + 1) = tl8.take i ++ [9 * (i : Int)] := by
  rw [List.take_add_one, tl8_get i h]; rfl
theorem set_at {α : Type} (a : List α) (x y : α) (t : List α) : (a ++ x :: t).set a.length y = a ++ y :: t := by
  induction a with
  | nil => rfl
  | cons b a ih => simp [ih]
theorem take_len {α : Type} (a b : List α) : (a ++ b).take ((a.length : Nat) : Int).toNat = a := by rw [Int.toNat_natCast, List.take_left]
theorem same_ev (l : List Int) (hl : l.length < 140737488355000) : Ev (fun k => payofflaw11_sameBytes.f k l l) true := same_f l (by omega)
theorem samec_ev (l : List S27) (hl : l.length ≤ 262144) : Ev (fun k => payofflaw11_sameCode.f k l l) true := samec_f l (by omega)
theorem Bytes.rev {l : List Int} (h : Bytes l) : Bytes l.reverse := fun b hb => h b (List.mem_reverse.1 hb)
theorem dec_l5 (l : List Int) (hb : Bytes l) (hl : l.length < 140737488355000) (a : Int) (x10 : List S27) (h10 : x10.length ≤ 262144) : ∀ (d i : Nat), i + d = l.length →
    Ev (fun k => payofflaw11_CodeDecodes.l5 k l a (l.reverse.take i ++ l.drop i ++ tl8) x10 x10 (l.reverse.take i ++ l.drop i) (i : Int)) true := by
  intro d
  induction d with
  | zero =>
    intro i hi
    have hr : l.reverse.take i ++ l.drop i = l.reverse := by rw [List.drop_eq_nil_of_le (by omega), List.append_nil, List.take_of_length_le (by simp; omega)]
    rw [hr]
    refine Ev.step (fun k => payofflaw11_CodeDecodes.l5.eq_2 ..) (Ev.neg (by omega) (Ev.pos (by omega) (Ev.pos (by simp; omega) ?_)))
    have ht : (l.reverse ++ tl8).take ((l.length : Int) : Int).toNat = l.reverse := by rw [Int.toNat_natCast, show l.length = l.reverse.length by simp, List.take_left]
    rw [ht]
    obtain ⟨r, hr1, hr2, hr3⟩ := both_f l.reverse hb.rev (by simp; omega) a
    exact Ev.bind hr2 (Ev.bind hr3 (Ev.pos rfl (Ev.pos rfl (Ev.bind (samec_ev _ hr1) (Ev.pos rfl (Ev.bind (samec_ev _ h10) (Ev.ret rfl)))))))
  | succ d ih =>
    intro i hi
    have hil : i < l.length := by omega
    have hw1 : wrap64 ((l.length : Int) - 1) = (l.length : Int) - 1 := w64 (by omega)
    have hw2 : wrap64 ((l.length : Int) - 1 - (i : Int)) = ((l.length - 1 - i : Nat) : Int) := by rw [w64 (by omega)]; omega
    have hw3 : wrap64 ((i : Int) + 1) = ((i + 1 : Nat) : Int) := by rw [w64 (by omega)]; omega
    have hrl : (l.reverse.take i).length = i := by rw [List.length_take, List.length_reverse]; omega
    have hlen : (l.reverse.take i ++ l.drop i).length = l.length := by rw [List.length_append, hrl, List.length_drop]; omega
    refine Ev.step (fun k => payofflaw11_CodeDecodes.l5.eq_2 ..) (Ev.pos (by omega) ?_)
    rw [hw1, hw2, hw3]
    refine Ev.pos (by omega) (Ev.pos (by omega) (Ev.pos (by omega) (Ev.pos (by rw [hlen]; omega) (Ev.call rfl (Ev.pos (by rw [List.length_append, hlen]; show (i : Int) < ((l.length + 8 : Nat) : Int); omega) ?_)))))
    have hx : rd l ((l.length - 1 - i : Nat) : Int) = l.reverse[i]'(by simp; omega) := by
      unfold rd; rw [Int.toNat_natCast, List.getD_eq_getElem?_getD, List.getElem?_eq_getElem (by omega), List.getElem_reverse]; rfl
    rw [hx]
    have hset : (l.reverse.take i ++ l.drop i).set ((i : Nat) : Int).toNat (l.reverse[i]'(by simp; omega)) = l.reverse.take (i + 1) ++ l.drop (i + 1) := by
      rw [Int.toNat_natCast, List.drop_eq_getElem_cons hil]
      conv => lhs; arg 2; rw [← hrl]
      rw [set_at, List.take_succ_eq_append_getElem (by simp; omega), List.append_assoc]; rfl
    rw [hset]
    have hrd : rd (l.reverse.take (i + 1) ++ l.drop (i + 1)) (i : Int) = l.reverse[i]'(by simp; omega) := by
      rw [List.take_succ_eq_append_getElem (by simp; omega), List.append_assoc, List.singleton_append]
      have := rd_app_mid (l.reverse.take i) (l.reverse[i]'(by simp; omega)) (l.drop (i + 1))
      rw [hrl] at this
      exact this
    rw [hrd]
    have hset2 : (l.reverse.take i ++ l.drop i ++ tl8).set ((i : Nat) : Int).toNat (l.reverse[i]'(by simp; omega)) = l.reverse.take (i + 1) ++ l.drop (i + 1) ++ tl8 := by
      rw [← hset, Int.toNat_natCast, List.set_append_left _ _ (by rw [hlen]; exact hil)]
    rw [hset2]
    exact ih (i + 1) (by omega)
theorem dec_l4 (l : List Int) (hb : Bytes l) (hl : l.length < 140737488355000) (a : Int) (n : Nat) (hn : n ≤ 262144) (x10 : List S27) (h10 : x10.length ≤ 262144) (x15 : Int) : ∀ (d i : Nat), i + d = n + 70 →
    Ev (fun k => payofflaw11_CodeDecodes.l4 k l a (l ++ tl8) (List.replicate n s77) x10 x10 x15 (List.replicate n s77 ++ List.replicate 70 s78) x10 x15 (i : Int)) true := by
  intro d
  induction d with
  | zero =>
    intro i hi
    refine Ev.step (fun k => payofflaw11_CodeDecodes.l4.eq_2 ..) (Ev.neg (by simp; omega) (Ev.pos rfl (Ev.bind (samec_ev _ h10) (Ev.pos rfl (Ev.bind (samec_ev _ h10) ?_)))))
    refine Ev.step (fun k => payofflaw11_CodeDecodes.j6.eq_2 ..) (Ev.neg (by decide) (Ev.call rfl (Ev.pos (by simp; omega) ?_)))
    have := dec_l5 l hb hl a x10 h10 l.length 0 (by omega)
    rw [List.take_zero, List.drop_zero, List.nil_append] at this
    exact this
  | succ d ih =>
    intro i hi
    have hw3 : wrap64 ((i : Int) + 1) = ((i + 1 : Nat) : Int) := by rw [w64 (by omega)]; omega
    have hL : (List.replicate n s77).length = n := List.length_replicate
    have hR : (List.replicate n s77 ++ List.replicate 70 s78).length = n + 70 := by rw [List.length_append, hL, List.length_replicate]
    refine Ev.step (fun k => payofflaw11_CodeDecodes.l4.eq_2 ..) (Ev.pos (by rw [hR]; omega) ?_)
    rw [hw3]
    have hnext := ih (i + 1) (by omega)
    by_cases h : i < n
    · have e1 : rd_T27 (List.replicate n s77) (i : Int) = s77 := by
        unfold rd_T27; rw [Int.toNat_natCast, List.getD_eq_getElem?_getD, List.getElem?_replicate, if_pos h]; rfl
      have e2 : rd_T27 (List.replicate n s77 ++ List.replicate 70 s78) (i : Int) = s77 := by
        unfold rd_T27; rw [Int.toNat_natCast, List.getD_eq_getElem?_getD, List.getElem?_append_left (by rw [hL]; exact h), List.getElem?_replicate, if_pos h]; rfl
      exact Ev.pos (by rw [hL]; omega) (Ev.pos (by omega) (Ev.pos (by rw [e1]; rfl) (Ev.pos (by rw [e2]; rfl) (Ev.neg (by rw [hL]; omega) hnext))))
    · have e3 : rd_T27 (List.replicate n s77 ++ List.replicate 70 s78) (i : Int) = s78 := by
        unfold rd_T27; rw [Int.toNat_natCast, List.getD_eq_getElem?_getD, List.getElem?_append_right (by rw [hL]; omega), hL, List.getElem?_replicate, if_pos (by omega)]; rfl
      exact Ev.neg (by rw [hL]; omega) (Ev.pos (by rw [hL]; omega) (Ev.pos (by omega) (Ev.pos (by rw [e3]; rfl) hnext)))
theorem dec_l3 (l : List Int) (hb : Bytes l) (hl : l.length < 140737488355000) (a : Int) (n : Nat) (hn : n ≤ 262144) (r : List S27 × Int × Int) (hr1 : r.1.length ≤ 262144) (hr2 : Ev (fun k => code_Decode.f k l a) r) : ∀ (d i : Nat), i + d = 70 →
    Ev (fun k => payofflaw11_CodeDecodes.l3 k l a (l ++ tl8) (List.replicate n s77) r.1 r.1 r.2.2 (List.replicate n s77 ++ List.replicate i s78) (i : Int)) true := by
  intro d
  induction d with
  | zero =>
    intro i hi
    obtain rfl : i = 70 := by omega
    refine Ev.step (fun k => payofflaw11_CodeDecodes.l3.eq_2 ..) (Ev.neg (by decide) (Ev.pos (by omega) (Ev.pos (by rw [List.length_append]; omega) ?_)))
    rw [take_len]
    exact Ev.bind hr2 (dec_l4 l hb hl a n hn r.1 hr1 r.2.2 (n + 70) 0 (by omega))
  | succ d ih =>
    intro i hi
    have hw3 : wrap64 ((i : Int) + 1) = ((i + 1 : Nat) : Int) := by rw [w64 (by omega)]; omega
    refine Ev.step (fun k => payofflaw11_CodeDecodes.l3.eq_2 ..) (Ev.pos (by omega) (Ev.pos (by simp; omega) ?_))
    have e : List.replicate n s77 ++ List.replicate i s78 ++ [(⟨78, 0, 0⟩ : S27)] = List.replicate n s77 ++ List.replicate (i + 1) s78 := by
      rw [List.append_assoc, List.replicate_succ']; rfl
    rw [hw3, e]
    exact ih (i + 1) (by omega)
theorem dec_l2 (l : List Int) (hb : Bytes l) (hl : l.length < 140737488355000) (a : Int) (r : List S27 × Int × Int) (hr1 : r.1.length ≤ 262144) (hr2 : Ev (fun k => code_Decode.f k l a) r) : ∀ (t : List S27) (i : Nat), i + t.length ≤ 262144 →
    Ev (fun k => payofflaw11_CodeDecodes.l2 k l a (l ++ tl8) (List.replicate i s77 ++ t) r.1 r.1 r.2.2 (i : Int)) true := by
  intro t
  induction t with
  | nil =>
    intro i hi
    rw [List.append_nil]
    refine Ev.step (fun k => payofflaw11_CodeDecodes.l2.eq_2 ..) (Ev.neg (by simp) (Ev.call rfl (Ev.pos (by simp; simp at hi; omega) ?_)))
    have := dec_l3 l hb hl a i (by simp at hi; omega) r hr1 hr2 70 0 (by omega)
    rw [List.replicate_zero, List.append_nil] at this
    exact this
  | cons b t ih =>
    intro i hi
    rw [List.length_cons] at hi
    have hw3 : wrap64 ((i : Int) + 1) = ((i + 1 : Nat) : Int) := by rw [w64 (by omega)]; omega
    have hrl : (List.replicate i s77).length = i := List.length_replicate
    have hset : (List.replicate i s77 ++ b :: t).set ((i : Nat) : Int).toNat (⟨77, 0, 0⟩ : S27) = List.replicate (i + 1) s77 ++ t := by
      rw [Int.toNat_natCast]
      conv => lhs; arg 2; rw [← hrl]
      rw [set_at, List.replicate_succ', List.append_assoc]; rfl
    refine Ev.step (fun k => payofflaw11_CodeDecodes.l2.eq_2 ..) (Ev.pos (by rw [List.length_append, hrl, List.length_cons]; omega) (Ev.pos (by omega) ?_))
    rw [hw3, hset]
    exact ih (i + 1) (by omega)
theorem dec_l1 (l : List Int) (hb : Bytes l) (hl : l.length < 140737488355000) (a : Int) (r : List S27 × Int × Int) (hr1 : r.1.length ≤ 262144) (hr2 : Ev (fun k => code_Decode.f k l a) r) : ∀ (d i : Nat), i + d = 8 →
    Ev (fun k => payofflaw11_CodeDecodes.l1 k l a (l ++ tl8) r.1 r.1 r.1 r.2.2 (i : Int)) true := by
  intro d
  have hlen : (l ++ tl8).length = l.length + 8 := by rw [List.length_append]; rfl
  induction d with
  | zero =>
    intro i hi
    refine Ev.step (fun k => payofflaw11_CodeDecodes.l1.eq_2 ..) (Ev.neg (by omega) ?_)
    exact dec_l2 l hb hl a r hr1 hr2 r.1 0 (by omega)
  | succ d ih =>
    intro i hi
    have hw3 : wrap64 ((i : Int) + 1) = ((i + 1 : Nat) : Int) := by rw [w64 (by omega)]; omega
    have hw2 : wrap64 ((l.length : Int) + (i : Int)) = ((l.length + i : Nat) : Int) := by rw [w64 (by omega)]; omega
    have hrd : rd (l ++ tl8) ((l.length + i : Nat) : Int) = 9 * (i : Int) := by
      unfold rd
      rw [Int.toNat_natCast, List.getD_eq_getElem?_getD, List.getElem?_append_right (by omega), show l.length + i - l.length = i by omega, tl8_get i (by omega)]; rfl
    refine Ev.step (fun k => payofflaw11_CodeDecodes.l1.eq_2 ..) (Ev.pos (by omega) ?_)
    rw [hw2, hw3, hrd, tl8_at i (by omega)]
    exact Ev.pos (by omega) (Ev.pos (by rw [hlen]; omega) (Ev.pos rfl (ih (i + 1) (by omega))))
theorem dec_l0 (l : List Int) (hb : Bytes l) (hl : l.length < 140737488355000) (a : Int) : ∀ (d i : Nat), i + d = 8 →
    Ev (fun k => payofflaw11_CodeDecodes.l0 k l a (l ++ (tl8.take i ++ List.replicate d 0)) (i : Int)) true := by
  intro d
  have ht8 : ∀ i, i ≤ 8 → (tl8.take i).length = i := fun i h => by rw [List.length_take]; show min i 8 = i; omega
  induction d with
  | zero =>
    intro i hi
    obtain rfl : i = 8 := by omega
    have hs : l ++ (tl8.take 8 ++ List.replicate 0 0) = l ++ tl8 := rfl
    rw [hs]
    have hlen : (l ++ tl8).length = l.length + 8 := by rw [List.length_append]; rfl
    refine Ev.step (fun k => payofflaw11_CodeDecodes.l0.eq_2 ..) (Ev.neg (by decide) (Ev.pos (by omega) (Ev.pos (by rw [hlen]; omega) ?_)))
    rw [take_len]
    obtain ⟨r, hr1, hr2, hr3⟩ := both_f l hb (by omega) a
    refine Ev.bind hr2 (Ev.bind hr2 (Ev.bind hr3 (Ev.pos rfl (Ev.pos rfl (Ev.bind (samec_ev _ hr1) (Ev.pos rfl (Ev.bind (samec_ev _ hr1) (Ev.pos rfl (Ev.bind (same_ev l hl) ?_)))))))))
    refine Ev.step (fun k => payofflaw11_CodeDecodes.j1.eq_2 ..) (Ev.neg (by decide) ?_)
    exact dec_l1 l hb hl a r hr1 hr2 8 0 (by omega)
  | succ d ih =>
    intro i hi
    have hw3 : wrap64 ((i : Int) + 1) = ((i + 1 : Nat) : Int) := by rw [w64 (by omega)]; omega
    have hw2 : wrap64 ((l.length : Int) + (i : Int)) = ((l.length + i : Nat) : Int) := by rw [w64 (by omega)]; omega
    have hpre : (l ++ tl8.take i).length = l.length + i := by rw [List.length_append, ht8 i (by omega)]
    have hset : (l ++ (tl8.take i ++ List.replicate (d + 1) 0)).set ((l.length + i : Nat) : Int).toNat (9 * (i : Int)) = l ++ (tl8.take (i + 1) ++ List.replicate d 0) := by
      rw [Int.toNat_natCast, List.replicate_succ, ← List.append_assoc]
      conv => lhs; arg 2; rw [← hpre]
      rw [set_at, tl8_take i (by omega), List.append_assoc, List.append_assoc]; rfl
    refine Ev.step (fun k => payofflaw11_CodeDecodes.l0.eq_2 ..) (Ev.pos (by omega) ?_)
    rw [hw2, hw3, tl8_at i (by omega), hset]
    exact Ev.pos (by omega) (Ev.pos (by rw [List.length_append, List.length_append, ht8 i (by omega), List.length_replicate]; omega) (ih (i + 1) (by omega)))
theorem decodes_all (l : List Int) (hb : Bytes l) (hl : l.length < 140737488355000) (a : Int) : Ev (fun k => payofflaw11_CodeDecodes.f k l a) true := by
  unfold payofflaw11_CodeDecodes.f
  have hw : wrap64 ((l.length : Int) + 8) = ((l.length + 8 : Nat) : Int) := by rw [w64 (by omega)]; omega
  rw [hw, Int.toNat_natCast]
  refine Ev.pos (by omega) (Ev.pos (by omega) ?_)
  have e : cpy l (List.replicate (l.length + 8) 0) = l ++ (tl8.take 0 ++ List.replicate 8 0) := by
    unfold cpy
    rw [List.length_replicate, show min l.length (l.length + 8) = l.length by omega, List.take_length, List.drop_replicate, show l.length + 8 - l.length = 8 by omega]; rfl
  rw [e]
  exact dec_l0 l hb hl a 8 0 (by omega)

theorem CodeDecodes_walk (a0 : Option Addr) (len0 cap0 : Nat) (z0 : List Int) (a1 : Int) (w : World) (w0 : (a0 = none ∧ len0 = 0 ∧ cap0 = 0 ∧ z0 = []) ∨ ∃ x, a0 = some x ∧ len0 ≤ cap0 ∧ cap0 ≤ maxLen ∧ z0.length = cap0 ∧ (∀ i, i < z0.length → w.cell? (x.add i) = some (.int .u8 (z0.getD i 0))) ∧ ∀ n ∈ z0, (Lit.int .u8 n).wf = true)
    (y0 : len0 * 1 ≤ 140737488351232) (w1 : (Lit.int .i64 a1).wf = true) (hL : (∃ t fr, w.heap[0]? = some (.cells kA t fr)) ∧ ∃ t fr, w.heap[1]? = some (.cells tA t fr)) :
    Calls Tryd.prog 9 #[.slice a0 len0 cap0, .int .i64 a1] w fun e w' => e = .returned (.bool true) ∧ Below w.heap.size w w' := by
  obtain ⟨l0, rfl, hr0, hm0, hw0, hc0⟩ := ReadsInt.ofRowC w0
  obtain ⟨k, h⟩ := (decodes_all l0 (fun b hb => by have := wf8 (hw0 b hb); omega) (by omega) a1).rounds
  exact payofflaw11_CodeDecodes.calls k _ _ l0 a1 true w (Kd.C_of_reads (d := (0 : Int)) (h1 := fun _ => rfl) hr0) hc0 h hL
end Go.Proofs.YtknlcpojglhbnaaDoor.Pure
