/- Own text, for this claim: the walks of lex.word, with each function that is handed to it. -/
import Derived.Test.YtkfdninngcakpaaDoorZQLexx2
import Derived.Outline
namespace Go.Proofs.YtkfdninngcakpaaDoor.Pure
open Go.RowKit Go.Proofs.YtkfdninngcakpaaDoor.PLex Go.Proofs.YtkfdninngcakpaaDoorW.PrintWords Go.Proofs.YtkfdninngcakpaaDoorW.PrintLast Go.Proofs.YtkfdninngcakpaaDoorW.PrintMore
set_option linter.unusedVariables false
set_option linter.unusedSimpArgs false
def digitB (c : Int) : Bool := decide (48 ≤ c) && decide (c ≤ 57)
def smallB (c : Int) : Bool := decide (97 ≤ c) && decide (c ≤ 122)
def bigB (c : Int) : Bool := decide (65 ≤ c) && decide (c ≤ 90)
theorem digit_any (c : Int) (b : Bool) (hb : digitB c = b) (w : World) : Calls Tryd.prog 36 #[.int .u8 c] w fun e w' => e = .returned (.bool b) ∧ Drawn0 w w' :=
 lex_digit.calls c _ w (by subst hb; unfold lex_digit.f digitB; by_cases h : c ≥ 48 <;> simp [h])
theorem small_any (c : Int) (b : Bool) (hb : smallB c = b) (w : World) : Calls Tryd.prog 26 #[.int .u8 c] w fun e w' => e = .returned (.bool b) ∧ Drawn0 w w' :=
 lex_small.calls c _ w (by subst hb; unfold lex_small.f smallB; by_cases h : c ≥ 97 <;> simp [h])
theorem big_any (c : Int) (b : Bool) (hb : bigB c = b) (w : World) : Calls Tryd.prog 27 #[.int .u8 c] w fun e w' => e = .returned (.bool b) ∧ Drawn0 w w' :=
 lex_big.calls c _ w (by subst hb; unfold lex_big.f bigB; by_cases h : c ≥ 65 <;> simp [h])
theorem Ev.pos {α : Type} {c : Prop} [Decidable c] {a b : Nat → Option α} {r : α} (h : c) (k : Ev a r) : Ev (fun n => if c then a n else b n) r := by
 simpa only [if_pos h] using k
theorem Ev.neg {α : Type} {c : Prop} [Decidable c] {a b : Nat → Option α} {r : α} (h : ¬c) (k : Ev b r) : Ev (fun n => if c then a n else b n) r := by
 simpa only [if_neg h] using k
theorem Ev.call {α β : Type} {x : Option α} {f : Nat → α → Option β} {a : α} {r : β} (h : x = some a) (k : Ev (fun n => f n a) r) : Ev (fun n => x.bind (f n)) r := by
 subst h; simpa only [Option.bind_some] using k
theorem Ev.ret {α : Type} {r s : α} (h : s = r) : Ev (fun _ => some s) r := ⟨0, fun _ _ => by rw [h]⟩
theorem w64 {n : Int} (h : -9223372036854775808 ≤ n ∧ n ≤ 9223372036854775807) : wrap64 n = n := by unfold wrap64; omega
abbrev TokR := Int × ByteArray × Int × Int × Int × Int × Int × Int × Int × Int × Int
def tokV (r : TokR) : Value := .tuple #[.agg #[.int .i64 r.1, .string r.2.1, .int .i64 r.2.2.1, .int .i64 r.2.2.2.1, .int .i64 r.2.2.2.2.1, .int .i64 r.2.2.2.2.2.1, .int .i64 r.2.2.2.2.2.2.1, .int .i64 r.2.2.2.2.2.2.2.1, .int .i64 r.2.2.2.2.2.2.2.2.1], .int .i64 r.2.2.2.2.2.2.2.2.2.1, .int .i64 r.2.2.2.2.2.2.2.2.2.2]
def okB (L : Int → Bool) (c : Int) : Bool := L c || digitB c || (c == 95)
def badAt (L : Int → Bool) (s : ByteArray) : Nat → Int → Int
 | 0, i => i
 | n + 1, i => if okB L (bt s i) = true then badAt L s n (i + 1) else i
def wordOf (L : Int → Bool) (kind : Int) (s : ByteArray) : TokR :=
 if badAt L s s.size 0 < s.size then (0, (⟨#[]⟩ : ByteArray), 0, 0, 0, 0, 0, 0, 0, badAt L s s.size 0, 61)
 else if (s.size : Int) > 31 then (0, (⟨#[]⟩ : ByteArray), 0, 0, 0, 0, 0, 0, 0, 0, 6) else (kind, s, 0, 0, 0, 0, 0, 0, 0, 0, 0)
set_option maxHeartbeats 8000000 in
set_option maxRecDepth 100000 in
theorem word_small (a0 : ByteArray) (hs : a0.size ≤ 140737488355328) (w : World) : Calls Tryd.prog 38 #[.string a0, .int .i64 1, .func (.func 26) #[] #[]] w fun e w' => e = .returned (tokV (wordOf smallB 1 a0)) ∧ Below w.heap.size w w' := by
 have hu32 := Tryd.underlying32
 have HB := yA (Below.refl w.heap.size w)
 have HS := yA hs
 clear hs
 go_enter Tryd.func38, Tryd.ntmps38
 go_wp2_with (first | ((with_reducible refine yP (N := 6) rfl ?_); refine yQ ?hg (N := 6) ?hd (cs := #[.int .i64 0, .string (⟨#[]⟩ : ByteArray), .int .i64 0, .int .i64 0, .int .i64 0, .int .i64 0, .int .i64 0, .int .i64 0, .int .i64 0]) (t := 32) ?hr ?_; (case hd => rfl); (case hg => rfl); (case hr => first | (go_simp; done) | (go_simp; rfl)); intro gb hg w2 hbox hb; have n0_ := yA (yB HB.out hb); have n1_ := yA hbox; have n3_ := yA ((by rw [hg]; exact (below_size HB.out)) : w.heap.size ≤ gb); clear HB; have HB := n0_; have BK := n1_; have GE := n3_; clear n0_ n1_ n3_; clear hb hbox hg))
 go_loopw [12, 9] (fun v12 v9 w' => ∃ (i : Int) , v12 = .int .i64 i ∧ Aside0 (0 ≤ i ∧ i ≤ a0.size) ∧ Aside0 (badAt smallB a0 a0.size 0 = badAt smallB a0 (a0.size - i.toNat) i) ∧ Aside0 (w'.heap[gb]? = some (.cells #[.int .i64 0, .string (⟨#[]⟩ : ByteArray), .int .i64 0, .int .i64 0, .int .i64 0, .int .i64 0, .int .i64 0, .int .i64 0, .int .i64 0] 32 (0, 0))) ∧ Aside0 (Below w.heap.size w w')) (fun v12 _ _ => (a0.size - intOf v12).toNat)
 case atStart => exact ⟨0, rfl, ⟨by omega⟩, ⟨by simp⟩, BK, HB⟩
 case round =>
  obtain ⟨i, rfl, HI, HM, BK2, HB2⟩ := hrel
  clear BK HB
  have BK := BK2
  have HB := HB2
  clear BK2 HB2
  by_cases c3 : i < (a0.size : Int)
  ·have c3b0 : decide (i < (a0.size : Int)) = true := yL c3
   have hi0 := HI.out.1
   have p6 : (0 ≤ (i : Int)) = True := eq_true hi0
   have q6 : (i < (a0.size : Int)) = True := eq_true c3
   have hx6 := bt_at a0 i
   obtain ⟨n, hn⟩ : ∃ n, a0.size - i.toNat = n + 1 := ⟨a0.size - i.toNat - 1, by omega⟩
   have hn' : a0.size - (i + 1).toNat = n := by omega
   rw [hn, badAt] at HM
   have HN := yA hn'
   clear hn hn'
   have hi1 : i ≤ 140737488355328 := by have := HS.out; omega
   cases h1 : smallB (bt a0 i) with
   | true =>
    have HM' := yA (show badAt smallB a0 a0.size 0 = badAt smallB a0 n (i + 1) by rw [HM.out, if_pos (by unfold okB; rw [h1]; rfl)])
    clear HM
    go_wp2_with (first | (go_at_call 26; refine (small_any (bt a0 i) _ h1 _).mono ?_; rintro e w' ⟨rfl, ⟨nd, rfl⟩⟩))
    go_roundw
    case measure => have := HI.out; have := HS.out; simp [intOf]; (try rw [w64 (by omega)]); omega
    case rel => exact ⟨i + 1, by first | rfl | (rw [w64 (by have := HI.out; have := HS.out; omega)]), ⟨by have := HI.out; omega⟩, ⟨by rw [HN.out]; exact HM'.out⟩, ⟨by (with_reducible repeat (first | refine yG ?_ _ | refine yH ?_ | refine yI ?_ _)); exact BK.out⟩, ⟨by repeat (first | (with_reducible first | exact HB.out | apply yE | apply yF | apply yD | refine yJ ?_ GE.out) | exact HB.out)⟩⟩
   | false =>
    cases h2 : digitB (bt a0 i) with
    | true =>
     have HM' := yA (show badAt smallB a0 a0.size 0 = badAt smallB a0 n (i + 1) by rw [HM.out, if_pos (by unfold okB; rw [h1, h2]; rfl)])
     clear HM
     go_wp2_with (first | (go_at_call 26; refine (small_any (bt a0 i) _ h1 _).mono ?_; rintro e w' ⟨rfl, ⟨nd, rfl⟩⟩) | (go_at_call 36; refine (digit_any (bt a0 i) _ h2 _).mono ?_; rintro e w' ⟨rfl, ⟨nd2, rfl⟩⟩))
     go_roundw
     case measure => have := HI.out; have := HS.out; simp [intOf]; (try rw [w64 (by omega)]); omega
     case rel => exact ⟨i + 1, by first | rfl | (rw [w64 (by have := HI.out; have := HS.out; omega)]), ⟨by have := HI.out; omega⟩, ⟨by rw [HN.out]; exact HM'.out⟩, ⟨by (with_reducible repeat (first | refine yG ?_ _ | refine yH ?_ | refine yI ?_ _)); exact BK.out⟩, ⟨by repeat (first | (with_reducible first | exact HB.out | apply yE | apply yF | apply yD | refine yJ ?_ GE.out) | exact HB.out)⟩⟩
    | false =>
     by_cases h3 : bt a0 i = 95
     ·have h3b0 : (bt a0 i == 95) = true := beq_iff_eq.mpr h3
      have h3b1 : (bt a0 i != 95) = false := bne_eq_false_iff_eq.mpr h3
      have HM' := yA (show badAt smallB a0 a0.size 0 = badAt smallB a0 n (i + 1) by rw [HM.out, if_pos (by unfold okB; rw [h1, h2, h3b0]; rfl)])
      clear HM
      clear h3
      go_wp2_with (first | (go_at_call 26; refine (small_any (bt a0 i) _ h1 _).mono ?_; rintro e w' ⟨rfl, ⟨nd, rfl⟩⟩) | (go_at_call 36; refine (digit_any (bt a0 i) _ h2 _).mono ?_; rintro e w' ⟨rfl, ⟨nd2, rfl⟩⟩))
      go_roundw
      case measure => have := HI.out; have := HS.out; simp [intOf]; (try rw [w64 (by omega)]); omega
      case rel => exact ⟨i + 1, by first | rfl | (rw [w64 (by have := HI.out; have := HS.out; omega)]), ⟨by have := HI.out; omega⟩, ⟨by rw [HN.out]; exact HM'.out⟩, ⟨by (with_reducible repeat (first | refine yG ?_ _ | refine yH ?_ | refine yI ?_ _)); exact BK.out⟩, ⟨by repeat (first | (with_reducible first | exact HB.out | apply yE | apply yF | apply yD | refine yJ ?_ GE.out) | exact HB.out)⟩⟩
     ·have h3b0 : (bt a0 i == 95) = false := beq_eq_false_iff_ne.mpr h3
      have h3b1 : (bt a0 i != 95) = true := bne_iff_ne.mpr h3
      have HM' := yA (show badAt smallB a0 a0.size 0 = i by rw [HM.out, if_neg (by unfold okB; rw [h1, h2, h3b0]; decide)])
      have HW := yA (show wordOf smallB 1 a0 = (0, (⟨#[]⟩ : ByteArray), 0, 0, 0, 0, 0, 0, 0, i, 61) by unfold wordOf; rw [HM'.out, if_pos c3])
      clear HM h3
      have hcz_0 : wr.cell? ⟨gb, 0, none⟩ = some (.int .i64 0) := (yR BK.out 0).trans rfl
      have hfz_0 := yS BK.out 0
      have hcz_1 : wr.cell? ⟨gb, 1, none⟩ = some (.string (⟨#[]⟩ : ByteArray)) := (yR BK.out 1).trans rfl
      have hfz_1 := yS BK.out 1
      have hcz_2 : wr.cell? ⟨gb, 2, none⟩ = some (.int .i64 0) := (yR BK.out 2).trans rfl
      have hfz_2 := yS BK.out 2
      have hcz_3 : wr.cell? ⟨gb, 3, none⟩ = some (.int .i64 0) := (yR BK.out 3).trans rfl
      have hfz_3 := yS BK.out 3
      have hcz_4 : wr.cell? ⟨gb, 4, none⟩ = some (.int .i64 0) := (yR BK.out 4).trans rfl
      have hfz_4 := yS BK.out 4
      have hcz_5 : wr.cell? ⟨gb, 5, none⟩ = some (.int .i64 0) := (yR BK.out 5).trans rfl
      have hfz_5 := yS BK.out 5
      have hcz_6 : wr.cell? ⟨gb, 6, none⟩ = some (.int .i64 0) := (yR BK.out 6).trans rfl
      have hfz_6 := yS BK.out 6
      have hcz_7 : wr.cell? ⟨gb, 7, none⟩ = some (.int .i64 0) := (yR BK.out 7).trans rfl
      have hfz_7 := yS BK.out 7
      have hcz_8 : wr.cell? ⟨gb, 8, none⟩ = some (.int .i64 0) := (yR BK.out 8).trans rfl
      have hfz_8 := yS BK.out 8
      go_wp2_with (first | (go_at_call 26; refine (small_any (bt a0 i) _ h1 _).mono ?_; rintro e w' ⟨rfl, ⟨nd, rfl⟩⟩) | (go_at_call 36; refine (digit_any (bt a0 i) _ h2 _).mono ?_; rintro e w' ⟨rfl, ⟨nd2, rfl⟩⟩))
      refine bodyPost_ret (results_ctt rfl _ _ gb 32 #[.int .i64 0, .string (⟨#[]⟩ : ByteArray), .int .i64 0, .int .i64 0, .int .i64 0, .int .i64 0, .int .i64 0, .int .i64 0, .int .i64 0] (0, 0) _ rfl (by (with_reducible repeat (first | refine yG ?_ _ | refine yH ?_ | refine yI ?_ _)); refine blk_put (cs := #[.int .i64 0, .string (⟨#[]⟩ : ByteArray), .int .i64 0, .int .i64 0, .int .i64 0, .int .i64 0, .int .i64 0, .int .i64 0, .int .i64 0]) ?_ 8 _ rfl; (with_reducible repeat (first | refine yG ?_ _ | refine yH ?_ | refine yI ?_ _)); refine blk_put (cs := #[.int .i64 0, .string (⟨#[]⟩ : ByteArray), .int .i64 0, .int .i64 0, .int .i64 0, .int .i64 0, .int .i64 0, .int .i64 0, .int .i64 0]) ?_ 7 _ rfl; (with_reducible repeat (first | refine yG ?_ _ | refine yH ?_ | refine yI ?_ _)); refine blk_put (cs := #[.int .i64 0, .string (⟨#[]⟩ : ByteArray), .int .i64 0, .int .i64 0, .int .i64 0, .int .i64 0, .int .i64 0, .int .i64 0, .int .i64 0]) ?_ 6 _ rfl; (with_reducible repeat (first | refine yG ?_ _ | refine yH ?_ | refine yI ?_ _)); refine blk_put (cs := #[.int .i64 0, .string (⟨#[]⟩ : ByteArray), .int .i64 0, .int .i64 0, .int .i64 0, .int .i64 0, .int .i64 0, .int .i64 0, .int .i64 0]) ?_ 5 _ rfl; (with_reducible repeat (first | refine yG ?_ _ | refine yH ?_ | refine yI ?_ _)); refine blk_put (cs := #[.int .i64 0, .string (⟨#[]⟩ : ByteArray), .int .i64 0, .int .i64 0, .int .i64 0, .int .i64 0, .int .i64 0, .int .i64 0, .int .i64 0]) ?_ 4 _ rfl; (with_reducible repeat (first | refine yG ?_ _ | refine yH ?_ | refine yI ?_ _)); refine blk_put (cs := #[.int .i64 0, .string (⟨#[]⟩ : ByteArray), .int .i64 0, .int .i64 0, .int .i64 0, .int .i64 0, .int .i64 0, .int .i64 0, .int .i64 0]) ?_ 3 _ rfl; (with_reducible repeat (first | refine yG ?_ _ | refine yH ?_ | refine yI ?_ _)); refine blk_put (cs := #[.int .i64 0, .string (⟨#[]⟩ : ByteArray), .int .i64 0, .int .i64 0, .int .i64 0, .int .i64 0, .int .i64 0, .int .i64 0, .int .i64 0]) ?_ 2 _ rfl; (with_reducible repeat (first | refine yG ?_ _ | refine yH ?_ | refine yI ?_ _)); refine blk_put (cs := #[.int .i64 0, .string (⟨#[]⟩ : ByteArray), .int .i64 0, .int .i64 0, .int .i64 0, .int .i64 0, .int .i64 0, .int .i64 0, .int .i64 0]) ?_ 1 _ rfl; (with_reducible repeat (first | refine yG ?_ _ | refine yH ?_ | refine yI ?_ _)); refine blk_put (cs := #[.int .i64 0, .string (⟨#[]⟩ : ByteArray), .int .i64 0, .int .i64 0, .int .i64 0, .int .i64 0, .int .i64 0, .int .i64 0, .int .i64 0]) ?_ 0 _ rfl; (with_reducible repeat (first | refine yG ?_ _ | refine yH ?_ | refine yI ?_ _)); exact BK.out) Tryd.underlying32 rfl (by kernel_rfl)) rfl ?_
      exact ⟨by rw [HW.out]; rfl, by repeat (first | (with_reducible first | exact HB.out | apply yE | apply yF | apply yD | refine yJ ?_ GE.out) | exact HB.out)⟩
  ·have c3b0 : decide (i < (a0.size : Int)) = false := yM c3
   have HE := yA (show badAt smallB a0 a0.size 0 = (a0.size : Int) by rw [HM.out, show a0.size - i.toNat = 0 by have := HI.out; omega]; have := HI.out; show i = _; omega)
   clear HM
   by_cases c4 : (a0.size : Int) > 31
   ·have c4b0 : decide ((a0.size : Int) > 31) = true := yL c4
    have c4b1 : decide (31 < (a0.size : Int)) = true := yL c4
    have HW := yA (show wordOf smallB 1 a0 = (0, (⟨#[]⟩ : ByteArray), 0, 0, 0, 0, 0, 0, 0, 0, 6) by unfold wordOf; rw [HE.out, if_neg (by omega), if_pos c4])
    clear c4
    have hcz_0 : wr.cell? ⟨gb, 0, none⟩ = some (.int .i64 0) := (yR BK.out 0).trans rfl
    have hfz_0 := yS BK.out 0
    have hcz_1 : wr.cell? ⟨gb, 1, none⟩ = some (.string (⟨#[]⟩ : ByteArray)) := (yR BK.out 1).trans rfl
    have hfz_1 := yS BK.out 1
    have hcz_2 : wr.cell? ⟨gb, 2, none⟩ = some (.int .i64 0) := (yR BK.out 2).trans rfl
    have hfz_2 := yS BK.out 2
    have hcz_3 : wr.cell? ⟨gb, 3, none⟩ = some (.int .i64 0) := (yR BK.out 3).trans rfl
    have hfz_3 := yS BK.out 3
    have hcz_4 : wr.cell? ⟨gb, 4, none⟩ = some (.int .i64 0) := (yR BK.out 4).trans rfl
    have hfz_4 := yS BK.out 4
    have hcz_5 : wr.cell? ⟨gb, 5, none⟩ = some (.int .i64 0) := (yR BK.out 5).trans rfl
    have hfz_5 := yS BK.out 5
    have hcz_6 : wr.cell? ⟨gb, 6, none⟩ = some (.int .i64 0) := (yR BK.out 6).trans rfl
    have hfz_6 := yS BK.out 6
    have hcz_7 : wr.cell? ⟨gb, 7, none⟩ = some (.int .i64 0) := (yR BK.out 7).trans rfl
    have hfz_7 := yS BK.out 7
    have hcz_8 : wr.cell? ⟨gb, 8, none⟩ = some (.int .i64 0) := (yR BK.out 8).trans rfl
    have hfz_8 := yS BK.out 8
    go_wp2
    refine bodyPost_ret (results_ctt rfl _ _ gb 32 #[.int .i64 0, .string (⟨#[]⟩ : ByteArray), .int .i64 0, .int .i64 0, .int .i64 0, .int .i64 0, .int .i64 0, .int .i64 0, .int .i64 0] (0, 0) _ rfl (by (with_reducible repeat (first | refine yG ?_ _ | refine yH ?_ | refine yI ?_ _)); refine blk_put (cs := #[.int .i64 0, .string (⟨#[]⟩ : ByteArray), .int .i64 0, .int .i64 0, .int .i64 0, .int .i64 0, .int .i64 0, .int .i64 0, .int .i64 0]) ?_ 8 _ rfl; (with_reducible repeat (first | refine yG ?_ _ | refine yH ?_ | refine yI ?_ _)); refine blk_put (cs := #[.int .i64 0, .string (⟨#[]⟩ : ByteArray), .int .i64 0, .int .i64 0, .int .i64 0, .int .i64 0, .int .i64 0, .int .i64 0, .int .i64 0]) ?_ 7 _ rfl; (with_reducible repeat (first | refine yG ?_ _ | refine yH ?_ | refine yI ?_ _)); refine blk_put (cs := #[.int .i64 0, .string (⟨#[]⟩ : ByteArray), .int .i64 0, .int .i64 0, .int .i64 0, .int .i64 0, .int .i64 0, .int .i64 0, .int .i64 0]) ?_ 6 _ rfl; (with_reducible repeat (first | refine yG ?_ _ | refine yH ?_ | refine yI ?_ _)); refine blk_put (cs := #[.int .i64 0, .string (⟨#[]⟩ : ByteArray), .int .i64 0, .int .i64 0, .int .i64 0, .int .i64 0, .int .i64 0, .int .i64 0, .int .i64 0]) ?_ 5 _ rfl; (with_reducible repeat (first | refine yG ?_ _ | refine yH ?_ | refine yI ?_ _)); refine blk_put (cs := #[.int .i64 0, .string (⟨#[]⟩ : ByteArray), .int .i64 0, .int .i64 0, .int .i64 0, .int .i64 0, .int .i64 0, .int .i64 0, .int .i64 0]) ?_ 4 _ rfl; (with_reducible repeat (first | refine yG ?_ _ | refine yH ?_ | refine yI ?_ _)); refine blk_put (cs := #[.int .i64 0, .string (⟨#[]⟩ : ByteArray), .int .i64 0, .int .i64 0, .int .i64 0, .int .i64 0, .int .i64 0, .int .i64 0, .int .i64 0]) ?_ 3 _ rfl; (with_reducible repeat (first | refine yG ?_ _ | refine yH ?_ | refine yI ?_ _)); refine blk_put (cs := #[.int .i64 0, .string (⟨#[]⟩ : ByteArray), .int .i64 0, .int .i64 0, .int .i64 0, .int .i64 0, .int .i64 0, .int .i64 0, .int .i64 0]) ?_ 2 _ rfl; (with_reducible repeat (first | refine yG ?_ _ | refine yH ?_ | refine yI ?_ _)); refine blk_put (cs := #[.int .i64 0, .string (⟨#[]⟩ : ByteArray), .int .i64 0, .int .i64 0, .int .i64 0, .int .i64 0, .int .i64 0, .int .i64 0, .int .i64 0]) ?_ 1 _ rfl; (with_reducible repeat (first | refine yG ?_ _ | refine yH ?_ | refine yI ?_ _)); refine blk_put (cs := #[.int .i64 0, .string (⟨#[]⟩ : ByteArray), .int .i64 0, .int .i64 0, .int .i64 0, .int .i64 0, .int .i64 0, .int .i64 0, .int .i64 0]) ?_ 0 _ rfl; (with_reducible repeat (first | refine yG ?_ _ | refine yH ?_ | refine yI ?_ _)); exact BK.out) Tryd.underlying32 rfl (by kernel_rfl)) rfl ?_
    exact ⟨by rw [HW.out]; rfl, by repeat (first | (with_reducible first | exact HB.out | apply yE | apply yF | apply yD | refine yJ ?_ GE.out) | exact HB.out)⟩
   ·have c4b0 : decide ((a0.size : Int) > 31) = false := yM c4
    have c4b1 : decide (31 < (a0.size : Int)) = false := yM c4
    have HW := yA (show wordOf smallB 1 a0 = (1, a0, 0, 0, 0, 0, 0, 0, 0, 0, 0) by unfold wordOf; rw [HE.out, if_neg (by omega), if_neg c4])
    clear c4
    have hcz_0 : wr.cell? ⟨gb, 0, none⟩ = some (.int .i64 0) := (yR BK.out 0).trans rfl
    have hfz_0 := yS BK.out 0
    have hcz_1 : wr.cell? ⟨gb, 1, none⟩ = some (.string (⟨#[]⟩ : ByteArray)) := (yR BK.out 1).trans rfl
    have hfz_1 := yS BK.out 1
    have hcz_2 : wr.cell? ⟨gb, 2, none⟩ = some (.int .i64 0) := (yR BK.out 2).trans rfl
    have hfz_2 := yS BK.out 2
    have hcz_3 : wr.cell? ⟨gb, 3, none⟩ = some (.int .i64 0) := (yR BK.out 3).trans rfl
    have hfz_3 := yS BK.out 3
    have hcz_4 : wr.cell? ⟨gb, 4, none⟩ = some (.int .i64 0) := (yR BK.out 4).trans rfl
    have hfz_4 := yS BK.out 4
    have hcz_5 : wr.cell? ⟨gb, 5, none⟩ = some (.int .i64 0) := (yR BK.out 5).trans rfl
    have hfz_5 := yS BK.out 5
    have hcz_6 : wr.cell? ⟨gb, 6, none⟩ = some (.int .i64 0) := (yR BK.out 6).trans rfl
    have hfz_6 := yS BK.out 6
    have hcz_7 : wr.cell? ⟨gb, 7, none⟩ = some (.int .i64 0) := (yR BK.out 7).trans rfl
    have hfz_7 := yS BK.out 7
    have hcz_8 : wr.cell? ⟨gb, 8, none⟩ = some (.int .i64 0) := (yR BK.out 8).trans rfl
    have hfz_8 := yS BK.out 8
    go_wp2
    refine bodyPost_ret (results_ctt rfl _ _ gb 32 #[.int .i64 1, .string a0, .int .i64 0, .int .i64 0, .int .i64 0, .int .i64 0, .int .i64 0, .int .i64 0, .int .i64 0] (0, 0) _ rfl (by (with_reducible repeat (first | refine yG ?_ _ | refine yH ?_ | refine yI ?_ _)); refine blk_put (cs := #[.int .i64 1, .string a0, .int .i64 0, .int .i64 0, .int .i64 0, .int .i64 0, .int .i64 0, .int .i64 0, .int .i64 0]) ?_ 8 _ rfl; (with_reducible repeat (first | refine yG ?_ _ | refine yH ?_ | refine yI ?_ _)); refine blk_put (cs := #[.int .i64 1, .string a0, .int .i64 0, .int .i64 0, .int .i64 0, .int .i64 0, .int .i64 0, .int .i64 0, .int .i64 0]) ?_ 7 _ rfl; (with_reducible repeat (first | refine yG ?_ _ | refine yH ?_ | refine yI ?_ _)); refine blk_put (cs := #[.int .i64 1, .string a0, .int .i64 0, .int .i64 0, .int .i64 0, .int .i64 0, .int .i64 0, .int .i64 0, .int .i64 0]) ?_ 6 _ rfl; (with_reducible repeat (first | refine yG ?_ _ | refine yH ?_ | refine yI ?_ _)); refine blk_put (cs := #[.int .i64 1, .string a0, .int .i64 0, .int .i64 0, .int .i64 0, .int .i64 0, .int .i64 0, .int .i64 0, .int .i64 0]) ?_ 5 _ rfl; (with_reducible repeat (first | refine yG ?_ _ | refine yH ?_ | refine yI ?_ _)); refine blk_put (cs := #[.int .i64 1, .string a0, .int .i64 0, .int .i64 0, .int .i64 0, .int .i64 0, .int .i64 0, .int .i64 0, .int .i64 0]) ?_ 4 _ rfl; (with_reducible repeat (first | refine yG ?_ _ | refine yH ?_ | refine yI ?_ _)); refine blk_put (cs := #[.int .i64 1, .string a0, .int .i64 0, .int .i64 0, .int .i64 0, .int .i64 0, .int .i64 0, .int .i64 0, .int .i64 0]) ?_ 3 _ rfl; (with_reducible repeat (first | refine yG ?_ _ | refine yH ?_ | refine yI ?_ _)); refine blk_put (cs := #[.int .i64 1, .string a0, .int .i64 0, .int .i64 0, .int .i64 0, .int .i64 0, .int .i64 0, .int .i64 0, .int .i64 0]) ?_ 2 _ rfl; (with_reducible repeat (first | refine yG ?_ _ | refine yH ?_ | refine yI ?_ _)); refine blk_put (cs := #[.int .i64 1, .string (⟨#[]⟩ : ByteArray), .int .i64 0, .int .i64 0, .int .i64 0, .int .i64 0, .int .i64 0, .int .i64 0, .int .i64 0]) ?_ 1 _ rfl; (with_reducible repeat (first | refine yG ?_ _ | refine yH ?_ | refine yI ?_ _)); refine blk_put (cs := #[.int .i64 0, .string (⟨#[]⟩ : ByteArray), .int .i64 0, .int .i64 0, .int .i64 0, .int .i64 0, .int .i64 0, .int .i64 0, .int .i64 0]) ?_ 0 _ rfl; (with_reducible repeat (first | refine yG ?_ _ | refine yH ?_ | refine yI ?_ _)); exact BK.out) Tryd.underlying32 rfl (by kernel_rfl)) rfl ?_
    exact ⟨by rw [HW.out]; rfl, by repeat (first | (with_reducible first | exact HB.out | apply yE | apply yF | apply yD | refine yJ ?_ GE.out) | exact HB.out)⟩
set_option maxHeartbeats 8000000 in
set_option maxRecDepth 100000 in
theorem word_big (a0 : ByteArray) (hs : a0.size ≤ 140737488355328) (w : World) : Calls Tryd.prog 38 #[.string a0, .int .i64 2, .func (.func 27) #[] #[]] w fun e w' => e = .returned (tokV (wordOf bigB 2 a0)) ∧ Below w.heap.size w w' := by
 have hu32 := Tryd.underlying32
 have HB := yA (Below.refl w.heap.size w)
 have HS := yA hs
 clear hs
 go_enter Tryd.func38, Tryd.ntmps38
 go_wp2_with (first | ((with_reducible refine yP (N := 6) rfl ?_); refine yQ ?hg (N := 6) ?hd (cs := #[.int .i64 0, .string (⟨#[]⟩ : ByteArray), .int .i64 0, .int .i64 0, .int .i64 0, .int .i64 0, .int .i64 0, .int .i64 0, .int .i64 0]) (t := 32) ?hr ?_; (case hd => rfl); (case hg => rfl); (case hr => first | (go_simp; done) | (go_simp; rfl)); intro gb hg w2 hbox hb; have n0_ := yA (yB HB.out hb); have n1_ := yA hbox; have n3_ := yA ((by rw [hg]; exact (below_size HB.out)) : w.heap.size ≤ gb); clear HB; have HB := n0_; have BK := n1_; have GE := n3_; clear n0_ n1_ n3_; clear hb hbox hg))
 go_loopw [12, 9] (fun v12 v9 w' => ∃ (i : Int) , v12 = .int .i64 i ∧ Aside0 (0 ≤ i ∧ i ≤ a0.size) ∧ Aside0 (badAt bigB a0 a0.size 0 = badAt bigB a0 (a0.size - i.toNat) i) ∧ Aside0 (w'.heap[gb]? = some (.cells #[.int .i64 0, .string (⟨#[]⟩ : ByteArray), .int .i64 0, .int .i64 0, .int .i64 0, .int .i64 0, .int .i64 0, .int .i64 0, .int .i64 0] 32 (0, 0))) ∧ Aside0 (Below w.heap.size w w')) (fun v12 _ _ => (a0.size - intOf v12).toNat)
 case atStart => exact ⟨0, rfl, ⟨by omega⟩, ⟨by simp⟩, BK, HB⟩
 case round =>
  obtain ⟨i, rfl, HI, HM, BK2, HB2⟩ := hrel
  clear BK HB
  have BK := BK2
  have HB := HB2
  clear BK2 HB2
  by_cases c3 : i < (a0.size : Int)
  ·have c3b0 : decide (i < (a0.size : Int)) = true := yL c3
   have hi0 := HI.out.1
   have p6 : (0 ≤ (i : Int)) = True := eq_true hi0
   have q6 : (i < (a0.size : Int)) = True := eq_true c3
   have hx6 := bt_at a0 i
   obtain ⟨n, hn⟩ : ∃ n, a0.size - i.toNat = n + 1 := ⟨a0.size - i.toNat - 1, by omega⟩
   have hn' : a0.size - (i + 1).toNat = n := by omega
   rw [hn, badAt] at HM
   have HN := yA hn'
   clear hn hn'
   have hi1 : i ≤ 140737488355328 := by have := HS.out; omega
   cases h1 : bigB (bt a0 i) with
   | true =>
    have HM' := yA (show badAt bigB a0 a0.size 0 = badAt bigB a0 n (i + 1) by rw [HM.out, if_pos (by unfold okB; rw [h1]; rfl)])
    clear HM
    go_wp2_with (first | (go_at_call 27; refine (big_any (bt a0 i) _ h1 _).mono ?_; rintro e w' ⟨rfl, ⟨nd, rfl⟩⟩))
    go_roundw
    case measure => have := HI.out; have := HS.out; simp [intOf]; (try rw [w64 (by omega)]); omega
    case rel => exact ⟨i + 1, by first | rfl | (rw [w64 (by have := HI.out; have := HS.out; omega)]), ⟨by have := HI.out; omega⟩, ⟨by rw [HN.out]; exact HM'.out⟩, ⟨by (with_reducible repeat (first | refine yG ?_ _ | refine yH ?_ | refine yI ?_ _)); exact BK.out⟩, ⟨by repeat (first | (with_reducible first | exact HB.out | apply yE | apply yF | apply yD | refine yJ ?_ GE.out) | exact HB.out)⟩⟩
   | false =>
    cases h2 : digitB (bt a0 i) with
    | true =>
     have HM' := yA (show badAt bigB a0 a0.size 0 = badAt bigB a0 n (i + 1) by rw [HM.out, if_pos (by unfold okB; rw [h1, h2]; rfl)])
     clear HM
     go_wp2_with (first | (go_at_call 27; refine (big_any (bt a0 i) _ h1 _).mono ?_; rintro e w' ⟨rfl, ⟨nd, rfl⟩⟩) | (go_at_call 36; refine (digit_any (bt a0 i) _ h2 _).mono ?_; rintro e w' ⟨rfl, ⟨nd2, rfl⟩⟩))
     go_roundw
     case measure => have := HI.out; have := HS.out; simp [intOf]; (try rw [w64 (by omega)]); omega
     case rel => exact ⟨i + 1, by first | rfl | (rw [w64 (by have := HI.out; have := HS.out; omega)]), ⟨by have := HI.out; omega⟩, ⟨by rw [HN.out]; exact HM'.out⟩, ⟨by (with_reducible repeat (first | refine yG ?_ _ | refine yH ?_ | refine yI ?_ _)); exact BK.out⟩, ⟨by repeat (first | (with_reducible first | exact HB.out | apply yE | apply yF | apply yD | refine yJ ?_ GE.out) | exact HB.out)⟩⟩
    | false =>
     by_cases h3 : bt a0 i = 95
     ·have h3b0 : (bt a0 i == 95) = true := beq_iff_eq.mpr h3
      have h3b1 : (bt a0 i != 95) = false := bne_eq_false_iff_eq.mpr h3
      have HM' := yA (show badAt bigB a0 a0.size 0 = badAt bigB a0 n (i + 1) by rw [HM.out, if_pos (by unfold okB; rw [h1, h2, h3b0]; rfl)])
      clear HM
      clear h3
      go_wp2_with (first | (go_at_call 27; refine (big_any (bt a0 i) _ h1 _).mono ?_; rintro e w' ⟨rfl, ⟨nd, rfl⟩⟩) | (go_at_call 36; refine (digit_any (bt a0 i) _ h2 _).mono ?_; rintro e w' ⟨rfl, ⟨nd2, rfl⟩⟩))
      go_roundw
      case measure => have := HI.out; have := HS.out; simp [intOf]; (try rw [w64 (by omega)]); omega
      case rel => exact ⟨i + 1, by first | rfl | (rw [w64 (by have := HI.out; have := HS.out; omega)]), ⟨by have := HI.out; omega⟩, ⟨by rw [HN.out]; exact HM'.out⟩, ⟨by (with_reducible repeat (first | refine yG ?_ _ | refine yH ?_ | refine yI ?_ _)); exact BK.out⟩, ⟨by repeat (first | (with_reducible first | exact HB.out | apply yE | apply yF | apply yD | refine yJ ?_ GE.out) | exact HB.out)⟩⟩
     ·have h3b0 : (bt a0 i == 95) = false := beq_eq_false_iff_ne.mpr h3
      have h3b1 : (bt a0 i != 95) = true := bne_iff_ne.mpr h3
      have HM' := yA (show badAt bigB a0 a0.size 0 = i by rw [HM.out, if_neg (by unfold okB; rw [h1, h2, h3b0]; decide)])
      have HW := yA (show wordOf bigB 2 a0 = (0, (⟨#[]⟩ : ByteArray), 0, 0, 0, 0, 0, 0, 0, i, 61) by unfold wordOf; rw [HM'.out, if_pos c3])
      clear HM h3
      have hcz_0 : wr.cell? ⟨gb, 0, none⟩ = some (.int .i64 0) := (yR BK.out 0).trans rfl
      have hfz_0 := yS BK.out 0
      have hcz_1 : wr.cell? ⟨gb, 1, none⟩ = some (.string (⟨#[]⟩ : ByteArray)) := (yR BK.out 1).trans rfl
      have hfz_1 := yS BK.out 1
      have hcz_2 : wr.cell? ⟨gb, 2, none⟩ = some (.int .i64 0) := (yR BK.out 2).trans rfl
      have hfz_2 := yS BK.out 2
      have hcz_3 : wr.cell? ⟨gb, 3, none⟩ = some (.int .i64 0) := (yR BK.out 3).trans rfl
      have hfz_3 := yS BK.out 3
      have hcz_4 : wr.cell? ⟨gb, 4, none⟩ = some (.int .i64 0) := (yR BK.out 4).trans rfl
      have hfz_4 := yS BK.out 4
      have hcz_5 : wr.cell? ⟨gb, 5, none⟩ = some (.int .i64 0) := (yR BK.out 5).trans rfl
      have hfz_5 := yS BK.out 5
      have hcz_6 : wr.cell? ⟨gb, 6, none⟩ = some (.int .i64 0) := (yR BK.out 6).trans rfl
      have hfz_6 := yS BK.out 6
      have hcz_7 : wr.cell? ⟨gb, 7, none⟩ = some (.int .i64 0) := (yR BK.out 7).trans rfl
      have hfz_7 := yS BK.out 7
      have hcz_8 : wr.cell? ⟨gb, 8, none⟩ = some (.int .i64 0) := (yR BK.out 8).trans rfl
      have hfz_8 := yS BK.out 8
      go_wp2_with (first | (go_at_call 27; refine (big_any (bt a0 i) _ h1 _).mono ?_; rintro e w' ⟨rfl, ⟨nd, rfl⟩⟩) | (go_at_call 36; refine (digit_any (bt a0 i) _ h2 _).mono ?_; rintro e w' ⟨rfl, ⟨nd2, rfl⟩⟩))
      refine bodyPost_ret (results_ctt rfl _ _ gb 32 #[.int .i64 0, .string (⟨#[]⟩ : ByteArray), .int .i64 0, .int .i64 0, .int .i64 0, .int .i64 0, .int .i64 0, .int .i64 0, .int .i64 0] (0, 0) _ rfl (by (with_reducible repeat (first | refine yG ?_ _ | refine yH ?_ | refine yI ?_ _)); refine blk_put (cs := #[.int .i64 0, .string (⟨#[]⟩ : ByteArray), .int .i64 0, .int .i64 0, .int .i64 0, .int .i64 0, .int .i64 0, .int .i64 0, .int .i64 0]) ?_ 8 _ rfl; (with_reducible repeat (first | refine yG ?_ _ | refine yH ?_ | refine yI ?_ _)); refine blk_put (cs := #[.int .i64 0, .string (⟨#[]⟩ : ByteArray), .int .i64 0, .int .i64 0, .int .i64 0, .int .i64 0, .int .i64 0, .int .i64 0, .int .i64 0]) ?_ 7 _ rfl; (with_reducible repeat (first | refine yG ?_ _ | refine yH ?_ | refine yI ?_ _)); refine blk_put (cs := #[.int .i64 0, .string (⟨#[]⟩ : ByteArray), .int .i64 0, .int .i64 0, .int .i64 0, .int .i64 0, .int .i64 0, .int .i64 0, .int .i64 0]) ?_ 6 _ rfl; (with_reducible repeat (first | refine yG ?_ _ | refine yH ?_ | refine yI ?_ _)); refine blk_put (cs := #[.int .i64 0, .string (⟨#[]⟩ : ByteArray), .int .i64 0, .int .i64 0, .int .i64 0, .int .i64 0, .int .i64 0, .int .i64 0, .int .i64 0]) ?_ 5 _ rfl; (with_reducible repeat (first | refine yG ?_ _ | refine yH ?_ | refine yI ?_ _)); refine blk_put (cs := #[.int .i64 0, .string (⟨#[]⟩ : ByteArray), .int .i64 0, .int .i64 0, .int .i64 0, .int .i64 0, .int .i64 0, .int .i64 0, .int .i64 0]) ?_ 4 _ rfl; (with_reducible repeat (first | refine yG ?_ _ | refine yH ?_ | refine yI ?_ _)); refine blk_put (cs := #[.int .i64 0, .string (⟨#[]⟩ : ByteArray), .int .i64 0, .int .i64 0, .int .i64 0, .int .i64 0, .int .i64 0, .int .i64 0, .int .i64 0]) ?_ 3 _ rfl; (with_reducible repeat (first | refine yG ?_ _ | refine yH ?_ | refine yI ?_ _)); refine blk_put (cs := #[.int .i64 0, .string (⟨#[]⟩ : ByteArray), .int .i64 0, .int .i64 0, .int .i64 0, .int .i64 0, .int .i64 0, .int .i64 0, .int .i64 0]) ?_ 2 _ rfl; (with_reducible repeat (first | refine yG ?_ _ | refine yH ?_ | refine yI ?_ _)); refine blk_put (cs := #[.int .i64 0, .string (⟨#[]⟩ : ByteArray), .int .i64 0, .int .i64 0, .int .i64 0, .int .i64 0, .int .i64 0, .int .i64 0, .int .i64 0]) ?_ 1 _ rfl; (with_reducible repeat (first | refine yG ?_ _ | refine yH ?_ | refine yI ?_ _)); refine blk_put (cs := #[.int .i64 0, .string (⟨#[]⟩ : ByteArray), .int .i64 0, .int .i64 0, .int .i64 0, .int .i64 0, .int .i64 0, .int .i64 0, .int .i64 0]) ?_ 0 _ rfl; (with_reducible repeat (first | refine yG ?_ _ | refine yH ?_ | refine yI ?_ _)); exact BK.out) Tryd.underlying32 rfl (by kernel_rfl)) rfl ?_
      exact ⟨by rw [HW.out]; rfl, by repeat (first | (with_reducible first | exact HB.out | apply yE | apply yF | apply yD | refine yJ ?_ GE.out) | exact HB.out)⟩
  ·have c3b0 : decide (i < (a0.size : Int)) = false := yM c3
   have HE := yA (show badAt bigB a0 a0.size 0 = (a0.size : Int) by rw [HM.out, show a0.size - i.toNat = 0 by have := HI.out; omega]; have := HI.out; show i = _; omega)
   clear HM
   by_cases c4 : (a0.size : Int) > 31
   ·have c4b0 : decide ((a0.size : Int) > 31) = true := yL c4
    have c4b1 : decide (31 < (a0.size : Int)) = true := yL c4
    have HW := yA (show wordOf bigB 2 a0 = (0, (⟨#[]⟩ : ByteArray), 0, 0, 0, 0, 0, 0, 0, 0, 6) by unfold wordOf; rw [HE.out, if_neg (by omega), if_pos c4])
    clear c4
    have hcz_0 : wr.cell? ⟨gb, 0, none⟩ = some (.int .i64 0) := (yR BK.out 0).trans rfl
    have hfz_0 := yS BK.out 0
    have hcz_1 : wr.cell? ⟨gb, 1, none⟩ = some (.string (⟨#[]⟩ : ByteArray)) := (yR BK.out 1).trans rfl
    have hfz_1 := yS BK.out 1
    have hcz_2 : wr.cell? ⟨gb, 2, none⟩ = some (.int .i64 0) := (yR BK.out 2).trans rfl
    have hfz_2 := yS BK.out 2
    have hcz_3 : wr.cell? ⟨gb, 3, none⟩ = some (.int .i64 0) := (yR BK.out 3).trans rfl
    have hfz_3 := yS BK.out 3
    have hcz_4 : wr.cell? ⟨gb, 4, none⟩ = some (.int .i64 0) := (yR BK.out 4).trans rfl
    have hfz_4 := yS BK.out 4
    have hcz_5 : wr.cell? ⟨gb, 5, none⟩ = some (.int .i64 0) := (yR BK.out 5).trans rfl
    have hfz_5 := yS BK.out 5
    have hcz_6 : wr.cell? ⟨gb, 6, none⟩ = some (.int .i64 0) := (yR BK.out 6).trans rfl
    have hfz_6 := yS BK.out 6
    have hcz_7 : wr.cell? ⟨gb, 7, none⟩ = some (.int .i64 0) := (yR BK.out 7).trans rfl
    have hfz_7 := yS BK.out 7
    have hcz_8 : wr.cell? ⟨gb, 8, none⟩ = some (.int .i64 0) := (yR BK.out 8).trans rfl
    have hfz_8 := yS BK.out 8
    go_wp2
    refine bodyPost_ret (results_ctt rfl _ _ gb 32 #[.int .i64 0, .string (⟨#[]⟩ : ByteArray), .int .i64 0, .int .i64 0, .int .i64 0, .int .i64 0, .int .i64 0, .int .i64 0, .int .i64 0] (0, 0) _ rfl (by (with_reducible repeat (first | refine yG ?_ _ | refine yH ?_ | refine yI ?_ _)); refine blk_put (cs := #[.int .i64 0, .string (⟨#[]⟩ : ByteArray), .int .i64 0, .int .i64 0, .int .i64 0, .int .i64 0, .int .i64 0, .int .i64 0, .int .i64 0]) ?_ 8 _ rfl; (with_reducible repeat (first | refine yG ?_ _ | refine yH ?_ | refine yI ?_ _)); refine blk_put (cs := #[.int .i64 0, .string (⟨#[]⟩ : ByteArray), .int .i64 0, .int .i64 0, .int .i64 0, .int .i64 0, .int .i64 0, .int .i64 0, .int .i64 0]) ?_ 7 _ rfl; (with_reducible repeat (first | refine yG ?_ _ | refine yH ?_ | refine yI ?_ _)); refine blk_put (cs := #[.int .i64 0, .string (⟨#[]⟩ : ByteArray), .int .i64 0, .int .i64 0, .int .i64 0, .int .i64 0, .int .i64 0, .int .i64 0, .int .i64 0]) ?_ 6 _ rfl; (with_reducible repeat (first | refine yG ?_ _ | refine yH ?_ | refine yI ?_ _)); refine blk_put (cs := #[.int .i64 0, .string (⟨#[]⟩ : ByteArray), .int .i64 0, .int .i64 0, .int .i64 0, .int .i64 0, .int .i64 0, .int .i64 0, .int .i64 0]) ?_ 5 _ rfl; (with_reducible repeat (first | refine yG ?_ _ | refine yH ?_ | refine yI ?_ _)); refine blk_put (cs := #[.int .i64 0, .string (⟨#[]⟩ : ByteArray), .int .i64 0, .int .i64 0, .int .i64 0, .int .i64 0, .int .i64 0, .int .i64 0, .int .i64 0]) ?_ 4 _ rfl; (with_reducible repeat (first | refine yG ?_ _ | refine yH ?_ | refine yI ?_ _)); refine blk_put (cs := #[.int .i64 0, .string (⟨#[]⟩ : ByteArray), .int .i64 0, .int .i64 0, .int .i64 0, .int .i64 0, .int .i64 0, .int .i64 0, .int .i64 0]) ?_ 3 _ rfl; (with_reducible repeat (first | refine yG ?_ _ | refine yH ?_ | refine yI ?_ _)); refine blk_put (cs := #[.int .i64 0, .string (⟨#[]⟩ : ByteArray), .int .i64 0, .int .i64 0, .int .i64 0, .int .i64 0, .int .i64 0, .int .i64 0, .int .i64 0]) ?_ 2 _ rfl; (with_reducible repeat (first | refine yG ?_ _ | refine yH ?_ | refine yI ?_ _)); refine blk_put (cs := #[.int .i64 0, .string (⟨#[]⟩ : ByteArray), .int .i64 0, .int .i64 0, .int .i64 0, .int .i64 0, .int .i64 0, .int .i64 0, .int .i64 0]) ?_ 1 _ rfl; (with_reducible repeat (first | refine yG ?_ _ | refine yH ?_ | refine yI ?_ _)); refine blk_put (cs := #[.int .i64 0, .string (⟨#[]⟩ : ByteArray), .int .i64 0, .int .i64 0, .int .i64 0, .int .i64 0, .int .i64 0, .int .i64 0, .int .i64 0]) ?_ 0 _ rfl; (with_reducible repeat (first | refine yG ?_ _ | refine yH ?_ | refine yI ?_ _)); exact BK.out) Tryd.underlying32 rfl (by kernel_rfl)) rfl ?_
    exact ⟨by rw [HW.out]; rfl, by repeat (first | (with_reducible first | exact HB.out | apply yE | apply yF | apply yD | refine yJ ?_ GE.out) | exact HB.out)⟩
   ·have c4b0 : decide ((a0.size : Int) > 31) = false := yM c4
    have c4b1 : decide (31 < (a0.size : Int)) = false := yM c4
    have HW := yA (show wordOf bigB 2 a0 = (2, a0, 0, 0, 0, 0, 0, 0, 0, 0, 0) by unfold wordOf; rw [HE.out, if_neg (by omega), if_neg c4])
    clear c4
    have hcz_0 : wr.cell? ⟨gb, 0, none⟩ = some (.int .i64 0) := (yR BK.out 0).trans rfl
    have hfz_0 := yS BK.out 0
    have hcz_1 : wr.cell? ⟨gb, 1, none⟩ = some (.string (⟨#[]⟩ : ByteArray)) := (yR BK.out 1).trans rfl
    have hfz_1 := yS BK.out 1
    have hcz_2 : wr.cell? ⟨gb, 2, none⟩ = some (.int .i64 0) := (yR BK.out 2).trans rfl
    have hfz_2 := yS BK.out 2
    have hcz_3 : wr.cell? ⟨gb, 3, none⟩ = some (.int .i64 0) := (yR BK.out 3).trans rfl
    have hfz_3 := yS BK.out 3
    have hcz_4 : wr.cell? ⟨gb, 4, none⟩ = some (.int .i64 0) := (yR BK.out 4).trans rfl
    have hfz_4 := yS BK.out 4
    have hcz_5 : wr.cell? ⟨gb, 5, none⟩ = some (.int .i64 0) := (yR BK.out 5).trans rfl
    have hfz_5 := yS BK.out 5
    have hcz_6 : wr.cell? ⟨gb, 6, none⟩ = some (.int .i64 0) := (yR BK.out 6).trans rfl
    have hfz_6 := yS BK.out 6
    have hcz_7 : wr.cell? ⟨gb, 7, none⟩ = some (.int .i64 0) := (yR BK.out 7).trans rfl
    have hfz_7 := yS BK.out 7
    have hcz_8 : wr.cell? ⟨gb, 8, none⟩ = some (.int .i64 0) := (yR BK.out 8).trans rfl
    have hfz_8 := yS BK.out 8
    go_wp2
    refine bodyPost_ret (results_ctt rfl _ _ gb 32 #[.int .i64 2, .string a0, .int .i64 0, .int .i64 0, .int .i64 0, .int .i64 0, .int .i64 0, .int .i64 0, .int .i64 0] (0, 0) _ rfl (by (with_reducible repeat (first | refine yG ?_ _ | refine yH ?_ | refine yI ?_ _)); refine blk_put (cs := #[.int .i64 2, .string a0, .int .i64 0, .int .i64 0, .int .i64 0, .int .i64 0, .int .i64 0, .int .i64 0, .int .i64 0]) ?_ 8 _ rfl; (with_reducible repeat (first | refine yG ?_ _ | refine yH ?_ | refine yI ?_ _)); refine blk_put (cs := #[.int .i64 2, .string a0, .int .i64 0, .int .i64 0, .int .i64 0, .int .i64 0, .int .i64 0, .int .i64 0, .int .i64 0]) ?_ 7 _ rfl; (with_reducible repeat (first | refine yG ?_ _ | refine yH ?_ | refine yI ?_ _)); refine blk_put (cs := #[.int .i64 2, .string a0, .int .i64 0, .int .i64 0, .int .i64 0, .int .i64 0, .int .i64 0, .int .i64 0, .int .i64 0]) ?_ 6 _ rfl; (with_reducible repeat (first | refine yG ?_ _ | refine yH ?_ | refine yI ?_ _)); refine blk_put (cs := #[.int .i64 2, .string a0, .int .i64 0, .int .i64 0, .int .i64 0, .int .i64 0, .int .i64 0, .int .i64 0, .int .i64 0]) ?_ 5 _ rfl; (with_reducible repeat (first | refine yG ?_ _ | refine yH ?_ | refine yI ?_ _)); refine blk_put (cs := #[.int .i64 2, .string a0, .int .i64 0, .int .i64 0, .int .i64 0, .int .i64 0, .int .i64 0, .int .i64 0, .int .i64 0]) ?_ 4 _ rfl; (with_reducible repeat (first | refine yG ?_ _ | refine yH ?_ | refine yI ?_ _)); refine blk_put (cs := #[.int .i64 2, .string a0, .int .i64 0, .int .i64 0, .int .i64 0, .int .i64 0, .int .i64 0, .int .i64 0, .int .i64 0]) ?_ 3 _ rfl; (with_reducible repeat (first | refine yG ?_ _ | refine yH ?_ | refine yI ?_ _)); refine blk_put (cs := #[.int .i64 2, .string a0, .int .i64 0, .int .i64 0, .int .i64 0, .int .i64 0, .int .i64 0, .int .i64 0, .int .i64 0]) ?_ 2 _ rfl; (with_reducible repeat (first | refine yG ?_ _ | refine yH ?_ | refine yI ?_ _)); refine blk_put (cs := #[.int .i64 2, .string (⟨#[]⟩ : ByteArray), .int .i64 0, .int .i64 0, .int .i64 0, .int .i64 0, .int .i64 0, .int .i64 0, .int .i64 0]) ?_ 1 _ rfl; (with_reducible repeat (first | refine yG ?_ _ | refine yH ?_ | refine yI ?_ _)); refine blk_put (cs := #[.int .i64 0, .string (⟨#[]⟩ : ByteArray), .int .i64 0, .int .i64 0, .int .i64 0, .int .i64 0, .int .i64 0, .int .i64 0, .int .i64 0]) ?_ 0 _ rfl; (with_reducible repeat (first | refine yG ?_ _ | refine yH ?_ | refine yI ?_ _)); exact BK.out) Tryd.underlying32 rfl (by kernel_rfl)) rfl ?_
    exact ⟨by rw [HW.out]; rfl, by repeat (first | (with_reducible first | exact HB.out | apply yE | apply yF | apply yD | refine yJ ?_ GE.out) | exact HB.out)⟩
end Go.Proofs.YtkfdninngcakpaaDoor.Pure
