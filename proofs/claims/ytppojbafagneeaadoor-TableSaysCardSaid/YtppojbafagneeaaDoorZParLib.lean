/- Own text, for this claim: strings.IndexByte, strings.Clone and num.Parse at no places, in the printed callers' form. -/
import Derived.Test.YtppojbafagneeaaDoorZParRep
import Derived.Deep.DeepMust
import Derived.Outline
namespace Go.Proofs.YtppojbafagneeaaDoor.Pure
open Go.RowKit Go.Proofs.YtppojbafagneeaaDoorW.PrintWords Go.Proofs.YtppojbafagneeaaDoorW.PrintLast Go.Proofs.YtppojbafagneeaaDoorW.PrintMore
set_option linter.unusedVariables false
set_option linter.unusedSimpArgs false
set_option maxHeartbeats 8000000 in
set_option maxRecDepth 100000 in
theorem clone_any (s : ByteArray) (hs : s.size ≤ 281474976710656) (w : World) :
  Calls Tryd.prog 89 #[.string s] w fun e w' => e = .returned (.string s) ∧ Below w.heap.size w w' := by
 have HB := yA (Below.refl w.heap.size w)
 go_enter Tryd.func89, Tryd.ntmps89
 go_wp2_with (first | (go_at_call 108; (with_reducible refine (Shelf.Tryd.stringslite_Clone s _ (by omega)).mono ?_); rintro e w1 ⟨rfl, hb⟩; have n0_ := yA (yB HB.out hb); clear HB; have HB := n0_; clear n0_ hb))
 go_ret
 exact ⟨rfl, HB.out⟩
def numP (s : ByteArray) : Option Int :=
 match pintOf (cut1 s.data.toList) with
 | (v, e) => if e = 0 ∧ dec v = s then some v else none
theorem pint_in64 {l : List UInt8} {v e : Int} (h : pintOf l = (v, e)) (h0 : e = 0) : -9223372036854775808 ≤ v ∧ v ≤ 9223372036854775807 := by
 unfold pintOf at h
 split at h
 ·rename_i u hu
  obtain rfl : u = v := (Prod.mk.inj h).1
  unfold Lib.parseIntB at hu
  split at hu
  ·cases hu
  ·rename_i c r
   dsimp only at hu
   split at hu
   ·cases hu
   ·cases hu
   ·rename_i x _
    have e : (2 : Nat) ^ (64 - 1) = 9223372036854775808 := rfl
    rw [e] at hu
    split at hu
    ·cases hu
    ·split at hu
     ·cases hu
     ·rename_i h1 h2
      have h3 := Lib.NumEnd.ok.inj hu
      split at h3 <;> rename_i h4
      ·have : x ≤ 9223372036854775808 := Nat.le_of_not_lt (fun h5 => h2 ⟨h4, h5⟩)
       omega
      ·have : x < 9223372036854775808 := Nat.lt_of_not_le (fun h5 => h1 ⟨h4, h5⟩)
       omega
 ·obtain rfl : (1 : Int) = e := (Prod.mk.inj h).2
  exact absurd h0 (by decide)
 ·obtain rfl : (1 : Int) = e := (Prod.mk.inj h).2
  exact absurd h0 (by decide)
theorem cut1_le : ∀ a : List UInt8, (cut1 a).length ≤ a.length := by
 intro a
 induction a with
 | nil => exact Nat.le_refl _
 | cons c r ih =>
  rw [cut1]
  split
  ·simp
  ·simpa using ih
set_option maxHeartbeats 8000000 in
set_option maxRecDepth 100000 in
theorem parse0_any (s : ByteArray) (hs : s.size ≤ 140737488351232) (v e : Int) (h : (numP s = some v ∧ e = 0) ∨ (numP s = none ∧ v = 0 ∧ e = 11)) (w : World) (hG : GR w) :
  Calls Tryd.prog 35 #[.string s, .int .i64 0] w fun x w' => x = .returned (.tuple #[.int .i64 v, .int .i64 e]) ∧ Below w.heap.size w w' := by
 obtain ⟨⟨u, c⟩, hp⟩ : ∃ q, pintOf (cut1 s.data.toList) = q := ⟨_, rfl⟩
 obtain ⟨t, ht⟩ : ∃ t : ByteArray, t = ⟨(cut1 s.data.toList).toArray⟩ := ⟨_, rfl⟩
 have hp2 : pintOf t.data.toList = (u, c) := by rw [ht]; exact hp
 have htl : t.size ≤ 140737488355328 := by
  have h1 := cut1_le s.data.toList
  have h2 : s.data.toList.length = s.size := by simp
  rw [ht]
  show (cut1 s.data.toList).toArray.size ≤ _
  rw [List.size_toArray]
  omega
 have HS := yA hs
 have HT := yA ht
 have HTL := yA htl
 have HP := yA hp2
 have HG := yA hG
 have HB := yA (Below.refl w.heap.size w)
 clear hs htl hG hp2
 unfold numP at h
 rw [hp] at h
 dsimp only at h
 clear ht
 by_cases hc : c = 0
 ·have hin := pint_in64 hp hc
  subst hc
  have HIN := yA hin
  have HSZ := yA (dec_size u hin.1 hin.2)
  clear hin hp
  have k0 : ((0 : Int) != 0) = false := by decide
  by_cases hd : dec u = s
  ·rw [if_pos ⟨rfl, hd⟩] at h
   obtain ⟨rfl, rfl⟩ : u = v ∧ e = 0 := by
    rcases h with ⟨h1, h2⟩ | ⟨h1, -⟩
    ·exact ⟨Option.some.inj h1, h2⟩
    ·cases h1
   have q1 : ((dec u).toList == s.toList) = true := by rw [hd]; exact beq_self_eq_true _
   have q2 : ((dec u).toList != s.toList) = false := by rw [hd]; exact bne_self_eq_false _
   clear hd h
   go_enter Tryd.func35, Tryd.ntmps35
   go_wp2_with (first | ((with_reducible refine yP (N := 23) rfl ?_); go_must (refine Pure.neq_event _ rfl (.tmp 22) rfl 0 ev rfl HEV.out ?_)) | ((with_reducible refine yO (f := 73) rfl ?_); refine goesL_ (some 18) rfl rfl Tryd.func73 (by kernel_rfl) rfl #[.string s, .string (⟨#[46]⟩ : ByteArray), .string (⟨#[]⟩ : ByteArray), .int .i64 1] rfl (by (try simp only [List.map_toArray, List.map_cons, List.map_nil]); first | done | rfl) ?_; (with_reducible refine (replace_any s _ HS.out).mono ?_); rw [← HT.out]; rintro e w12 ⟨rfl, hb⟩; refine ⟨_, rfl, ?_⟩; have n0_ := yA (yB HB.out hb); clear HB; have HB := n0_; clear n0_ hb) | ((with_reducible refine yO (f := 72) rfl ?_); refine goesL_ (some 19) rfl rfl Tryd.func72 (by kernel_rfl) rfl #[.string t, .int .i64 10, .int .i64 64] rfl (by (try simp only [List.map_toArray, List.map_cons, List.map_nil]); first | done | rfl) ?_; (with_reducible refine (pint_any t HTL.out u 0 _ HP.out (GR.below HG.out HB.out)).mono ?_); rintro e w13 ⟨ev, hev, rfl, hb⟩; have HEV := yA hev; clear hev; refine ⟨_, rfl, ?_⟩; have n0_ := yA (yB HB.out hb); clear HB; have HB := n0_; clear n0_ hb) | ((with_reducible refine yO (f := 34) rfl ?_); refine goesL_ (some 27) rfl rfl Tryd.func34 (by kernel_rfl) rfl #[.int .i64 u, .int .i64 0] rfl (by (try simp only [List.map_toArray, List.map_cons, List.map_nil]); first | done | rfl) ?_; (with_reducible refine (text0_any u HIN.out.1 HIN.out.2 _ (GP.below HG.out.gp HB.out)).mono ?_); rintro e w14 ⟨rfl, hb⟩; refine ⟨_, rfl, ?_⟩; have n0_ := yA (yB HB.out hb); clear HB; have HB := n0_; clear n0_ hb))
   go_ret2
   exact ⟨by first | rfl | simp, HB.out⟩
  ·rw [if_neg (fun h => hd h.2)] at h
   obtain ⟨rfl, rfl⟩ : v = 0 ∧ e = 11 := by
    rcases h with ⟨h1, -⟩ | ⟨-, h2⟩
    ·cases h1
    ·exact h2
   have hne : (dec u).toList ≠ s.toList := by
    intro h1
    rw [ByteArray.toList_eq, ByteArray.toList_eq] at h1
    exact hd (ByteArray.ext (Array.toList_inj.1 h1))
   have q1 : ((dec u).toList == s.toList) = false := beq_eq_false_iff_ne.mpr hne
   have q2 : ((dec u).toList != s.toList) = true := bne_iff_ne.mpr hne
   clear hd h hne
   go_enter Tryd.func35, Tryd.ntmps35
   go_wp2_with (first | ((with_reducible refine yP (N := 23) rfl ?_); go_must (refine Pure.neq_event _ rfl (.tmp 22) rfl 0 ev rfl HEV.out ?_)) | ((with_reducible refine yO (f := 73) rfl ?_); refine goesL_ (some 18) rfl rfl Tryd.func73 (by kernel_rfl) rfl #[.string s, .string (⟨#[46]⟩ : ByteArray), .string (⟨#[]⟩ : ByteArray), .int .i64 1] rfl (by (try simp only [List.map_toArray, List.map_cons, List.map_nil]); first | done | rfl) ?_; (with_reducible refine (replace_any s _ HS.out).mono ?_); rw [← HT.out]; rintro e w12 ⟨rfl, hb⟩; refine ⟨_, rfl, ?_⟩; have n0_ := yA (yB HB.out hb); clear HB; have HB := n0_; clear n0_ hb) | ((with_reducible refine yO (f := 72) rfl ?_); refine goesL_ (some 19) rfl rfl Tryd.func72 (by kernel_rfl) rfl #[.string t, .int .i64 10, .int .i64 64] rfl (by (try simp only [List.map_toArray, List.map_cons, List.map_nil]); first | done | rfl) ?_; (with_reducible refine (pint_any t HTL.out u 0 _ HP.out (GR.below HG.out HB.out)).mono ?_); rintro e w13 ⟨ev, hev, rfl, hb⟩; have HEV := yA hev; clear hev; refine ⟨_, rfl, ?_⟩; have n0_ := yA (yB HB.out hb); clear HB; have HB := n0_; clear n0_ hb) | ((with_reducible refine yO (f := 34) rfl ?_); refine goesL_ (some 27) rfl rfl Tryd.func34 (by kernel_rfl) rfl #[.int .i64 u, .int .i64 0] rfl (by (try simp only [List.map_toArray, List.map_cons, List.map_nil]); first | done | rfl) ?_; (with_reducible refine (text0_any u HIN.out.1 HIN.out.2 _ (GP.below HG.out.gp HB.out)).mono ?_); rintro e w14 ⟨rfl, hb⟩; refine ⟨_, rfl, ?_⟩; have n0_ := yA (yB HB.out hb); clear HB; have HB := n0_; clear n0_ hb))
   go_ret2
   exact ⟨by first | rfl | simp, HB.out⟩
 ·rw [if_neg (fun h => hc h.1)] at h
  obtain ⟨rfl, rfl⟩ : v = 0 ∧ e = 11 := by
   rcases h with ⟨h1, -⟩ | ⟨-, h2⟩
   ·cases h1
   ·exact h2
  have k0 : (c != 0) = true := bne_iff_ne.mpr hc
  clear hc h hp
  go_enter Tryd.func35, Tryd.ntmps35
  go_wp2_with (first | ((with_reducible refine yP (N := 23) rfl ?_); go_must (refine Pure.neq_event _ rfl (.tmp 22) rfl c ev rfl HEV.out ?_)) | ((with_reducible refine yO (f := 73) rfl ?_); refine goesL_ (some 18) rfl rfl Tryd.func73 (by kernel_rfl) rfl #[.string s, .string (⟨#[46]⟩ : ByteArray), .string (⟨#[]⟩ : ByteArray), .int .i64 1] rfl (by (try simp only [List.map_toArray, List.map_cons, List.map_nil]); first | done | rfl) ?_; (with_reducible refine (replace_any s _ HS.out).mono ?_); rw [← HT.out]; rintro e w12 ⟨rfl, hb⟩; refine ⟨_, rfl, ?_⟩; have n0_ := yA (yB HB.out hb); clear HB; have HB := n0_; clear n0_ hb) | ((with_reducible refine yO (f := 72) rfl ?_); refine goesL_ (some 19) rfl rfl Tryd.func72 (by kernel_rfl) rfl #[.string t, .int .i64 10, .int .i64 64] rfl (by (try simp only [List.map_toArray, List.map_cons, List.map_nil]); first | done | rfl) ?_; (with_reducible refine (pint_any t HTL.out u c _ HP.out (GR.below HG.out HB.out)).mono ?_); rintro e w13 ⟨ev, hev, rfl, hb⟩; have HEV := yA hev; clear hev; refine ⟨_, rfl, ?_⟩; have n0_ := yA (yB HB.out hb); clear HB; have HB := n0_; clear n0_ hb))
  go_ret2
  exact ⟨by first | rfl | simp, HB.out⟩
end Go.Proofs.YtppojbafagneeaaDoor.Pure
namespace Go.Proofs.YtppojbafagneeaaDoor.PTab
open Go.RowKit Go.Proofs.YtppojbafagneeaaDoorW.PrintWords Go.Proofs.YtppojbafagneeaaDoorW.PrintLast Go.Proofs.YtppojbafagneeaaDoorW.PrintMore
set_option linter.unusedVariables false
def strings_IndexByte.f (a0 : ByteArray) (a1 : Int) : Option (Int) := if a1 = 10 then some (Lib.indexByte a0.data.toList 10) else none
theorem strings_IndexByte.calls (a0 : ByteArray) (a1 : Int) (r : Int) (w : World) (h : strings_IndexByte.f a0 a1 = some r) :
  Calls Tryd.prog 87 #[.string a0, .int .u8 a1] w fun e w' => e = .returned (.int .i64 r) ∧ Drawn0 w w' := by
 unfold strings_IndexByte.f at h
 split at h
 ·rename_i ha
  subst ha
  obtain rfl := Option.some.inj h
  refine (Shelf.Tryd.strings_IndexByte a0 10 w).mono ?_
  rintro e w' ⟨rfl, rfl⟩
  exact ⟨rfl, Drawn0.refl _⟩
 ·cases h
def num_Parse.f (a0 : ByteArray) (a1 : Int) : Option (Int × Int) := if a1 = 0 ∧ a0.size ≤ 140737488351232 then some (match Pure.numP a0 with | some v => (v, 0) | none => (0, 11)) else none
theorem num_Parse.calls (a0 : ByteArray) (a1 : Int) (r1 : Int) (r2 : Int) (w : World) (h : num_Parse.f a0 a1 = some (r1, r2)) (hG : Pure.GR w) :
  Calls Tryd.prog 35 #[.string a0, .int .i64 a1] w fun e w' => e = .returned (.tuple #[.int .i64 r1, .int .i64 r2]) ∧ Below w.heap.size w w' := by
 unfold num_Parse.f at h
 split at h
 ·rename_i ha
  obtain ⟨rfl, hs⟩ := ha
  have h := Option.some.inj h
  refine Pure.parse0_any a0 hs r1 r2 ?_ w hG
  cases hn : Pure.numP a0 with
  | some v =>
   rw [hn] at h
   obtain ⟨rfl, rfl⟩ := Prod.mk.inj h
   exact Or.inl ⟨rfl, rfl⟩
  | none =>
   rw [hn] at h
   obtain ⟨h1, h2⟩ := Prod.mk.inj h
   exact Or.inr ⟨rfl, h1.symm, h2.symm⟩
 ·cases h
end Go.Proofs.YtppojbafagneeaaDoor.PTab
