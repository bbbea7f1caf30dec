/- Own text, for this claim: tables as values that read as lists, and what the table's functions tell of such. -/
import Derived.Test.YtppojbafagneeaaDoorZPlainRaw
import Derived.Test.YtppojbafagneeaaDoorZTabAgr
import Derived.Test.YtppojbafagneeaaDoorZQSayo
namespace Go.Proofs.YtppojbafagneeaaDoor.Pure
open Go.RowKit Go.Maps Go.ChangeShapes Go.WideShapes Go.Proofs.YtppojbafagneeaaDoor.PTab Go.Proofs.YtppojbafagneeaaDoorW.PrintWords Go.Proofs.YtppojbafagneeaaDoorW.PrintLast Go.Proofs.YtppojbafagneeaaDoorW.PrintMore
set_option linter.unusedVariables false
set_option linter.unusedSimpArgs false
structure TB (w : World) (A : Option Addr) (c : Nat) (l0 : List ByteArray) (B : Option Addr) (d : Nat) (l1 : List (List S52)) : Prop where
 n : Kd.C Kd.string w A l0.length l0
 hn : l0.length ≤ c
 r : Kd.C (Kd.slice 52 k52) w B l1.length l1
 hr : l1.length ≤ d
variable {w w1 : World} {A A' B B' : Option Addr} {c c' d d' : Nat} {l0 m0 : List ByteArray} {l1 m1 : List (List S52)}
theorem TB.below (h : TB w A c l0 B d l1) (hb : Below w.heap.size w w1) : TB w1 A c l0 B d l1 := ⟨Kd.C_below h.n hb, h.hn, Kd.C_below h.r hb, h.hr⟩
theorem TB.drew (h : TB w A c l0 B d l1) : TB w.drew A c l0 B d l1 := h.below (below_drew (Below.refl _ _))
theorem TB.set (h : TB w A c l0 B d l1) {b g j : Nat} {v : Value} (hg : w.heap.size ≤ g) : TB (w.setCell ⟨g, j, none⟩ v) A c l0 B d l1 := h.below (yJ (Below.refl _ _) hg)
theorem own_tb (h : TB w A c l0 B d l1) (hs : SmallT l0 l1) (hG : Gl w) :
  Calls Tryd.prog 16 #[.agg #[.slice A l0.length c, .slice B l1.length d]] w fun e w' => ∃ (A' : Option Addr) (c' : Nat) (B' : Option Addr) (d' : Nat), e = .returned (.agg #[.slice A' l0.length c', .slice B' l1.length d']) ∧ TB w' A' c' l0 B' d' l1 ∧ Below w.heap.size w w' := by
 refine (payofflaw05_ownR.calls A c l0 B d l1 l0 l1 w h.n h.hn h.r h.hr (by unfold payofflaw05_ownR.f; rw [if_pos hs]) hG).mono ?_
 rintro e w' ⟨v0, v1, rfl, ⟨A', c', rfl, h1, h2⟩, ⟨B', d', rfl, h3, h4⟩, hb⟩
 exact ⟨A', c', B', d', rfl, ⟨h2, h1, h4, h3⟩, hb⟩
structure SmallA (l0 : List ByteArray) (l1 : List (List S52)) : Prop where
 nm : ∀ n ∈ l0, n.size ≤ 140737488351232
 ln : l0.length ≤ 140737488351232
 rw : l1.length ≤ 140737488351232
theorem SmallT.a (h : SmallT l0 l1) : SmallA l0 l1 := ⟨h.2.1, Nat.le_trans h.1 (by omega), by have := h.2.2.1; omega⟩
theorem back_tb (h : TB w A c pN B d pR) (hG : GB w) : Calls Tryd.prog 31 #[.agg #[.slice A pN.length c, .slice B pR.length d]] w fun e w' => e = .returned (.bool true) ∧ Below w.heap.size w w' :=
 payofflaw05_back.calls 100 A c pN B d pR true w h.n h.hn h.r h.hr back_p hG
theorem valid_tb (h : TB w A c l0 B d l1) (hs : SmallT l0 l1) : Calls Tryd.prog 20 #[.agg #[.slice A l0.length c, .slice B l1.length d]] w fun e w' => e = .returned (.int .i64 (validT l0 l1)) ∧ Below w.heap.size w w' := by
 obtain ⟨k, hk⟩ := (validT_ev l0 l1 hs).rounds
 exact table_Valid.calls k A c l0 B d l1 _ w h.n h.hn h.r h.hr hk
end Go.Proofs.YtppojbafagneeaaDoor.Pure
