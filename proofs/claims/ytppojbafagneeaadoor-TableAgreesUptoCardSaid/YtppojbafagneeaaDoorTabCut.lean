/- Own text: table.Agree of two tables that lie behind own: told with more behind their lists' ends. -/
import Derived.Test.YtppojbafagneeaaDoorTabAgree
import Derived.Test.YtppojbafagneeaaDoorTabIntact
namespace Go.Proofs.YtppojbafagneeaaDoor.PTab
open Go.RowKit Go.Maps Go.WideMaps Go.Proofs.YtppojbafagneeaaDoorW.PrintWords Go.Proofs.YtppojbafagneeaaDoorW.PrintLast Go.Proofs.YtppojbafagneeaaDoorW.PrintMore
set_option linter.unusedVariables false
set_option linter.unusedSimpArgs false
/-- r tells whether the two tables say the same up to last. -/
structure AgreeIs (l0 : List ByteArray) (l1 : List (List S52)) (m0 : List ByteArray) (m1 : List (List S52)) (last : Int) (r : Bool) : Prop where
  sa : ∀ n ∈ l0, n.size ≤ 140737488351232
  la : l0.length ≤ 140737488351232
  ma : l1.length ≤ 140737488351232
  sb : ∀ n ∈ m0, n.size ≤ 140737488351232
  lb : m0.length ≤ 140737488351232
  mb : m1.length ≤ 140737488351232
  ca : ∀ n, (colD l0 0 (.map [])).atKey (keyS n) (.lit (.int .i64 0)) = .lit (.int .i64 (colC l0 n)) ∧ 0 ≤ colC l0 n
  cb : ∀ n, (colD m0 0 (.map [])).atKey (keyS n) (.lit (.int .i64 0)) = .lit (.int .i64 (colC m0 n)) ∧ 0 ≤ colC m0 n
  ha : ∀ n, has (colD l0 0 (.map [])) (keyS n) = true ↔ n ∈ l0
  hb : ∀ n, has (colD m0 0 (.map [])) (keyS n) = true ↔ n ∈ m0
  yes : r = true → ∀ d : Nat, d < max l1.length m1.length → (d : Int) ≤ last → ∀ n, n ∈ l0 ∨ n ∈ m0 → cellC l0 l1 n d = cellC m0 m1 n d
  no : r = false → ∃ d : Nat, d < max l1.length m1.length ∧ (d : Int) ≤ last ∧ ∃ n, (n ∈ l0 ∨ n ∈ m0) ∧ cellC l0 l1 n d ≠ cellC m0 m1 n d
theorem cut_facts {n : Bool} {A : Option Addr} {c : Nat} {L : List ByteArray} {A1 : Option Addr} {c1 : Nat} {R : List (List S52)} {l0 : List ByteArray} {l1 : List (List S52)} {w : World} (h0 : Kd.C Kd.string w A L.length L) (hc : L.length ≤ c) (h1 : (cut2 52 k52).C w A1 R.length R) (hc1 : R.length ≤ c1)
    (hL : L = withN n l0) (hn : n = true → l0 = []) (hR : R = l1.map withC) : L.length - 2 = l0.length ∧ Kd.C Kd.string w A l0.length l0 ∧ l0.length ≤ c ∧ R.length = l1.length ∧ (Kd.slice 52 k52).C w A1 l1.length l1 ∧ l1.length ≤ c1 := by
  have hS := cut2_read h1
  rw [hR, short_with, List.length_map] at hS
  have hl : L.length - 2 = l0.length ∧ L.take l0.length = l0 := by
    cases n with
    | true => rw [hL, hn rfl]; exact ⟨rfl, rfl⟩
    | false => rw [hL]; simp [withN]
  have hT := C_take h0 (m := l0.length) (by omega)
  rw [hl.2] at hT
  have hr : R.length = l1.length := by rw [hR, List.length_map]
  exact ⟨hl.1, hT, by omega, hr, hS, by omega⟩
theorem agree_cut (n n' : Bool) (A : Option Addr) (c : Nat) (L : List ByteArray) (A1 : Option Addr) (c1 : Nat) (R : List (List S52)) (B : Option Addr) (d : Nat) (L' : List ByteArray) (B1 : Option Addr) (d1 : Nat) (R' : List (List S52)) (l0 : List ByteArray) (l1 : List (List S52)) (m0 : List ByteArray) (m1 : List (List S52)) (last : Int) (r : Bool) (w : World)
    (h0 : Kd.C Kd.string w A L.length L) (hc : L.length ≤ c) (h1 : (cut2 52 k52).C w A1 R.length R) (hc1 : R.length ≤ c1) (g0 : Kd.C Kd.string w B L'.length L') (gc : L'.length ≤ d) (g1 : (cut2 52 k52).C w B1 R'.length R') (gc1 : R'.length ≤ d1)
    (hL : L = withN n l0) (hn : n = true → l0 = []) (hR : R = l1.map withC) (hL' : L' = withN n' m0) (hn' : n' = true → m0 = []) (hR' : R' = m1.map withC) (h : AgreeIs l0 l1 m0 m1 last r) :
    Calls Tryd.prog 17 #[.agg #[.slice A (L.length - 2) c, .slice A1 R.length c1], .agg #[.slice B (L'.length - 2) d, .slice B1 R'.length d1], .int .i64 last] w fun e w' => e = .returned (.bool r) ∧ Below w.heap.size w w' := by
  obtain ⟨a1, a2, a3, a4, a5, a6⟩ := cut_facts h0 hc h1 hc1 hL hn hR
  obtain ⟨b1, b2, b3, b4, b5, b6⟩ := cut_facts g0 gc g1 gc1 hL' hn' hR'
  rw [a1, a4, b1, b4]
  exact agree_any A c l0 A1 c1 l1 B d m0 B1 d1 m1 last w a2 a3 h.sa h.la a5 h.ma b2 b3 h.sb h.lb b5 h.mb h.ca h.cb h.ha h.hb r h.yes h.no
end Go.Proofs.YtppojbafagneeaaDoor.PTab
