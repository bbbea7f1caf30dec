/- Own text, for this claim: left: the marks behind a copy's lists stand. -/
import Derived.Test.YtjhbiennmambkaaDoorZAsmVM
import Derived.Outline
import Derived.Deep.DeepMust
import Derived.BigQuiet
import Derived.Deep.QuietTactic
namespace Go.Proofs.YtjhbiennmambkaaDoor.PAsm
open Go.RowKit Go.Proofs.YtjhbiennmambkaaDoorW.PrintWords Go.Proofs.YtjhbiennmambkaaDoorW.PrintLast Go.Proofs.YtjhbiennmambkaaDoorW.PrintMore Go.Proofs.YtjhbiennmambkaaDoor.PAsmInstrs
set_option linter.unusedVariables false
set_option linter.unusedSimpArgs false
def mN : ByteArray := ⟨#[109, 97, 114, 107]⟩
def mI : S28 := ⟨(-77), 0, 0⟩
def mD : S39 := ⟨(-77), []⟩
theorem at_kx {w : World} {A : Option Addr} {n : Nat} {xs : List S39} (h : Kd.C k39x w A n xs) (i : Int) (h0 : 0 ≤ i) (h1 : i < n) : ∃ ad A1 c1, A = some ad ∧ w.cell? (ad.add (i.toNat * 2)) = some (.int .i64 (rd_T39 xs i).f0) ∧ w.cell? ⟨(ad.add (i.toNat * 2)).block, (ad.add (i.toNat * 2)).off + 1, none⟩ = some (.slice A1 ((rd_T39 xs i).f1.length - 2) c1) ∧ (rd_T39 xs i).f1.length ≤ c1 ∧ k28.C w A1 (rd_T39 xs i).f1.length (rd_T39 xs i).f1 := by
 obtain ⟨ad, c, e, _, hK, hc0⟩ := Kd.C_get h (z39) i h0 h1
 have hc : ∀ j u, c[j]? = some u → w.cell? (ad.add (i.toNat * 2 + j)) = some u := hc0
 obtain ⟨A1, c1, rfl, h3, h4⟩ := kx_open hK
 exact ⟨ad, A1, c1, e, hc 0 _ rfl, by rw [← add_field _ _ 1 (by omega)]; exact hc 1 _ rfl, h3, h4⟩
theorem wl (n : Nat) (k m : Nat) (e : n + k = m) (h : m ≤ 9223372036854775807) : wrap64 ((n : Int) + (k : Int)) = (m : Int) := by unfold wrap64; omega
theorem wl1 (m p : Nat) (e : p + 1 = m) (h : m ≤ 9223372036854775807) : wrap64 ((m : Int) - 1) = (p : Int) := by unfold wrap64; omega
theorem wl2 (m p : Nat) (e : p + 2 = m) (h : m ≤ 9223372036854775807) : wrap64 ((m : Int) - 2) = (p : Int) := by unfold wrap64; omega
theorem cutL (t e : TypeId) {i : TypeInfo} (ht : Tryd.prog.underlying t = some (.slice e)) (hi : Tryd.prog.info? e = some i) (A : Option Addr) (n m c : Nat) (hc : m ≤ c) :
  ∀ W : World, (Instr.slice t (.slice A n c) none (some (.int .i64 (m : Int))) none).run Tryd.prog W = .ok (.slice A m c) W := by
 intro W
 have hel : Tryd.prog.elem t = e := by simp [Program.elem, ht]
 have hu : Tryd.prog.underlying t = some (.slice (Tryd.prog.elem t)) := by rw [hel]; exact ht
 have ha : (A.map fun x => x.add 0) = A := by cases A <;> simp [Addr.add]
 rw [run_slice_h W t A n c hu .i64 (m : Int) (by omega) (by omega), hel]
 simp [sizeOf, typeInfo, hi, sliced, Result.andThen, ha]
set_option maxHeartbeats 8000000 in
set_option maxRecDepth 100000 in
theorem left_true (A0 A1 A2 A7 : Option Addr) (c0 c1 c2 c7 n0 n1 n2 n7 m0 m1 m2 m7 : Nat) (f0 f1 : List ByteArray) (f2 : List Int) (f7 : List S39) (a3 a4 a5 a6 : Int) (w : World)
  (e0 : n0 + 2 = m0) (e1 : n1 + 2 = m1) (e2 : n2 + 2 = m2) (e7 : n7 + 2 = m7) (h0 : Kd.string.C w A0 m0 f0) (h1 : Kd.string.C w A1 m1 f1) (h2 : (Kd.int .i64).C w A2 m2 f2) (h7 : k39x.C w A7 m7 f7)
  (l0 : m0 ≤ c0) (l1 : m1 ≤ c1) (l2 : m2 ≤ c2) (l7 : m7 ≤ c7) (g0 : rdOf ByteArray.empty f0 ((n0 + 1 : Nat) : Int) = mN) (g0' : rdOf ByteArray.empty f0 (n0 : Int) = mN) (g1 : rdOf ByteArray.empty f1 ((n1 + 1 : Nat) : Int) = mN) (g1' : rdOf ByteArray.empty f1 (n1 : Int) = mN)
  (g2 : rd f2 ((n2 + 1 : Nat) : Int) = -77) (g2' : rd f2 (n2 : Int) = -77) (g7 : (rd_T39 f7 ((n7 + 1 : Nat) : Int)).f0 = -77) (g7' : (rd_T39 f7 (n7 : Int)).f0 = -77)
  (hD : ∀ i : Nat, i < n7 → ∃ n : Nat, (rd_T39 f7 (i : Int)).f1.length = n + 2 ∧ (rd_T28 (rd_T39 f7 (i : Int)).f1 (n : Int)).f0 = -77 ∧ (rd_T28 (rd_T39 f7 (i : Int)).f1 ((n + 1 : Nat) : Int)).f0 = -77) :
  Calls Tryd.prog 9 #[.agg #[.slice A0 n0 c0, .slice A1 n1 c1, .slice A2 n2 c2, .int .i64 a3, .int .i64 a4, .int .i64 a5, .int .i64 a6, .slice A7 n7 c7]] w fun e w' => e = .returned (.bool true) ∧ Below w.heap.size w w' := by
 have hu26 := Tryd.underlying26
 have hu28 := Tryd.underlying28
 have hu39 := Tryd.underlying39
 have HB := yA (Below.refl w.heap.size w)
 have HD := yA hD
 have H7 := yA h7
 obtain ⟨p0, hp0⟩ : ∃ p, n0 + 1 = p := ⟨_, rfl⟩
 obtain ⟨p1, hp1⟩ : ∃ p, n1 + 1 = p := ⟨_, rfl⟩
 obtain ⟨p2, hp2⟩ : ∃ p, n2 + 1 = p := ⟨_, rfl⟩
 obtain ⟨p7, hp7⟩ : ∃ p, n7 + 1 = p := ⟨_, rfl⟩
 rw [hp0] at g0; rw [hp1] at g1; rw [hp2] at g2; rw [hp7] at g7
 have b0 : m0 ≤ 9223372036854775807 := h0.2.1
 have b1 : m1 ≤ 9223372036854775807 := h1.2.1
 have b2 : m2 ≤ 9223372036854775807 := h2.2.1
 have b7 : m7 ≤ 9223372036854775807 := h7.2.1
 obtain ⟨ad0, q0, x0⟩ := Kd.at_string h0 (p0 : Int) (by omega) (by omega)
 obtain ⟨bd0, q0', x0'⟩ := Kd.at_string h0 (n0 : Int) (by omega) (by omega)
 obtain ⟨ad1, q1, x1⟩ := Kd.at_string h1 (p1 : Int) (by omega) (by omega)
 obtain ⟨bd1, q1', x1'⟩ := Kd.at_string h1 (n1 : Int) (by omega) (by omega)
 obtain ⟨ad2, q2, x2⟩ := Kd.at_int h2 (p2 : Int) (by omega) (by omega)
 obtain ⟨bd2, q2', x2'⟩ := Kd.at_int h2 (n2 : Int) (by omega) (by omega)
 obtain ⟨ad7, _, _, q7, x7, -⟩ := at_kx h7 (p7 : Int) (by omega) (by omega)
 obtain ⟨bd7, _, _, q7', x7', -⟩ := at_kx h7 (n7 : Int) (by omega) (by omega)
 subst q0 q1 q2 q7
 cases q0'
 cases q1'
 cases q2'
 cases q7'
 rw [g0] at x0; rw [g0'] at x0'; rw [g1] at x1; rw [g1'] at x1'; rw [g2] at x2; rw [g2'] at x2'; rw [g7] at x7; rw [g7'] at x7'
 rw [Int.toNat_natCast] at x0 x0' x1 x1' x2 x2' x7 x7'
 obtain ⟨i9, hi9, _⟩ := info_parts info9
 obtain ⟨i3, hi3, _⟩ := info_parts info3
 obtain ⟨i39, hi39, _⟩ := info_parts info39
 have hk0 := cutL 22 9 Tryd.underlying22 hi9 (some ad0) n0 m0 c0 l0
 have hk1 := cutL 22 9 Tryd.underlying22 hi9 (some ad1) n1 m1 c1 l1
 have hk2 := cutL 23 3 Tryd.underlying23 hi3 (some ad2) n2 m2 c2 l2
 have hk7 := cutL 24 39 Tryd.underlying24 hi39 (some ad7) n7 m7 c7 l7
 have hw0 : wrap64 ((n0 : Int) + 2) = (m0 : Int) := wl n0 2 m0 e0 (by omega)
 have hw1 : wrap64 ((n1 : Int) + 2) = (m1 : Int) := wl n1 2 m1 e1 (by omega)
 have hw2 : wrap64 ((n2 : Int) + 2) = (m2 : Int) := wl n2 2 m2 e2 (by omega)
 have hw7 : wrap64 ((n7 : Int) + 2) = (m7 : Int) := wl n7 2 m7 e7 (by omega)
 have hv0 := wl1 m0 p0 (by omega) (by omega)
 have hv1 := wl1 m1 p1 (by omega) (by omega)
 have hv2 := wl1 m2 p2 (by omega) (by omega)
 have hv7 := wl1 m7 p7 (by omega) (by omega)
 have hz0 := wl2 m0 n0 e0 (by omega)
 have hz1 := wl2 m1 n1 e1 (by omega)
 have hz2 := wl2 m2 n2 e2 (by omega)
 have hz7 := wl2 m7 n7 e7 (by omega)
 have r0 : ((p0 : Int) < (m0 : Int)) = True := eq_true (by omega)
 have r1 : ((p1 : Int) < (m1 : Int)) = True := eq_true (by omega)
 have r2 : ((p2 : Int) < (m2 : Int)) = True := eq_true (by omega)
 have r7 : ((p7 : Int) < (m7 : Int)) = True := eq_true (by omega)
 have s0 : ((n0 : Int) < (m0 : Int)) = True := eq_true (by omega)
 have s1 : ((n1 : Int) < (m1 : Int)) = True := eq_true (by omega)
 have s2 : ((n2 : Int) < (m2 : Int)) = True := eq_true (by omega)
 have s7 : ((n7 : Int) < (m7 : Int)) = True := eq_true (by omega)
 have S0 : (p0 < m0) = True := eq_true (by omega)
 have S1 : (p1 < m1) = True := eq_true (by omega)
 have S2 : (p2 < m2) = True := eq_true (by omega)
 have S7 : (p7 < m7) = True := eq_true (by omega)
 have U0 : (n0 < m0) = True := eq_true (by omega)
 have U1 : (n1 < m1) = True := eq_true (by omega)
 have U2 : (n2 < m2) = True := eq_true (by omega)
 have U7 : (n7 < m7) = True := eq_true (by omega)
 have hmk : (mN.toList == ([109, 97, 114, 107] : List UInt8)) = true := by rw [ByteArray.toList_eq]; rfl
 have hmk' : (mN.toList != ([109, 97, 114, 107] : List UInt8)) = false := by rw [ByteArray.toList_eq]; rfl
 have E7 := yA e7
 have B7 := yA b7
 clear h0 h1 h2 h7 hD e0 e1 e2 e7 hp0 hp1 hp2 hp7 b0 b1 b2 b7 g0 g0' g1 g1' g2 g2' g7 g7' hi9 hi3 hi39 l0 l1 l2 l7
 go_enter Tryd.func9, Tryd.ntmps9
 go_upto_region 5 with (first | ((with_reducible refine yP (N := 1) rfl ?_); refine yQ ?hg (N := 1) ?hd (cs := #[.slice (some ad0) n0 c0, .slice (some ad1) n1 c1, .slice (some ad2) n2 c2, .int .i64 a3, .int .i64 a4, .int .i64 a5, .int .i64 a6, .slice (some ad7) n7 c7]) (t := 26) ?hr ?_; (case hd => rfl); (case hg => rfl); (case hr => first | (go_simp; done) | (go_simp; rfl)); intro gb hg wb hbox hb; have GE := yA (by rw [hg]; exact HB.out.size : w.heap.size ≤ gb); replace HB := yA (yB HB.out hb); have BK := yA hbox; have hc0 := yR hbox 0; have hc1 := yR hbox 1; have hc2 := yR hbox 2; have hc7 := yR hbox 7; clear hg hb hbox))
 have hup := HB.out
 replace x0 := (hup.cell (World.block_lt_of_cell? w _ x0)).trans x0
 replace x0' := (hup.cell (World.block_lt_of_cell? w _ x0')).trans x0'
 replace x1 := (hup.cell (World.block_lt_of_cell? w _ x1)).trans x1
 replace x1' := (hup.cell (World.block_lt_of_cell? w _ x1')).trans x1'
 replace x2 := (hup.cell (World.block_lt_of_cell? w _ x2)).trans x2
 replace x2' := (hup.cell (World.block_lt_of_cell? w _ x2')).trans x2'
 replace x7 := (hup.cell (World.block_lt_of_cell? w _ x7)).trans x7
 replace x7' := (hup.cell (World.block_lt_of_cell? w _ x7')).trans x7'
 clear hup
 go_wp2
 go_loopg [7] n7 (fun kq v7 w' => ∃ (i : Nat), v7 = .int .i64 (i : Int) ∧ i + kq = n7 ∧ Aside0 (w'.heap[gb]? = some (.cells #[.slice (some ad0) n0 c0, .slice (some ad1) n1 c1, .slice (some ad2) n2 c2, .int .i64 a3, .int .i64 a4, .int .i64 a5, .int .i64 a6, .slice (some ad7) n7 c7] 26 (0, 0))) ∧ Aside0 (Below w.heap.size w w'))
 case atStart => exact ⟨0, rfl, by omega, ⟨by (with_reducible repeat (first | refine yG ?_ _ | refine yH ?_ | refine yI ?_ _)); exact BK.out⟩, ⟨by repeat (first | (with_reducible first | exact HB.out | apply yE | apply yF | apply yD) | exact HB.out)⟩⟩
 case round =>
  clear hc0 hc1 hc2 hc7 x0 x0' x1 x1' x2 x2' x7 x7' hk0 hk1 hk2 hk7 BK HB
  obtain ⟨i, rfl, hik, BK, HB⟩ := hrel
  have hc7 := yR BK.out 7
  cases gk with
  | zero =>
   have hd : decide ((i : Int) < (n7 : Int)) = false := yM (by omega)
   have hd1 : ((i : Int) < (n7 : Int)) = False := eq_false (by omega)
   have hd2 : (i < n7) = False := eq_false (by omega)
   clear hik
   go_wp2
   repeat (go_quiet (fail); try go_wp2)
   go_ret
   exact ⟨rfl, by repeat (first | (with_reducible first | exact HB.out | apply yE | apply yF | apply yD) | exact HB.out)⟩
  | succ g =>
   have hd : decide ((i : Int) < (n7 : Int)) = true := yL (by omega)
   obtain ⟨cd, A, c, e1, _, hx, hl, hC⟩ := at_kx H7.out (i : Int) (by omega) (by have := E7.out; omega)
   obtain ⟨n, hn, hn1, hn2⟩ := HD.out i (by omega)
   cases e1
   obtain ⟨r, hr⟩ : ∃ r, (rd_T39 f7 (i : Int)).f1 = r := ⟨_, rfl⟩
   rw [hr] at hx hl hC hn hn1 hn2
   clear hr
   obtain ⟨m, hm⟩ : ∃ m, n + 2 = m := ⟨_, rfl⟩
   obtain ⟨p, hp⟩ : ∃ p, n + 1 = p := ⟨_, rfl⟩
   have hbm : r.length ≤ 9223372036854775807 := hC.2.1
   rw [hp] at hn2
   rw [hn] at hx hl hC hbm
   rw [show n + 2 - 2 = n by omega, Int.toNat_natCast] at hx
   rw [hm] at hl hC hbm
   obtain ⟨dd, e3, ha0, -⟩ := at_T28 hC (p : Int) (by omega) (by omega)
   obtain ⟨dd', e4, hb0, -⟩ := at_T28 hC (n : Int) (by omega) (by omega)
   subst e3
   cases e4
   rw [hn2, Int.toNat_natCast] at ha0
   rw [hn1, Int.toNat_natCast] at hb0
   have hup := HB.out
   replace hx := (hup.cell (World.block_lt_of_cell? w _ hx)).trans hx
   replace ha0 := (hup.cell (World.block_lt_of_cell? w _ ha0)).trans ha0
   replace hb0 := (hup.cell (World.block_lt_of_cell? w _ hb0)).trans hb0
   obtain ⟨i28, hi28, _⟩ := info_parts info28
   have hk := cutL 37 28 Tryd.underlying37 hi28 (some dd) n m c hl
   have hw : wrap64 ((n : Int) + 2) = (m : Int) := wl n 2 m hm hbm
   have hv := wl1 m p (by omega) hbm
   have hz := wl2 m n hm hbm
   have hil : i < n7 := by omega
   have q0 : ((i : Int) < (n7 : Int)) = True := eq_true (by omega)
   have q1 : (i < n7) = True := eq_true (by omega)
   have q2 : ((p : Int) < (m : Int)) = True := eq_true (by omega)
   have q3 : (p < m) = True := eq_true (by omega)
   have q4 : ((n : Int) < (m : Int)) = True := eq_true (by omega)
   have q5 : (n < m) = True := eq_true (by omega)
   have HIK := yA hik
   have HI := yA hil
   clear hC hup hn hn1 hn2 hp hm hl hi28 hik hil hbm
   go_wp2
   try go_quiet (fail)
   try go_wp2
   go_roundg g
   case measure => have := HIK.out; omega
   case rel => exact ⟨i + 1, by rw [show wrap64 ((i : Int) + 1) = ((i + 1 : Nat) : Int) from wl i 1 (i + 1) rfl (by have := E7.out; have := B7.out; have := HI.out; omega)], by have := HIK.out; omega, ⟨by (with_reducible repeat (first | refine yG ?_ _ | refine yH ?_ | refine yI ?_ _)); exact BK.out⟩, ⟨by repeat (first | (with_reducible first | exact HB.out | apply yE | apply yF | apply yD) | exact HB.out)⟩⟩
end Go.Proofs.YtjhbiennmambkaaDoor.PAsm
