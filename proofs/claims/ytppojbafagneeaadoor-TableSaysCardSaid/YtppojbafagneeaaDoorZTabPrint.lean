/- Own text, for this claim: table.Print, walked by hand over the library's Builder. -/
import Derived.Test.YtppojbafagneeaaDoorZTabText
import Derived.Test.YtppojbafagneeaaDoorZQTabv
import Derived.Test.YtppojbafagneeaaDoorZTabIntact
import Derived.Deep.DeepMust
import Derived.Deep.LoopGhost
import Derived.Outline
namespace Go.Proofs.YtppojbafagneeaaDoor.PTab
open Go.RowKit Go.Proofs.YtppojbafagneeaaDoor.Pure Go.Proofs.YtppojbafagneeaaDoorW.PrintWords Go.Proofs.YtppojbafagneeaaDoorW.PrintLast Go.Proofs.YtppojbafagneeaaDoorW.PrintMore
set_option linter.unusedVariables false
set_option linter.unusedSimpArgs false
attribute [local go_sem high] eqA52
def namesL : List ByteArray → List UInt8
 | [] => []
 | n :: t => (32 :: n.data.toList) ++ namesL t
def wordB (c : S52) : ByteArray := if c.f0 = true then dec c.f1 else ⟨#[45]⟩
def cellsL : List S52 → List UInt8
 | [] => []
 | c :: t => (32 :: (wordB c).data.toList) ++ cellsL t
def rowsL : List (List S52) → Nat → List UInt8
 | [], _ => []
 | r :: t, d => (dec (d : Int)).data.toList ++ (cellsL r ++ (10 :: rowsL t (d + 1)))
def prt (l0 : List ByteArray) (l1 : List (List S52)) : List UInt8 := [100, 97, 121] ++ (namesL l0 ++ (10 :: rowsL l1 0))
structure PrintIs (k : Nat) (l0 : List ByteArray) (l1 : List (List S52)) (s : ByteArray) (e : Int) : Prop where
 v : ∃ v, table_Valid.f k l0 l1 = some v ∧ (v ≠ 0 → s = ⟨#[]⟩ ∧ e = v) ∧ (v = 0 → (prt l0 l1).length ≤ 100000000 ∧ l1.length ≤ 4096 ∧ (∀ r ∈ l1, ∀ c ∈ r, -9223372036854775808 ≤ c.f1 ∧ c.f1 ≤ 9223372036854775807) ∧
  ((prt l0 l1).length > 1048576 → s = ⟨#[]⟩ ∧ e = 6) ∧ (¬ (prt l0 l1).length > 1048576 → s = ⟨(prt l0 l1).toArray⟩ ∧ e = 0))
theorem below_low {B B' : Nat} {w W : World} (h : Below B w W) (hB : B' ≤ B) : Below B' w W := by
 obtain ⟨a, b, c, d, e⟩ := h
 exact ⟨a, b, c, d, fun i hi => e i (by omega)⟩
theorem names_step (l : List ByteArray) (i : Nat) (h : i < l.length) : namesL (l.drop i) = (32 :: (l.getD i ByteArray.empty).data.toList) ++ namesL (l.drop (i + 1)) := by
 rw [List.drop_eq_getElem_cons h, namesL, List.getD_eq_getElem?_getD, List.getElem?_eq_getElem h]; rfl
theorem rows_step (l : List (List S52)) (d : Nat) (h : d < l.length) : rowsL (l.drop d) d = (dec (d : Int)).data.toList ++ (cellsL (rd_L4 l (d : Int)) ++ (10 :: rowsL (l.drop (d + 1)) (d + 1))) := by
 unfold rd_L4
 rw [List.drop_eq_getElem_cons h, rowsL, Int.toNat_natCast, List.getD_eq_getElem?_getD, List.getElem?_eq_getElem h]; rfl
theorem cells_step (r : List S52) (j : Nat) (h : j < r.length) : cellsL (r.drop j) = (32 :: (wordB (rd_T52 r (j : Int))).data.toList) ++ cellsL (r.drop (j + 1)) := by
 unfold rd_T52
 rw [List.drop_eq_getElem_cons h, cellsL, Int.toNat_natCast, List.getD_eq_getElem?_getD, List.getElem?_eq_getElem h]; rfl
theorem data_len (n : ByteArray) : n.data.toList.length = n.size := by rw [Array.length_toList]; rfl
theorem Bd.set {b g i : Nat} {l : List UInt8} {w : World} {cs : Array Value} {u : Value} (h : Bd b l w) (hg : w.heap[g]? = some (.cells cs 52 (0, 0))) : Bd b l (w.setCell ⟨g, i, none⟩ u) := by
 have far : ∀ (j : Nat) (o : Obj), w.heap[j]? = some o → j ≠ g → (w.setCell ⟨g, i, none⟩ u).heap[j]? = some o := fun j o ho hne => (Below.heap_setCell w ⟨g, i, none⟩ u j hne).trans ho
 have row : ∀ (v : Value) (n : Nat) (xs : List Value), w.ownsRow b 5 1 v n xs → (w.setCell ⟨g, i, none⟩ u).ownsRow b 5 1 v n xs := by
  rintro v n xs ⟨h1, h2⟩
  refine ⟨h1, h2.imp id ?_⟩
  rintro ⟨g', cap, cur, he, hB, hgg, rest⟩
  exact ⟨g', cap, cur, he, hB, far g' _ hgg (by rintro rfl; rw [hg] at hgg; injection hgg with hgg; injection hgg with _ e _; exact absurd e (by decide)), rest⟩
 have fb : ∀ cs', w.heap[b]? = some (.cells cs' 87 (0, 0)) → (w.setCell ⟨g, i, none⟩ u).heap[b]? = some (.cells cs' 87 (0, 0)) := fun cs' ho => far b _ ho (by rintro rfl; rw [hg] at ho; injection ho with ho; injection ho with _ e _; exact absurd e (by decide))
 rcases h with ⟨h1, v, h2, h3, h4⟩ | ⟨h1, v, h2, h3, h4⟩
 ·exact Or.inl ⟨h1, v, fb _ h2, row _ _ _ h3, h4⟩
 ·exact Or.inr ⟨h1, v, fb _ h2, row _ _ _ h3, h4⟩
theorem sp_data (n : ByteArray) : ((⟨#[32]⟩ : ByteArray) ++ n).data.toList = 32 :: n.data.toList := by
 rw [ByteArray.data_append, Array.toList_append]; rfl
theorem sp_size (n : ByteArray) : ((⟨#[32]⟩ : ByteArray) ++ n).size = 1 + n.size := by
 rw [ByteArray.size_append]; rfl
theorem wnl (b : Nat) (l : List UInt8) (w0 w : World) (h : Bd b l w) (hB : Below b w0 w) (hlen : l.length + 1 ≤ 140737488355328) :
  Calls Tryd.prog 53 #[.pointer (some ⟨b, 0, none⟩), .int .u8 10] w fun e w' => e = .returned .nilIface ∧ Bd b (l ++ [10]) w' ∧ Below b w0 w' := wbyte b l 10 w0 w h hB hlen
set_option maxHeartbeats 8000000 in
set_option maxRecDepth 100000 in
theorem print_any (k : Nat) (A0 : Option Addr) (c0 : Nat) (l0 : List ByteArray) (A1 : Option Addr) (c1 : Nat) (l1 : List (List S52)) (s : ByteArray) (er : Int) (w : World)
  (h0 : Kd.C Kd.string w A0 l0.length l0) (hc0 : l0.length ≤ c0) (h1 : Kd.C (Kd.slice 52 k52) w A1 l1.length l1) (hc1 : l1.length ≤ c1) (hP : PrintIs k l0 l1 s er) (hG : GP w) :
  Calls Tryd.prog 23 #[.agg #[.slice A0 l0.length c0, .slice A1 l1.length c1]] w fun e w' => e = .returned (.tuple #[.string s, .int .i64 er]) ∧ Below w.heap.size w w' := by
 have hu25 := Tryd.underlying25
 have hu52 := Tryd.underlying52
 have hu87 := Tryd.underlying87
 obtain ⟨v, hv, hbad, hok⟩ := hP.v
 have HR0 := yA h0
 have HC0 := yA hc0
 have HR1 := yA h1
 have HC1 := yA hc1
 have HV := yA hv
 have HG := yA hG
 have HB := yA (Below.refl w.heap.size w)
 clear h0 hc0 h1 hc1 hP hv hG
 by_cases hv0 : v = 0
 rotate_left
 ·obtain ⟨rfl, rfl⟩ := hbad hv0
  have b1 : (er == 0) = false := beq_eq_false_iff_ne.mpr hv0
  have b2 : (er != 0) = true := bne_iff_ne.mpr hv0
  clear hbad hok hv0
  go_enter Tryd.func23, Tryd.ntmps23
  go_wp2_with (first | ((with_reducible refine yP (N := 1) rfl ?_); refine yQ ?hg (N := 1) ?hd (cs := #[.slice A0 l0.length c0, .slice A1 l1.length c1]) (t := 25) ?hr ?_; (case hd => rfl); (case hg => rfl); (case hr => first | (go_simp; done) | (go_simp; rfl)); intro gb1 hg w4 hbox hb; have n0_ := yA (yB HB.out hb); clear HB; have HB := n0_; clear n0_; have z0 : w4.cell? ⟨gb1, 0, none⟩ = some (.slice A0 l0.length c0) := (yR hbox 0).trans rfl; have z1 : w4.cell? ⟨gb1, 1, none⟩ = some (.slice A1 l1.length c1) := (yR hbox 1).trans rfl; have f0 := yS hbox 0; have f1 := yS hbox 1; clear hb hbox hg) | ((with_reducible refine yO (f := 20) rfl ?_); refine goesL_ (some 14) rfl rfl Tryd.func20 (by kernel_rfl) rfl #[.agg #[.slice A0 l0.length c0, .slice A1 l1.length c1]] rfl (by (try simp only [List.map_toArray, List.map_cons, List.map_nil]); first | done | rfl) ?_; (with_reducible refine (table_Valid.calls k _ _ l0 _ _ l1 er _ (Kd.C_below HR0.out HB.out) HC0.out (Kd.C_below HR1.out HB.out) HC1.out HV.out).mono ?_); rintro e w6 ⟨rfl, hb⟩; refine ⟨_, rfl, ?_⟩; have n0_ := yA (yB HB.out hb); clear HB; have HB := n0_; clear n0_; clear hb))
  go_ret2
  exact ⟨rfl, HB.out⟩
 obtain ⟨hlen, hrows, hcells, hbig, hsmall⟩ := hok hv0
 subst hv0
 clear hbad hok
 have HLEN := yA hlen
 have HROWS := yA hrows
 have HCELLS := yA hcells
 have HBIG := yA hbig
 have HSMALL := yA hsmall
 clear hlen hrows hcells hbig hsmall
 go_enter Tryd.func23, Tryd.ntmps23
 go_wp2_with (first | ((with_reducible refine yP (N := 1) rfl ?_); refine yQ ?hg (N := 1) ?hd (cs := #[.slice A0 l0.length c0, .slice A1 l1.length c1]) (t := 25) ?hr ?_; (case hd => rfl); (case hg => rfl); (case hr => first | (go_simp; done) | (go_simp; rfl)); intro gb1 hg w4 hbox hb; have n0_ := yA (yB HB.out hb); have BK1 := yA hbox; clear HB; have HB := n0_; clear n0_; have z0 : w4.cell? ⟨gb1, 0, none⟩ = some (.slice A0 l0.length c0) := (yR hbox 0).trans rfl; have z1 : w4.cell? ⟨gb1, 1, none⟩ = some (.slice A1 l1.length c1) := (yR hbox 1).trans rfl; have f0 := yS hbox 0; have f1 := yS hbox 1; clear hb hbox hg) | ((with_reducible refine yO (f := 20) rfl ?_); refine goesL_ (some 14) rfl rfl Tryd.func20 (by kernel_rfl) rfl #[.agg #[.slice A0 l0.length c0, .slice A1 l1.length c1]] rfl (by (try simp only [List.map_toArray, List.map_cons, List.map_nil]); first | done | rfl) ?_; (with_reducible refine (table_Valid.calls k _ _ l0 _ _ l1 0 _ (Kd.C_below HR0.out HB.out) HC0.out (Kd.C_below HR1.out HB.out) HC1.out HV.out).mono ?_); rintro e w6 ⟨rfl, hb⟩; refine ⟨_, rfl, ?_⟩; have n0_ := yA (yB HB.out hb); have n1_ := yA (yC BK1.out hb); clear HB BK1; have HB := n0_; have BK1 := n1_; clear n0_ n1_; clear hb) | ((with_reducible refine yP (N := 5) rfl ?_); refine yQ ?hg (N := 5) ?hd (cs := #[.pointer none, .slice none 0 0]) (t := 87) ?hr ?_; (case hd => rfl); (case hg => rfl); (case hr => first | (go_simp; done) | (go_simp; rfl)); intro b hg w5 hbox hb; have n0_ := yA (yB HB.out hb); have n1_ := yA (yC BK1.out hb); have GB1 := yA (show gb1 < b by rw [hg]; exact blk_lt BK1.out); have GBW := yA (show w.heap.size ≤ b by rw [hg]; exact HB.out.size); have HBD : Aside0 (Bd b [] w5) := ⟨Or.inl ⟨Nat.le_refl _, .slice none 0 0, hbox, ⟨rfl, Or.inl ⟨rfl, rfl⟩⟩, by simp [Value.ownBlock]⟩⟩; have HBb := yA (Below.refl b w5); clear HB BK1; have HB := n0_; have BK1 := n1_; clear n0_ n1_; clear hb hbox hg) | ((with_reducible refine yP (N := 18) rfl ?_); refine goesL_ (some 18) rfl rfl Tryd.func52 (by kernel_rfl) rfl #[.pointer (some ⟨b, 0, none⟩), .string ⟨#[100, 97, 121]⟩] rfl (by (try simp only [List.map_toArray, List.map_cons, List.map_nil]); first | done | rfl) ?_; (with_reducible refine (wstr b [] ⟨#[100, 97, 121]⟩ w5 _ HBD.out HBb.out (by decide)).mono ?_); rintro e w7 ⟨rfl, h1_, h2_⟩; refine ⟨_, rfl, ?_⟩; clear HBD HBb; have HBD := yA h1_; have HBb := yA h2_; clear h1_ h2_; have z2 : w7.cell? ⟨gb1, 0, none⟩ = some (.slice A0 l0.length c0) := (yR ((HBb.out.block gb1 GB1.out).trans BK1.out) 0).trans rfl; have f2 := yS ((HBb.out.block gb1 GB1.out).trans BK1.out) 0))
 clear z0 z1 f0 f1 z2 f2
 go_loopg [22] l0.length (fun kq v22 wr => ∃ (i : Nat) (L : List UInt8), v22 = .int .i64 (i : Int) ∧ Aside0 (i + kq = l0.length) ∧ Aside0 (L ++ (namesL (l0.drop i) ++ (10 :: rowsL l1 0)) = prt l0 l1) ∧ Aside0 (Bd b L wr) ∧ Aside0 (Below b w5 wr))
 case atStart => exact ⟨0, [100, 97, 121], rfl, ⟨by omega⟩, ⟨rfl⟩, ⟨HBD.out⟩, HBb⟩
 case round =>
  clear HBD HBb
  obtain ⟨i, L, rfl, HI, HL, HBD, HBb⟩ := hrel
  cases gk with
  | succ g =>
   have hi : i < l0.length := by have := HI.out; omega
   have hd : decide ((i : Int) < (l0.length : Int)) = true := yL (by omega)
   have hd2 : decide (i < l0.length) = true := yL hi
   have q1 : ((i : Int) < (l0.length : Int)) = True := eq_true (by omega)
   have HS := yA (names_step l0 i hi)
   obtain ⟨ad, e1, hx⟩ := at_str HR0.out i hi
   cases e1
   have hx := ((HB.out.trans (below_low HBb.out GBW.out)).cell (World.block_lt_of_cell? w _ hx)).trans hx
   generalize l0.getD i ByteArray.empty = nm at HS hx
   have HN : Aside0 (L.length + (1 + nm.size) ≤ 100000000) := ⟨by
    have h1 := HL.out
    rw [HS.out] at h1
    have h2 := congrArg List.length h1
    have h3 := HLEN.out
    have h4 := data_len nm
    simp only [List.length_append, List.length_cons] at h2
    omega⟩
   have q2 : (9223372036854775807 < 1 + nm.size) = False := eq_false (by have := HN.out; omega)
   have q3 : (9223372036854775807 < nm.size + 1) = False := eq_false (by have := HN.out; omega)
   clear hi
   go_wp2_with (first | ((with_reducible refine yP (N := 28) rfl ?_); refine goesL_ (some 28) rfl rfl Tryd.func52 (by kernel_rfl) rfl #[.pointer (some ⟨b, 0, none⟩), .string ((⟨#[32]⟩ : ByteArray) ++ nm)] rfl (by (try simp only [List.map_toArray, List.map_cons, List.map_nil]); first | done | rfl) ?_; (with_reducible refine (wstr b (L) ((⟨#[32]⟩ : ByteArray) ++ nm) w5 _ HBD.out HBb.out (by rw [sp_size]; have := HN.out; omega)).mono ?_); rintro e w8_ ⟨rfl, h1_, h2_⟩; refine ⟨_, rfl, ?_⟩; clear HBD HBb; have HBD := yA h1_; have HBb := yA h2_; clear h1_ h2_))
   go_roundg g
   case measure => omega
   case rel => exact ⟨i + 1, L ++ (32 :: nm.data.toList), by rw [w64c i (by have := HI.out; have h := HR0.out.2.1; omega)], ⟨by have := HI.out; omega⟩, ⟨by rw [← HL.out, HS.out]; simp⟩, ⟨by have h := HBD.out; rw [sp_data] at h; exact h⟩, HBb⟩
  | zero =>
   have hi : i = l0.length := by have := HI.out; omega
   subst hi
   have hd : decide ((l0.length : Int) < (l0.length : Int)) = false := yM (by omega)
   have hd2 : decide (l0.length < l0.length) = false := yM (by omega)
   have HL2 : Aside0 (L ++ (10 :: rowsL l1 0) = prt l0 l1) := ⟨by have := HL.out; rw [List.drop_length] at this; exact this⟩
   have HN : Aside0 (L.length + 1 ≤ 100000000) := ⟨by
    have h2 := congrArg List.length HL2.out
    have h3 := HLEN.out
    simp only [List.length_append, List.length_cons] at h2
    omega⟩
   go_wp2_with (first | ((with_reducible refine yP (N := 30) rfl ?_); refine goesL_ (some 30) rfl rfl Tryd.func53 (by kernel_rfl) rfl #[.pointer (some ⟨b, 0, none⟩), .int .u8 10] rfl (by (try simp only [List.map_toArray, List.map_cons, List.map_nil]); first | done | rfl) ?_; (with_reducible refine (wnl b (L) w5 _ HBD.out HBb.out (by have := HN.out; omega)).mono ?_); rintro e w8_ ⟨rfl, h1_, h2_⟩; refine ⟨_, rfl, ?_⟩; clear HBD HBb; have HBD := yA h1_; have HBb := yA h2_; clear h1_ h2_; have z9 : w8_.cell? ⟨gb1, 1, none⟩ = some (.slice A1 l1.length c1) := (yR ((HBb.out.block gb1 GB1.out).trans BK1.out) 1).trans rfl; have f9 := yS ((HBb.out.block gb1 GB1.out).trans BK1.out) 1))
   go_loopg [34] l1.length (fun kq v34 wr => ∃ (d : Nat) (L : List UInt8), v34 = .int .i64 (d : Int) ∧ Aside0 (d + kq = l1.length) ∧ Aside0 (L ++ rowsL (l1.drop d) d = prt l0 l1) ∧ Aside0 (Bd b L wr) ∧ Aside0 (Below b w5 wr))
   case atStart => exact ⟨0, L ++ [10], rfl, ⟨by omega⟩, ⟨by rw [← HL2.out]; simp⟩, HBD, HBb⟩
   case round =>
    clear HBD HBb HL HL2 HN HI
    clear L
    obtain ⟨d, L, rfl, HI, HL, HBD, HBb⟩ := hrel
    cases gk with
    | zero =>
     have hi : d = l1.length := by have := HI.out; omega
     subst hi
     have hL : L = prt l0 l1 := by have := HL.out; rw [List.drop_length] at this; rw [← this]; simp [rowsL]
     have hd : decide ((l1.length : Int) < (l1.length : Int)) = false := yM (by omega)
     have hd2 : decide (l1.length < l1.length) = false := yM (by omega)
     by_cases hb : (prt l0 l1).length > 1048576
     ·obtain ⟨rfl, rfl⟩ := HBIG.out hb
      rw [← hL] at hb
      have b1 : decide ((1048576 : Int) < (L.length : Int)) = true := yL (by omega)
      have b2 : decide (1048576 < L.length) = true := yL (by omega)
      have b3 : (1048576 < L.length) = True := eq_true hb
      clear hL hb
      go_wp2_with (first | ((with_reducible refine yP (N := 64) rfl ?_); refine goesL_ (some 64) rfl rfl Tryd.func55 (by kernel_rfl) rfl #[.pointer (some ⟨b, 0, none⟩)] rfl (by (try simp only [List.map_toArray, List.map_cons, List.map_nil]); first | done | rfl) ?_; (with_reducible refine (blen b (L) w5 _ HBD.out HBb.out).mono ?_); rintro e w9_ ⟨rfl, h1_, h2_⟩; refine ⟨_, rfl, ?_⟩; clear HBD HBb; have HBD := yA h1_; have HBb := yA h2_; clear h1_ h2_))
      go_ret2
      exact ⟨rfl, HB.out.trans (below_low HBb.out GBW.out)⟩
     ·obtain ⟨rfl, rfl⟩ := HSMALL.out hb
      rw [← hL] at hb
      have HLp := yA hL
      have b1 : decide ((1048576 : Int) < (L.length : Int)) = false := yM (by omega)
      have b2 : decide (1048576 < L.length) = false := yM (by omega)
      have b3 : (1048576 < L.length) = False := eq_false hb
      clear hL hb
      go_wp2_with (first | ((with_reducible refine yP (N := 64) rfl ?_); refine goesL_ (some 64) rfl rfl Tryd.func55 (by kernel_rfl) rfl #[.pointer (some ⟨b, 0, none⟩)] rfl (by (try simp only [List.map_toArray, List.map_cons, List.map_nil]); first | done | rfl) ?_; (with_reducible refine (blen b (L) w5 _ HBD.out HBb.out).mono ?_); rintro e w9_ ⟨rfl, h1_, h2_⟩; refine ⟨_, rfl, ?_⟩; clear HBD HBb; have HBD := yA h1_; have HBb := yA h2_; clear h1_ h2_) | ((with_reducible refine yP (N := 66) rfl ?_); refine goesL_ (some 66) rfl rfl Tryd.func56 (by kernel_rfl) rfl #[.pointer (some ⟨b, 0, none⟩)] rfl (by (try simp only [List.map_toArray, List.map_cons, List.map_nil]); first | done | rfl) ?_; (with_reducible refine (bstr b L w5 _ HBD.out HBb.out).mono ?_); rintro e w10_ ⟨rfl, h2_⟩; refine ⟨_, rfl, ?_⟩; clear HBD HBb; have HBb := yA h2_; clear h2_))
      go_ret2
      exact ⟨by rw [← HLp.out]; rfl, HB.out.trans (below_low HBb.out GBW.out)⟩
    | succ g =>
     have hi : d < l1.length := by have := HI.out; omega
     have DB : Aside0 (d ≤ 4096) := ⟨by have := HROWS.out; omega⟩
     have hd : decide ((d : Int) < (l1.length : Int)) = true := yL (by omega)
     have hd2 : decide (d < l1.length) = true := yL hi
     have q1 : ((d : Int) < (l1.length : Int)) = True := eq_true (by omega)
     have q2 : (0 ≤ (d : Int)) = True := eq_true (by omega)
     have HS := yA (rows_step l1 d hi)
     have HM : Aside0 (rd_L4 l1 (d : Int) ∈ l1) := ⟨by unfold rd_L4; rw [Int.toNat_natCast, List.getD_eq_getElem?_getD, List.getElem?_eq_getElem hi]; exact List.getElem_mem hi⟩
     obtain ⟨ad, A2, c2, e1, hx, hl2, hr2⟩ := at_L4 HR1.out (d : Int) (by omega) (by omega)
     cases e1
     have hx := ((HB.out.trans (below_low HBb.out GBW.out)).cell (World.block_lt_of_cell? w _ hx)).trans hx
     rw [Int.toNat_natCast] at hx
     have HR2 := yA hr2
     clear hr2 hl2 hi
     have HN : Aside0 (L.length + (dec (d : Int)).size ≤ 100000000) := ⟨by
      have h1 := HL.out
      rw [HS.out] at h1
      have h2 := congrArg List.length h1
      have h3 := HLEN.out
      have h4 := data_len (dec (d : Int))
      simp only [List.length_append, List.length_cons] at h2
      omega⟩
     go_wp2_with (first | ((with_reducible refine yO (f := 54) rfl ?_); refine goesL_ (some 40) rfl rfl Tryd.func54 (by kernel_rfl) rfl #[.int .i64 (d : Int)] rfl (by (try simp only [List.map_toArray, List.map_cons, List.map_nil]); first | done | rfl) ?_; (with_reducible refine (itoa_any (d : Int) (by omega) (by have := DB.out; omega) _ (GP.below HG.out (HB.out.trans (below_low HBb.out GBW.out)))).mono ?_); rintro e w9_ ⟨rfl, hb⟩; refine ⟨_, rfl, ?_⟩; have n0_ := yA (Bd.below HBD.out hb); have n1_ := yA (below_from HBb.out (Nat.le_of_lt HBD.out.lt) hb); clear HBD HBb; have HBD := n0_; have HBb := n1_; clear n0_ n1_ hb) | ((with_reducible refine yP (N := 41) rfl ?_); refine goesL_ (some 41) rfl rfl Tryd.func52 (by kernel_rfl) rfl #[.pointer (some ⟨b, 0, none⟩), .string (dec (d : Int))] rfl (by (try simp only [List.map_toArray, List.map_cons, List.map_nil]); first | done | rfl) ?_; (with_reducible refine (wstr b (L) (dec (d : Int)) w5 _ (HBD.out) (HBb.out) (by have := HN.out; omega)).mono ?_); rintro e w8_ ⟨rfl, h1_, h2_⟩; refine ⟨_, rfl, ?_⟩; clear HBD HBb; have HBD := yA h1_; have HBb := yA h2_; clear h1_ h2_))
     go_loopg [44] (rd_L4 l1 (d : Int)).length (fun kq v44 wr => ∃ (j : Nat) (L2 : List UInt8), v44 = .int .i64 (j : Int) ∧ Aside0 (j + kq = (rd_L4 l1 (d : Int)).length) ∧ Aside0 (L2 ++ (cellsL ((rd_L4 l1 (d : Int)).drop j) ++ (10 :: rowsL (l1.drop (d + 1)) (d + 1))) = prt l0 l1) ∧ Aside0 (Bd b L2 wr) ∧ Aside0 (Below b w5 wr))
     case atStart => exact ⟨0, L ++ (dec (d : Int)).data.toList, rfl, ⟨by omega⟩, ⟨by rw [← HL.out, HS.out]; simp⟩, HBD, HBb⟩
     case round =>
      clear HBD HBb HL HN
      obtain ⟨j, L2, rfl, HJ, HL2, HBD, HBb⟩ := hrel
      cases gk with
      | zero =>
       have hj : j = (rd_L4 l1 (d : Int)).length := by have := HJ.out; omega
       have h1 := HL2.out
       rw [hj, List.drop_length] at h1
       have h1 : L2 ++ (10 :: rowsL (l1.drop (d + 1)) (d + 1)) = prt l0 l1 := h1
       obtain ⟨L3, hL3⟩ : ∃ L3, L3 = L2 ++ [10] := ⟨_, rfl⟩
       have h2 : L3 ++ rowsL (l1.drop (d + 1)) (d + 1) = prt l0 l1 := by rw [hL3, ← h1]; simp
       have h3 := congrArg List.length h2
       rw [List.length_append] at h3
       have HN : Aside0 (L2.length + 1 ≤ 100000000) := ⟨by have h4 := HLEN.out; have h5 := congrArg List.length hL3; rw [List.length_append] at h5; simp only [List.length_cons, List.length_nil] at h5; omega⟩
       have HL3 := yA hL3
       have HL4 := yA h2
       have hd : decide ((j : Int) < ((rd_L4 l1 (d : Int)).length : Int)) = false := yM (by omega)
       have hd2 : decide (j < (rd_L4 l1 (d : Int)).length) = false := yM (by omega)
       clear hj h1 h2 hL3
       by_cases hb : L3.length > 1048576
       ·obtain ⟨rfl, rfl⟩ := HBIG.out (by omega)
        have b1 : decide ((1048576 : Int) < (L3.length : Int)) = true := yL (by omega)
        have b2 : decide (1048576 < L3.length) = true := yL (by omega)
        have b3 : (1048576 < L3.length) = True := eq_true hb
        clear h3 hb
        go_wp2_with (first | ((with_reducible refine yP (N := 60) rfl ?_); refine goesL_ (some 60) rfl rfl Tryd.func53 (by kernel_rfl) rfl #[.pointer (some ⟨b, 0, none⟩), .int .u8 10] rfl (by (try simp only [List.map_toArray, List.map_cons, List.map_nil]); first | done | rfl) ?_; (with_reducible refine (wnl b L2 w5 _ HBD.out HBb.out (by have := HN.out; omega)).mono ?_); rintro e w8_ ⟨rfl, h1_, h2_⟩; refine ⟨_, rfl, ?_⟩; clear HBD HBb; have HBD : Aside0 (Bd b L3 w8_) := ⟨by rw [HL3.out]; exact h1_⟩; have HBb := yA h2_; clear h1_ h2_) | ((with_reducible refine yP (N := 61) rfl ?_); refine goesL_ (some 61) rfl rfl Tryd.func55 (by kernel_rfl) rfl #[.pointer (some ⟨b, 0, none⟩)] rfl (by (try simp only [List.map_toArray, List.map_cons, List.map_nil]); first | done | rfl) ?_; (with_reducible refine (blen b (L3) w5 _ HBD.out HBb.out).mono ?_); rintro e w9_ ⟨rfl, h1_, h2_⟩; refine ⟨_, rfl, ?_⟩; clear HBD HBb; have HBD := yA h1_; have HBb := yA h2_; clear h1_ h2_))
        go_ret2
        exact ⟨rfl, HB.out.trans (below_low HBb.out GBW.out)⟩
       ·have b1 : decide ((1048576 : Int) < (L3.length : Int)) = false := yM (by omega)
        have b2 : decide (1048576 < L3.length) = false := yM (by omega)
        have b3 : (1048576 < L3.length) = False := eq_false hb
        clear h3 hb
        go_wp2_with (first | ((with_reducible refine yP (N := 60) rfl ?_); refine goesL_ (some 60) rfl rfl Tryd.func53 (by kernel_rfl) rfl #[.pointer (some ⟨b, 0, none⟩), .int .u8 10] rfl (by (try simp only [List.map_toArray, List.map_cons, List.map_nil]); first | done | rfl) ?_; (with_reducible refine (wnl b L2 w5 _ HBD.out HBb.out (by have := HN.out; omega)).mono ?_); rintro e w8_ ⟨rfl, h1_, h2_⟩; refine ⟨_, rfl, ?_⟩; clear HBD HBb; have HBD : Aside0 (Bd b L3 w8_) := ⟨by rw [HL3.out]; exact h1_⟩; have HBb := yA h2_; clear h1_ h2_) | ((with_reducible refine yP (N := 61) rfl ?_); refine goesL_ (some 61) rfl rfl Tryd.func55 (by kernel_rfl) rfl #[.pointer (some ⟨b, 0, none⟩)] rfl (by (try simp only [List.map_toArray, List.map_cons, List.map_nil]); first | done | rfl) ?_; (with_reducible refine (blen b (L3) w5 _ HBD.out HBb.out).mono ?_); rintro e w9_ ⟨rfl, h1_, h2_⟩; refine ⟨_, rfl, ?_⟩; clear HBD HBb; have HBD := yA h1_; have HBb := yA h2_; clear h1_ h2_))
        go_roundg g
        case measure => omega
        case rel => exact ⟨d + 1, L3, by rw [w64c d (by have := DB.out; omega)], ⟨by have := HI.out; omega⟩, HL4, HBD, HBb⟩
      | succ g2 =>
       have hj : j < (rd_L4 l1 (d : Int)).length := by have := HJ.out; omega
       have hd : decide ((j : Int) < ((rd_L4 l1 (d : Int)).length : Int)) = true := yL (by omega)
       have hd2 : decide (j < (rd_L4 l1 (d : Int)).length) = true := yL hj
       have q1 : ((j : Int) < ((rd_L4 l1 (d : Int)).length : Int)) = True := eq_true (by omega)
       have q2 : (0 ≤ (j : Int)) = True := eq_true (by omega)
       have HS2 := yA (cells_step (rd_L4 l1 (d : Int)) j hj)
       have VB := yA (HCELLS.out _ HM.out (rd_T52 (rd_L4 l1 (d : Int)) (j : Int)) (by unfold rd_T52; rw [Int.toNat_natCast, List.getD_eq_getElem?_getD, List.getElem?_eq_getElem hj]; exact List.getElem_mem hj))
       obtain ⟨ad2, e2, hy0, hy1⟩ := at_T52 HR2.out (j : Int) (by omega) (by omega)
       cases e2
       have hy0 := ((HB.out.trans (below_low HBb.out GBW.out)).cell (World.block_lt_of_cell? w _ hy0)).trans hy0
       have hy1 := ((HB.out.trans (below_low HBb.out GBW.out)).cell (World.block_lt_of_cell? w _ hy1)).trans hy1
       rw [Int.toNat_natCast] at hy0 hy1
       clear hj
       have HN : Aside0 (L2.length + (1 + (wordB (rd_T52 (rd_L4 l1 (d : Int)) (j : Int))).size) ≤ 100000000) := ⟨by
        have h1 := HL2.out
        rw [HS2.out] at h1
        have h2 := congrArg List.length h1
        have h3 := HLEN.out
        have h4 := data_len (wordB (rd_T52 (rd_L4 l1 (d : Int)) (j : Int)))
        simp only [List.length_append, List.length_cons] at h2
        omega⟩
       have HL5 : Aside0 ((L2 ++ (32 :: (wordB (rd_T52 (rd_L4 l1 (d : Int)) (j : Int))).data.toList)) ++ (cellsL ((rd_L4 l1 (d : Int)).drop (j + 1)) ++ (10 :: rowsL (l1.drop (d + 1)) (d + 1))) = prt l0 l1) := ⟨by rw [← HL2.out, HS2.out]; simp⟩
       obtain ⟨fv, hfv⟩ : ∃ fv, (rd_T52 (rd_L4 l1 (d : Int)) (j : Int)).f0 = fv := ⟨_, rfl⟩
       rw [hfv] at hy0
       cases fv with
       | true =>
        have HW : Aside0 (wordB (rd_T52 (rd_L4 l1 (d : Int)) (j : Int)) = dec (rd_T52 (rd_L4 l1 (d : Int)) (j : Int)).f1) := ⟨by unfold wordB; rw [if_pos hfv]⟩
        have q3 : (9223372036854775807 < 1 + (dec (rd_T52 (rd_L4 l1 (d : Int)) (j : Int)).f1).size) = False := eq_false (by have := HN.out; rw [HW.out] at this; omega)
        have q4 : (9223372036854775807 < (dec (rd_T52 (rd_L4 l1 (d : Int)) (j : Int)).f1).size + 1) = False := eq_false (by have := HN.out; rw [HW.out] at this; omega)
        clear hfv
        go_wp2_with (first | ((with_reducible refine yP (N := 11) rfl ?_); refine yQ ?hg (N := 11) ?hd (cs := #[.bool false, .int .i64 0]) (t := 52) ?hr ?_; (case hd => rfl); (case hg => rfl); (case hr => first | (go_simp; done) | (go_simp; rfl)); intro g11 hg w11_ hbox hb; have n0_ := yA (Bd.below HBD.out hb); have n1_ := yA (below_from HBb.out (Nat.le_of_lt HBD.out.lt) hb); have G11 := yA (show b ≤ g11 by rw [hg]; exact Nat.le_of_lt HBD.out.lt); clear HBD HBb; have HBD := n0_; have HBb := n1_; clear n0_ n1_; have BK11 := yA hbox; have y0 := (hb.cell (World.block_lt_of_cell? _ _ hy0)).trans hy0; have y1 := (hb.cell (World.block_lt_of_cell? _ _ hy1)).trans hy1; have t0 : w11_.cell? ⟨g11, 0, none⟩ = some (.bool false) := (yR hbox 0).trans rfl; have t1 : w11_.cell? ⟨g11, 1, none⟩ = some (.int .i64 0) := (yR hbox 1).trans rfl; have u0 := yS hbox 0; have u1 := yS hbox 1; clear hb hbox hg) | ((with_reducible refine yO (f := 34) rfl ?_); refine goesL_ (some 53) rfl rfl Tryd.func34 (by kernel_rfl) rfl #[.int .i64 (rd_T52 (rd_L4 l1 (d : Int)) (j : Int)).f1, .int .i64 0] rfl (by (try simp only [List.map_toArray, List.map_cons, List.map_nil]); first | done | rfl) ?_; (with_reducible refine (text0_any _ VB.out.1 VB.out.2 _ (GP.below HG.out (HB.out.trans (below_low ((HBb.out.setCell G11.out _).setCell G11.out _) GBW.out)))).mono ?_); rintro e w12_ ⟨rfl, hb⟩; refine ⟨_, rfl, ?_⟩; have n0_ := yA (Bd.below (Bd.set (Bd.set HBD.out BK11.out) (blk_set BK11.out 0 _)) hb); have n1_ := yA (below_from ((HBb.out.setCell G11.out _).setCell G11.out _) (Nat.le_of_lt (Bd.lt (Bd.set (Bd.set HBD.out BK11.out) (blk_set BK11.out 0 _)))) hb); clear HBD HBb; have HBD := n0_; have HBb := n1_; clear n0_ n1_ hb) | ((with_reducible refine yP (N := 58) rfl ?_); refine goesL_ (some 58) rfl rfl Tryd.func52 (by kernel_rfl) rfl #[.pointer (some ⟨b, 0, none⟩), .string ((⟨#[32]⟩ : ByteArray) ++ dec (rd_T52 (rd_L4 l1 (d : Int)) (j : Int)).f1)] rfl (by (try simp only [List.map_toArray, List.map_cons, List.map_nil]); first | done | rfl) ?_; (with_reducible refine (wstr b (L2) ((⟨#[32]⟩ : ByteArray) ++ dec (rd_T52 (rd_L4 l1 (d : Int)) (j : Int)).f1) w5 _ (HBD.out) (HBb.out) (by rw [sp_size]; have := HN.out; rw [HW.out] at this; omega)).mono ?_); rintro e w8_ ⟨rfl, h1_, h2_⟩; refine ⟨_, rfl, ?_⟩; clear HBD HBb; have HBD := yA h1_; have HBb := yA h2_; clear h1_ h2_))
        go_roundg g2
        case measure => omega
        case rel => exact ⟨j + 1, L2 ++ (32 :: (wordB (rd_T52 (rd_L4 l1 (d : Int)) (j : Int))).data.toList), by rw [w64c j (by have := HJ.out; have h := HR2.out.2.1; omega)], ⟨by have := HJ.out; omega⟩, HL5, ⟨by have h := HBD.out; rw [sp_data] at h; rw [HW.out]; exact h⟩, HBb⟩
       | false =>
        have HW : Aside0 (wordB (rd_T52 (rd_L4 l1 (d : Int)) (j : Int)) = ⟨#[45]⟩) := ⟨by unfold wordB; rw [if_neg (by rw [hfv]; decide)]⟩
        clear hfv
        go_wp2_with (first | ((with_reducible refine yP (N := 11) rfl ?_); refine yQ ?hg (N := 11) ?hd (cs := #[.bool false, .int .i64 0]) (t := 52) ?hr ?_; (case hd => rfl); (case hg => rfl); (case hr => first | (go_simp; done) | (go_simp; rfl)); intro g11 hg w11_ hbox hb; have n0_ := yA (Bd.below HBD.out hb); have n1_ := yA (below_from HBb.out (Nat.le_of_lt HBD.out.lt) hb); have G11 := yA (show b ≤ g11 by rw [hg]; exact Nat.le_of_lt HBD.out.lt); clear HBD HBb; have HBD := n0_; have HBb := n1_; clear n0_ n1_; have BK11 := yA hbox; have y0 := (hb.cell (World.block_lt_of_cell? _ _ hy0)).trans hy0; have y1 := (hb.cell (World.block_lt_of_cell? _ _ hy1)).trans hy1; have t0 : w11_.cell? ⟨g11, 0, none⟩ = some (.bool false) := (yR hbox 0).trans rfl; have t1 : w11_.cell? ⟨g11, 1, none⟩ = some (.int .i64 0) := (yR hbox 1).trans rfl; have u0 := yS hbox 0; have u1 := yS hbox 1; clear hb hbox hg) | ((with_reducible refine yP (N := 58) rfl ?_); refine goesL_ (some 58) rfl rfl Tryd.func52 (by kernel_rfl) rfl #[.pointer (some ⟨b, 0, none⟩), .string ((⟨#[32]⟩ : ByteArray) ++ ⟨#[45]⟩)] rfl (by (try simp only [List.map_toArray, List.map_cons, List.map_nil]); first | done | rfl) ?_; (with_reducible refine (wstr b (L2) ((⟨#[32]⟩ : ByteArray) ++ ⟨#[45]⟩) w5 _ (Bd.set (Bd.set HBD.out BK11.out) (blk_set BK11.out 0 _)) ((HBb.out.setCell G11.out _).setCell G11.out _) (by rw [sp_size]; have := HN.out; rw [HW.out] at this; omega)).mono ?_); rintro e w8_ ⟨rfl, h1_, h2_⟩; refine ⟨_, rfl, ?_⟩; clear HBD HBb; have HBD := yA h1_; have HBb := yA h2_; clear h1_ h2_))
        go_roundg g2
        case measure => omega
        case rel => exact ⟨j + 1, L2 ++ (32 :: (wordB (rd_T52 (rd_L4 l1 (d : Int)) (j : Int))).data.toList), by rw [w64c j (by have := HJ.out; have h := HR2.out.2.1; omega)], ⟨by have := HJ.out; omega⟩, HL5, ⟨by have h := HBD.out; rw [sp_data] at h; rw [HW.out]; exact h⟩, HBb⟩
end Go.Proofs.YtppojbafagneeaaDoor.PTab
