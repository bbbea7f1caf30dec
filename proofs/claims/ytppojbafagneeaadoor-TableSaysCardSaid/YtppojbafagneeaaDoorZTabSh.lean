/- Own text, for this claim: the library's contracts that Print wants; num.Text at no places: printed by wip/tools/mklays.py. -/
import Derived.Test.YtppojbafagneeaaDoorZQTab1
import Derived.Test.YtppojbafagneeaaDoorZTabKd
import Derived.Test.YtppojbafagneeaaDoorZShPrint
import Derived.Test.YtppojbafagneeaaDoorZW
import Derived.Shelf.Strings.Builder1
import Derived.Lib.LaidTab
import Derived.Lib.ItoaNum
import Derived.LaidMore
import Derived.Stop.Joined
import Derived.Stop.LaidErr
import Derived.Sort.Grow
import Derived.WalkKit
import Derived.WalkMore
namespace Go.Proofs.YtppojbafagneeaaDoor.Pure
open Go.Shelf Go.RowKit Go.ChangeShapes Go.WideShapes Go.ChangeAt Go.Proofs.YtppojbafagneeaaDoorW.PrintWords Go.Proofs.YtppojbafagneeaaDoorW.PrintLast Go.Proofs.YtppojbafagneeaaDoorW.PrintMore
set_option linter.unusedVariables false
set_option linter.unusedSimpArgs false
structure GP (w : World) : Prop where
 pow : Lib.TabIs Tryd.prog w "internal/strconv.uint64pow10" .u64 Lib.pow10Tab
theorem GP.below {w w1 : World} (h : GP w) (hb : Below w.heap.size w w1) : GP w1 := ⟨var_below h.pow hb⟩
theorem gPow : Tryd.prog.globalNamed "internal/strconv.uint64pow10" = some 7 := by kernel_rfl
theorem tPow : (Tryd.prog.globals[7]?).map (·.type) = some 187 := by kernel_rfl
theorem GP.of_head {W : World} {rest : List (String × DataW Unit)} (h2 : laidMet Tryd.prog (("internal/strconv.uint64pow10", Rows.laid_internal_strconv_uint64pow10) :: rest) W) : GP W :=
 ⟨Lib.tabIs_of_head (t := 187) (e := 160) (n := 20) gPow tPow Tryd.underlying187 Tryd.underlying160 (by kernel_rfl) (by kernel_rfl) (rest := _) h2⟩
def lays166_ren : Go.Shelf.Ren := ⟨fun | 166 => 52 | 240 => 82 | 276 => 102 | n => n, fun | 0 => 0 | 3 => 3 | 4 => 4 | 5 => 5 | 9 => 9 | 20 => 20 | 37 => 85 | 70 => 84 | 72 => 87 | 75 => 89 | 80 => 95 | 164 => 149 | n => n, fun | n => n⟩
theorem lays166 : Go.Proofs.Lays.n166 Tryd.prog lays166_ren := {
 mixed := by kernel_rfl
 f166 := Tryd.func52.trans (congrArg some (by kernel_rfl))
 f240 := Tryd.func82.trans (congrArg some (by kernel_rfl))
 f276 := Tryd.func102.trans (congrArg some (by kernel_rfl))
 t0 := Tryd.underlying0
 a0 := Tryd.isAgg0
 z0 := Tryd.sizeOf0
 v0 := Tryd.zeroValue0
 t3 := Tryd.underlying3
 a3 := Tryd.isAgg3
 z3 := Tryd.sizeOf3
 v3 := Tryd.zeroValue3
 t4 := Tryd.underlying4
 a4 := Tryd.isAgg4
 z4 := Tryd.sizeOf4
 v4 := Tryd.zeroValue4
 t9 := Tryd.underlying9
 a9 := Tryd.isAgg9
 z9 := Tryd.sizeOf9
 v9 := Tryd.zeroValue9
 t20 := Tryd.underlying20
 a20 := Tryd.isAgg20
 z20 := Tryd.sizeOf20
 v20 := Tryd.zeroValue20
 t37 := Tryd.underlying85
 a37 := Tryd.isAgg85
 z37 := Tryd.sizeOf85
 v37 := Tryd.zeroValue85
 t70 := Tryd.underlying84
 a70 := Tryd.isAgg84
 z70 := Tryd.sizeOf84
 v70 := Tryd.zeroValue84
 t72 := Tryd.underlying87
 a72 := Tryd.isAgg87
 z72 := Tryd.sizeOf87
 v72 := Tryd.zeroValue87
 t75 := Tryd.underlying89
 a75 := Tryd.isAgg89
 z75 := Tryd.sizeOf89
 v75 := Tryd.zeroValue89
 t164 := Tryd.underlying149
 a164 := Tryd.isAgg149
 z164 := Tryd.sizeOf149
 v164 := Tryd.zeroValue149 }
theorem extra166 : Builder.Extra Tryd.prog lays166_ren := {
 sizeBuilder := by kernel_rfl
 liesBuilder := by kernel_rfl
 t5 := Tryd.underlying5
 a5 := Tryd.isAgg5
 z5 := Tryd.sizeOf5
 v5 := Tryd.zeroValue5
 infoByte := by kernel_rfl
 cellsByte := by kernel_rfl
 sizeByte := by kernel_rfl
 neB5 := by decide }
def lays167_ren : Go.Shelf.Ren := ⟨fun | 167 => 53 | 240 => 82 | 276 => 102 | n => n, fun | 0 => 0 | 3 => 3 | 4 => 4 | 5 => 5 | 9 => 9 | 20 => 20 | 37 => 85 | 70 => 84 | 72 => 87 | 75 => 89 | 80 => 95 | 164 => 149 | n => n, fun | n => n⟩
theorem lays167 : Go.Proofs.Lays.n167 Tryd.prog lays167_ren := {
 mixed := by kernel_rfl
 f167 := Tryd.func53.trans (congrArg some (by kernel_rfl))
 f240 := Tryd.func82.trans (congrArg some (by kernel_rfl))
 f276 := Tryd.func102.trans (congrArg some (by kernel_rfl))
 t0 := Tryd.underlying0
 a0 := Tryd.isAgg0
 z0 := Tryd.sizeOf0
 v0 := Tryd.zeroValue0
 t4 := Tryd.underlying4
 a4 := Tryd.isAgg4
 z4 := Tryd.sizeOf4
 v4 := Tryd.zeroValue4
 t5 := Tryd.underlying5
 a5 := Tryd.isAgg5
 z5 := Tryd.sizeOf5
 v5 := Tryd.zeroValue5
 t9 := Tryd.underlying9
 a9 := Tryd.isAgg9
 z9 := Tryd.sizeOf9
 v9 := Tryd.zeroValue9
 t20 := Tryd.underlying20
 a20 := Tryd.isAgg20
 z20 := Tryd.sizeOf20
 v20 := Tryd.zeroValue20
 t37 := Tryd.underlying85
 a37 := Tryd.isAgg85
 z37 := Tryd.sizeOf85
 v37 := Tryd.zeroValue85
 t70 := Tryd.underlying84
 a70 := Tryd.isAgg84
 z70 := Tryd.sizeOf84
 v70 := Tryd.zeroValue84
 t72 := Tryd.underlying87
 a72 := Tryd.isAgg87
 z72 := Tryd.sizeOf87
 v72 := Tryd.zeroValue87
 t75 := Tryd.underlying89
 a75 := Tryd.isAgg89
 z75 := Tryd.sizeOf89
 v75 := Tryd.zeroValue89
 t164 := Tryd.underlying149
 a164 := Tryd.isAgg149
 z164 := Tryd.sizeOf149
 v164 := Tryd.zeroValue149 }
theorem extra167 : Builder.Extra Tryd.prog lays167_ren := {
 sizeBuilder := by kernel_rfl
 liesBuilder := by kernel_rfl
 t5 := Tryd.underlying5
 a5 := Tryd.isAgg5
 z5 := Tryd.sizeOf5
 v5 := Tryd.zeroValue5
 infoByte := by kernel_rfl
 cellsByte := by kernel_rfl
 sizeByte := by kernel_rfl
 neB5 := by decide }
theorem write_string (B b : Nat) (bs : List Value) (s : ByteArray) (w : World) (h : Lib.IsBuilder 87 5 B b bs w) (hlen : bs.length + s.size ≤ 140737488355328) (hBw : B ≤ w.heap.size) :
  Calls Tryd.prog 52 #[.pointer (some ⟨b, 0, none⟩), .string s] w fun e w' => e = .returned (.tuple #[.int .i64 s.size, .nilIface]) ∧ (Lib.BuilderAt 87 5 B b (.pointer (some ⟨b, 0, none⟩)) (bs ++ Lib.strCells s) w' ∧ Below B w w') :=
 Any.Builder_WriteString lays166 extra166 B b bs s w h hlen hBw
theorem write_byte (B b : Nat) (bs : List Value) (c : Int) (w : World) (h : Lib.IsBuilder 87 5 B b bs w) (hlen : bs.length + 1 ≤ 140737488355328) (hBw : B ≤ w.heap.size) :
  Calls Tryd.prog 53 #[.pointer (some ⟨b, 0, none⟩), .int .u8 c] w fun e w' => e = .returned .nilIface ∧ (Lib.BuilderAt 87 5 B b (.pointer (some ⟨b, 0, none⟩)) (bs ++ [.int .u8 c]) w' ∧ Below B w w') :=
 Any.Builder_WriteByte lays167 extra167 B b bs c w h hlen hBw
def Bd (b : Nat) (l : List UInt8) (w : World) : Prop := Lib.IsBuilder 87 5 b b (Lib.byteCells l) w
theorem Bd.lt {b : Nat} {l : List UInt8} {w : World} (h : Bd b l w) : b < w.heap.size := by
 rcases h with h | h
 ·exact h.lt
 ·exact h.lt
theorem below_from {B : Nat} {w W W' : World} (h : Below B w W) (hB : B ≤ W.heap.size) (k : Below W.heap.size W W') : Below B w W' := yK h hB k
theorem bytes_add (l : List UInt8) (s : ByteArray) : Lib.byteCells l ++ Lib.strCells s = Lib.byteCells (l ++ s.data.toList) := by
 unfold Lib.byteCells Lib.strCells
 rw [List.map_append]
theorem bytes_len (l : List UInt8) : (Lib.byteCells l).length = l.length := by unfold Lib.byteCells; rw [List.length_map]
theorem wstr (b : Nat) (l : List UInt8) (s : ByteArray) (w0 w : World) (h : Bd b l w) (hB : Below b w0 w) (hlen : l.length + s.size ≤ 140737488355328) :
  Calls Tryd.prog 52 #[.pointer (some ⟨b, 0, none⟩), .string s] w fun e w' => e = .returned (.tuple #[.int .i64 s.size, .nilIface]) ∧ Bd b (l ++ s.data.toList) w' ∧ Below b w0 w' := by
 refine (write_string b b (Lib.byteCells l) s w h (by rw [bytes_len]; exact hlen) (Nat.le_of_lt h.lt)).mono ?_
 rintro e w' ⟨rfl, h1, h2⟩
 refine ⟨rfl, Or.inr ?_, hB.trans h2⟩
 rw [← bytes_add]; exact h1
theorem wbyte (b : Nat) (l : List UInt8) (c : UInt8) (w0 w : World) (h : Bd b l w) (hB : Below b w0 w) (hlen : l.length + 1 ≤ 140737488355328) :
  Calls Tryd.prog 53 #[.pointer (some ⟨b, 0, none⟩), .int .u8 c.toNat] w fun e w' => e = .returned .nilIface ∧ Bd b (l ++ [c]) w' ∧ Below b w0 w' := by
 refine (write_byte b b (Lib.byteCells l) c.toNat w h (by rw [bytes_len]; exact hlen) (Nat.le_of_lt h.lt)).mono ?_
 rintro e w' ⟨rfl, h1, h2⟩
 refine ⟨rfl, Or.inr ?_, hB.trans h2⟩
 have : Lib.byteCells (l ++ [c]) = Lib.byteCells l ++ [.int .u8 c.toNat] := by unfold Lib.byteCells; rw [List.map_append]; rfl
 rw [this]; exact h1
theorem blen (b : Nat) (l : List UInt8) (w0 w : World) (h : Bd b l w) (hB : Below b w0 w) :
  Calls Tryd.prog 55 #[.pointer (some ⟨b, 0, none⟩)] w fun e w' => e = .returned (.int .i64 (l.length : Int)) ∧ Bd b l w' ∧ Below b w0 w' := by
 refine (Shelf.Tryd.Builder_Len b b _ w h).mono ?_
 rintro e w' ⟨rfl, rfl⟩
 refine ⟨by rw [bytes_len], h, hB⟩
theorem bstr (b : Nat) (l : List UInt8) (w0 w : World) (h : Bd b l w) (hB : Below b w0 w) :
  Calls Tryd.prog 56 #[.pointer (some ⟨b, 0, none⟩)] w fun e w' => e = .returned (.string ⟨l.toArray⟩) ∧ Below b w0 w' := by
 refine (Shelf.Tryd.Builder_String_any b b l w h (Nat.le_of_lt h.lt)).mono ?_
 rintro e w' ⟨rfl, h1⟩
 exact ⟨rfl, hB.trans h1⟩
theorem grow_below (w : World) (k : Nat) (os : Array Obj) : Below w.heap.size w (Sort.grow (w.drewN k) os) :=
 ⟨rfl, rfl, rfl, by simp [Sort.grow], fun i hi => by show (w.heap ++ os)[i]? = w.heap[i]?; rw [Array.getElem?_append_left hi]⟩
theorem own_below {w w1 : World} {B n : Nat} {e : TypeId} {v : Value} {xs : List Value} (h : w.ownsRow B e 1 v n xs) (hb : Below w.heap.size w w1) : w1.ownsRow B e 1 v n xs := by
 obtain ⟨h1, h2⟩ := h
 refine ⟨h1, h2.imp id fun ⟨g, cap, cur, he, hB, hr⟩ => ⟨g, cap, cur, he, hB, ?_⟩⟩
 obtain ⟨hg, rest⟩ := hr
 exact ⟨(hb.block g (Array.getElem?_eq_some_iff.1 hg).1).trans hg, rest⟩
theorem Bd.below {b : Nat} {l : List UInt8} {w w1 : World} (h : Bd b l w) (hb : Below w.heap.size w w1) : Bd b l w1 := by
 rcases h with ⟨h1, v, h2, h3, h4⟩ | ⟨h1, v, h2, h3, h4⟩
 ·exact Or.inl ⟨h1, v, (hb.block b (Array.getElem?_eq_some_iff.1 h2).1).trans h2, own_below h3 hb, h4⟩
 ·exact Or.inr ⟨h1, v, (hb.block b (Array.getElem?_eq_some_iff.1 h2).1).trans h2, own_below h3 hb, h4⟩
def dec (v : Int) : ByteArray := ⟨(Lib.itoa v).toArray⟩
theorem itoa_any (v : Int) (h0 : -9223372036854775808 ≤ v) (h1 : v ≤ 9223372036854775807) (w : World) (hG : GP w) :
  Calls Tryd.prog 54 #[.int .i64 v] w fun e w' => e = .returned (.string (dec v)) ∧ Below w.heap.size w w' := by
 refine (Shelf.Tryd.strconv_Itoa v h0 h1 w hG.pow).mono ?_
 rintro e w' ⟨rfl, k, os, rfl⟩
 exact ⟨rfl, grow_below _ k os⟩
end Go.Proofs.YtppojbafagneeaaDoor.Pure
