/- Own text, for this claim: the reference's Digits and Joined: plain laws. -/
import Derived.Test.YtjhbiennmambkaaDoorZAsmText
import Derived.Test.YtjhbiennmambkaaDoorZAsmPI2
import Derived.Test.YtjhbiennmambkaaDoorZQAsmRef
import Derived.Lib.Join
import Derived.Laws.BitsLemmas
namespace Go.Proofs.YtjhbiennmambkaaDoor.Pure
open Go.RowKit Go.Proofs.YtjhbiennmambkaaDoorW.PrintWords Go.Proofs.YtjhbiennmambkaaDoorW.PrintLast Go.Proofs.YtjhbiennmambkaaDoorW.PrintMore Go.Proofs.YtjhbiennmambkaaDoor.PAsmInstrs Go.Proofs.YtjhbiennmambkaaDoor.PAsm
set_option linter.unusedVariables false
set_option linter.unusedSimpArgs false
theorem Ev.pos {α : Type} {c : Prop} [Decidable c] {a b : Nat → Option α} {r : α} (h : c) (k : Ev a r) : Ev (fun n => if c then a n else b n) r := by
 simpa only [if_pos h] using k
theorem Ev.neg {α : Type} {c : Prop} [Decidable c] {a b : Nat → Option α} {r : α} (h : ¬c) (k : Ev b r) : Ev (fun n => if c then a n else b n) r := by
 simpa only [if_neg h] using k
theorem Ev.call {α β : Type} {x : Option α} {f : Nat → α → Option β} {a : α} {r : β} (h : x = some a) (k : Ev (fun n => f n a) r) : Ev (fun n => x.bind (f n)) r := by
 subst h; simpa only [Option.bind_some] using k
theorem Ev.ret {α : Type} {r s : α} (h : s = r) : Ev (fun _ => some s) r := ⟨0, fun _ _ => by rw [h]⟩
theorem w64 {n : Int} (h : -9223372036854775808 ≤ n ∧ n ≤ 9223372036854775807) : wrap64 n = n := by unfold wrap64; omega
theorem wf64 {a : Int} (h : (Lit.int .i64 a).wf = true) : -9223372036854775808 ≤ a ∧ a ≤ 9223372036854775807 := by
 simp only [Lit.wf, IntKind.min, IntKind.max, IntKind.signed, IntKind.bits, Bool.and_eq_true, decide_eq_true_eq, if_true] at h
 omega
def Bs (l : List UInt8) : ByteArray := ⟨l.toArray⟩
theorem Bs_size (l : List UInt8) : (Bs l).size = l.length := by show l.toArray.size = l.length; simp
theorem Bs_data (l : List UInt8) : (Bs l).data.toList = l := by show l.toArray.toList = l; simp
theorem Bs_of (s : ByteArray) : s = Bs s.data.toList := by cases s; simp [Bs]
theorem ba_ext {a b : ByteArray} (h : a.data.toList = b.data.toList) : a = b := by
 rw [Bs_of a, Bs_of b, h]
theorem Bs_app (a b : List UInt8) : Bs a ++ Bs b = Bs (a ++ b) := ba_ext (by rw [ByteArray.data_append, Array.toList_append, Bs_data, Bs_data, Bs_data])
abbrev DD (u : Nat) : List UInt8 := Lib.decDigits u
theorem dd_small {u : Nat} (h : u < 10) : DD u = [UInt8.ofNat (48 + u)] := Lib.decDigits_one h
theorem dd_big {u : Nat} (h : ¬ u < 10) : DD u = DD (u / 10) ++ [UInt8.ofNat (48 + u % 10)] := by
 show Lib.decDigits u = _
 rw [Lib.decDigits, dif_neg h]
theorem son_one (d : Nat) (h : d < 10) : strOfNums [((48 + d : Nat) : Int)] = Bs [UInt8.ofNat (48 + d)] := by
 apply ba_ext
 rw [strOfNums_data, Bs_data]
 show [UInt8.ofNat ((48 + d : Nat) : Int).toNat] = [UInt8.ofNat (48 + d)]
 rw [Int.toNat_natCast]
def ahead (u : Nat) (s : List UInt8) : List UInt8 := if u = 0 then s else DD u ++ s
theorem ahead_step (u : Nat) (s : List UInt8) (h : u ≠ 0) : ahead (u / 10) (UInt8.ofNat (48 + u % 10) :: s) = ahead u s := by
 unfold ahead
 rw [if_neg h]
 by_cases g : u < 10
 ·rw [if_pos (by omega), dd_small g, Nat.mod_eq_of_lt g]; rfl
 ·rw [if_neg (by omega), dd_big g, List.append_assoc]; rfl
theorem tmod_ten (m : Int) : (Int.tmod m 10 < 0 → -(Int.tmod m 10) = ((m.natAbs % 10 : Nat) : Int)) ∧ (¬ Int.tmod m 10 < 0 → Int.tmod m 10 = ((m.natAbs % 10 : Nat) : Int)) ∧ (Int.tdiv m 10).natAbs = m.natAbs / 10 := by
 rcases Int.lt_or_le m 0 with h | h
 ·obtain ⟨n, rfl⟩ : ∃ n : Nat, m = -(n : Int) := ⟨m.natAbs, by omega⟩
  rw [Int.neg_tmod, Int.neg_tdiv]
  have h1 : Int.tmod (n : Int) 10 = ((n % 10 : Nat) : Int) := rfl
  have h2 : Int.tdiv (n : Int) 10 = ((n / 10 : Nat) : Int) := rfl
  rw [h1, h2]
  refine ⟨fun _ => by omega, fun g => by omega, by omega⟩
 ·obtain ⟨n, rfl⟩ := Int.eq_ofNat_of_zero_le h
  have h1 : Int.tmod (n : Int) 10 = ((n % 10 : Nat) : Int) := rfl
  have h2 : Int.tdiv (n : Int) 10 = ((n / 10 : Nat) : Int) := rfl
  rw [h1, h2]
  refine ⟨fun g => by omega, fun _ => by omega, by omega⟩
theorem tdiv_w (m : Int) (h0 : -9223372036854775808 ≤ m) (h1 : m ≤ 9223372036854775807) : wrap64 (Int.tdiv m 10) = Int.tdiv m 10 := by
 have := (tmod_ten m).2.2
 exact w64 (by omega)
theorem dig_l0 (v : Int) : ∀ n : Nat, ∀ (m : Int) (s : List UInt8), m.natAbs < 10 ^ n → -9223372036854775808 ≤ m → m ≤ 9223372036854775807 → s.length + n ≤ 100 →
  Ev (fun k => payoffref03_Digits.l0 k v (Bs s) m) (Bs (if v < 0 then 45 :: ahead m.natAbs s else ahead m.natAbs s)) := by
 intro n
 induction n with
 | zero =>
  intro m s hm h0 h1 hs
  have hz : m = 0 := by simp at hm; omega
  subst hz
  refine Ev.step (fun k => payoffref03_Digits.l0.eq_2 ..) (Ev.pos rfl ?_)
  by_cases hv : v < 0
  ·refine Ev.pos hv (Ev.pos (by rw [Bs_size]; omega) (Ev.ret ?_))
   rw [if_pos hv]
   exact Bs_app [45] s
  ·refine Ev.neg hv (Ev.ret ?_)
   rw [if_neg hv]
   rfl
 | succ n ih =>
  intro m s hm h0 h1 hs
  by_cases hz : m = 0
  ·subst hz
   refine Ev.step (fun k => payoffref03_Digits.l0.eq_2 ..) (Ev.pos rfl ?_)
   by_cases hv : v < 0
   ·refine Ev.pos hv (Ev.pos (by rw [Bs_size]; omega) (Ev.ret ?_))
    rw [if_pos hv]
    exact Bs_app [45] s
   ·refine Ev.neg hv (Ev.ret ?_)
    rw [if_neg hv]
    rfl
  ·obtain ⟨t1, t2, t3⟩ := tmod_ten m
   have hu : m.natAbs ≠ 0 := by omega
   have hd : m.natAbs % 10 < 10 := Nat.mod_lt _ (by decide)
   have hq : (Int.tdiv m 10).natAbs < 10 ^ n := by
    rw [t3]
    rw [Nat.pow_succ] at hm
    omega
   have nxt := ih (Int.tdiv m 10) (UInt8.ofNat (48 + m.natAbs % 10) :: s) hq (by omega) (by omega) (by simp; omega)
   rw [t3, ahead_step _ s hu] at nxt
   have hb : strOfNums [((48 + m.natAbs % 10 : Nat) : Int)] = Bs [UInt8.ofNat (48 + m.natAbs % 10)] := son_one _ hd
   have hap : Bs [UInt8.ofNat (48 + m.natAbs % 10)] ++ Bs s = Bs (UInt8.ofNat (48 + m.natAbs % 10) :: s) := Bs_app _ _
   have hsz : (Bs [UInt8.ofNat (48 + m.natAbs % 10)]).size + (Bs s).size ≤ 9223372036854775807 := by rw [Bs_size, Bs_size]; simp; omega
   refine Ev.step (fun k => payoffref03_Digits.l0.eq_2 ..) (Ev.neg hz ?_)
   rw [tdiv_w m h0 h1]
   by_cases hn : Int.tmod m 10 < 0
   ·refine Ev.pos hn (Ev.call rfl ?_)
    rw [t1 hn, w64 (n := ((m.natAbs % 10 : Nat) : Int)) (by omega), show (wrap64 (48 + ((m.natAbs % 10 : Nat) : Int))) % 256 = ((48 + m.natAbs % 10 : Nat) : Int) by rw [w64 (by omega)]; omega, hb, hap]
    refine Ev.pos hsz ?_
    exact nxt
   ·refine Ev.neg hn (Ev.call rfl ?_)
    rw [t2 hn, show (wrap64 (48 + ((m.natAbs % 10 : Nat) : Int))) % 256 = ((48 + m.natAbs % 10 : Nat) : Int) by rw [w64 (by omega)]; omega, hb]
    refine Ev.pos hsz ?_
    rw [hap]
    exact nxt
theorem digits_ev (v : Int) (h0 : -9223372036854775808 ≤ v) (h1 : v ≤ 9223372036854775807) : Ev (fun k => payoffref03_Digits.f k v) (dec v) := by
 unfold payoffref03_Digits.f
 by_cases hz : v = 0
 ·refine Ev.pos hz (Ev.ret ?_)
  subst hz
  show (⟨#[48]⟩ : ByteArray) = ⟨(Lib.itoa 0).toArray⟩
  have : Lib.itoa 0 = [48] := by
   unfold Lib.itoa
   rw [if_neg (by decide)]
   exact dd_small (u := 0) (by decide)
  rw [this]
 ·refine Ev.neg hz ?_
  have := dig_l0 v 19 v [] (by omega) h0 h1 (by decide)
  have ea : ahead v.natAbs [] = DD v.natAbs := by
   unfold ahead
   rw [if_neg (by omega), List.append_nil]
  have e : (if v < 0 then 45 :: ahead v.natAbs [] else ahead v.natAbs []) = Lib.itoa v := by
   rw [ea]
   unfold Lib.itoa
   by_cases hv : v < 0
   ·rw [if_pos hv, if_pos hv]
   ·rw [if_neg hv, if_neg hv, show v.natAbs = v.toNat by omega]
  rw [e] at this
  exact this
theorem rdig_any (v : Int) (h0 : -9223372036854775808 ≤ v) (h1 : v ≤ 9223372036854775807) (w : World) :
  Calls Tryd.prog 35 #[.int .i64 v] w fun e w' => e = .returned (.string (dec v)) ∧ Below w.heap.size w w' := by
 obtain ⟨n, hn⟩ := digits_ev v h0 h1
 exact payoffref03_Digits.calls n v (dec v) w (hn n (Nat.le_refl _))
theorem son_app (a b : List Int) : strOfNums (a ++ b) = strOfNums a ++ strOfNums b := by
 apply ba_ext
 rw [strOfNums_data, ByteArray.data_append, Array.toList_append, strOfNums_data, strOfNums_data, List.map_append]
theorem son_bytes (s : ByteArray) : strOfNums (bytesOf s) = s := by
 apply ba_ext
 rw [strOfNums_data, bytesOf, List.map_map]
 have : ((fun n : Int => UInt8.ofNat n.toNat) ∘ fun b : UInt8 => (b.toNat : Int)) = id := by
  funext b
  simp
 rw [this, List.map_id]
theorem son_32 : strOfNums [32] = (⟨#[32]⟩ : ByteArray) := rfl
theorem join_bs (xs : List ByteArray) (x : ByteArray) : joinW (x :: xs) = Bs (x.data.toList ++ Lib.joinTail [32] (xs.map (·.data.toList))) := by
 unfold joinW
 rw [List.map_cons, Lib.join_cons]
 rfl
theorem tail_l0 (L : List ByteArray) : ∀ (r : List ByteArray) (i : Nat) (acc : List Int), 0 < i → L.drop i = r → i + r.length = L.length → L.length ≤ 1000 → acc.length + (Lib.joinTail [32] (r.map (·.data.toList))).length < 140737488355328 →
  Ev (fun k => payoffref13_Joined.l0 k L acc (i : Int)) (strOfNums acc ++ Bs (Lib.joinTail [32] (r.map (·.data.toList)))) := by
 intro r
 induction r with
 | nil =>
  intro i acc h0 hd hl hL hs
  refine Ev.step (fun k => payoffref13_Joined.l0.eq_2 ..) (Ev.neg (by simp at hl; omega) (Ev.ret ?_))
  show strOfNums acc = strOfNums acc ++ Bs []
  apply ba_ext
  rw [ByteArray.data_append, Array.toList_append, Bs_data, List.append_nil]
 | cons x r ih =>
  intro i acc h0 hd hl hL hs
  have hi : i < L.length := by simp at hl; omega
  have hx : rdOf ByteArray.empty L (i : Int) = x := by
   unfold rdOf
   rw [Int.toNat_natCast, List.getD_eq_getElem?_getD, List.getElem?_eq_getElem hi, Option.getD_some]
   have := List.drop_eq_getElem_cons hi
   rw [hd] at this
   exact (List.cons.inj this).1.symm
  have hd2 : L.drop (i + 1) = r := by
   have := List.drop_eq_getElem_cons hi
   rw [hd] at this
   exact (List.cons.inj this).2.symm
  have htl : Lib.joinTail [32] ((x :: r).map (·.data.toList)) = [32] ++ x.data.toList ++ Lib.joinTail [32] (r.map (·.data.toList)) := by
   simp [Lib.joinTail]
  rw [htl] at hs ⊢
  have hxl : x.data.toList.length = x.size := data_length x
  simp only [List.length_append, List.length_cons, List.length_nil, hxl] at hs
  have nxt := ih (i + 1) (acc ++ [32] ++ bytesOf x) (by omega) hd2 (by simp at hl; omega) hL (by simp only [List.length_append, List.length_cons, List.length_nil, bytesOf_length]; omega)
  refine Ev.step (fun k => payoffref13_Joined.l0.eq_2 ..) (Ev.pos (by omega) (Ev.pos (by omega) (Ev.pos (by omega) (Ev.call rfl (Ev.pos (by omega) (Ev.pos (by rw [hx]; simp; omega) ?_))))))
  rw [hx, show wrap64 ((i : Int) + 1) = ((i + 1 : Nat) : Int) by rw [w64 (by omega)]; omega]
  have e : strOfNums acc ++ Bs ([32] ++ x.data.toList ++ Lib.joinTail [32] (r.map (·.data.toList))) = strOfNums (acc ++ [32] ++ bytesOf x) ++ Bs (Lib.joinTail [32] (r.map (·.data.toList))) := by
   rw [son_app, son_app, son_bytes, son_32]
   apply ba_ext
   simp only [ByteArray.data_append, Array.toList_append, Bs_data, List.append_assoc]
  rw [e]
  exact nxt
theorem joined_ev (x : ByteArray) (r : List ByteArray) (hL : r.length < 1000) (hs : (Lib.join ((x :: r).map (·.data.toList)) [32]).length < 140737488355328) : Ev (fun k => payoffref13_Joined.f k (x :: r)) (joinW (x :: r)) := by
 unfold payoffref13_Joined.f
 rw [List.map_cons, Lib.join_cons] at hs
 have hxl : x.data.toList.length = x.size := data_length x
 simp only [List.length_append, hxl] at hs
 have nxt := tail_l0 (x :: r) r 1 ([] ++ bytesOf x) (by decide) rfl (by simp; omega) (by simp; omega) (by simp only [List.nil_append, bytesOf_length]; omega)
 refine Ev.step (fun k => payoffref13_Joined.l0.eq_2 ..) (Ev.pos (by simp) (Ev.neg (by decide) (Ev.pos (by decide) (Ev.pos ?_ ?_))))
 ·show 0 + x.size < _; omega
 ·rw [join_bs, show wrap64 ((0 : Int) + 1) = ((1 : Nat) : Int) by rw [w64 (by decide)]; rfl]
  have e : Bs (x.data.toList ++ Lib.joinTail [32] (r.map (·.data.toList))) = strOfNums ([] ++ bytesOf x) ++ Bs (Lib.joinTail [32] (r.map (·.data.toList))) := by
   rw [List.nil_append, son_bytes]
   apply ba_ext
   simp only [ByteArray.data_append, Array.toList_append, Bs_data]
  rw [e]
  exact nxt
end Go.Proofs.YtjhbiennmambkaaDoor.Pure
