/- Own text, for this claim: an append to a row of tokens that shares its block with an elder one. -/
import Derived.Test.YtkfdninngcakpaaDoorZQLexx0
import Derived.Maps.AppendAt
import Derived.Laws.Append
import Derived.Laws.AppendOwn
import Derived.Deep.AppendLies
import Derived.Laws.IdiomCopy
import Derived.WalkMore
import Derived.Deep.DeepMust
import Derived.Outline
import Derived.Deep.RegionWith
namespace Go.Proofs.YtkfdninngcakpaaDoor.PLex
open Go.RowKit Go.Proofs.YtkfdninngcakpaaDoorW.PrintWords Go.Proofs.YtkfdninngcakpaaDoorW.PrintLast Go.Proofs.YtkfdninngcakpaaDoorW.PrintMore
attribute [local go_sem] max2_int min2_int max_two min_two max_three min_three max_four min_four
set_option linter.unusedVariables false
set_option linter.unusedSimpArgs false
def Went (W w1 : World) (v v1 : Value) (n : Nat) : Prop :=
 (∃ g cap, v = .slice (some ⟨g, 0, none⟩) n cap ∧ v1 = .slice (some ⟨g, 0, none⟩) (n + 1) cap) ∨ (W.grownBy w1 none ∧ ∃ b, v1.ownBlock = some b ∧ W.heap.size ≤ b)
theorem k32_one {w : World} {x : S32} {cs : List Value} (h : k32.K w x cs) : ∀ v ∈ cs, v.oneCell' = true := by
 rw [k32_open h]
 intro v hv
 simp only [List.mem_cons, List.not_mem_nil, or_false] at hv
 rcases hv with rfl | rfl | rfl | rfl | rfl | rfl | rfl | rfl | rfl <;> rfl
section
variable {P : Program} (w : World)
theorem run_append_went (base : Nat) (t ty e : TypeId) (i : TypeInfo) (z : Value) (size bytes : Nat) (ht : P.underlying t = some (.slice e)) (hi : P.info? e = some i) (hz : i.zero = some z)
  (hsize : i.size = size) (hby : i.bytes = bytes) (hzs : z.cells.size = size) (hs0 : 0 < size) (v : Value) (n : Nat) (xs : List Value) (hown : w.ownsRow base e size v n xs)
  (a : Addr) (c : Nat) (us : List Value) (hus : us.length = size) (hnews : ∀ j y, us[j]? = some y → w.cell? (a.add j) = some y) (h1' : ∀ y ∈ us, y.oneCell' = true)
  (h63 : n + 1 ≤ maxLen) (hbytes : (n + 1) * bytes ≤ 140737488355328) (hbase : base ≤ w.heap.size) :
  ∃ v' w', (Builtin.append_ #[t, t] ty #[v, .slice (some a) 1 c]).run P w = .ok v' w' ∧ w'.ownsRow base e size v' (n + 1) (xs ++ us) ∧ w.grownBy w' v.ownBlock ∧
   (v'.ownBlock = v.ownBlock ∨ v'.ownBlock = some w.heap.size) ∧ Went w w' v v' n := by
 have hm : n + 1 ≤ 9223372036854775807 := by simp only [maxLen] at h63; omega
 have hl1 : us.length = 1 * size := by omega
 obtain ⟨v', w', hr, h2, h3, h4, h5⟩ := run_append_own_at (P := P) w base t ty e i z size bytes ht hi hz hsize hby hzs hs0 v n xs hown a 1 c us hl1 hnews h1' h63 hbytes hbase
 refine ⟨v', w', hr, h2, h3, h5, ?_⟩
 rcases hown.2 with ⟨rfl, rfl⟩ | ⟨g, cap, cur, rfl, hbg, hg, hnc, hcm, hcs, htake⟩
 ·have hr' := run_append_nil (P := P) w t ty e i z ht hi hz a 1 c us (by rw [hsize]; exact hl1) hnews (by omega) (by omega) (by rw [hby]; omega)
  rw [hr] at hr'
  injection hr' with e1 e2
  subst e1 e2
  exact .inr ⟨⟨rfl, rfl, rfl, by simp, fun k hk _ => heap_alloc_old w.drew _ hk⟩, _, rfl, Nat.le_refl _⟩
 ·by_cases hroom : n + 1 ≤ cap
  ·have hfit : n * i.size + us.length ≤ cur.size := by rw [hsize, hl1, hcs, ← Nat.add_mul]; exact Nat.mul_le_mul_right _ hroom
   have hr' := run_append_room (P := P) w t ty e i ht hi g n cap cur hg a 1 c us (by rw [hsize]; exact hl1) hnews h1' hroom hfit
   rw [hr] at hr'
   injection hr' with e1 e2
   exact .inl ⟨g, cap, rfl, e1⟩
  ·have hr' := run_append_grow (P := P) w t ty e i z ht hi hz ⟨g, 0, none⟩ n cap xs (by rw [hown.1, hsize]) (hown.cells (g := g) rfl) a 1 c us (by rw [hsize]; exact hl1) hnews (by omega) (by omega) (growslice_fits (by omega) (by rw [hby]; exact hbytes))
   rw [hr] at hr'
   injection hr' with e1 e2
   subst e1 e2
   exact .inr ⟨⟨rfl, rfl, rfl, by simp, fun k hk _ => heap_alloc_old w.drew _ hk⟩, _, rfl, Nat.le_refl _⟩
end
section
variable {P : Program} {ops : Array Oper} {rest : List Oper} {o : Oper} {a : Act} {Q : Exit → Act → World → Prop}
theorem R_append_went {w0 W : World} (base : Nat) (hgd : o.guard = none) (s x : Operand) (t e : TypeId) (z : Value) (bytes : Nat)
  (ho : o.op = .call { callee := .builtin .append, args := #[s, x], argTypes := #[t, t] })
  (ht : P.underlying t = some (.slice e)) (hinfo : (P.info? e).map (fun i => (i.zero, i.size, i.bytes)) = some (some z, 9, bytes)) (hz : z.cells.size = 9) (hb0 : 0 < bytes)
  (v : Value) (xs : List S32) (p : S32) (ok : Nat → Prop) (hs : a.eval s = v) (hx : a.eval x = .slice (some ⟨W.heap.size, 0, none⟩) 1 1) (hfresh : ∀ k, W.heap.size ≤ k → ok k)
  (HO : k32.R e W base ok v xs) (HB : Below base w0 W) (hbase : base ≤ W.heap.size) (hl : (xs.length + 1) * bytes ≤ 140737488355328)
  (h : ∀ v1 w1, k32.R e w1 base ok v1 (xs ++ [p]) → Below base w0 w1 → W.grownBy w1 v.ownBlock → (v1.ownBlock = v.ownBlock ∨ ∃ b, v1.ownBlock = some b ∧ W.heap.size ≤ b) → Went W w1 v v1 xs.length → wpList P ops Q rest (a.put o.dst v1) w1) :
  wpList P ops Q (o :: rest) a (W.alloc (.cells #[.int .i64 p.f0, .string p.f1, .int .i64 p.f2, .int .i64 p.f3, .int .i64 p.f4.f0, .int .i64 p.f4.f1, .int .i64 p.f4.f2, .int .i64 p.f5.f0, .int .i64 p.f5.f1] e)) := by
 obtain ⟨i0, hi, hzz⟩ := Option.map_eq_some_iff.1 hinfo
 simp only [Prod.mk.injEq] at hzz
 obtain ⟨hz0, hz1, hz2⟩ := hzz
 obtain ⟨h0, inner, hown, hr⟩ := HO
 have hlen : xs.length + 1 ≤ 140737488355328 := Nat.le_trans (Nat.le_mul_of_pos_right _ hb0) hl
 refine wpList_plain hgd fun K hK => ?_
 obtain ⟨v1, w1, hrun, h2, h3, h5, h6⟩ := run_append_went (P := P) (W.alloc (.cells #[.int .i64 p.f0, .string p.f1, .int .i64 p.f2, .int .i64 p.f3, .int .i64 p.f4.f0, .int .i64 p.f4.f1, .int .i64 p.f4.f2, .int .i64 p.f5.f0, .int .i64 p.f5.f1] e)) base t o.type e i0 z 9 bytes ht hi hz0 hz1 hz2 hz (by omega) v xs.length inner (hown.alloc _) ⟨W.heap.size, 0, none⟩ 1 [.int .i64 p.f0, .string p.f1, .int .i64 p.f2, .int .i64 p.f3, .int .i64 p.f4.f0, .int .i64 p.f4.f1, .int .i64 p.f4.f2, .int .i64 p.f5.f0, .int .i64 p.f5.f1] rfl
  (by simpa using World.news_of_block (cs := #[.int .i64 p.f0, .string p.f1, .int .i64 p.f2, .int .i64 p.f3, .int .i64 p.f4.f0, .int .i64 p.f4.f1, .int .i64 p.f4.f2, .int .i64 p.f5.f0, .int .i64 p.f5.f1]) (t := e) (fr := (0, 0)) (heap_alloc_new W (.cells #[.int .i64 p.f0, .string p.f1, .int .i64 p.f2, .int .i64 p.f3, .int .i64 p.f4.f0, .int .i64 p.f4.f1, .int .i64 p.f4.f2, .int .i64 p.f5.f0, .int .i64 p.f5.f1] e))) (k32_one (k32_mk W p)) (by simp only [maxLen]; omega) hl (by simp; omega)
 have hsz : W.heap.size ≤ (W.alloc (.cells #[.int .i64 p.f0, .string p.f1, .int .i64 p.f2, .int .i64 p.f3, .int .i64 p.f4.f0, .int .i64 p.f4.f1, .int .i64 p.f4.f2, .int .i64 p.f5.f0, .int .i64 p.f5.f1] e)).heap.size := by simp
 have hg : W.grownBy w1 v.ownBlock := World.grownBy.trans (World.grownBy_alloc W _ _) h3
 have hat : v1.ownBlock = v.ownBlock ∨ ∃ b, v1.ownBlock = some b ∧ W.heap.size ≤ b := by
  rcases h5 with h5 | h5
  ·exact .inl h5
  ·exact .inr ⟨_, h5, hsz⟩
 have hw : Went W w1 v v1 xs.length := by
  rcases h6 with h6 | ⟨h6, b, h7, h8⟩
  ·exact .inl h6
  ·exact .inr ⟨World.grownBy.trans (World.grownBy_alloc W _ _) h6, b, h7, Nat.le_trans hsz h8⟩
 have hR := Kd.R_appended (d := k32) (p := p) (okp := fun _ => False) h0 hr (k32_mkM _ _ _ p) (fun _ hk => hk.elim) hfresh h2 hg hat
 unfold Oper.wp execOp
 simp only [ho, resolve, invoke, builtin, Sem.run_bind, Sem.run_pure, Result.andThen_ok, List.map_toArray, List.map_cons, List.map_nil, hs, hx, hrun]
 exact hK _ _ (h v1 w1 hR (((HB.alloc hbase _).grown h3 (by simp; omega) (own_base hown))) hg hat hw)
end
def Sh (va vg : Value) (xs ys : List S32) : Prop :=
 va.ownBlock = none ∨ va.ownBlock ≠ vg.ownBlock ∨ ∃ g c, va = .slice (some ⟨g, 0, none⟩) xs.length c ∧ vg = .slice (some ⟨g, 0, none⟩) ys.length c ∧ xs = ys.take xs.length
theorem Sh.refl {e : TypeId} {W : World} {base : Nat} {ok : Nat → Prop} {va : Value} {xs : List S32} (h : k32.R e W base ok va xs) : Sh va va xs xs := by
 obtain ⟨h0, inner, hown, hr⟩ := h
 rcases hown.2 with ⟨rfl, -⟩ | ⟨g, cap, cur, rfl, -⟩
 ·exact .inl rfl
 ·exact .inr (.inr ⟨g, cap, rfl, rfl, by rw [List.take_length]⟩)
theorem R_view {e : TypeId} {W : World} {base g n m c : Nat} {ok ok' : Nat → Prop} {ys : List S32} (h : k32.R e W base ok (.slice (some ⟨g, 0, none⟩) m c) ys) (hn : n ≤ ys.length) (hok : ok' g) :
  k32.R e W base ok' (.slice (some ⟨g, 0, none⟩) n c) (ys.take n) := by
 obtain ⟨h0, r⟩ := Kd.R_take h hn
 obtain ⟨inner, hown, hr⟩ := r
 refine ⟨fun k hk => by simp [Value.ownBlock] at hk; rw [← hk]; exact hok, inner, hown, Reps.imp_ hr (fun p c hp => ?_)⟩
 rw [k32_openM hp]; exact k32_mkM _ _ _ p
theorem R_none {e : TypeId} {W w1 : World} {base : Nat} {ok : Nat → Prop} {va : Value} {xs : List S32} (h : k32.R e W base ok va xs) (hv : va.ownBlock = none) : k32.R e w1 base ok va xs := by
 obtain ⟨h0, inner, hown, hr⟩ := h
 rcases hown.2 with ⟨rfl, hx⟩ | ⟨g, cap, cur, rfl, -⟩
 ·have : xs = [] := List.eq_nil_of_length_eq_zero hx
  subst this
  exact Kd.R_nil _ _ _ _ _
 ·simp [Value.ownBlock] at hv
theorem Sh.append {e : TypeId} {W w1 : World} {base : Nat} {ok okg : Nat → Prop} {va vg v1 : Value} {xs ys : List S32} {p : S32} (h : k32.R e W base ok va xs) (hs : Sh va vg xs ys)
  (hR : k32.R e w1 base okg v1 (ys ++ [p])) (hg : W.grownBy w1 vg.ownBlock) (hat : v1.ownBlock = vg.ownBlock ∨ ∃ b, v1.ownBlock = some b ∧ W.heap.size ≤ b) (hw : Went W w1 vg v1 ys.length) :
  k32.R e w1 base ok va xs ∧ Sh va v1 xs (ys ++ [p]) := by
 have hb := Kd.R_bound h
 rcases hs with hs | hs | ⟨g, c, rfl, rfl, hx⟩
 ·exact ⟨R_none h hs, .inl hs⟩
 ·have hk : ∀ k, va.ownBlock = some k → some k ≠ vg.ownBlock := fun k hk he => hs (hk.trans he)
  have h1 : k32.R e W base (fun k => ok k ∧ some k ≠ vg.ownBlock) va xs := by
   obtain ⟨h0, r⟩ := h
   exact ⟨fun k hk' => ⟨h0 k hk', hk k hk'⟩, r⟩
  have h2 := Kd.R_after h1 hg hat
  refine ⟨Kd.R_mono h2 (fun _ hk => hk.1), ?_⟩
  by_cases hn : va.ownBlock = none
  ·exact .inl hn
  ·obtain ⟨k, hk'⟩ := Option.ne_none_iff_exists'.1 hn
   exact .inr (.inl (fun he => (h2.1 k hk').2 (hk'.symm.trans he)))
 ·rcases hw with ⟨g', cap, e1, e2⟩ | ⟨hn, b, hb1, hb2⟩
  ·injection e1 with e1 _ e3
   injection e1 with e1
   injection e1 with e1
   subst e1 e3
   subst e2
   have hl : xs.length ≤ ys.length := by have := congrArg List.length hx; rw [List.length_take] at this; omega
   have hv := R_view (n := xs.length) (ok' := ok) hR (by rw [List.length_append]; omega) (h.1 g rfl)
   have ht : (ys ++ [p]).take xs.length = xs := by rw [List.take_append_of_le_length hl]; exact hx.symm
   rw [ht] at hv
   exact ⟨hv, .inr (.inr ⟨g, c, rfl, by rw [List.length_append]; rfl, ht.symm⟩)⟩
  ·refine ⟨Kd.R_grown h hn (fun _ _ => by simp), .inr (.inl ?_)⟩
   rw [hb1]
   intro he
   have := Kd.R_lt h g rfl
   have e4 : g = b := by simpa [Value.ownBlock] using he
   omega
end Go.Proofs.YtkfdninngcakpaaDoor.PLex
