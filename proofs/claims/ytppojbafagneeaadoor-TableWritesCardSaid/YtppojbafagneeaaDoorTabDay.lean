/- Own text: a list of bytes that began as a constant text ("day"): its first row bears the run-time's mark behind its end, so that only what grows out of it is a row as the printed texts know it. -/
import Derived.Test.YtppojbafagneeaaDoorQTab1
import Derived.Lib.SlBytesConst
import Derived.ProofKit
import Derived.WalkKit
import Derived.WalkMore
namespace Go.Proofs.YtppojbafagneeaaDoor.PTab
open Go.RowKit Go.Proofs.YtppojbafagneeaaDoorW.PrintWords Go.Proofs.YtppojbafagneeaaDoorW.PrintLast Go.Proofs.YtppojbafagneeaaDoorW.PrintMore
set_option linter.unusedVariables false
set_option linter.unusedSimpArgs false
theorem conv_day (w : World) : (convert 85 85 (.slice (some ⟨w.heap.size, 0, none⟩) 3 3)).run Tryd.prog (w.alloc (.cells #[.int .u8 100, .int .u8 97, .int .u8 121] 5)) = .ok (.slice (some ⟨w.heap.size, 0, none⟩) 3 3) (w.alloc (.cells #[.int .u8 100, .int .u8 97, .int .u8 121] 5 (3, 4))) :=
  Lib.run_convert_bytes_const w 85 5 #[.int .u8 100, .int .u8 97, .int .u8 121] 3 3 Tryd.underlying85 Tryd.underlying5
/-- A row of bytes of the call's own, or the constant's first row. -/
def RD (e : TypeId) (ok : Nat → Prop) (W : World) (base : Nat) (v : Value) (xs : List Int) : Prop :=
  Kd.R (Kd.int .u8) e W base ok v xs ∨ ∃ g, base ≤ g ∧ v = .slice (some ⟨g, 0, none⟩) 3 3 ∧ xs = [100, 97, 121] ∧ W.heap[g]? = some (.cells #[.int .u8 100, .int .u8 97, .int .u8 121] e (3, 4))
theorem RD_ne {e : TypeId} {ok : Nat → Prop} {W : World} {base : Nat} {v : Value} {xs : List Int} {g : Nat} {t : TypeId} {cs : Array Value} (h : RD e ok W base v xs) (hb : W.heap[g]? = some (.cells cs t (0, 0))) (hne : e ≠ t) : some g ≠ v.ownBlock := by
  rcases h with h | ⟨g', -, rfl, -, hc⟩
  · exact Kd.R_ne h hb hne
  · intro e'
    have : g = g' := by simpa [Value.ownBlock] using e'
    subst this
    rw [hb] at hc
    injection hc with hc
    injection hc with h1 h2 h3
    exact hne h2.symm
section
variable {P : Program} {ops : Array Oper} {rest : List Oper} {o : Oper} {a : Act} {Q : Exit → Act → World → Prop}
theorem RD_append {w0 W : World} (base : Nat) (hgd : o.guard = none) (s x : Operand) (t e : TypeId) (z : Value) (bytes : Nat)
    (ho : o.op = .call { callee := .builtin .append, args := #[s, x], argTypes := #[t, t] })
    (ht : P.underlying t = some (.slice e)) (hinfo : (P.info? e).map (fun i => (i.zero, i.size, i.bytes)) = some (some z, 1, bytes)) (hz : z.cells.size = 1) (hs0 : 0 < 1) (hb0 : 0 < bytes)
    (v : Value) (xs : List Int) (p : Int) (cs : List Value) (ok okp : Nat → Prop) (hs : a.eval s = v) (hx : a.eval x = .slice (some ⟨W.heap.size, 0, none⟩) 1 1) (hp : (Kd.int .u8).M W base okp p cs) (hokp : ∀ k, okp k → ok k ∧ some k ≠ v.ownBlock) (hfresh : ∀ k, W.heap.size ≤ k → ok k)
    (HO : RD e ok W base v xs) (HB : Below base w0 W) (hbase : base ≤ W.heap.size) (hl : (xs.length + 1) * bytes ≤ 140737488355328)
    (h : ∀ v1 w1, (Kd.int .u8).R e w1 base ok v1 (xs ++ [p]) → Below base w0 w1 → W.grownBy w1 v.ownBlock → (v1.ownBlock = v.ownBlock ∨ ∃ b, v1.ownBlock = some b ∧ W.heap.size ≤ b) → wpList P ops Q rest (a.put o.dst v1) w1) :
    wpList P ops Q (o :: rest) a (W.alloc (.cells cs.toArray e)) := by
  rcases HO with HO | ⟨g, hg, rfl, rfl, hcell⟩
  · exact Kd.R_append (Kd.int .u8) base hgd s x t e z bytes ho ht hinfo hz hs0 hb0 v xs p cs ok okp hs hx hp hokp hfresh HO HB hbase hl h
  · obtain ⟨i0, hi, hzz⟩ := Option.map_eq_some_iff.1 hinfo
    simp only [Prod.mk.injEq] at hzz
    obtain ⟨hz0, hz1, hz2⟩ := hzz
    have hcs : cs = [.int .u8 p] := hp
    subst hcs
    have hl4 : (3 + 1) * i0.bytes ≤ 140737488355328 := by rw [hz2]; exact hl
    have hold : (W.alloc (.cells ([Value.int .u8 p].toArray) e)).heap[g]? = some (.cells #[.int .u8 100, .int .u8 97, .int .u8 121] e (3, 4)) := (heap_alloc_old W _ (Array.getElem?_eq_some_iff.1 hcell).1).trans hcell
    have hr := run_append_grow (P := P) (W.alloc (.cells ([Value.int .u8 p].toArray) e)) t o.type e i0 z ht hi hz0 ⟨g, 0, none⟩ 3 3 [.int .u8 100, .int .u8 97, .int .u8 121] (by rw [hz1]; rfl)
      (fun j u hj => by
        have hadd : (⟨g, 0, none⟩ : Addr).add j = ⟨g, j, none⟩ := by unfold Addr.add; split <;> simp_all
        rw [hadd]
        show (W.alloc _).cell? _ = _
        unfold World.cell?
        rw [hold]
        have : (#[Value.int .u8 100, .int .u8 97, .int .u8 121] : Array Value)[j]? = some u := by rw [← Array.getElem?_toList]; exact hj
        simpa using this)
      ⟨W.heap.size, 0, none⟩ 1 1 [.int .u8 p] (by rw [hz1]; rfl)
      (by simpa using World.news_of_block (cs := [Value.int .u8 p].toArray) (t := e) (fr := (0, 0)) (heap_alloc_new W (.cells [Value.int .u8 p].toArray e))) (by omega) (by omega) (growslice_fits (by omega) hl4)
    have hgr : (W.alloc (.cells ([Value.int .u8 p].toArray) e)).grownBy ((W.alloc (.cells ([Value.int .u8 p].toArray) e)).drew.alloc (.cells (([.int .u8 100, .int .u8 97, .int .u8 121] : List Value).toArray ++ [Value.int .u8 p].toArray ++ Builtin.zeroCells z.cells (grownCap (W.alloc (.cells ([Value.int .u8 p].toArray) e)) (3 + 1) 3 e - (3 + 1))) e)) (some g) :=
      ⟨rfl, rfl, rfl, by simp, fun k hk _ => heap_alloc_old (W.alloc (.cells ([Value.int .u8 p].toArray) e)).drew _ hk⟩
    refine wpList_plain hgd fun K hK => ?_
    unfold Oper.wp execOp
    simp only [ho, resolve, invoke, builtin, Sem.run_bind, Sem.run_pure, Result.andThen_ok, List.map_toArray, List.map_cons, List.map_nil, hs, hx, hr]
    refine hK _ _ (h _ _ ?_ ((HB.alloc hbase _).grown hgr (by simp; omega) (fun k hk => by cases hk; exact hg)) (World.grownBy.trans (World.grownBy_alloc W _ _) hgr) (Or.inr ⟨(W.alloc (.cells ([Value.int .u8 p].toArray) e)).heap.size, by simp [Value.ownBlock], by simp⟩))
    refine Kd.R_of_own (enc := Value.int .u8) (xs := [100, 97, 121] ++ [p]) ⟨rfl, Or.inr ⟨_, _, _, rfl, by simp; omega, heap_alloc_new _ _, grownCap_ge _ _ _ _, grownCap_le_maxLen _ _ _ _ (by simp [maxLen]), ?_, ?_⟩⟩ (fun k hk => hfresh k (by
      have : (W.alloc (.cells ([Value.int .u8 p].toArray) e)).heap.size = k := by simpa [Value.ownBlock] using hk
      rw [← this]; simp))
    · have hge := grownCap_ge (W.alloc (.cells ([Value.int .u8 p].toArray) e)) (3 + 1) 3 e
      simp only [Array.size_append, List.size_toArray, size_zeroCells, hz, List.length_cons, List.length_nil]
      omega
    · generalize Builtin.zeroCells z.cells _ = zs
      rw [Array.toList_append, Array.toList_append]
      rfl
end
end Go.Proofs.YtppojbafagneeaaDoor.PTab
