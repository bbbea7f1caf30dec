/- Own text, for this claim: a row that is told shorter than it is: what lies behind its end is known (VM); rows in structs likewise (cutx). -/
import Derived.Test.YtjhbiennmambkaaDoorZPAsmInstrsx1
import Derived.Test.YtjhbiennmambkaaDoorZW
namespace Go.Proofs.YtjhbiennmambkaaDoor.PAsm
open Go.RowKit Go.Proofs.YtjhbiennmambkaaDoorW.PrintWords Go.Proofs.YtjhbiennmambkaaDoorW.PrintLast Go.Proofs.YtjhbiennmambkaaDoorW.PrintMore Go.Proofs.YtjhbiennmambkaaDoor.PAsmInstrs
set_option linter.unusedVariables false
set_option linter.unusedSimpArgs false
def VM {α : Type} (n : Nat) (d : Kd α) (_e : Nat) (W : World) (_base : Nat) (ok : Nat → Prop) (v : Value) (fs : List α) : Prop := ∃ A c, v = .slice A n c ∧ n ≤ fs.length ∧ fs.length ≤ c ∧ Kd.F d W ok A fs.length fs
section
open Kd
variable {α : Type} {d : Kd α} {e base base' N m c g : Nat} {ok ok' S : Nat → Prop} {w W w1 : World} {A : Option Addr} {u v v1 : Value} {xs : List α}
theorem VM_map (h : VM N d e W base ok v xs) (hF : ∀ A, F d W ok A xs.length xs → F d w1 ok' A xs.length xs) : VM N d e w1 base' ok' v xs := by
 obtain ⟨A, c, hv, hn, hl, hf⟩ := h
 exact ⟨A, c, hv, hn, hl, hF A hf⟩
theorem VM_mk {A : Option Addr} {n : Nat} (hn : N = n) (hN : N ≤ xs.length) (hl : xs.length ≤ c) (hf : F d W ok A xs.length xs) : VM N d e W base ok (.slice A n c) xs := ⟨A, c, by rw [hn], hN, hl, hf⟩
theorem VM_at (h : VM N d e W base ok (.slice A m c) xs) : N = m ∧ N ≤ xs.length ∧ xs.length ≤ c ∧ F d W ok A xs.length xs := by
 obtain ⟨A', c', hv, hn, hl, hf⟩ := h
 injection hv with ha hn' hc
 subst ha; subst hc
 exact ⟨hn'.symm, hn, hl, hf⟩
theorem VM_reads' (h : VM N d e W base ok (.slice A m c) xs) : N = m ∧ xs.length ≤ c ∧ F d W ok A xs.length xs := ⟨(VM_at h).1, (VM_at h).2.2.1, (VM_at h).2.2.2⟩
theorem VM_F (h : VM N d e W base ok (.slice A m c) xs) : F d W ok A xs.length xs := (VM_at h).2.2.2
theorem VM_mono (h : VM N d e W base ok v xs) (hok : ∀ k, ok k → ok' k) : VM N d e W base ok' v xs := VM_map h (fun _ hf => F_mono hf hok)
theorem VM_alloc (h : VM N d e W base ok v xs) (o : Obj) : VM N d e (W.alloc o) base ok v xs := VM_map h (fun _ hf => F_alloc hf o)
theorem VM_drew (h : VM N d e W base ok v xs) : VM N d e W.drew base ok v xs := VM_map h (fun _ hf => F_drew hf)
theorem VM_drewN (h : VM N d e W base ok v xs) (m : Nat) : VM N d e (W.drewN m) base ok v xs := VM_map h (fun _ hf => F_drewN hf m)
theorem VM_far (h : VM N d e W base ok v xs) {p : Addr} (hok : ∀ k, ok k → k ≠ p.block) (u : Value) : VM N d e (W.setCell p u) base ok v xs := VM_map h (fun _ hf => F_far hf hok u)
theorem VM_elder' (h : VM N d e W base ok v xs) (hbase : ∀ k, u.ownBlock = some k → W.heap.size ≤ k) (hb : Below W.heap.size W w1) : VM N d e w1 base (fun k => ok k ∧ some k ≠ u.ownBlock) v xs := VM_map h (fun _ hf => F_elder' hf hbase hb)
theorem VM_afterv (h : VM N d e W base (fun k => ok k ∧ some k ≠ v.ownBlock) u xs) (hg : W.grownBy w1 v.ownBlock) (hat : v1.ownBlock = v.ownBlock ∨ ∃ b, v1.ownBlock = some b ∧ W.heap.size ≤ b) : VM N d e w1 base (fun k => ok k ∧ some k ≠ v1.ownBlock) u xs := VM_map h (fun _ hf => F_after hf hg hat)
end
def cutx {α : Type} (e : Nat) (d : Kd α) : Kd (List α) where
 sz := 1
 E := e :: d.E
 K := fun w xs cs => ∃ A c, cs = [.slice A (xs.length - 2) c] ∧ xs.length ≤ c ∧ d.C w A xs.length xs
 M := fun w base ok xs cs => ∃ A c, cs = [.slice A (xs.length - 2) c] ∧ d.R e w base ok (.slice A xs.length c) xs
 K_len := by
  rintro w x cs ⟨A, c, rfl, _⟩
  rfl
 K_one := by
  rintro w x cs ⟨A, c, rfl, _⟩ u hu
  rw [List.mem_singleton.1 hu]
  rfl
 K_below := by
  rintro w w1 x cs hb ⟨A, c, rfl, hl, hr⟩
  exact ⟨A, c, rfl, hl, Kd.C_below hr hb⟩
 K_of_M := by
  rintro w base ok x cs ⟨A, c, rfl, h⟩
  obtain ⟨A', c', e', hl, hr⟩ := Kd.R_reads h
  injection e' with f1 f2 f3
  subst f1 f3
  exact ⟨A, c, rfl, hl, hr⟩
 M_mono := by
  rintro w base ok ok' x cs hok ⟨A, c, rfl, h⟩
  exact ⟨A, c, rfl, Kd.R_mono h hok⟩
 M_bound := by
  rintro w base ok x cs ⟨A, c, rfl, h⟩
  exact ⟨A, c, rfl, Kd.R_bound h⟩
 M_move := by
  rintro w w1 base ok x cs hm ⟨A, c, rfl, h⟩
  exact ⟨A, c, rfl, Kd.R_move h hm⟩
 M_lower := by
  rintro w base base' ok x cs hb ⟨A, c, rfl, h⟩
  exact ⟨A, c, rfl, Kd.R_lower h hb⟩
def k39x : Kd S39 := Kd.iso (Kd.pair (Kd.int .i64) (cutx 28 k28)) (fun x : S39 => (x.f0, x.f1))
theorem kx_mk (w : World) (x : S39) {A1 : Option Addr} {c1 : Nat} (l1 : x.f1.length ≤ c1) (g1 : k28.C w A1 x.f1.length x.f1) : k39x.K w x [.int .i64 x.f0, .slice A1 (x.f1.length - 2) c1] := ⟨[.int .i64 x.f0], [.slice A1 (x.f1.length - 2) c1], rfl, rfl, ⟨A1, c1, rfl, l1, g1⟩⟩
theorem kx_open {w : World} {x : S39} {cs : List Value} (h : k39x.K w x cs) : ∃ A1 c1, cs = [.int .i64 x.f0, .slice A1 (x.f1.length - 2) c1] ∧ x.f1.length ≤ c1 ∧ k28.C w A1 x.f1.length x.f1 := by
 obtain ⟨c1, c2, rfl, h1, A1, c, h2, h3, h4⟩ := h
 have h1 : c1 = [.int .i64 x.f0] := h1
 subst h1 h2
 exact ⟨A1, c, rfl, h3, h4⟩
theorem k39x_mkF (W : World) (ok : Nat → Prop) (x : S39) {A1 : Option Addr} {c1 : Nat} (l1 : x.f1.length ≤ c1) (g1 : Kd.F k28 W ok A1 x.f1.length x.f1) : Kd.FK k39x W ok x [.int .i64 x.f0, .slice A1 (x.f1.length - 2) c1] := fun W2 hW => kx_mk W2 x l1 (g1 W2 hW)
end Go.Proofs.YtjhbiennmambkaaDoor.PAsm
