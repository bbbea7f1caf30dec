/- Own text: an append to a row that shares its block with an elder one; copy of rows of structs. -/
import Derived.Test.YtknlcpojglhbnaaDoorQCodeEncodesx0
import Derived.Maps.AppendAt
import Derived.Laws.Append
import Derived.Laws.AppendOwn
import Derived.Deep.AppendLies
import Derived.Laws.IdiomCopy
namespace Go.Proofs.YtknlcpojglhbnaaDoor.PCodeEncodes
open Go.RowKit Go.Proofs.YtknlcpojglhbnaaDoorW.PrintWords Go.Proofs.YtknlcpojglhbnaaDoorW.PrintLast Go.Proofs.YtknlcpojglhbnaaDoorW.PrintMore
attribute [local go_sem] max2_int min2_int max_two min_two max_three min_three max_four min_four   -- for this text's walks alone
set_option linter.unusedVariables false
set_option linter.unusedSimpArgs false
/-! A row that shares its block with one that grows ('grown := a', then append to grown) -/
/-- What an append onto a row of one's own leaves: in its place, or in a block that is made now, all old blocks as they were. -/
def Went (W w1 : World) (v v1 : Value) (n : Nat) : Prop :=
  (∃ g cap, v = .slice (some ⟨g, 0, none⟩) n cap ∧ v1 = .slice (some ⟨g, 0, none⟩) (n + 1) cap) ∨ (W.grownBy w1 none ∧ ∃ b, v1.ownBlock = some b ∧ W.heap.size ≤ b)
section
variable {P : Program} (w : World)
theorem run_append_went (base : Nat) (t ty e : TypeId) (i : TypeInfo) (z : Value) (bytes : Nat) (ht : P.underlying t = some (.slice e)) (hi : P.info? e = some i) (hz : i.zero = some z)
    (hsize : i.size = 1) (hby : i.bytes = bytes) (hzs : z.cells.size = 1) (v : Value) (n : Nat) (xs : List Value) (hown : w.ownsRow base e 1 v n xs)
    (a : Addr) (c : Nat) (u : Value) (hnews : ∀ j y, [u][j]? = some y → w.cell? (a.add j) = some y) (h1 : u.oneCell' = true)
    (h63 : n + 1 ≤ maxLen) (hbytes : (n + 1) * bytes ≤ 140737488355328) (hbase : base ≤ w.heap.size) :
    ∃ v' w', (Builtin.append_ #[t, t] ty #[v, .slice (some a) 1 c]).run P w = .ok v' w' ∧ w'.ownsRow base e 1 v' (n + 1) (xs ++ [u]) ∧ w.grownBy w' v.ownBlock ∧
      (v'.ownBlock = v.ownBlock ∨ v'.ownBlock = some w.heap.size) ∧ Went w w' v v' n := by
  have hm : n + 1 ≤ 9223372036854775807 := by simp only [maxLen] at h63; omega
  have h1' : ∀ y ∈ [u], y.oneCell' = true := by intro y hy; rw [List.mem_singleton] at hy; rw [hy]; exact h1
  obtain ⟨v', w', hr, h2, h3, h4, h5⟩ := run_append_own_at (P := P) w base t ty e i z 1 bytes ht hi hz hsize hby hzs (by omega) v n xs hown a 1 c [u] (by simp) hnews h1' h63 hbytes hbase
  refine ⟨v', w', hr, h2, h3, h5, ?_⟩
  rcases hown.2 with ⟨rfl, rfl⟩ | ⟨g, cap, cur, rfl, hbg, hg, hnc, hcm, hcs, htake⟩
  · have hr' := run_append_nil (P := P) w t ty e i z ht hi hz a 1 c [u] (by simp [hsize]) hnews (by omega) (by omega) (by rw [hby]; omega)
    rw [hr] at hr'
    injection hr' with e1 e2
    subst e1 e2
    exact .inr ⟨⟨rfl, rfl, rfl, by simp, fun k hk _ => heap_alloc_old w.drew _ hk⟩, _, rfl, Nat.le_refl _⟩
  · by_cases hroom : n + 1 ≤ cap
    · have hr' := run_append_room (P := P) w t ty e i ht hi g n cap cur hg a 1 c [u] (by simp [hsize]) hnews h1' hroom (by rw [hsize]; simp; omega)
      rw [hr] at hr'
      injection hr' with e1 e2
      exact .inl ⟨g, cap, rfl, e1⟩
    · have hr' := run_append_grow (P := P) w t ty e i z ht hi hz ⟨g, 0, none⟩ n cap xs (by rw [hown.1, hsize]) (hown.cells (g := g) rfl) a 1 c [u] (by simp [hsize]) hnews (by omega) (by omega) (growslice_fits (by omega) (by rw [hby]; exact hbytes))
      rw [hr] at hr'
      injection hr' with e1 e2
      subst e1 e2
      exact .inr ⟨⟨rfl, rfl, rfl, by simp, fun k hk _ => heap_alloc_old w.drew _ hk⟩, _, rfl, Nat.le_refl _⟩
end
section
variable {P : Program} {ops : Array Oper} {rest : List Oper} {o : Oper} {a : Act} {Q : Exit → Act → World → Prop}
/-- append of one byte onto a row of one's own, as Kd.R_append, with what it leaves. -/
theorem R_append_went {w0 W : World} (base : Nat) (hgd : o.guard = none) (s x : Operand) (t e : TypeId) (z : Value) (bytes : Nat)
    (ho : o.op = .call { callee := .builtin .append, args := #[s, x], argTypes := #[t, t] })
    (ht : P.underlying t = some (.slice e)) (hinfo : (P.info? e).map (fun i => (i.zero, i.size, i.bytes)) = some (some z, 1, bytes)) (hz : z.cells.size = 1) (hb0 : 0 < bytes)
    (v : Value) (xs : List Int) (p : Int) (ok : Nat → Prop) (hs : a.eval s = v) (hx : a.eval x = .slice (some ⟨W.heap.size, 0, none⟩) 1 1) (hfresh : ∀ k, W.heap.size ≤ k → ok k)
    (HO : (Kd.int .u8).R e W base ok v xs) (HB : Below base w0 W) (hbase : base ≤ W.heap.size) (hl : (xs.length + 1) * bytes ≤ 140737488355328)
    (h : ∀ v1 w1, (Kd.int .u8).R e w1 base ok v1 (xs ++ [p]) → Below base w0 w1 → W.grownBy w1 v.ownBlock → (v1.ownBlock = v.ownBlock ∨ ∃ b, v1.ownBlock = some b ∧ W.heap.size ≤ b) → Went W w1 v v1 xs.length → wpList P ops Q rest (a.put o.dst v1) w1) :
    wpList P ops Q (o :: rest) a (W.alloc (.cells #[.int .u8 p] e)) := by
  obtain ⟨i0, hi, hzz⟩ := Option.map_eq_some_iff.1 hinfo
  simp only [Prod.mk.injEq] at hzz
  obtain ⟨hz0, hz1, hz2⟩ := hzz
  obtain ⟨h0, inner, hown, hr⟩ := HO
  have hlen : xs.length + 1 ≤ 140737488355328 := Nat.le_trans (Nat.le_mul_of_pos_right _ hb0) hl
  refine wpList_plain hgd fun K hK => ?_
  obtain ⟨v1, w1, hrun, h2, h3, h5, h6⟩ := run_append_went (P := P) (W.alloc (.cells #[.int .u8 p] e)) base t o.type e i0 z bytes ht hi hz0 hz1 hz2 hz v xs.length inner (hown.alloc _) ⟨W.heap.size, 0, none⟩ 1 (.int .u8 p)
    (by simpa using World.news_of_block (cs := #[.int .u8 p]) (t := e) (fr := (0, 0)) (heap_alloc_new W (.cells #[.int .u8 p] e))) rfl (by simp only [maxLen]; omega) hl (by simp; omega)
  have hsz : W.heap.size ≤ (W.alloc (.cells #[.int .u8 p] e)).heap.size := by simp
  have hg : W.grownBy w1 v.ownBlock := World.grownBy.trans (World.grownBy_alloc W _ _) h3
  have hat : v1.ownBlock = v.ownBlock ∨ ∃ b, v1.ownBlock = some b ∧ W.heap.size ≤ b := by
    rcases h5 with h5 | h5
    · exact .inl h5
    · exact .inr ⟨_, h5, hsz⟩
  have hw : Went W w1 v v1 xs.length := by
    rcases h6 with h6 | ⟨h6, b, h7, h8⟩
    · exact .inl h6
    · exact .inr ⟨World.grownBy.trans (World.grownBy_alloc W _ _) h6, b, h7, Nat.le_trans hsz h8⟩
  have hR := Kd.R_appended (d := Kd.int .u8) (p := p) (okp := fun _ => False) h0 hr rfl (fun _ hk => hk.elim) hfresh h2 hg hat
  unfold Oper.wp execOp
  simp only [ho, resolve, invoke, builtin, Sem.run_bind, Sem.run_pure, Result.andThen_ok, List.map_toArray, List.map_cons, List.map_nil, hs, hx, hrun]
  exact hK _ _ (h v1 w1 hR (((HB.alloc hbase _).grown h3 (by simp; omega) (own_base hown))) hg hat hw)
end
/-- The elder row is another's beginning, or lies elsewhere. -/
def Sh (va vg : Value) (xs ys : List Int) : Prop :=
  va.ownBlock = none ∨ va.ownBlock ≠ vg.ownBlock ∨ ∃ g c, va = .slice (some ⟨g, 0, none⟩) xs.length c ∧ vg = .slice (some ⟨g, 0, none⟩) ys.length c ∧ xs = ys.take xs.length
theorem Sh.refl {e : TypeId} {W : World} {base : Nat} {ok : Nat → Prop} {va : Value} {xs : List Int} (h : (Kd.int .u8).R e W base ok va xs) : Sh va va xs xs := by
  obtain ⟨h0, inner, hown, hr⟩ := h
  rcases hown.2 with ⟨rfl, -⟩ | ⟨g, cap, cur, rfl, -⟩
  · exact .inl rfl
  · exact .inr (.inr ⟨g, cap, rfl, rfl, by rw [List.take_length]⟩)
theorem R_view {e : TypeId} {W : World} {base g n m c : Nat} {ok ok' : Nat → Prop} {ys : List Int} (h : (Kd.int .u8).R e W base ok (.slice (some ⟨g, 0, none⟩) m c) ys) (hn : n ≤ ys.length) (hok : ok' g) :
    (Kd.int .u8).R e W base ok' (.slice (some ⟨g, 0, none⟩) n c) (ys.take n) := by
  obtain ⟨h0, inner, hown, hr⟩ := h
  have hl : (ys.take n).length = n := by rw [List.length_take]; omega
  refine ⟨fun k hk => by simp [Value.ownBlock] at hk; rw [← hk]; exact hok, inner.take n, ?_, ?_⟩
  · rcases hown.2 with ⟨hv, -⟩ | ⟨g', cap, cur, hv, hbg, hg, hnc, hcm, hcs, htake⟩
    · cases hv
    · injection hv with e1 e2 e3
      injection e1 with e1
      injection e1 with e1
      subst e1 e2 e3
      have hil : inner.length = ys.length := by have := hown.1; simp [Kd.int, Kd.scalar] at this; exact this
      refine ⟨by rw [hl, List.length_take]; simp [Kd.int, Kd.scalar]; omega, .inr ⟨g, c, cur, by rw [hl], hbg, hg, by rw [hl]; omega, hcm, hcs, ?_⟩⟩
      rw [hl]
      have hd : (Kd.int .u8).sz = 1 := rfl
      rw [hd] at htake ⊢
      simp only [Nat.mul_one] at htake ⊢
      rw [← htake, List.take_take, Nat.min_eq_left hn]
  · have hq : (Kd.int .u8).sz = 1 := rfl
    refine ⟨by rw [hq, Nat.mul_one, hl, List.length_take]; have := hr.1; rw [hq, Nat.mul_one] at this; omega, fun j p hj => ?_⟩
    rw [hq]
    rw [List.getElem?_take] at hj
    split at hj
    · rename_i hjn
      have := hr.2 j p hj
      rw [hq] at this
      rw [List.drop_take, List.take_take, Nat.min_eq_left (by omega)]
      exact this
    · cases hj
theorem R_none {e : TypeId} {W w1 : World} {base : Nat} {ok : Nat → Prop} {va : Value} {xs : List Int} (h : (Kd.int .u8).R e W base ok va xs) (hv : va.ownBlock = none) : (Kd.int .u8).R e w1 base ok va xs := by
  obtain ⟨h0, inner, hown, hr⟩ := h
  rcases hown.2 with ⟨rfl, hx⟩ | ⟨g, cap, cur, rfl, -⟩
  · have : xs = [] := List.eq_nil_of_length_eq_zero hx
    subst this
    exact Kd.R_nil _ _ _ _ _
  · simp [Value.ownBlock] at hv
/-- Behind an append to the row that grows, the elder row reads as it did. -/
theorem Sh.append {e : TypeId} {W w1 : World} {base : Nat} {ok okg : Nat → Prop} {va vg v1 : Value} {xs ys : List Int} {p : Int} (h : (Kd.int .u8).R e W base ok va xs) (hs : Sh va vg xs ys)
    (hR : (Kd.int .u8).R e w1 base okg v1 (ys ++ [p])) (hg : W.grownBy w1 vg.ownBlock) (hat : v1.ownBlock = vg.ownBlock ∨ ∃ b, v1.ownBlock = some b ∧ W.heap.size ≤ b) (hw : Went W w1 vg v1 ys.length) :
    (Kd.int .u8).R e w1 base ok va xs ∧ Sh va v1 xs (ys ++ [p]) := by
  have hb := Kd.R_bound h
  rcases hs with hs | hs | ⟨g, c, rfl, rfl, hx⟩
  · exact ⟨R_none h hs, .inl hs⟩
  · have hk : ∀ k, va.ownBlock = some k → some k ≠ vg.ownBlock := fun k hk he => hs (hk.trans he)
    have h1 : (Kd.int .u8).R e W base (fun k => ok k ∧ some k ≠ vg.ownBlock) va xs := by
      obtain ⟨h0, r⟩ := h
      exact ⟨fun k hk' => ⟨h0 k hk', hk k hk'⟩, r⟩
    have h2 := Kd.R_after h1 hg hat
    refine ⟨Kd.R_mono h2 (fun _ hk => hk.1), ?_⟩
    by_cases hn : va.ownBlock = none
    · exact .inl hn
    · obtain ⟨k, hk'⟩ := Option.ne_none_iff_exists'.1 hn
      exact .inr (.inl (fun he => (h2.1 k hk').2 (hk'.symm.trans he)))
  · rcases hw with ⟨g', cap, e1, e2⟩ | ⟨hn, b, hb1, hb2⟩
    · injection e1 with e1 _ e3
      injection e1 with e1
      injection e1 with e1
      subst e1 e3
      subst e2
      have hl : xs.length ≤ ys.length := by have := congrArg List.length hx; rw [List.length_take] at this; omega
      have hv := R_view (n := xs.length) (ok' := ok) hR (by rw [List.length_append]; omega) (h.1 g rfl)
      have ht : (ys ++ [p]).take xs.length = xs := by rw [List.take_append_of_le_length hl]; exact hx.symm
      rw [ht] at hv
      exact ⟨hv, .inr (.inr ⟨g, c, rfl, by rw [List.length_append]; rfl, ht.symm⟩)⟩
    · refine ⟨Kd.R_grown h hn (fun _ _ => by simp), .inr (.inl ?_)⟩
      rw [hb1]
      intro he
      have := Kd.R_lt h g rfl
      have e4 : g = b := by simpa [Value.ownBlock] using he
      omega
/-! copy, of rows of structs of three ints -/
section
variable {P : Program} {ops : Array Oper} {rest : List Oper} {o : Oper} {a : Act} {Q : Exit → Act → World → Prop}
theorem run_copy_rows (w : World) (dT sT ty elem : TypeId) (b o dLen dCap : Nat) (a : Addr) (sLen sCap size : Nat) (cs : List Value)
    (hu : P.underlying dT = some (.slice elem)) (hs : (P.info? elem).map (·.size) = some size) (hn : cs.length = Nat.min sLen dLen * size)
    (hsrc : ∀ j v, cs[j]? = some v → w.cell? (a.add j) = some v) (hc : ∀ j, j < cs.length → (w.cell? ⟨b, o + j, none⟩).isSome = true) (hf : ∀ j, j < cs.length → w.frozen? ⟨b, o + j, none⟩ = false) (h1 : ∀ v ∈ cs, v.oneCell' = true) :
    (Builtin.copy_ #[dT, sT] ty #[.slice (some ⟨b, o, none⟩) dLen dCap, .slice (some a) sLen sCap]).run P w = .ok (goInt ((Nat.min sLen dLen : Nat) : Int)) (w.setCells b o cs) := by
  have hl := run_loadCells_list (P := P) w a cs hsrc
  have hst := run_storeCells_cells (P := P) b o cs 0 w (by simpa using hc) (by simpa using hf) h1
  cases hq : P.info? elem with
  | none => simp [hq] at hs
  | some i =>
    have hi : i.size = size := by simpa [hq] using hs
    simp [Builtin.copy_, run_underlying hu, Builtin.lenOf, Builtin.firstCells, sizeOf, typeInfo, hq, hi, ← hn, hl, hst]
theorem run_copy_rows0 (w : World) (dT sT ty elem : TypeId) (d a : Option Addr) (dLen dCap sLen sCap size : Nat) (hu : P.underlying dT = some (.slice elem)) (hs : (P.info? elem).map (·.size) = some size) (hn : Nat.min sLen dLen = 0) :
    (Builtin.copy_ #[dT, sT] ty #[.slice d dLen dCap, .slice a sLen sCap]).run P w = .ok (goInt 0) w := by
  cases hq : P.info? elem with
  | none => simp [hq] at hs
  | some i =>
    cases a with
    | none => cases d <;> simp [Builtin.copy_, run_underlying hu, Builtin.lenOf, Builtin.firstCells, sizeOf, typeInfo, hq, hn, loadCells, loadCellsFrom, storeCells]
    | some a => cases d <;> simp [Builtin.copy_, run_underlying hu, Builtin.lenOf, Builtin.firstCells, sizeOf, typeInfo, hq, hn, loadCells, loadCellsFrom, storeCells]
theorem k27_one {w : World} {x : S27} {cs : List Value} (h : k27.K w x cs) : ∀ v ∈ cs, v.oneCell' = true := by
  rw [k27_open h]
  intro v hv
  rcases List.mem_cons.1 hv with rfl | hv
  · rfl
  · rcases List.mem_cons.1 hv with rfl | hv
    · rfl
    · rw [List.mem_singleton.1 hv]; rfl
theorem reps_one {w : World} : ∀ (n : Nat) {ps : List S27} {cs : List Value}, ps.length = n → Reps (k27.K w) 3 ps cs → ∀ v ∈ cs, v.oneCell' = true := by
  intro n
  induction n with
  | zero =>
    intro ps cs hn h v hv
    have := h.1
    rw [hn, Nat.zero_mul] at this
    rw [List.eq_nil_of_length_eq_zero this] at hv
    cases hv
  | succ n ih =>
    intro ps cs hn h v hv
    match ps, hn with
    | p :: ps, hn =>
      have h0 := h.2 0 p rfl
      rw [Nat.zero_mul, List.drop_zero] at h0
      have h1 := Kd.reps_drop (m := 1) h
      rw [Nat.one_mul] at h1
      rw [← List.take_append_drop 3 cs] at hv
      rcases List.mem_append.1 hv with hv | hv
      · exact k27_one h0 v hv
      · exact ih (by simpa using hn) h1 v hv
theorem R_copy27 {w0 W : World} (base : Nat) (hgd : o.guard = none) (s x : Operand) (t t' e : TypeId)
    (ho : o.op = .call { callee := .builtin .copy, args := #[s, x], argTypes := #[t, t'] }) (ht : P.underlying t = some (.slice e)) (hinfo : (P.info? e).map (·.size) = some 3)
    (v : Value) (xs ys : List S27) (A : Option Addr) (m c : Nat) (ok : Nat → Prop) (hs : a.eval s = v) (hx : a.eval x = .slice A m c)
    (HO : k27.R e W base ok v xs) (HR : k27.C W A m ys) (HB : Below base w0 W) (hbase : base ≤ W.heap.size) (hle : m ≤ xs.length)
    (h : ∀ w1, k27.R e w1 base ok v (ys ++ xs.drop m) → Below base w0 w1 → W.grownBy w1 v.ownBlock → wpList P ops Q rest (a.put o.dst (.int .i64 (m : Int))) w1) :
    wpList P ops Q (o :: rest) a W := by
  have hm : ys.length = m := HR.1
  obtain ⟨h0, inner, hown, hr⟩ := HO
  have hq : k27.sz = 3 := rfl
  rw [hq] at hown hr
  have fin : ∀ w1, (Builtin.copy_ #[t, t'] o.type #[v, .slice A m c]).run P W = .ok (goInt (m : Int)) w1 → k27.R e w1 base ok v (ys ++ xs.drop m) → W.grownBy w1 v.ownBlock → wpList P ops Q (o :: rest) a W := by
    intro w1 hrun hrow hg
    refine wpList_plain hgd fun K hK => ?_
    unfold Oper.wp execOp
    simp only [ho, resolve, invoke, builtin, Sem.run_bind, Sem.run_pure, Result.andThen_ok, List.map_toArray, List.map_cons, List.map_nil, hs, hx, hrun]
    exact hK _ _ (h w1 hrow (HB.grown hg hbase (own_base hown)) hg)
  have hmin : Nat.min m xs.length = m := Nat.min_eq_left hle
  by_cases hm0 : m = 0
  · obtain ⟨A', c', hv⟩ := own_slice hown
    have hy : ys = [] := List.eq_nil_of_length_eq_zero (by omega)
    refine fin W ?_ (by rw [hm0, hy, List.drop_zero, List.nil_append]; exact ⟨h0, inner, hown, hr⟩) (World.grownBy.refl W _)
    rw [hv, hm0]
    exact run_copy_rows0 (P := P) W t t' o.type e A' A xs.length c' 0 c 3 ht hinfo (Nat.zero_min _)
  · obtain ⟨ad, hA, -⟩ := HR.2.2 (by omega)
    subst hA
    obtain ⟨cs, hcs1, hcs2⟩ := ReadsRow.inner_ HR
    rw [hq] at hcs1
    rcases hown.2 with ⟨_, hx0⟩ | ⟨g, cap, cur, hv, hb, hh, hnc, hcm, hcs, htake⟩
    · omega
    have hcl : cs.length = m * 3 := by rw [hcs1.1, hm]
    have hrun := run_copy_rows (P := P) W t t' o.type e g 0 xs.length cap ad m c 3 cs ht hinfo (by rw [hmin, hcl]) hcs2
      (fun j hj => by rw [cell_of_row W g _ cur e (0, 0) hh]; simp; omega) (fun j _ => blk_frozen hh _) (reps_one _ rfl hcs1)
    rw [hmin] at hrun
    obtain ⟨cur', h3, h4, h5⟩ := setCells_row cs 0 W cur hh (by rw [hcl]; omega)
    obtain ⟨s1, s2, s3, s4⟩ := setCells_same g cs 0 W
    have hln : (ys ++ xs.drop m).length = xs.length := by rw [List.length_append, List.length_drop]; omega
    refine fin _ (by rw [hv, hrun]) ⟨h0, cs ++ inner.drop (m * 3), ?_, ?_⟩ ⟨s1, s2, s3, by rw [s4]; exact Nat.le_refl _, fun k _ hk => setCells_far _ _ k (fun he => hk (by rw [hv, he]; simp [Value.ownBlock]))⟩
    · rw [hq, hln]
      refine ⟨by rw [List.length_append, List.length_drop, hown.1, hcl]; omega, .inr ⟨g, cap, cur', hv, hb, h3, hnc, hcm, by rw [h4, hcs], ?_⟩⟩
      rw [h5, List.take_zero, List.nil_append, hcl, Nat.zero_add, List.take_append, hcl, List.take_of_length_le (by rw [hcl]; omega)]
      congr 1
      rw [← htake, List.drop_take]
    · rw [hq]
      refine Kd.reps_append (Reps.imp_ hcs1 (fun p c hp => ?_)) (Reps.imp_ (Kd.reps_drop hr) (fun p c hp => ?_))
      · rw [k27_open hp]; exact k27_mkM _ _ _ p
      · rw [k27_openM hp]; exact k27_mkM _ _ _ p
end
theorem le_make (n : Nat) (j : Int) (h : wrap64 ((n : Int) + 3) = j) (h0 : 0 ≤ j) (hn : n ≤ 9223372036854775807) : n ≤ j.toNat := by
  unfold wrap64 at h; omega
end Go.Proofs.YtknlcpojglhbnaaDoor.PCodeEncodes
