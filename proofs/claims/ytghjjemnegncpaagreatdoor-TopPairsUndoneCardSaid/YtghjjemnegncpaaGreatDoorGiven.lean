/- What the laws are given, and small facts of what a run hands back. -/
import Derived.Test.YtghjjemnegncpaaGreatDoorEqual
import Derived.Test.YtghjjemnegncpaaGreatDoorStraight
import Derived.Deep.RegionWith
import Derived.Deep.Slices
set_option linter.unusedSimpArgs false
set_option linter.unusedVariables false
set_option linter.unusedSectionVars false
set_option linter.unnecessarySimpa false
namespace Go.Proofs.YtghjjemnegncpaaGreatDoor
open Go.RowKit

theorem first_not {α : Type} (p : α → Prop) (ws : List α) (h : ¬ ∀ i ∈ ws, p i) : ∃ j, ∃ (hj : j < ws.length), (∀ k i, k < j → ws[k]? = some i → p i) ∧ ¬ p ws[j] := by
  induction ws with
  | nil => exact absurd (fun i hi => by cases hi) h
  | cons x l ih =>
    by_cases hx : p x
    · obtain ⟨j, hj, h1, h2⟩ := ih (fun hl => h fun i hi => by
        rcases List.mem_cons.1 hi with rfl | hi
        · exact hx
        · exact hl i hi)
      refine ⟨j + 1, by simp; omega, fun k i hk hi => ?_, by simpa using h2⟩
      cases k with
      | zero => simp at hi; subst hi; exact hx
      | succ k => exact h1 k i (by omega) (by simpa using hi)
    · exact ⟨0, by simp, fun k i hk => by omega, by simpa using hx⟩

theorem Bd.kept {w w' : World} {v : Value} {D : List Int} (H : Bd w v D) (h : ∀ k, k < w.heap.size → w'.heap[k]? = w.heap[k]?) : Bd w' v D := by
  obtain ⟨a, c, hv, hn, hk⟩ := H
  refine ⟨a, c, hv, hn, fun k hkl => ?_⟩
  obtain ⟨ad, ha, hc⟩ := hk k hkl
  exact ⟨ad, ha, cell_kept h hc⟩

namespace Pl
theorem run_good {ws : List Ins} (hv : ∀ i ∈ ws, valid i) : ∀ (n : Nat) (s : St) (x : List Int × List Int), goodR s.R → (0 ≤ s.pc ∧ s.pc < 4294967296) → goodD s.D → run n ws s = some x → goodR x.1 ∧ goodD x.2 ∧ x.2.length = s.D.length
  | 0, _, _, _, _, _, h => by cases h
  | n + 1, s, x, hR, hp, hD, h => by
    rw [run] at h
    rcases ite_case h with ⟨_, h⟩ | ⟨_, h⟩
    · cases h; exact ⟨hR, hD, rfl⟩
    · cases hs : step ws s with
      | none => rw [hs] at h; cases h
      | some s' =>
        rw [hs] at h
        have hg := step_good hv hR hp hD hs
        have := run_good hv n s' x hg.1 hg.2.1 hg.2.2.1 h
        exact ⟨this.1, this.2.1, this.2.2.trans hg.2.2.2⟩
end Pl

/-- What wRun hands back, in one form. -/
theorem RunIs.any {ws : List Pl.Ins} {R D : List Int} {e : Ending} {w' : World} (h : RunIs ws R D e w') (hv : ∀ i ∈ ws, Pl.valid i) (hR : Pl.goodR R) (hD : Pl.goodD D) :
    ∃ R1 dv1, e = .returned (.tuple #[.agg (arr R1), dv1, .bool (Pl.run 400 ws ⟨R, 64, D⟩).isSome]) ∧ R1.length = 8 ∧
      ∀ x, Pl.run 400 ws ⟨R, 64, D⟩ = some x → R1 = x.1 ∧ Bd w' dv1 x.2 ∧ Pl.goodR x.1 ∧ Pl.goodD x.2 ∧ x.2.length = D.length := by
  cases hx : Pl.run 400 ws ⟨R, 64, D⟩ with
  | none =>
    obtain ⟨R1, dv1, he, h8⟩ := h.2 hx
    exact ⟨R1, dv1, he, h8, fun x hx => by cases hx⟩
  | some x =>
    obtain ⟨dv1, he, hb⟩ := h.1 x.1 x.2 hx
    have hg := Pl.run_good hv 400 _ x hR (by dsimp only; omega) hD hx
    exact ⟨x.1, dv1, he, hg.1.1, fun y hy => by cases hy; exact ⟨rfl, hb, hg.1, hg.2.1, hg.2.2⟩⟩

theorem slice_head (a : Option Addr) (n c k : Nat) (h : k ≤ c) (W : World) : (Instr.slice 41 (.slice a n c) none (some (.int .i64 k)) none).run Tryz.prog W = .ok (.slice (if c = 0 then a else a.map (·.add 0)) k c) W := by
  have h1 : (0 : Int) ≤ (k : Int) ∧ (k : Int) ≤ (c : Int) := by omega
  have cells28 : ∀ W : World, (Go.sizeOf 23).run Tryz.prog W = .ok 1 W := fun _ => by kernel_rfl
  simp [Instr.slice, Instr.sliceBounds, Instr.sliceBound, run_underlying Tryz.underlying41, cells28, asIntOf, h1]
  intro h'; omega
theorem slice_tail (a : Option Addr) (n c k : Nat) (h : k ≤ n) (hc : n ≤ c) (W : World) : (Instr.slice 41 (.slice a n c) (some (.int .i64 k)) none none).run Tryz.prog W = .ok (.slice (if c = k then a else a.map (·.add k)) (n - k) (c - k)) W := by
  have h1 : (0 : Int) ≤ (k : Int) ∧ (k : Int) ≤ (n : Int) := by omega
  have cells28 : ∀ W : World, (Go.sizeOf 23).run Tryz.prog W = .ok 1 W := fun _ => by kernel_rfl
  simp [Instr.slice, Instr.sliceBounds, Instr.sliceBound, run_underlying Tryz.underlying41, cells28, asIntOf, h1]
  intro h'; omega

theorem owns_cap {w : World} {B : Nat} {e : TypeId} {a : Option Addr} {n c : Nat} {xs : List Value} (H : w.ownsRow B e 1 (.slice a n c) n xs) : n ≤ c := by
  rcases H.2 with ⟨hv, h0⟩ | ⟨g, cap, cur, hv, hB, hg, hcap, _⟩
  · omega
  · cases hv; exact hcap
theorem owns_blk {w : World} {B : Nat} {e : TypeId} {v : Value} {n : Nat} {xs : List Value} (H : w.ownsRow B e 1 v n xs) : ∀ a n c, v = .slice (some a) n c → a.block < w.heap.size := by
  intro a n c h
  rcases H.2 with ⟨hv, h0⟩ | ⟨g, cap, cur, hv, hB, hg, hcap, _⟩
  · rw [hv] at h; cases h
  · rw [hv] at h; cases h; exact (Array.getElem?_eq_some_iff.1 hg).1
theorem add_blk (a : Addr) (k : Nat) : (a.add k).block = a.block := by unfold Addr.add; split <;> rfl

theorem wd_head {w : World} {a : Option Addr} {n c k : Nat} {xs : List Int} (H : Wd w (.slice a n c) xs) (hk : k ≤ xs.length) : Wd w (.slice (if c = 0 then a else a.map (·.add 0)) k c) (xs.take k) := by
  obtain ⟨a', c', h, hc⟩ := H
  cases h
  have hl : (xs.take k).length = k := by simp; omega
  refine ⟨_, _, by rw [hl], fun j hj => ?_⟩
  rw [hl] at hj
  obtain ⟨ad, rfl, hcell⟩ := hc j (by omega)
  have e : (xs.take k).getD j 0 = xs.getD j 0 := by simp [List.getD_eq_getElem?_getD, List.getElem?_take, hj]
  rw [e]
  split
  · exact ⟨ad, rfl, hcell⟩
  · exact ⟨ad.add 0, rfl, by rw [Go.Deep.add_add, Nat.zero_add]; exact hcell⟩
theorem wd_tail {w : World} {a : Option Addr} {n c k : Nat} {xs : List Int} (H : Wd w (.slice a n c) xs) (hk : k ≤ xs.length) (hcap : xs.length ≤ c) : Wd w (.slice (if c = k then a else a.map (·.add k)) (n - k) (c - k)) (xs.drop k) := by
  obtain ⟨a', c', h, hc⟩ := H
  cases h
  have hl : (xs.drop k).length = xs.length - k := by simp
  refine ⟨_, _, by rw [hl], fun j hj => ?_⟩
  rw [hl] at hj
  obtain ⟨ad, rfl, hcell⟩ := hc (k + j) (by omega)
  have e : (xs.drop k).getD j 0 = xs.getD (k + j) 0 := by simp [List.getD_eq_getElem?_getD, List.getElem?_drop]
  rw [e, if_neg (by omega)]
  exact ⟨ad.add k, rfl, by rw [Go.Deep.add_add]; exact hcell⟩

theorem row8z {w : World} {g : Nat} {t : TypeId} (h : rowAt w g zeros8 t) : g < w.heap.size ∧ (∀ j, w.frozen? ⟨g, j, none⟩ = false) ∧ w.cell? ⟨g, 0, none⟩ = some (.int .u32 0) ∧ w.cell? ⟨g, 1, none⟩ = some (.int .u32 0) ∧ w.cell? ⟨g, 2, none⟩ = some (.int .u32 0) ∧
    w.cell? ⟨g, 3, none⟩ = some (.int .u32 0) ∧ w.cell? ⟨g, 4, none⟩ = some (.int .u32 0) ∧ w.cell? ⟨g, 5, none⟩ = some (.int .u32 0) ∧ w.cell? ⟨g, 6, none⟩ = some (.int .u32 0) ∧ w.cell? ⟨g, 7, none⟩ = some (.int .u32 0) :=
  ⟨h.lt, fun j => h.frozen j, h.cell 0, h.cell 1, h.cell 2, h.cell 3, h.cell 4, h.cell 5, h.cell 6, h.cell 7⟩

/-- What is written into a block that holds no bytes turns no bytes. -/
theorem Bd.off {w w' : World} {v : Value} {D : List Int} (H : Bd w v D) {g : Nat} {cs : Array Value} {t : TypeId} (hr : rowAt w g cs t) (hno : ∀ (j : Nat) (z : Int), cs[j]? ≠ some (.int .u8 z)) (h : ∀ k, k < w.heap.size → k ≠ g → w'.heap[k]? = w.heap[k]?) : Bd w' v D := by
  obtain ⟨a, c, hv, hn, hk⟩ := H
  refine ⟨a, c, hv, hn, fun k hkl => ?_⟩
  obtain ⟨ad, ha, hc⟩ := hk k hkl
  refine ⟨ad, ha, ?_⟩
  have hlt := World.block_lt_of_cell? w _ hc
  refine (World.cell?_of_block (w := w) (h _ hlt ?_)).trans hc
  intro e
  have hs := World.cell?_spot hc
  have e2 : ad.add k = ⟨g, (ad.add k).off, none⟩ := by
    cases hh : ad.add k with
    | mk b o sp => rw [hh] at e hs; dsimp only at e hs; rw [e, hs]
  rw [e2, hr.cell] at hc
  exact hno _ _ hc

theorem of_row8 {goal : Prop} {w w' : World} {B g : Nat} {t : TypeId} (hb : Below B w w') (h : rowAt w g zeros8 t) (hg : g < B) (k : g < w'.heap.size → (∀ j, w'.frozen? ⟨g, j, none⟩ = false) → w'.cell? ⟨g, 0, none⟩ = some (.int .u32 0) → w'.cell? ⟨g, 1, none⟩ = some (.int .u32 0) → w'.cell? ⟨g, 2, none⟩ = some (.int .u32 0) →
    w'.cell? ⟨g, 3, none⟩ = some (.int .u32 0) → w'.cell? ⟨g, 4, none⟩ = some (.int .u32 0) → w'.cell? ⟨g, 5, none⟩ = some (.int .u32 0) → w'.cell? ⟨g, 6, none⟩ = some (.int .u32 0) → w'.cell? ⟨g, 7, none⟩ = some (.int .u32 0) → rowAt w' g zeros8 t → goal) : goal := by
  have h' := rowAt.below h hb hg
  exact k h'.lt (fun j => h'.frozen j) (h'.cell 0) (h'.cell 1) (h'.cell 2) (h'.cell 3) (h'.cell 4) (h'.cell 5) (h'.cell 6) (h'.cell 7) h'

/-- The same, the registers one by one. -/
def RunIs8 (ws : List Pl.Ins) (R D : List Int) (e : Ending) (w' : World) : Prop :=
  ∃ t0 t1 t2 t3 t4 t5 t6 t7 dv1, e = .returned (.tuple #[.agg #[.int .u32 t0, .int .u32 t1, .int .u32 t2, .int .u32 t3, .int .u32 t4, .int .u32 t5, .int .u32 t6, .int .u32 t7], dv1, .bool (Pl.run 400 ws ⟨R, 64, D⟩).isSome]) ∧
    ∀ x, Pl.run 400 ws ⟨R, 64, D⟩ = some x → [t0, t1, t2, t3, t4, t5, t6, t7] = x.1 ∧ Bd w' dv1 x.2 ∧ Pl.goodR x.1 ∧ Pl.goodD x.2 ∧ x.2.length = D.length
theorem RunIs.any8 {ws : List Pl.Ins} {R D : List Int} {e : Ending} {w' : World} (h : RunIs ws R D e w') (hv : ∀ i ∈ ws, Pl.valid i) (hR : Pl.goodR R) (hD : Pl.goodD D) : RunIs8 ws R D e w' := by
  obtain ⟨R1, dv1, he, h8, hx⟩ := h.any hv hR hD
  obtain ⟨s0, s1, s2, s3, s4, s5, s6, s7, rfl⟩ := eight h8
  exact ⟨s0, s1, s2, s3, s4, s5, s6, s7, dv1, he, hx⟩

/-- What the law takes. -/
structure Given (w : World) (lv dv : Value) (ws : List Pl.Ins) (R D : List Int) : Prop where
  env : Env w
  list : Il w lv ws
  len : ws.length ≤ 4398046511104
  ops : ∀ i ∈ ws, i64 i.op
  regs : Pl.goodR R
  data : Bd w dv D
  dlen : D.length ≤ 140737488355328
  bytes : ∀ k : Nat, k < D.length → 0 ≤ D.getD k 0 ∧ D.getD k 0 < 256

theorem il_at {w : World} {la : Option Addr} {lc : Nat} {ws : List Pl.Ins} (H : Il w (.slice la ws.length lc) ws) : ∀ (k : Nat) (i : Pl.Ins), ws[k]? = some i → ∃ b off, la = some ⟨b, off, none⟩ ∧ w.cell? ⟨b, off + k * 4, none⟩ = some (.int .i64 i.op) ∧
    w.cell? ⟨b, off + k * 4 + 1, none⟩ = some (.int .i64 i.a) ∧ w.cell? ⟨b, off + k * 4 + 2, none⟩ = some (.int .i64 i.b) ∧ w.cell? ⟨b, off + k * 4 + 3, none⟩ = some (.int .i64 i.c) := by
  obtain ⟨a, c, h, _, hk⟩ := H
  cases h
  exact hk

theorem row8f {w w' : World} {g : Nat} {t : TypeId} {v0 v1 v2 v3 v4 v5 v6 v7 : Value} (hb : Below w.heap.size w w') (h0 : rowAt w g #[v0, v1, v2, v3, v4, v5, v6, v7] t) :
    rowAt w' g #[v0, v1, v2, v3, v4, v5, v6, v7] t ∧ g < w'.heap.size ∧ (∀ j, w'.frozen? ⟨g, j, none⟩ = false) ∧ w'.cell? ⟨g, 0, none⟩ = some v0 ∧ w'.cell? ⟨g, 1, none⟩ = some v1 ∧ w'.cell? ⟨g, 2, none⟩ = some v2 ∧ w'.cell? ⟨g, 3, none⟩ = some v3 ∧
    w'.cell? ⟨g, 4, none⟩ = some v4 ∧ w'.cell? ⟨g, 5, none⟩ = some v5 ∧ w'.cell? ⟨g, 6, none⟩ = some v6 ∧ w'.cell? ⟨g, 7, none⟩ = some v7 := by
  have h := rowAt.below h0 hb h0.lt
  exact ⟨h, h.lt, fun j => h.frozen j, h.cell 0, h.cell 1, h.cell 2, h.cell 3, h.cell 4, h.cell 5, h.cell 6, h.cell 7⟩

theorem of_row8n {goal : Prop} {w w' W : World} {g : Nat} {t : TypeId} {v0 v1 v2 v3 v4 v5 v6 v7 : Value} (hW : Below w.heap.size w W) (hb : Below W.heap.size W w') (h0 : rowAt w g #[v0, v1, v2, v3, v4, v5, v6, v7] t)
    (k : rowAt w' g #[v0, v1, v2, v3, v4, v5, v6, v7] t → g < w'.heap.size → (∀ j, w'.frozen? ⟨g, j, none⟩ = false) → w'.cell? ⟨g, 0, none⟩ = some v0 → w'.cell? ⟨g, 1, none⟩ = some v1 → w'.cell? ⟨g, 2, none⟩ = some v2 → w'.cell? ⟨g, 3, none⟩ = some v3 →
    w'.cell? ⟨g, 4, none⟩ = some v4 → w'.cell? ⟨g, 5, none⟩ = some v5 → w'.cell? ⟨g, 6, none⟩ = some v6 → w'.cell? ⟨g, 7, none⟩ = some v7 → Below w.heap.size w w' → goal) : goal := by
  have hB := hW.trans (hb.mono hW.size)
  obtain ⟨h1, h2, h3, c0, c1, c2, c3, c4, c5, c6, c7⟩ := row8f hB h0
  exact k h1 h2 h3 c0 c1 c2 c3 c4 c5 c6 c7 hB

end Go.Proofs.YtghjjemnegncpaaGreatDoor
