/- The walk of cpu.jump. -/
import Derived.Test.YtghjjemnegncpaaGreatDoorOther
import Derived.Deep.QuietTactic
import Derived.BigQuiet
set_option linter.unusedSimpArgs false
set_option linter.unusedVariables false
set_option linter.unusedSectionVars false
namespace Go.Proofs.YtghjjemnegncpaaGreatDoor
open Go.RowKit

/-- What 'jump' comes to. -/
def JumpIs (g : Nat) (R : List Int) (pc : Int) (w : World) (e : Ending) (w' : World) : Prop :=
  e = .returned (.tuple #[]) ∧ rowAt w' g (regs R pc) 104 ∧ w.grownBy w' (some g)

section
variable (g : Nat) (R : List Int) (pc a b c p : Int) (w : World) (hR : Pl.goodR R) (ha : 0 ≤ a ∧ a < 8) (hb : 0 ≤ b ∧ b < 8) (hc : -32768 ≤ c ∧ c ≤ 32767) (hp : 0 ≤ p ∧ p < 4294967296)
  (hrow : rowAt w g (regs R pc) 104)
include hR ha hb hc hp hrow

set_option maxHeartbeats 800000 in
set_option maxRecDepth 100000 in
theorem jump_jump : Calls Tryz.prog 88 #[.pointer (some ⟨g, 0, none⟩), insV ⟨19, a, b, c⟩, .int .u32 p] w (JumpIs g R (Pl.m32 (p + c)) w) := by
  have hg := hrow.lt
  have ca : w.cell? ⟨g, a.toNat, none⟩ = some (.int .u32 (Pl.rg R a)) := (hrow.cell _).trans (regs_at hR.1 ha.1 ha.2)
  have cb : w.cell? ⟨g, b.toNat, none⟩ = some (.int .u32 (Pl.rg R b)) := (hrow.cell _).trans (regs_at hR.1 hb.1 hb.2)
  have c8 : w.cell? ⟨g, 8, none⟩ = some (.int .u32 pc) := (hrow.cell _).trans (regs_pc hR.1)
  have fa : w.frozen? ⟨g, a.toNat, none⟩ = false := hrow.frozen _
  have f8 : w.frozen? ⟨g, 8, none⟩ = false := hrow.frozen _
  go_enter Tryz.func88, Tryz.ntmps88
  go_wp2
  refine bodyPost_end (results_none rfl _ _ _) rfl ⟨rfl, ?_, ?_⟩
  · rw [← regs_setpc (pc := pc) hR.1]
    simp only [Pl.m32]
    (repeat (first | ((with_reducible apply rowAt.new); simp; done) | (with_reducible apply rowAt.drew) | (with_reducible apply rowAt.drewN) | (with_reducible apply rowAt.alloc) | (with_reducible apply rowAt.setRow_same) | ((with_reducible apply rowAt.so); (· (first | (simp; done) | (simp; omega) | omega))) | (with_reducible apply rowAt.set10) | (with_reducible apply rowAt.set8) | (with_reducible apply rowAt.set4) | (with_reducible apply rowAt.set2) | (with_reducible apply rowAt.set) | ((with_reducible apply rowAt.co); (· (first | (simp; done) | (simp; omega) | omega))) | assumption))
  · (repeat (first | (with_reducible exact gb_refl _ _) | (with_reducible apply gb_drew) | (with_reducible apply gb_drewN) | (with_reducible apply gb_alloc) | ((with_reducible apply gb_cell); (· (first | exact .inl rfl | (right; (first | (simp; done) | (simp; omega) | omega))))) | ((with_reducible apply gb_row); (· (first | exact .inl rfl | (right; (first | (simp; done) | (simp; omega) | omega))))) | assumption))

set_option maxHeartbeats 800000 in
set_option maxRecDepth 100000 in
theorem jump_zero : Calls Tryz.prog 88 #[.pointer (some ⟨g, 0, none⟩), insV ⟨20, a, b, c⟩, .int .u32 p] w (JumpIs g R (if Pl.rg R a = 0 then Pl.m32 (p + c) else pc) w) := by
  by_cases hz : Pl.rg R a = 0
  · rw [if_pos hz]
    have hz' : (Pl.rg R a == 0) = true := by simpa using hz
    clear hz
    have hg := hrow.lt
    have ca : w.cell? ⟨g, a.toNat, none⟩ = some (.int .u32 (Pl.rg R a)) := (hrow.cell _).trans (regs_at hR.1 ha.1 ha.2)
    have cb : w.cell? ⟨g, b.toNat, none⟩ = some (.int .u32 (Pl.rg R b)) := (hrow.cell _).trans (regs_at hR.1 hb.1 hb.2)
    have c8 : w.cell? ⟨g, 8, none⟩ = some (.int .u32 pc) := (hrow.cell _).trans (regs_pc hR.1)
    have fa : w.frozen? ⟨g, a.toNat, none⟩ = false := hrow.frozen _
    have f8 : w.frozen? ⟨g, 8, none⟩ = false := hrow.frozen _
    go_enter Tryz.func88, Tryz.ntmps88
    go_wp2
    go_region
    go_wp2
    refine bodyPost_end (results_none rfl _ _ _) rfl ⟨rfl, ?_, ?_⟩
    · rw [← regs_setpc (pc := pc) hR.1]
      simp only [Pl.m32]
      (repeat (first | ((with_reducible apply rowAt.new); simp; done) | (with_reducible apply rowAt.drew) | (with_reducible apply rowAt.drewN) | (with_reducible apply rowAt.alloc) | (with_reducible apply rowAt.setRow_same) | ((with_reducible apply rowAt.so); (· (first | (simp; done) | (simp; omega) | omega))) | (with_reducible apply rowAt.set10) | (with_reducible apply rowAt.set8) | (with_reducible apply rowAt.set4) | (with_reducible apply rowAt.set2) | (with_reducible apply rowAt.set) | ((with_reducible apply rowAt.co); (· (first | (simp; done) | (simp; omega) | omega))) | assumption))
    · (repeat (first | (with_reducible exact gb_refl _ _) | (with_reducible apply gb_drew) | (with_reducible apply gb_drewN) | (with_reducible apply gb_alloc) | ((with_reducible apply gb_cell); (· (first | exact .inl rfl | (right; (first | (simp; done) | (simp; omega) | omega))))) | ((with_reducible apply gb_row); (· (first | exact .inl rfl | (right; (first | (simp; done) | (simp; omega) | omega))))) | assumption))
  · rw [if_neg hz]
    have hz' : (Pl.rg R a == 0) = false := by simpa using hz
    clear hz
    have hg := hrow.lt
    have ca : w.cell? ⟨g, a.toNat, none⟩ = some (.int .u32 (Pl.rg R a)) := (hrow.cell _).trans (regs_at hR.1 ha.1 ha.2)
    have cb : w.cell? ⟨g, b.toNat, none⟩ = some (.int .u32 (Pl.rg R b)) := (hrow.cell _).trans (regs_at hR.1 hb.1 hb.2)
    have c8 : w.cell? ⟨g, 8, none⟩ = some (.int .u32 pc) := (hrow.cell _).trans (regs_pc hR.1)
    have fa : w.frozen? ⟨g, a.toNat, none⟩ = false := hrow.frozen _
    have f8 : w.frozen? ⟨g, 8, none⟩ = false := hrow.frozen _
    go_enter Tryz.func88, Tryz.ntmps88
    go_wp2
    go_region
    go_wp2
    go_quiet (fail)
    go_wp2
    refine bodyPost_end (results_none rfl _ _ _) rfl ⟨rfl, ?_, ?_⟩
    · (repeat (first | ((with_reducible apply rowAt.new); simp; done) | (with_reducible apply rowAt.drew) | (with_reducible apply rowAt.drewN) | (with_reducible apply rowAt.alloc) | (with_reducible apply rowAt.setRow_same) | ((with_reducible apply rowAt.so); (· (first | (simp; done) | (simp; omega) | omega))) | (with_reducible apply rowAt.set10) | (with_reducible apply rowAt.set8) | (with_reducible apply rowAt.set4) | (with_reducible apply rowAt.set2) | (with_reducible apply rowAt.set) | ((with_reducible apply rowAt.co); (· (first | (simp; done) | (simp; omega) | omega))) | assumption))
    · (repeat (first | (with_reducible exact gb_refl _ _) | (with_reducible apply gb_drew) | (with_reducible apply gb_drewN) | (with_reducible apply gb_alloc) | ((with_reducible apply gb_cell); (· (first | exact .inl rfl | (right; (first | (simp; done) | (simp; omega) | omega))))) | ((with_reducible apply gb_row); (· (first | exact .inl rfl | (right; (first | (simp; done) | (simp; omega) | omega))))) | assumption))

set_option maxHeartbeats 800000 in
set_option maxRecDepth 100000 in
theorem jump_less : Calls Tryz.prog 88 #[.pointer (some ⟨g, 0, none⟩), insV ⟨21, a, b, c⟩, .int .u32 p] w (JumpIs g R (if Pl.rg R a < Pl.rg R b then Pl.m32 (p + c) else pc) w) := by
  by_cases hz : Pl.rg R a < Pl.rg R b
  · rw [if_pos hz]
    have hz' : decide (Pl.rg R a < Pl.rg R b) = true := by simpa using hz
    have hg := hrow.lt
    have ca : w.cell? ⟨g, a.toNat, none⟩ = some (.int .u32 (Pl.rg R a)) := (hrow.cell _).trans (regs_at hR.1 ha.1 ha.2)
    have cb : w.cell? ⟨g, b.toNat, none⟩ = some (.int .u32 (Pl.rg R b)) := (hrow.cell _).trans (regs_at hR.1 hb.1 hb.2)
    have c8 : w.cell? ⟨g, 8, none⟩ = some (.int .u32 pc) := (hrow.cell _).trans (regs_pc hR.1)
    have fa : w.frozen? ⟨g, a.toNat, none⟩ = false := hrow.frozen _
    have f8 : w.frozen? ⟨g, 8, none⟩ = false := hrow.frozen _
    go_enter Tryz.func88, Tryz.ntmps88
    go_wp2
    go_quiet (fail)
    go_wp2
    go_region
    go_wp2
    refine bodyPost_end (results_none rfl _ _ _) rfl ⟨rfl, ?_, ?_⟩
    · rw [← regs_setpc (pc := pc) hR.1]
      simp only [Pl.m32]
      (repeat (first | ((with_reducible apply rowAt.new); simp; done) | (with_reducible apply rowAt.drew) | (with_reducible apply rowAt.drewN) | (with_reducible apply rowAt.alloc) | (with_reducible apply rowAt.setRow_same) | ((with_reducible apply rowAt.so); (· (first | (simp; done) | (simp; omega) | omega))) | (with_reducible apply rowAt.set10) | (with_reducible apply rowAt.set8) | (with_reducible apply rowAt.set4) | (with_reducible apply rowAt.set2) | (with_reducible apply rowAt.set) | ((with_reducible apply rowAt.co); (· (first | (simp; done) | (simp; omega) | omega))) | assumption))
    · (repeat (first | (with_reducible exact gb_refl _ _) | (with_reducible apply gb_drew) | (with_reducible apply gb_drewN) | (with_reducible apply gb_alloc) | ((with_reducible apply gb_cell); (· (first | exact .inl rfl | (right; (first | (simp; done) | (simp; omega) | omega))))) | ((with_reducible apply gb_row); (· (first | exact .inl rfl | (right; (first | (simp; done) | (simp; omega) | omega))))) | assumption))
  · rw [if_neg hz]
    have hz' : decide (Pl.rg R a < Pl.rg R b) = false := by simpa using hz
    have hg := hrow.lt
    have ca : w.cell? ⟨g, a.toNat, none⟩ = some (.int .u32 (Pl.rg R a)) := (hrow.cell _).trans (regs_at hR.1 ha.1 ha.2)
    have cb : w.cell? ⟨g, b.toNat, none⟩ = some (.int .u32 (Pl.rg R b)) := (hrow.cell _).trans (regs_at hR.1 hb.1 hb.2)
    have c8 : w.cell? ⟨g, 8, none⟩ = some (.int .u32 pc) := (hrow.cell _).trans (regs_pc hR.1)
    have fa : w.frozen? ⟨g, a.toNat, none⟩ = false := hrow.frozen _
    have f8 : w.frozen? ⟨g, 8, none⟩ = false := hrow.frozen _
    go_enter Tryz.func88, Tryz.ntmps88
    go_wp2
    go_quiet (fail)
    go_wp2
    go_region
    go_wp2
    refine bodyPost_end (results_none rfl _ _ _) rfl ⟨rfl, ?_, ?_⟩
    · (repeat (first | ((with_reducible apply rowAt.new); simp; done) | (with_reducible apply rowAt.drew) | (with_reducible apply rowAt.drewN) | (with_reducible apply rowAt.alloc) | (with_reducible apply rowAt.setRow_same) | ((with_reducible apply rowAt.so); (· (first | (simp; done) | (simp; omega) | omega))) | (with_reducible apply rowAt.set10) | (with_reducible apply rowAt.set8) | (with_reducible apply rowAt.set4) | (with_reducible apply rowAt.set2) | (with_reducible apply rowAt.set) | ((with_reducible apply rowAt.co); (· (first | (simp; done) | (simp; omega) | omega))) | assumption))
    · (repeat (first | (with_reducible exact gb_refl _ _) | (with_reducible apply gb_drew) | (with_reducible apply gb_drewN) | (with_reducible apply gb_alloc) | ((with_reducible apply gb_cell); (· (first | exact .inl rfl | (right; (first | (simp; done) | (simp; omega) | omega))))) | ((with_reducible apply gb_row); (· (first | exact .inl rfl | (right; (first | (simp; done) | (simp; omega) | omega))))) | assumption))

set_option maxHeartbeats 800000 in
set_option maxRecDepth 100000 in
theorem jump_call : Calls Tryz.prog 88 #[.pointer (some ⟨g, 0, none⟩), insV ⟨22, a, b, c⟩, .int .u32 p] w (JumpIs g (Pl.sr R a (Pl.m32 (p + 4))) (Pl.m32 (p + c)) w) := by
  have hg := hrow.lt
  have ca : w.cell? ⟨g, a.toNat, none⟩ = some (.int .u32 (Pl.rg R a)) := (hrow.cell _).trans (regs_at hR.1 ha.1 ha.2)
  have cb : w.cell? ⟨g, b.toNat, none⟩ = some (.int .u32 (Pl.rg R b)) := (hrow.cell _).trans (regs_at hR.1 hb.1 hb.2)
  have c8 : w.cell? ⟨g, 8, none⟩ = some (.int .u32 pc) := (hrow.cell _).trans (regs_pc hR.1)
  have fa : w.frozen? ⟨g, a.toNat, none⟩ = false := hrow.frozen _
  have f8 : w.frozen? ⟨g, 8, none⟩ = false := hrow.frozen _
  go_enter Tryz.func88, Tryz.ntmps88
  go_wp2
  go_quiet (fail)
  go_wp2
  go_quiet (fail)
  go_wp2
  go_region
  go_wp2
  refine bodyPost_end (results_none rfl _ _ _) rfl ⟨rfl, ?_, ?_⟩
  · rw [← regs_setpc (pc := pc) (by simp [sr_len, hR.1]), ← regs_set (pc := pc) hR.1 ha.1 ha.2]
    simp only [Pl.m32]
    (repeat (first | ((with_reducible apply rowAt.new); simp; done) | (with_reducible apply rowAt.drew) | (with_reducible apply rowAt.drewN) | (with_reducible apply rowAt.alloc) | (with_reducible apply rowAt.setRow_same) | ((with_reducible apply rowAt.so); (· (first | (simp; done) | (simp; omega) | omega))) | (with_reducible apply rowAt.set10) | (with_reducible apply rowAt.set8) | (with_reducible apply rowAt.set4) | (with_reducible apply rowAt.set2) | (with_reducible apply rowAt.set) | ((with_reducible apply rowAt.co); (· (first | (simp; done) | (simp; omega) | omega))) | assumption))
  · (repeat (first | (with_reducible exact gb_refl _ _) | (with_reducible apply gb_drew) | (with_reducible apply gb_drewN) | (with_reducible apply gb_alloc) | ((with_reducible apply gb_cell); (· (first | exact .inl rfl | (right; (first | (simp; done) | (simp; omega) | omega))))) | ((with_reducible apply gb_row); (· (first | exact .inl rfl | (right; (first | (simp; done) | (simp; omega) | omega))))) | assumption))

set_option maxHeartbeats 800000 in
set_option maxRecDepth 100000 in
theorem jump_back : Calls Tryz.prog 88 #[.pointer (some ⟨g, 0, none⟩), insV ⟨23, a, b, c⟩, .int .u32 p] w (JumpIs g R (Pl.rg R a) w) := by
  have hg := hrow.lt
  have ca : w.cell? ⟨g, a.toNat, none⟩ = some (.int .u32 (Pl.rg R a)) := (hrow.cell _).trans (regs_at hR.1 ha.1 ha.2)
  have cb : w.cell? ⟨g, b.toNat, none⟩ = some (.int .u32 (Pl.rg R b)) := (hrow.cell _).trans (regs_at hR.1 hb.1 hb.2)
  have c8 : w.cell? ⟨g, 8, none⟩ = some (.int .u32 pc) := (hrow.cell _).trans (regs_pc hR.1)
  have fa : w.frozen? ⟨g, a.toNat, none⟩ = false := hrow.frozen _
  have f8 : w.frozen? ⟨g, 8, none⟩ = false := hrow.frozen _
  go_enter Tryz.func88, Tryz.ntmps88
  go_wp2
  go_quiet (fail)
  go_wp2
  go_quiet (fail)
  go_wp2
  go_region
  go_wp2
  refine bodyPost_end (results_none rfl _ _ _) rfl ⟨rfl, ?_, ?_⟩
  · rw [← regs_setpc (pc := pc) hR.1]
    (repeat (first | ((with_reducible apply rowAt.new); simp; done) | (with_reducible apply rowAt.drew) | (with_reducible apply rowAt.drewN) | (with_reducible apply rowAt.alloc) | (with_reducible apply rowAt.setRow_same) | ((with_reducible apply rowAt.so); (· (first | (simp; done) | (simp; omega) | omega))) | (with_reducible apply rowAt.set10) | (with_reducible apply rowAt.set8) | (with_reducible apply rowAt.set4) | (with_reducible apply rowAt.set2) | (with_reducible apply rowAt.set) | ((with_reducible apply rowAt.co); (· (first | (simp; done) | (simp; omega) | omega))) | assumption))
  · (repeat (first | (with_reducible exact gb_refl _ _) | (with_reducible apply gb_drew) | (with_reducible apply gb_drewN) | (with_reducible apply gb_alloc) | ((with_reducible apply gb_cell); (· (first | exact .inl rfl | (right; (first | (simp; done) | (simp; omega) | omega))))) | ((with_reducible apply gb_row); (· (first | exact .inl rfl | (right; (first | (simp; done) | (simp; omega) | omega))))) | assumption))
end
end Go.Proofs.YtghjjemnegncpaaGreatDoor
