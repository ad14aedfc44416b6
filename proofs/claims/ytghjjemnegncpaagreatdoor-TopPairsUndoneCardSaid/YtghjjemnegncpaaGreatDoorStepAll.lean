/- Step is the plain machine's step. -/
import Derived.Test.YtghjjemnegncpaaGreatDoorStep
set_option linter.unusedSimpArgs false
set_option linter.unusedVariables false
set_option linter.unusedSectionVars false
namespace Go.Proofs.YtghjjemnegncpaaGreatDoor
open Go.RowKit

namespace Pl
theorem step1_alu (op a b c : Int) (R D : List Int) (pc : Int) (h5 : 5 ≤ op) (h13 : op ≤ 13) :
    step1 ⟨op, a, b, c⟩ ⟨R, pc, D⟩ = (alu op (rg R a) (rg R b)).map fun v => ⟨sr R a v, m32 (pc + 4), D⟩ := by
  unfold step1 ex
  dsimp only
  rw [if_neg (by omega), if_neg (by omega), if_neg (by omega), if_neg (by omega), if_neg (by omega), if_neg (by omega), if_neg (by omega), if_neg (by omega), if_pos ⟨h5, h13⟩, Option.map_map]
  rfl

theorem step1_good {i : Ins} {s s' : St} (hi : 0 ≤ i.a ∧ i.a < 8 ∧ 0 ≤ i.b ∧ i.b < 8) (hR : goodR s.R) (hp : 0 ≤ s.pc ∧ s.pc < 4294967296) (hD : goodD s.D) (h : step1 i s = some s') :
    goodR s'.R ∧ (0 ≤ s'.pc ∧ s'.pc < 4294967296) ∧ goodD s'.D ∧ s'.D.length = s.D.length := by
  have ha := rg_bd hR hi.1 hi.2.1
  unfold step1 at h
  rcases ite_case h with ⟨_, h⟩ | ⟨_, h⟩
  · cases h; exact ⟨hR, m32_bd _, hD, rfl⟩
  rcases ite_case h with ⟨_, h⟩ | ⟨_, h⟩
  · cases h
    refine ⟨hR, ?_, hD, rfl⟩
    dsimp only
    split <;> exact m32_bd _
  rcases ite_case h with ⟨_, h⟩ | ⟨_, h⟩
  · cases h
    refine ⟨hR, ?_, hD, rfl⟩
    dsimp only
    split <;> exact m32_bd _
  rcases ite_case h with ⟨_, h⟩ | ⟨_, h⟩
  · cases h; exact ⟨good_sr hR _ (m32_bd _).1 (m32_bd _).2, m32_bd _, hD, rfl⟩
  rcases ite_case h with ⟨_, h⟩ | ⟨_, h⟩
  · cases h; exact ⟨hR, ha, hD, rfl⟩
  simp only [Option.map_eq_some_iff] at h
  obtain ⟨x, hx, rfl⟩ := h
  have := ex_good hi hR hD hx
  exact ⟨this.1, m32_bd _, this.2.1, this.2.2⟩

theorem step_good {ws : List Ins} {s s' : St} (hv : ∀ i ∈ ws, valid i) (hR : goodR s.R) (hp : 0 ≤ s.pc ∧ s.pc < 4294967296) (hD : goodD s.D) (h : step ws s = some s') :
    goodR s'.R ∧ (0 ≤ s'.pc ∧ s'.pc < 4294967296) ∧ goodD s'.D ∧ s'.D.length = s.D.length := by
  unfold step at h
  rcases ite_case h with ⟨_, h⟩ | ⟨_, h⟩
  · split at h
    · rename_i i hi
      have := hv i (List.mem_of_getElem? hi)
      exact step1_good ⟨this.2.2.1, this.2.2.2.1, this.2.2.2.2.1, this.2.2.2.2.2.1⟩ hR hp hD h
    · cases h
  · cases h
end Pl

theorem words_at (ws : List Pl.Ins) (j : Nat) (i : Pl.Ins) (h : ws[j]? = some i) : (ws.map Pl.encW).getD j 0 = Pl.encW i := by
  simp [List.getD_eq_getElem?_getD, h]

theorem words_bd (ws : List Pl.Ins) (hv : ∀ i ∈ ws, Pl.valid i) : ∀ k, k < (ws.map Pl.encW).length → 0 ≤ (ws.map Pl.encW).getD k 0 ∧ (ws.map Pl.encW).getD k 0 < 4294967296 := by
  intro k hk
  simp only [List.length_map] at hk
  rw [words_at ws k ws[k] (by simp [hk])]
  exact Pl.encW_bd _ (hv _ (List.getElem_mem hk))

section
variable {m g : Nat} {wv dv : Value} {D R : List Int} {pc : Int} {w : World} {ws : List Pl.Ins} (hv : ∀ i ∈ ws, Pl.valid i) (H : Room w m g wv dv (ws.map Pl.encW) D) (hR : Pl.goodR R) (hD : Pl.goodD D) (hp : 0 ≤ pc ∧ pc < 4294967296)
include hv H hR hD hp

set_option maxHeartbeats 4000000 in
set_option maxRecDepth 100000 in
theorem Step_is :
    (∀ s', Pl.step ws ⟨R, pc, D⟩ = some s' → Calls Tryz.prog 64 #[.agg (regs R pc), busV m] w (StepOk w m g wv dv (ws.map Pl.encW) s')) ∧
    (Pl.step ws ⟨R, pc, D⟩ = none → Calls Tryz.prog 64 #[.agg (regs R pc), busV m] w (StepTrap w g)) := by
  by_cases h : pc % 4 = 0 ∧ 64 ≤ pc ∧ pc - 64 < 4 * ws.length
  · obtain ⟨i, hi⟩ : ∃ i, ws[((pc - 64) / 4).toNat]? = some i := by
      have : ((pc - 64) / 4).toNat < ws.length := by omega
      exact ⟨ws[((pc - 64) / 4).toNat], by simp [this]⟩
    have hvi := hv i (List.mem_of_getElem? hi)
    have hstep : Pl.step ws ⟨R, pc, D⟩ = Pl.step1 i ⟨R, pc, D⟩ := by
      unfold Pl.step
      rw [if_pos h]
      simp only [hi]
    rw [hstep]
    obtain ⟨op, a, b, c⟩ := i
    have HF : Hid (∀ W, Room W m g wv dv (ws.map Pl.encW) D → Calls Tryz.prog 85 #[busV m, .int .u32 pc, .int .i64 4] W fun e w' => e = .returned (.tuple #[.int .u32 (Pl.encW ⟨op, a, b, c⟩), noTrap]) ∧ Below W.heap.size W w') := Lib.hid fun W HW => by
      have := fetchx_ok (H := HW) (p := pc) hp (words_bd ws hv) h.1 h.2.1 (by simpa using h.2.2)
      rwa [words_at ws _ _ hi] at this
    have HDe : Hid (∀ W, Calls Tryz.prog 49 #[.int .u32 (Pl.encW ⟨op, a, b, c⟩)] W fun e w' => e = .returned (.tuple #[insV ⟨op, a, b, c⟩, .int .i64 0]) ∧ Below W.heap.size W w') := Lib.hid fun W => Decode_ok ⟨op, a, b, c⟩ W hvi
    obtain ⟨o1, o2, a1, a2, b1, b2, c1, c2, -⟩ := hvi
    dsimp only at o1 o2 a1 a2 b1 b2 c1 c2
    have ha : 0 ≤ a ∧ a < 8 := ⟨a1, a2⟩
    have hb : 0 ≤ b ∧ b < 8 := ⟨b1, b2⟩
    have hc : -32768 ≤ c ∧ c ≤ 32767 := ⟨c1, c2⟩
    have hop : op = 1 ∨ op = 2 ∨ op = 3 ∨ op = 4 ∨ (5 ≤ op ∧ op ≤ 13) ∨ op = 14 ∨ op = 15 ∨ op = 16 ∨ op = 17 ∨ op = 18 ∨ op = 19 ∨ op = 20 ∨ op = 21 ∨ op = 22 ∨ op = 23 ∨ op = 24 ∨ op = 25 ∨ op = 26 := by omega
    have hlen : ∀ v, (Pl.sr R a v).length = 8 := fun v => by simp [Pl.sr, hR.1]
    rcases hop with rfl | rfl | rfl | rfl | ⟨h5, h13⟩ | rfl | rfl | rfl | rfl | rfl | rfl | rfl | rfl | rfl | rfl | rfl | rfl | rfl
    · exact ⟨fun s' hs => by simp [Pl.step1, Pl.ex] at hs, fun _ => step_bad H hR hp ha hb HF HDe (.inl rfl)⟩
    · refine ⟨fun s' hs => ?_, fun hs => by simp [Pl.step1, Pl.ex] at hs⟩
      simp [Pl.step1, Pl.ex] at hs
      subst hs
      exact step_other H hR hp ha hb HF HDe (by omega) (by decide) (by decide) (hlen _) (Lib.hid fun W => other_set R (Pl.m32 (pc + 4)) a b c W hR ha hb hc)
    · refine ⟨fun s' hs => ?_, fun hs => by simp [Pl.step1, Pl.ex] at hs⟩
      simp [Pl.step1, Pl.ex] at hs
      subst hs
      exact step_other H hR hp ha hb HF HDe (by omega) (by decide) (by decide) (hlen _) (Lib.hid fun W => other_high R (Pl.m32 (pc + 4)) a b c W hR ha hb hc)
    · refine ⟨fun s' hs => ?_, fun hs => by simp [Pl.step1, Pl.ex] at hs⟩
      simp [Pl.step1, Pl.ex] at hs
      subst hs
      exact step_other H hR hp ha hb HF HDe (by omega) (by decide) (by decide) (hlen _) (Lib.hid fun W => other_move R (Pl.m32 (pc + 4)) a b c W hR ha hb hc)
    · rw [Pl.step1_alu op a b c R D pc h5 h13]
      have hk := fun W => reckon_ok op (Pl.rg R a) (Pl.rg R b) W ⟨h5, h13⟩ (Pl.rg_bd hR a1 a2) (Pl.rg_bd hR b1 b2)
      cases hal : Pl.alu op (Pl.rg R a) (Pl.rg R b) with
      | none =>
        exact ⟨fun s' hs => by simp at hs, fun _ => step_reckon_no H hR hp ha hb HF HDe h5 h13 (by simp; omega) (by simp; omega) (Lib.hid fun W => (hk W).mono fun e w' he => ⟨he.2.1 hal, he.2.2.symm⟩)⟩
      | some v =>
        refine ⟨fun s' hs => ?_, fun hs => by simp at hs⟩
        simp at hs
        subst hs
        exact step_reckon H hR hp ha hb HF HDe h5 h13 (by simp; omega) (by simp; omega) (Lib.hid fun W => (hk W).mono fun e w' he => ⟨he.1 v hal, he.2.2.symm⟩)
    · refine ⟨fun s' hs => ?_, fun hs => by simp [Pl.step1, Pl.ex] at hs⟩
      simp [Pl.step1, Pl.ex] at hs
      subst hs
      exact step_other H hR hp ha hb HF HDe (by omega) (by decide) (by decide) (hlen _) (Lib.hid fun W => other_plus R (Pl.m32 (pc + 4)) a b c W hR ha hb hc)
    · cases hk : Pl.okw D (Pl.m32 (Pl.rg R b + c)) with
      | true =>
        refine ⟨fun s' hs => ?_, fun hs => by simp [Pl.step1, Pl.ex, hk] at hs⟩
        simp [Pl.step1, Pl.ex, hk] at hs
        subst hs
        exact step_mem H hR hp ha hb HF HDe (by omega) (by omega) (by omega) (by decide) (by decide) (hlen _) (Lib.hid fun W0 W gr H0 HW h0 hg hr => memory_load H0 HW h0 hg hR hD ha hb hc hr hk)
      | false =>
        exact ⟨fun s' hs => by simp [Pl.step1, Pl.ex, hk] at hs, fun _ => step_mem_no H hR hp ha hb HF HDe (by omega) (by omega) (by omega) (by decide) (by decide) (Lib.hid fun W0 W gr H0 HW h0 hg hr => memory_load_no H0 HW h0 hg hR hD ha hb hc hr hk)⟩
    · cases hk : Pl.ok1 D (Pl.m32 (Pl.rg R b + c)) with
      | true =>
        refine ⟨fun s' hs => ?_, fun hs => by simp [Pl.step1, Pl.ex, hk] at hs⟩
        simp [Pl.step1, Pl.ex, hk] at hs
        subst hs
        exact step_mem H hR hp ha hb HF HDe (by omega) (by omega) (by omega) (by decide) (by decide) (hlen _) (Lib.hid fun W0 W gr H0 HW h0 hg hr => memory_loadb H0 HW h0 hg hR hD ha hb hc hr hk)
      | false =>
        exact ⟨fun s' hs => by simp [Pl.step1, Pl.ex, hk] at hs, fun _ => step_mem_no H hR hp ha hb HF HDe (by omega) (by omega) (by omega) (by decide) (by decide) (Lib.hid fun W0 W gr H0 HW h0 hg hr => memory_loadb_no H0 HW h0 hg hR hD ha hb hc hr hk)⟩
    · cases hk : Pl.okw D (Pl.m32 (Pl.rg R b + c)) with
      | true =>
        refine ⟨fun s' hs => ?_, fun hs => by simp [Pl.step1, Pl.ex, hk] at hs⟩
        simp [Pl.step1, Pl.ex, hk] at hs
        subst hs
        exact step_mem H hR hp ha hb HF HDe (by omega) (by omega) (by omega) (by decide) (by decide) hR.1 (Lib.hid fun W0 W gr H0 HW h0 hg hr => memory_store H0 HW h0 hg hR hD ha hb hc hr hk)
      | false =>
        exact ⟨fun s' hs => by simp [Pl.step1, Pl.ex, hk] at hs, fun _ => step_mem_no H hR hp ha hb HF HDe (by omega) (by omega) (by omega) (by decide) (by decide) (Lib.hid fun W0 W gr H0 HW h0 hg hr => memory_store_no H0 HW h0 hg hR hD ha hb hc hr hk)⟩
    · cases hk : Pl.ok1 D (Pl.m32 (Pl.rg R b + c)) with
      | true =>
        refine ⟨fun s' hs => ?_, fun hs => by simp [Pl.step1, Pl.ex, hk] at hs⟩
        simp [Pl.step1, Pl.ex, hk] at hs
        subst hs
        exact step_mem H hR hp ha hb HF HDe (by omega) (by omega) (by omega) (by decide) (by decide) hR.1 (Lib.hid fun W0 W gr H0 HW h0 hg hr => memory_storeb H0 HW h0 hg hR hD ha hb hc hr hk)
      | false =>
        exact ⟨fun s' hs => by simp [Pl.step1, Pl.ex, hk] at hs, fun _ => step_mem_no H hR hp ha hb HF HDe (by omega) (by omega) (by omega) (by decide) (by decide) (Lib.hid fun W0 W gr H0 HW h0 hg hr => memory_storeb_no H0 HW h0 hg hR hD ha hb hc hr hk)⟩
    · refine ⟨fun s' hs => ?_, fun hs => by simp [Pl.step1] at hs⟩
      simp [Pl.step1] at hs
      subst hs
      exact step_jump H hR hp ha hb HF HDe (by omega) (by omega) (by decide) (by omega) (by omega) (by decide) (by decide) hR.1 (Lib.hid fun W gr hr => jump_jump gr R _ a b c pc W hR ha hb hc hp hr)
    · refine ⟨fun s' hs => ?_, fun hs => by simp [Pl.step1] at hs⟩
      simp [Pl.step1] at hs
      subst hs
      exact step_jump H hR hp ha hb HF HDe (by omega) (by omega) (by decide) (by omega) (by omega) (by decide) (by decide) hR.1 (Lib.hid fun W gr hr => jump_zero gr R _ a b c pc W hR ha hb hc hp hr)
    · refine ⟨fun s' hs => ?_, fun hs => by simp [Pl.step1] at hs⟩
      simp [Pl.step1] at hs
      subst hs
      exact step_jump H hR hp ha hb HF HDe (by omega) (by omega) (by decide) (by omega) (by omega) (by decide) (by decide) hR.1 (Lib.hid fun W gr hr => jump_less gr R _ a b c pc W hR ha hb hc hp hr)
    · refine ⟨fun s' hs => ?_, fun hs => by simp [Pl.step1] at hs⟩
      simp [Pl.step1] at hs
      subst hs
      exact step_jump H hR hp ha hb HF HDe (by omega) (by omega) (by decide) (by omega) (by omega) (by decide) (by decide) (hlen _) (Lib.hid fun W gr hr => jump_call gr R _ a b c pc W hR ha hb hc hp hr)
    · refine ⟨fun s' hs => ?_, fun hs => by simp [Pl.step1] at hs⟩
      simp [Pl.step1] at hs
      subst hs
      exact step_jump H hR hp ha hb HF HDe (by omega) (by omega) (by decide) (by omega) (by omega) (by decide) (by decide) hR.1 (Lib.hid fun W gr hr => jump_back gr R _ a b c pc W hR ha hb hc hp hr)
    · exact ⟨fun s' hs => by simp [Pl.step1, Pl.ex] at hs, fun _ => step_sys H hR hp ha hb HF HDe rfl (Lib.hid fun W => other_sys R (Pl.m32 (pc + 4)) a b c W hR ha hb hc)⟩
    · cases hk : Pl.okw D (Pl.m32 (Pl.rg R b + c)) with
      | true =>
        refine ⟨fun s' hs => ?_, fun hs => by simp [Pl.step1, Pl.ex, hk] at hs⟩
        simp [Pl.step1, Pl.ex, hk] at hs
        subst hs
        exact step_swap H hR hp ha hb HF HDe (by omega) (by omega) (by omega) (by decide) (by decide) (by decide) (hlen _) (Lib.hid fun W0 W gr H0 HW h0 hg hr => memory_swap H0 HW h0 hg hR hD ha hb hc hr hk)
      | false =>
        exact ⟨fun s' hs => by simp [Pl.step1, Pl.ex, hk] at hs, fun _ => step_swap_no H hR hp ha hb HF HDe (by omega) (by omega) (by omega) (by decide) (by decide) (by decide) (Lib.hid fun W0 W gr H0 HW h0 hg hr => memory_swap_no H0 HW h0 hg hR hD ha hb hc hr hk)⟩
    · exact ⟨fun s' hs => by simp [Pl.step1, Pl.ex] at hs, fun _ => step_bad H hR hp ha hb HF HDe (.inr rfl)⟩
  · have hstep : Pl.step ws ⟨R, pc, D⟩ = none := by
      unfold Pl.step
      rw [if_neg h]
    rw [hstep]
    exact ⟨fun s' hs => (by cases hs), fun _ => step_out H hR hD hp (by simpa using h)⟩
end
end Go.Proofs.YtghjjemnegncpaaGreatDoor
