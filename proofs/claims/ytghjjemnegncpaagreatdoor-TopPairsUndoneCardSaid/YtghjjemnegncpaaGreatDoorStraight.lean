/- Programs that run from their first instruction to their last: in plain lists. No Go in it. -/
import Derived.Test.YtghjjemnegncpaaGreatDoorPlain
set_option linter.unusedSimpArgs false
set_option linter.unusedVariables false
namespace Go.Proofs.YtghjjemnegncpaaGreatDoor.Pl

/-- An instruction that goes on to the next one. -/
def flat (i : Ins) : Prop := 2 ≤ i.op ∧ (i.op ≤ 18 ∨ i.op = 25)

/-- A straight program. -/
def ln : List Ins → List Int × List Int → Option (List Int × List Int)
  | [], x => some x
  | i :: l, x => (ex i x.1 x.2).bind (ln l)

theorem ln_app (a b : List Ins) (x : List Int × List Int) : ln (a ++ b) x = (ln a x).bind (ln b) := by
  induction a generalizing x with
  | nil => rfl
  | cons i l ih =>
    simp only [List.cons_append, ln]
    cases ex i x.1 x.2 with
    | none => rfl
    | some y => simpa using ih y

theorem step1_flat {i : Ins} (h : flat i) (s : St) : step1 i s = (ex i s.R s.D).map fun x => ⟨x.1, m32 (s.pc + 4), x.2⟩ := by
  obtain ⟨h1, h2⟩ := h
  unfold step1
  rw [if_neg (by omega), if_neg (by omega), if_neg (by omega), if_neg (by omega), if_neg (by omega)]

/-- From place k on. -/
theorem run_flat (ws : List Ins) (hf : ∀ i ∈ ws, flat i) (hl : ws.length ≤ 300) : ∀ (j k n : Nat) (R D : List Int), k + j = ws.length → j < n → run n ws ⟨R, 64 + 4 * k, D⟩ = ln (ws.drop k) (R, D) := by
  intro j
  induction j with
  | zero =>
    intro k n R D hk hn
    obtain ⟨n, rfl⟩ : ∃ m, n = m + 1 := ⟨n - 1, by omega⟩
    rw [run, if_pos (by dsimp only; omega), List.drop_of_length_le (by omega)]
    rfl
  | succ j ih =>
    intro k n R D hk hn
    obtain ⟨n, rfl⟩ : ∃ m, n = m + 1 := ⟨n - 1, by omega⟩
    have hkl : k < ws.length := by omega
    rw [run, if_neg (by dsimp only; omega), List.drop_eq_getElem_cons hkl]
    unfold step
    rw [if_pos (by dsimp only; omega)]
    have e : ((64 + 4 * (k : Int) - 64) / 4).toNat = k := by omega
    simp only [e, List.getElem?_eq_getElem hkl, ln]
    rw [step1_flat (hf _ (List.getElem_mem hkl))]
    cases hx : ex ws[k] R D with
    | none => simp [hx]
    | some y =>
      simp only [hx, Option.map_some, Option.bind_some]
      rw [show m32 (64 + 4 * (k : Int) + 4) = 64 + 4 * ((k + 1 : Nat) : Int) by unfold m32; omega]
      exact ih (k + 1) n y.1 y.2 (by omega) (by omega)

theorem run_straight (ws : List Ins) (hf : ∀ i ∈ ws, flat i) (hl : ws.length ≤ 300) (R D : List Int) : run 400 ws ⟨R, 64, D⟩ = ln ws (R, D) := by
  have := run_flat ws hf hl ws.length 0 400 R D (by omega) (by omega)
  simpa using this

end Go.Proofs.YtghjjemnegncpaaGreatDoor.Pl
