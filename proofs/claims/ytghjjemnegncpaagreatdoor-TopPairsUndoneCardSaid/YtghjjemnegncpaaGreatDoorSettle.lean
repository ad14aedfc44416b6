/- The walk of asm's settle, where nothing is marked and nothing needed. -/
import Derived.Test.YtghjjemnegncpaaGreatDoorLine
set_option linter.unusedSimpArgs false
set_option linter.unusedVariables false
set_option linter.unusedSectionVars false
set_option linter.unnecessarySimpa false
namespace Go.Proofs.YtghjjemnegncpaaGreatDoor
open Go.RowKit

set_option maxHeartbeats 1600000 in
set_option maxRecDepth 100000 in
theorem settle_none {w : World} {u B : Nat} {words : List Int} (H : UnitAt w u B words []) (hB : B ≤ w.heap.size) :
    Calls Tryz.prog 62 #[.pointer (some ⟨u, 0, none⟩)] w fun e w' => e = .returned (.tuple #[]) ∧ UnitAt w' u B words [] ∧ Fr B w w' := by
  obtain ⟨cv, mv, hr, hBu, hc, hm⟩ := H
  obtain ⟨ma, mc, rfl⟩ := owns_form hm
  have c1 : w.cell? ⟨u, 1, none⟩ = some (.slice ma 0 mc) := hr.cell 1
  have c2 : w.cell? ⟨u, 2, none⟩ = some (.slice none 0 0) := hr.cell 2
  have f2 : w.frozen? ⟨u, 2, none⟩ = false := hr.frozen 2
  have hu := hr.lt
  have HC := Lib.hid hc
  have HM := Lib.hid hm
  clear hc hm
  have hmm := @run_makeMap Tryz.prog
  have hx : UnitAt ((w.setCell ⟨u, 2, none⟩ (.slice none 0 0)).alloc (.map #[] 0)) u B words [] :=
    UnitAt.kept ⟨cv, .slice ma 0 mc, (show rowAt w u #[cv, .slice ma 0 mc, .slice none 0 0] 57 from hr).set 2 _, hBu, owns_set HC.out hr (by decide) _ _, owns_set HM.out hr (by decide) _ _⟩ fun j hj => Below.heap_alloc _ _ _ hj
  have hf : Fr B w ((w.setCell ⟨u, 2, none⟩ (.slice none 0 0)).alloc (.map #[] 0)) := ⟨by (repeat (first | (with_reducible exact Below.refl _ _) | (with_reducible apply Below.drew) | (with_reducible apply bl_drewN) | ((with_reducible apply bl_alloc); (· (first | (simp; done) | (simp; omega) | omega))) | ((with_reducible apply bl_row); (· (first | (simp; done) | (simp; omega) | omega))) | ((with_reducible apply bl_cell); (· (first | (simp; done) | (simp; omega) | omega))) | assumption)), fun g cs t hg h1 h2 h3 => (hg.other (fun e => h2 (by dsimp only at e; subst e; exact rowAt_type hg hr)) _).alloc _⟩
  have HX := Lib.hid hx
  have HF := Lib.hid hf
  clear hx hf HC HM
  go_enter Tryz.func62, Tryz.ntmps62
  go_wp2
  go_loop [16] (fun t => t = .int .i64 0) (fun _ => 0)
  case atStart => rfl
  case round =>
    obtain rfl := hrel
    go_wp2
    go_loop [31, 5] (fun t v => t = .int .i64 0 ∧ v = .slice none 0 0) (fun _ _ => 0)
    case atStart => exact ⟨rfl, rfl⟩
    case round =>
      obtain ⟨rfl, rfl⟩ := hrel
      go_wp2
      exact bodyPost_end (results_none rfl _ _ _) rfl ⟨rfl, HX.out, HF.out⟩
end Go.Proofs.YtghjjemnegncpaaGreatDoor
