/- The walk of slices.Equal of equal words. -/
import Derived.Test.YtghjjemnegncpaaGreatDoorClone2
set_option linter.unusedSimpArgs false
set_option linter.unusedVariables false
set_option linter.unusedSectionVars false
set_option linter.unnecessarySimpa false
namespace Go.Proofs.YtghjjemnegncpaaGreatDoor
open Go.RowKit

set_option maxHeartbeats 1600000 in
set_option maxRecDepth 100000 in
theorem Equal_words {w : World} {v1 v2 : Value} {x : List Int} (H1 : Wd w v1 x) (H2 : Wd w v2 x) (hx : x.length ≤ 100000) :
    Calls Tryz.prog 38 #[v1, v2] w fun e w' => e = .returned (.bool true) ∧ Below w.heap.size w w' := by
  obtain ⟨a1, c1, rfl, k1⟩ := H1
  obtain ⟨a2, c2, rfl, k2⟩ := H2
  have K1 := Lib.hid k1
  have K2 := Lib.hid k2
  clear k1 k2
  go_enter Tryz.func38, Tryz.ntmps38
  go_wp2
  go_loopw [13] (fun t wr => ∃ k : Nat, k ≤ x.length ∧ t = .int .i64 k ∧ ∃ n, wr = w.drewN n) (fun t _ => x.length - (intOf t).toNat)
  case atStart => exact ⟨0, Nat.zero_le _, rfl, 0, rfl⟩
  case round =>
    obtain ⟨k, hk, rfl, n, rfl⟩ := hrel
    by_cases hlt : k < x.length
    · obtain ⟨b1, rfl, r1⟩ := K1.out k hlt
      obtain ⟨b2, rfl, r2⟩ := K2.out k hlt
      generalize x.getD k 0 = z at *
      clear K1 K2
      go_wp2
      go_quiet (fail)
      go_wp2
      exact ⟨⟨k + 1, by omega, by go_num, _, rfl⟩, by simp [intOf]; omega⟩
    · obtain rfl : k = x.length := by omega
      go_wp2
      go_ret
      exact ⟨rfl, by (repeat (first | (with_reducible exact Below.refl _ _) | (with_reducible apply Below.drew) | (with_reducible apply bl_drewN) | ((with_reducible apply bl_alloc); (· (first | (simp; done) | (simp; omega) | omega))) | ((with_reducible apply bl_row); (· (first | (simp; done) | (simp; omega) | omega))) | ((with_reducible apply bl_cell); (· (first | (simp; done) | (simp; omega) | omega))) | assumption))⟩

end Go.Proofs.YtghjjemnegncpaaGreatDoor
