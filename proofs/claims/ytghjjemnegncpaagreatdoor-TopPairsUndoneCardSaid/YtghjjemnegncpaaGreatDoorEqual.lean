/- The walks of slices.Equal of bytes, of wPick. -/
import Derived.Test.YtghjjemnegncpaaGreatDoorAwake
set_option linter.unusedSimpArgs false
set_option linter.unusedVariables false
set_option linter.unusedSectionVars false
set_option linter.unnecessarySimpa false
namespace Go.Proofs.YtghjjemnegncpaaGreatDoor
open Go.RowKit

/-- The first place where two lists differ. -/
theorem first_diff : ∀ (x y : List Int), x.length = y.length → x ≠ y → ∃ j, j < x.length ∧ (∀ k, k < j → x.getD k 0 = y.getD k 0) ∧ x.getD j 0 ≠ y.getD j 0
  | [], [], _, h => absurd rfl h
  | a :: x, b :: y, hl, h => by
    by_cases hab : a = b
    · subst hab
      obtain ⟨j, h1, h2, h3⟩ := first_diff x y (by simpa using hl) (fun e => h (by rw [e]))
      refine ⟨j + 1, by simp; omega, fun k hk => ?_, by simpa using h3⟩
      cases k with
      | zero => rfl
      | succ k => simpa using h2 k (by omega)
    · exact ⟨0, by simp, fun k hk => by omega, by simpa using hab⟩
  | [], _ :: _, hl, _ => by simp at hl
  | _ :: _, [], hl, _ => by simp at hl

section
variable {w : World} {v1 v2 : Value} {x y : List Int} (H1 : Bd w v1 x) (H2 : Bd w v2 y) (hx : x.length ≤ 100000) (hy : y.length ≤ 100000)
include H1 H2 hx hy

set_option maxHeartbeats 1600000 in
set_option maxRecDepth 100000 in
theorem Equal_bytes : Calls Tryz.prog 42 #[v1, v2] w fun e w' => e = .returned (.bool (decide (x = y))) ∧ Below w.heap.size w w' := by
  obtain ⟨a1, c1, rfl, -, k1⟩ := H1
  obtain ⟨a2, c2, rfl, -, k2⟩ := H2
  have K1 := Lib.hid k1
  have K2 := Lib.hid k2
  clear k1 k2
  by_cases hl : x.length = y.length
  · by_cases he : x = y
    · subst he
      rw [show decide (x = x) = true by simp]
      go_enter Tryz.func42, Tryz.ntmps42
      go_wp2
      go_loopw [13] (fun t wr => ∃ k : Nat, k ≤ x.length ∧ t = .int .i64 k ∧ ∃ n, wr = w.drewN n) (fun t _ => x.length - (intOf t).toNat)
      case atStart => exact ⟨0, Nat.zero_le _, rfl, 0, rfl⟩
      case round =>
        obtain ⟨k, hk, rfl, n, rfl⟩ := hrel
        by_cases hlt : k < x.length
        · obtain ⟨b1, rfl, r1⟩ := K1.out k hlt
          obtain ⟨b2, rfl, r2⟩ := K2.out k hlt
          generalize x.getD k 0 = z at *
          clear K1 K2
          go_wp2
          go_quiet (fail)
          go_wp2
          exact ⟨⟨k + 1, by omega, by go_num, _, rfl⟩, by simp [intOf]; omega⟩
        · obtain rfl : k = x.length := by omega
          go_wp2
          go_ret
          exact ⟨rfl, by (repeat (first | (with_reducible exact Below.refl _ _) | (with_reducible apply Below.drew) | (with_reducible apply bl_drewN) | ((with_reducible apply bl_alloc); (· (first | (simp; done) | (simp; omega) | omega))) | ((with_reducible apply bl_row); (· (first | (simp; done) | (simp; omega) | omega))) | ((with_reducible apply bl_cell); (· (first | (simp; done) | (simp; omega) | omega))) | assumption))⟩
    · rw [show decide (x = y) = false by simpa using he]
      obtain ⟨j, hj, hjs, hjn⟩ := first_diff x y hl he
      have HJ := Lib.hid hjs
      clear hjs he
      go_enter Tryz.func42, Tryz.ntmps42
      go_wp2
      go_loopw [13] (fun t wr => ∃ k : Nat, k ≤ j ∧ t = .int .i64 k ∧ ∃ n, wr = w.drewN n) (fun t _ => x.length - (intOf t).toNat)
      case atStart => exact ⟨0, Nat.zero_le _, rfl, 0, rfl⟩
      case round =>
        obtain ⟨k, hk, rfl, n, rfl⟩ := hrel
        have hlt : k < x.length := by omega
        have hlt2 : k < y.length := by omega
        obtain ⟨b1, rfl, r1⟩ := K1.out k hlt
        obtain ⟨b2, rfl, r2⟩ := K2.out k hlt2
        by_cases hkj : k < j
        · have e := HJ.out k hkj
          rw [← e] at r2
          generalize x.getD k 0 = z at *
          clear K1 K2 e
          go_wp2
          go_quiet (fail)
          go_wp2
          exact ⟨⟨k + 1, by omega, by go_num, _, rfl⟩, by simp [intOf]; omega⟩
        · obtain rfl : k = j := by omega
          have hne : (x.getD k 0 != y.getD k 0) = true := by simpa using hjn
          clear hjn
          generalize x.getD k 0 = z1 at *
          generalize y.getD k 0 = z2 at *
          clear K1 K2
          go_wp2
          go_quiet (fail)
          go_wp2
          go_ret
          exact ⟨rfl, by (repeat (first | (with_reducible exact Below.refl _ _) | (with_reducible apply Below.drew) | (with_reducible apply bl_drewN) | ((with_reducible apply bl_alloc); (· (first | (simp; done) | (simp; omega) | omega))) | ((with_reducible apply bl_row); (· (first | (simp; done) | (simp; omega) | omega))) | ((with_reducible apply bl_cell); (· (first | (simp; done) | (simp; omega) | omega))) | assumption))⟩
  · rw [show decide (x = y) = false by simp; intro e; exact hl (by rw [e])]
    have hl' : ((x.length : Int) != (y.length : Int)) = true := by simp; omega
    clear hl
    go_enter Tryz.func42, Tryz.ntmps42
    go_wp2
    go_ret
    exact ⟨rfl, Below.refl _ _⟩
end

/-- A number's rest in wPick. -/
def pick (x : Int) (n : Nat) : Nat := (x % 18446744073709551616).toNat % n

set_option maxHeartbeats 800000 in
theorem wPick_is (x : Int) (n : Nat) (w : World) (hn : 0 < n) (hn2 : n ≤ 4611686018427387904) (hx : i64 x) :
    Calls Tryz.prog 17 #[.int .i64 x, .int .i64 n] w fun e w' => e = .returned (.int .i64 (pick x n)) ∧ w = w' := by
  obtain ⟨h1, h2⟩ := hx
  go_enter Tryz.func17, Tryz.ntmps17
  go_wp2
  have e : (IntKind.u64.wrap x).tmod (n : Int) = ((pick x n : Nat) : Int) := by
    rw [IntKind.wrap_u64]
    unfold pick
    obtain ⟨m, hm⟩ := Int.eq_ofNat_of_zero_le (show 0 ≤ x % 18446744073709551616 by omega)
    rw [hm, Int.tmod_eq_emod_of_nonneg (by omega)]
    simp
  have hb : pick x n < n := Nat.mod_lt _ hn
  go_ret
  refine ⟨?_, rfl⟩
  rw [e, show wrap64 ((pick x n : Nat) : Int) = ((pick x n : Nat) : Int) by unfold wrap64; omega]
  rfl
end Go.Proofs.YtghjjemnegncpaaGreatDoor
