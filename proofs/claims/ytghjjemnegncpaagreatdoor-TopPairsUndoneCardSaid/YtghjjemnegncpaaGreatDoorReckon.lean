/- The walk of cpu.reckon. -/
import Derived.Test.YtghjjemnegncpaaGreatDoorProg
import Derived.Test.YtghjjemnegncpaaGreatDoorRows2
set_option linter.unusedSimpArgs false
set_option linter.unusedVariables false
namespace Go.Proofs.YtghjjemnegncpaaGreatDoor
open Go.RowKit

theorem bits32 (x y : Nat) (hx : x < 2 ^ 32) (hy : y < 2 ^ 32) : bits .and .u32 x y = ((x &&& y : Nat) : Int) ∧ bits .or .u32 x y = ((x ||| y : Nat) : Int) ∧ bits .xor .u32 x y = ((x ^^^ y : Nat) : Int) := by
  have ex : (BitVec.ofInt 32 (x : Int)) = BitVec.ofNat 32 x := by simp
  have ey : (BitVec.ofInt 32 (y : Int)) = BitVec.ofNat 32 y := by simp
  have h1 : x &&& y < 2 ^ 32 := Nat.and_lt_two_pow _ hy
  have h2 : x ||| y < 2 ^ 32 := Nat.or_lt_two_pow hx hy
  have h3 : x ^^^ y < 2 ^ 32 := Nat.xor_lt_two_pow hx hy
  have tx : (BitVec.ofNat 32 x).toNat = x := by rw [BitVec.toNat_ofNat, Nat.mod_eq_of_lt hx]
  have ty : (BitVec.ofNat 32 y).toNat = y := by rw [BitVec.toNat_ofNat, Nat.mod_eq_of_lt hy]
  refine ⟨?_, ?_, ?_⟩
  · show IntKind.u32.wrap (((BitVec.ofInt 32 (x : Int)) &&& (BitVec.ofInt 32 (y : Int))).toNat : Int) = _
    rw [ex, ey, BitVec.toNat_and, tx, ty, IntKind.wrap_u32]; omega
  · show IntKind.u32.wrap (((BitVec.ofInt 32 (x : Int)) ||| (BitVec.ofInt 32 (y : Int))).toNat : Int) = _
    rw [ex, ey, BitVec.toNat_or, tx, ty, IntKind.wrap_u32]; omega
  · show IntKind.u32.wrap (((BitVec.ofInt 32 (x : Int)) ^^^ (BitVec.ofInt 32 (y : Int))).toNat : Int) = _
    rw [ex, ey, BitVec.toNat_xor, tx, ty, IntKind.wrap_u32]; omega

theorem bits32_int {a b : Int} (ha : 0 ≤ a ∧ a < 4294967296) (hb : 0 ≤ b ∧ b < 4294967296) : bits .and .u32 a b = Pl.and32 a b ∧ bits .or .u32 a b = Pl.or32 a b ∧ bits .xor .u32 a b = Pl.xor32 a b := by
  obtain ⟨x, rfl⟩ := Int.eq_ofNat_of_zero_le ha.1
  obtain ⟨y, rfl⟩ := Int.eq_ofNat_of_zero_le hb.1
  exact bits32 x y (by omega) (by omega)

/-- What 'reckon' comes to. -/
def ReckonIs (op a b : Int) (w : World) (e : Ending) (w' : World) : Prop :=
  (∀ v, Pl.alu op a b = some v → e = .returned (.tuple #[.int .u32 v, .bool true])) ∧ (Pl.alu op a b = none → e = .returned (.tuple #[.int .u32 0, .bool false])) ∧ w = w'

theorem ReckonIs.yes {op a b v : Int} {w : World} (h : Pl.alu op a b = some v) {e : Ending} (he : e = .returned (.tuple #[.int .u32 v, .bool true])) : ReckonIs op a b w e w :=
  ⟨fun v' h' => (by rw [h] at h'; cases h'; exact he), fun h' => (by rw [h] at h'; cases h'), rfl⟩
theorem ReckonIs.no {op a b : Int} {w : World} (h : Pl.alu op a b = none) {e : Ending} (he : e = .returned (.tuple #[.int .u32 0, .bool false])) : ReckonIs op a b w e w :=
  ⟨fun v' h' => (by rw [h] at h'; cases h'), fun _ => he, rfl⟩

set_option maxHeartbeats 1600000 in
theorem reckon_ok (op a b : Int) (w : World) (ho : 5 ≤ op ∧ op ≤ 13) (ha : 0 ≤ a ∧ a < 4294967296) (hb : 0 ≤ b ∧ b < 4294967296) :
    Calls Tryz.prog 86 #[.int .i64 op, .int .u32 a, .int .u32 b] w (ReckonIs op a b w) := by
  have HB := Lib.hid (bits32_int ha hb)
  by_cases h8 : op = 8 ∧ b = 0
  · obtain ⟨rfl, rfl⟩ := h8
    go_enter Tryz.func86, Tryz.ntmps86
    go_wp2
    exact bodyPost_ret (results_tmp2 rfl _ _ _) rfl (ReckonIs.no rfl rfl)
  have h : op = 5 ∨ op = 6 ∨ op = 7 ∨ op = 8 ∨ op = 9 ∨ op = 10 ∨ op = 11 ∨ op = 12 ∨ op = 13 := by omega
  rcases h with rfl | rfl | rfl | rfl | rfl | rfl | rfl | rfl | rfl
  · go_enter Tryz.func86, Tryz.ntmps86
    go_wp2
    exact bodyPost_ret (results_tmp2 rfl _ _ _) rfl (ReckonIs.yes (v := Pl.m32 (a + b)) rfl rfl)
  · go_enter Tryz.func86, Tryz.ntmps86
    go_wp2
    exact bodyPost_ret (results_tmp2 rfl _ _ _) rfl (ReckonIs.yes (v := Pl.m32 (a - b)) rfl rfl)
  · go_enter Tryz.func86, Tryz.ntmps86
    go_wp2
    exact bodyPost_ret (results_tmp2 rfl _ _ _) rfl (ReckonIs.yes (v := Pl.m32 (a * b)) rfl rfl)
  · have hb0 : ¬ b = 0 := fun h => h8 ⟨rfl, h⟩
    have hb1 : (b == 0) = false := by simpa using hb0
    have hq : Pl.alu 8 a b = some (a / b) := by show (if b = 0 then none else some (a / b)) = _; rw [if_neg hb0]
    have HQ := Lib.hid hq
    have hb2 : 1 ≤ b := by omega
    clear hq h8
    go_enter Tryz.func86, Tryz.ntmps86
    go_wp2
    exact bodyPost_ret (results_tmp2 rfl _ _ _) rfl (ReckonIs.yes (v := a / b) HQ.out rfl)
  · go_enter Tryz.func86, Tryz.ntmps86
    go_wp2
    exact bodyPost_ret (results_tmp2 rfl _ _ _) rfl (ReckonIs.yes (v := Pl.and32 a b) rfl (by rw [← HB.out.1]; rfl))
  · go_enter Tryz.func86, Tryz.ntmps86
    go_wp2
    exact bodyPost_ret (results_tmp2 rfl _ _ _) rfl (ReckonIs.yes (v := Pl.or32 a b) rfl (by rw [← HB.out.2.1]; rfl))
  · go_enter Tryz.func86, Tryz.ntmps86
    go_wp2
    exact bodyPost_ret (results_tmp2 rfl _ _ _) rfl (ReckonIs.yes (v := Pl.xor32 a b) rfl (by rw [← HB.out.2.2]; rfl))
  · go_enter Tryz.func86, Tryz.ntmps86
    go_wp2
    exact bodyPost_ret (results_tmp2 rfl _ _ _) rfl (ReckonIs.yes (v := Pl.m32 (a * 2 ^ (b % 32).toNat)) rfl rfl)
  · go_enter Tryz.func86, Tryz.ntmps86
    go_wp2
    exact bodyPost_ret (results_tmp2 rfl _ _ _) rfl (ReckonIs.yes (v := a / 2 ^ (b % 32).toNat) rfl rfl)
end Go.Proofs.YtghjjemnegncpaaGreatDoor
