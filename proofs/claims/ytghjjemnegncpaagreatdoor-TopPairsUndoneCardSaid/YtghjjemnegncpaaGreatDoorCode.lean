/- The walks of package code: names, fields, words. -/
import Derived.Test.YtghjjemnegncpaaGreatDoorProg
import Derived.Test.YtghjjemnegncpaaGreatDoorPlain
import Derived.Test.YtghjjemnegncpaaGreatDoorHelp
namespace Go.Proofs.YtghjjemnegncpaaGreatDoor
open Go.RowKit

set_option maxHeartbeats 400000 in
theorem row_ok (op : Int) (w : World) (h1 : 1 ≤ op) (h2 : op ≤ 26) :
    Calls Tryz.prog 65 #[.int .i64 op] w fun e w' => e = .returned (.tuple #[str (Pl.nm op), .int .i64 (Pl.fl op)]) ∧ w = w' := by
  go_enter Tryz.func65, Tryz.ntmps65
  go_wp2
  all_goals
    go_ret2
    refine ⟨?_, rfl⟩
    rename_i h
    obtain rfl := of_decide_eq_true (p := _ = _) h
    rfl

set_option maxHeartbeats 400000 in
theorem row_no (op : Int) (w : World) (h1 : op < 1 ∨ 26 < op) :
    Calls Tryz.prog 65 #[.int .i64 op] w fun e w' => e = .returned (.tuple #[.string ⟨#[]⟩, .int .i64 0]) ∧ w = w' := by
  rcases h1 with h1 | h1
  all_goals
    go_enter Tryz.func65, Tryz.ntmps65
    go_wp2
    go_ret2
    exact ⟨rfl, rfl⟩

theorem Name_ok (op : Int) (w : World) (h1 : 1 ≤ op) (h2 : op ≤ 26) :
    Calls Tryz.prog 51 #[.int .i64 op] w fun e w' => e = .returned (.tuple #[str (Pl.nm op), .int .i64 0]) ∧ w = w' := by
  have hn := Pl.nm_ne op h1 h2
  go_enter Tryz.func51, Tryz.ntmps51
  go_wp2_with (go_at_call 65; refine (row_ok _ _ h1 h2).mono ?_; rintro e w' ⟨rfl, rfl⟩)
  go_ret2
  exact ⟨rfl, rfl⟩

theorem Fields_ok (op : Int) (w : World) (h1 : 1 ≤ op) (h2 : op ≤ 26) :
    Calls Tryz.prog 52 #[.int .i64 op] w fun e w' => e = .returned (.tuple #[.int .i64 (Pl.fl op), .int .i64 0]) ∧ w = w' := by
  have hn := Pl.nm_ne op h1 h2
  go_enter Tryz.func52, Tryz.ntmps52
  go_wp2_with (go_at_call 65; refine (row_ok _ _ h1 h2).mono ?_; rintro e w' ⟨rfl, rfl⟩)
  go_ret2
  exact ⟨rfl, rfl⟩

set_option maxHeartbeats 400000 in
theorem Number_ok (op : Int) (w : World) (h1 : 1 ≤ op) (h2 : op ≤ 26) :
    Calls Tryz.prog 108 #[str (Pl.nm op)] w fun e w' => e = .returned (.tuple #[.int .i64 op, .int .i64 0]) ∧ w = w' := by
  go_enter Tryz.func108, Tryz.ntmps108
  go_wp2
  go_loop [4] (fun t => ∃ k : Int, 1 ≤ k ∧ k ≤ op ∧ t = .int .i64 k) (fun t => (26 - intOf t).toNat)
  case atStart => exact ⟨1, by omega, by omega, rfl⟩
  case round =>
    obtain ⟨k, hk1, hk2, rfl⟩ := hrel
    by_cases hk : k = op
    · subst hk
      go_wp2_with (go_at_call 65; refine (row_ok _ _ (by omega) (by omega)).mono ?_; rintro e w' ⟨rfl, rfl⟩)
      go_ret2
      exact ⟨rfl, rfl⟩
    · have hne : (Pl.nm k == Pl.nm op) = false := beq_eq_false_iff_ne.2 fun h => hk (Pl.nm_inj k op (by omega) (by omega) h1 h2 h)
      go_wp2_with (go_at_call 65; refine (row_ok _ _ (by omega) (by omega)).mono ?_; rintro e w' ⟨rfl, rfl⟩)
      go_round
      case rel => exact ⟨k + 1, by omega, by omega, rfl⟩
      case measure => simp [intOf]; omega

theorem enc_val {op a b c : Int} (h1 : 1 ≤ op) (h2 : op ≤ 26) (h3 : 0 ≤ a) (h4 : a < 8) (h5 : 0 ≤ b) (h6 : b < 8) :
    bits BinOp.or IntKind.u32 (bits BinOp.or IntKind.u32 (bits BinOp.or IntKind.u32 (op * 16777216) (a * 1048576)) (b * 65536)) (IntKind.u16.wrap c % 4294967296) = Pl.encW ⟨op, a, b, c⟩ := by
  have e1 : bits BinOp.or IntKind.u32 (op * 16777216) (a * 1048576) = op * 16777216 + a * 1048576 :=
    bits_join .u32 32 (by decide) wraps_u32 24 _ _ (by omega) (by omega) (by omega) (by omega) (by omega) (by omega)
  have e2 : bits BinOp.or IntKind.u32 (op * 16777216 + a * 1048576) (b * 65536) = op * 16777216 + a * 1048576 + b * 65536 :=
    bits_join .u32 32 (by decide) wraps_u32 20 _ _ (by omega) (by omega) (by omega) (by omega) (by omega) (by omega)
  rw [e1, e2, IntKind.wrap_u16]
  have e3 : bits BinOp.or IntKind.u32 (op * 16777216 + a * 1048576 + b * 65536) (c % 65536 % 4294967296) = op * 16777216 + a * 1048576 + b * 65536 + c % 65536 % 4294967296 :=
    bits_join .u32 32 (by decide) wraps_u32 16 _ _ (by omega) (by omega) (by omega) (by omega) (by omega) (by omega)
  rw [e3]
  unfold Pl.encW
  dsimp only
  omega


set_option maxHeartbeats 1600000 in
theorem Encode_ok (i : Pl.Ins) (w : World) (hv : Pl.valid i) :
    Calls Tryz.prog 45 #[insV i] w fun e w' => e = .returned (.tuple #[.int .u32 (Pl.encW i), .int .i64 0]) ∧ Below w.heap.size w w' := by
  obtain ⟨op, a, b, c⟩ := i
  obtain ⟨h1, h2, h3, h4, h5, h6, h7, h8, k1, k2, k3⟩ := hv
  dsimp only at h1 h2 h3 h4 h5 h6 h7 h8 k1 k2 k3
  have HV := Lib.hid (enc_val (c := c) h1 h2 h3 h4 h5 h6)
  have hn := Pl.nm_ne op h1 h2
  have H1 := Lib.hid (row_ok op)
  have hc := Pl.fl_cases op
  generalize hf : Pl.fl op = f at *
  clear hf
  have hc : (f = 0 ∧ a = 0 ∧ b = 0 ∧ c = 0) ∨ (f = 1 ∧ b = 0 ∧ c = 0) ∨ (f = 3 ∧ c = 0) ∨ (f = 4 ∧ a = 0 ∧ b = 0) ∨ (f = 5 ∧ b = 0) ∨ f = 7 := by omega
  clear k1 k2 k3
  rcases hc with ⟨rfl, rfl, rfl, rfl⟩ | ⟨rfl, rfl, rfl⟩ | ⟨rfl, rfl⟩ | ⟨rfl, rfl, rfl⟩ | ⟨rfl, rfl⟩ | rfl
  all_goals
    go_enter Tryz.func45, Tryz.ntmps45
    go_wp2_with fail
    refine (H1.out _ h1 h2).mono ?_
    rintro e w' ⟨rfl, rfl⟩
    go_wp2_with fail
  all_goals
    go_ret2
    exact ⟨by rw [← HV.out]; rfl, (Below.refl _ _).alloc (Nat.le_refl _) _⟩

/-- An error. -/
def Bad (e : Ending) : Prop := ∃ x r, r ≠ 0 ∧ e = .returned (.tuple #[.int .u32 x, .int .i64 r])

theorem eq_of_bne {c : Int} (h : (c != 0) = false) : c = 0 := by simpa using h

set_option maxHeartbeats 3200000 in
theorem Encode_no (i : Pl.Ins) (w : World) (hv : ¬ Pl.valid i) (ho : -9223372036854775808 ≤ i.op ∧ i.op ≤ 9223372036854775807) :
    Calls Tryz.prog 45 #[insV i] w fun e w' => Bad e ∧ Below w.heap.size w w' := by
  obtain ⟨op, a, b, c⟩ := i
  dsimp only at ho
  by_cases hop : 1 ≤ op ∧ op ≤ 26
  · obtain ⟨h1, h2⟩ := hop
    have hn := Pl.nm_ne op h1 h2
    have H1 := Lib.hid (row_ok op)
    have hc := Pl.fl_cases op
    have HV : Hid (¬ (0 ≤ a ∧ a < 8 ∧ 0 ≤ b ∧ b < 8 ∧ -32768 ≤ c ∧ c ≤ 32767 ∧ (Pl.fl op % 2 = 0 → a = 0) ∧ (Pl.fl op / 2 % 2 = 0 → b = 0) ∧ (Pl.fl op / 4 = 0 → c = 0))) := Lib.hid fun h => hv ⟨h1, h2, h⟩
    clear hv
    generalize hf : Pl.fl op = f at *
    clear hf
    rcases hc with rfl | rfl | rfl | rfl | rfl | rfl
    all_goals
      go_enter Tryz.func45, Tryz.ntmps45
      go_wp2_with fail
      refine (H1.out _ h1 h2).mono ?_
      rintro e w' ⟨rfl, rfl⟩
      go_wp2_with fail
    all_goals
      go_ret2
      refine ⟨?_, (Below.refl _ _).alloc (Nat.le_refl _) _⟩
      first
      | exact ⟨0, 3, by decide, rfl⟩
      | exact ⟨0, 1, by decide, rfl⟩
      | (exfalso
         refine HV.out ⟨by omega, by omega, by omega, by omega, by omega, by omega, ?_, ?_, ?_⟩
         all_goals first | (intro hx; exact absurd hx (by decide)) | (intro _; first | assumption | rfl | exact eq_of_bne (by assumption)))
  · have hop : op < 1 ∨ 26 < op := by omega
    go_enter Tryz.func45, Tryz.ntmps45
    go_wp2_with fail
    refine (row_no op _ hop).mono ?_
    rintro e w' ⟨rfl, rfl⟩
    go_wp2_with fail
    go_ret2
    exact ⟨⟨0, 4, by decide, rfl⟩, (Below.refl _ _).alloc (Nat.le_refl _) _⟩

end Go.Proofs.YtghjjemnegncpaaGreatDoor
