/- The walks of cpu.fetch and cpu.put over the room. -/
import Derived.Test.YtghjjemnegncpaaGreatDoorMem
import Derived.Test.YtghjjemnegncpaaGreatDoorOther
set_option linter.unusedSimpArgs false
set_option linter.unusedVariables false
set_option linter.unusedSectionVars false
namespace Go.Proofs.YtghjjemnegncpaaGreatDoor
open Go.RowKit

/-- The room behind the interface. -/
abbrev busV (m : Nat) : Value := .iface 99 (.pointer (some ⟨m, 0, none⟩))

theorem method_load (m : Nat) (w : World) : (method 331 99 (.pointer (some ⟨m, 0, none⟩)) "Load").run Tryz.prog w = .ok (161, .pointer (some ⟨m, 0, none⟩)) w := by kernel_rfl
theorem method_store (m : Nat) (w : World) : (method 331 99 (.pointer (some ⟨m, 0, none⟩)) "Store").run Tryz.prog w = .ok (162, .pointer (some ⟨m, 0, none⟩)) w := by kernel_rfl
theorem ahead_load (m : Nat) (w : World) : (nilAhead 331 99 (.pointer (some ⟨m, 0, none⟩)) "Load").run Tryz.prog w = .ok (some false) w := by kernel_rfl
theorem ahead_store (m : Nat) (w : World) : (nilAhead 331 99 (.pointer (some ⟨m, 0, none⟩)) "Store").run Tryz.prog w = .ok (some false) w := by kernel_rfl

theorem fetch_end {R : Ending → World → Prop} {a : Act} {w : World} {g : Nat} {t : TypeId} {cs : Array Value} {v : Value} (hp : a.tmps.getD 7 undef = .pointer (some ⟨g, 0, none⟩)) (hv : a.tmps.getD 6 undef = v)
    (hg : rowAt w g cs t) (hn : cs.size = 2) (hdf : a.defers = []) (hR : R (.returned (.tuple #[v, .agg cs])) w) : bodyPost Tryz.prog Tryz.f85 R .ret a w :=
  post_tc (p := 7) (u := 6) (ty := 106) rfl Tryz.underlying106 rfl sizeTrap hp hv hg hn hdf hR

/-- What has been put together of the bytes. -/
def acc (f : Nat → Int) : Nat → Int
  | 0 => 0
  | k + 1 => acc f k + f k * 2 ^ (8 * k)

theorem acc_bd (f : Nat → Int) (hf : ∀ k, k < 4 → 0 ≤ f k ∧ f k < 256) (k : Nat) (hk : k < 4) :
    bits BinOp.or IntKind.u32 (acc f k) (f k % 4294967296 * 2 ^ (8 * k) % 4294967296) = acc f (k + 1) := by
  have h0 := hf 0 (by omega)
  have h1 := hf 1 (by omega)
  have h2 := hf 2 (by omega)
  have h3 := hf 3 (by omega)
  have h : k = 0 ∨ k = 1 ∨ k = 2 ∨ k = 3 := by omega
  rcases h with rfl | rfl | rfl | rfl
  · have e : f 0 % 4294967296 * 2 ^ (8 * 0) % 4294967296 = f 0 := by simp; omega
    rw [e, show acc f 0 = 0 from rfl, bits_join .u32 32 (by decide) wraps_u32 32 0 (f 0) (by omega) (by decide) (by omega) (by omega) (by omega) (by omega)]
    show _ = 0 + f 0 * 2 ^ (8 * 0)
    simp
  · have e : f 1 % 4294967296 * 2 ^ (8 * 1) % 4294967296 = f 1 * 256 := by simp; omega
    have ea : acc f 1 = f 0 := by show 0 + f 0 * 2 ^ (8 * 0) = _; simp
    rw [e, ea, u32_or8 (y := f 0) (x := f 1 * 256) (by omega) (by omega) (by omega) (by omega) (by omega)]
    show _ = acc f 1 + f 1 * 2 ^ (8 * 1)
    rw [ea]; simp
  · have e : f 2 % 4294967296 * 2 ^ (8 * 2) % 4294967296 = f 2 * 65536 := by simp; omega
    have ea : acc f 2 = f 0 + f 1 * 256 := by show 0 + f 0 * 2 ^ (8 * 0) + f 1 * 2 ^ (8 * 1) = _; simp
    rw [e, ea, u32_or16 (y := f 0 + f 1 * 256) (x := f 2 * 65536) (by omega) (by omega) (by omega) (by omega) (by omega)]
    show _ = acc f 2 + f 2 * 2 ^ (8 * 2)
    rw [ea]; simp
  · have e : f 3 % 4294967296 * 2 ^ (8 * 3) % 4294967296 = f 3 * 16777216 := by simp; omega
    have ea : acc f 3 = f 0 + f 1 * 256 + f 2 * 65536 := by show 0 + f 0 * 2 ^ (8 * 0) + f 1 * 2 ^ (8 * 1) + f 2 * 2 ^ (8 * 2) = _; simp
    rw [e, ea, u32_or24 (y := f 0 + f 1 * 256 + f 2 * 65536) (x := f 3 * 16777216) (by omega) (by omega) (by omega) (by omega) (by omega)]
    show _ = acc f 3 + f 3 * 2 ^ (8 * 3)
    rw [ea]; simp

theorem acc4 (f : Nat → Int) : acc f 4 = f 0 + f 1 * 256 + f 2 * 65536 + f 3 * 16777216 := by
  show 0 + f 0 * 2 ^ (8 * 0) + f 1 * 2 ^ (8 * 1) + f 2 * 2 ^ (8 * 2) + f 3 * 2 ^ (8 * 3) = _
  simp

section
variable {m : Nat} {p want : Int} {w : World} (hp : 0 ≤ p ∧ p < 4294967296)
include hp

/-- What a Load answers, in whatever world holds what w holds. -/
def Answers (m : Nat) (want p : Int) (w : World) (x e : Int) : Prop :=
  ∀ w', (∀ b, b < w.heap.size → w'.heap[b]? = w.heap[b]?) → Calls Tryz.prog 161 #[.pointer (some ⟨m, 0, none⟩), .int .u32 p, .int .i64 want] w' fun e' w'' => e' = .returned (.tuple #[.int .u8 x, .int .i64 e]) ∧ w' = w''

set_option maxHeartbeats 800000 in
set_option maxRecDepth 100000 in
theorem fetch_all (f : Nat → Int) (hf : ∀ k, k < 4 → 0 ≤ f k ∧ f k < 256) (h0 : p % 4 = 0) (HL : ∀ k, k < 4 → Answers m want (p + (k : Nat)) w (f k) 0) :
    Calls Tryz.prog 85 #[busV m, .int .u32 p, .int .i64 want] w fun e w' =>
      e = .returned (.tuple #[.int .u32 (acc f 4), noTrap]) ∧ Below w.heap.size w w' := by
  have h3 : p + 3 < 4294967296 := by omega
  have HF := Lib.hid hf; clear hf
  have HL := Lib.hid HL
  go_enter Tryz.func85, Tryz.ntmps85
  go_wp2
  clear h0
  have ms := method_load m
  go_loop [17, 8] (fun t v => ∃ k : Nat, k ≤ 4 ∧ t = .int .u32 k ∧ v = .int .u32 (acc f k)) (fun t _ => (4 - intOf t).toNat)
  case atStart => exact ⟨0, by omega, rfl, rfl⟩
  case round =>
    obtain ⟨k, hk, rfl, rfl⟩ := hrel
    by_cases hlt : k < 4
    · have hpk : p + k < 4294967296 := by omega
      go_wp2_with fail
      refine (HL.out k hlt _ (fun b hb => Below.heap_alloc _ _ _ hb)).mono ?_
      rintro e w' ⟨rfl, rfl⟩
      go_wp2
      exact ⟨⟨k + 1, by omega, by go_num, by rw [acc_bd f HF.out k hlt]⟩, by simp [intOf]; omega⟩
    · obtain rfl : k = 4 := by omega
      go_wp2
      refine fetch_end (t := 106) (cs := #[.int .i64 0, .int .u32 0]) rfl rfl ?_ rfl rfl ⟨rfl, ?_⟩
      · (repeat (first | ((with_reducible apply rowAt.new); simp; done) | (with_reducible apply rowAt.drew) | (with_reducible apply rowAt.drewN) | (with_reducible apply rowAt.alloc) | (with_reducible apply rowAt.setRow_same) | ((with_reducible apply rowAt.so); (· (first | (simp; done) | (simp; omega) | omega))) | (with_reducible apply rowAt.set10) | (with_reducible apply rowAt.set8) | (with_reducible apply rowAt.set4) | (with_reducible apply rowAt.set2) | (with_reducible apply rowAt.set) | ((with_reducible apply rowAt.co); (· (first | (simp; done) | (simp; omega) | omega))) | assumption))
      · (repeat (first | (with_reducible exact Below.refl _ _) | (with_reducible apply Below.drew) | (with_reducible apply bl_drewN) | ((with_reducible apply bl_alloc); (· (first | (simp; done) | (simp; omega) | omega))) | ((with_reducible apply bl_row); (· (first | (simp; done) | (simp; omega) | omega))) | ((with_reducible apply bl_cell); (· (first | (simp; done) | (simp; omega) | omega))) | assumption))

/-- A trap. -/
def TrapIs (v : Value) (w : World) (e : Ending) (w' : World) : Prop := (∃ k a, k ≠ 0 ∧ e = .returned (.tuple #[v, .agg #[.int .i64 k, .int .u32 a]])) ∧ Below w.heap.size w w'

set_option maxHeartbeats 800000 in
set_option maxRecDepth 100000 in
theorem fetch_fail (f : Nat → Int) (x : Int) (j : Nat) (hj : j < 4) (h0 : p % 4 = 0) (HL : ∀ k, k < j → Answers m want (p + (k : Nat)) w (f k) 0) (HN : Answers m want (p + (j : Nat)) w x 11) :
    Calls Tryz.prog 85 #[busV m, .int .u32 p, .int .i64 want] w (TrapIs (.int .u32 0) w) := by
  have h3 : p + 3 < 4294967296 := by omega
  have HL := Lib.hid HL
  have HN := Lib.hid HN
  go_enter Tryz.func85, Tryz.ntmps85
  go_wp2
  clear h0
  have ms := method_load m
  go_loop [17, 8] (fun t v => ∃ (k : Nat) (y : Int), k ≤ j ∧ t = .int .u32 k ∧ v = .int .u32 y) (fun t _ => (4 - intOf t).toNat)
  case atStart => exact ⟨0, 0, by omega, rfl, rfl⟩
  case round =>
    obtain ⟨k, y, hk, rfl, rfl⟩ := hrel
    have hk4 : k < 4 := by omega
    have hpk : p + k < 4294967296 := by omega
    by_cases hlt : k < j
    · go_wp2_with fail
      refine (HL.out k hlt _ (fun b hb => Below.heap_alloc _ _ _ hb)).mono ?_
      rintro e w' ⟨rfl, rfl⟩
      go_wp2
      exact ⟨⟨k + 1, _, by omega, by go_num, rfl⟩, by simp [intOf]; omega⟩
    · obtain rfl : k = j := by omega
      go_wp2_with fail
      refine (HN.out _ (fun b hb => Below.heap_alloc _ _ _ hb)).mono ?_
      rintro e w' ⟨rfl, rfl⟩
      go_wp2_with (first | (apply load_row (hgd := rfl) (ty := 104) (ho := rfl) (hx := rfl) (hu := Tryz.underlying104) (hd := rfl); (· (repeat (first | ((with_reducible apply rowAt.new); simp; done) | (with_reducible apply rowAt.drew) | (with_reducible apply rowAt.drewN) | (with_reducible apply rowAt.alloc) | (with_reducible apply rowAt.setRow_same) | ((with_reducible apply rowAt.so); (· (first | (simp; done) | (simp; omega) | omega))) | (with_reducible apply rowAt.set10) | (with_reducible apply rowAt.set8) | (with_reducible apply rowAt.set4) | (with_reducible apply rowAt.set2) | (with_reducible apply rowAt.set) | ((with_reducible apply rowAt.co); (· (first | (simp; done) | (simp; omega) | omega))) | assumption))); (· (first | exact sizeTrap | exact sizeIns | (rw [sizeRegs]; simp [regs_sz, sr_len, gsz]; done)))) | (apply load_row (hgd := rfl) (ty := 106) (ho := rfl) (hx := rfl) (hu := Tryz.underlying106) (hd := rfl); (· (repeat (first | ((with_reducible apply rowAt.new); simp; done) | (with_reducible apply rowAt.drew) | (with_reducible apply rowAt.drewN) | (with_reducible apply rowAt.alloc) | (with_reducible apply rowAt.setRow_same) | ((with_reducible apply rowAt.so); (· (first | (simp; done) | (simp; omega) | omega))) | (with_reducible apply rowAt.set10) | (with_reducible apply rowAt.set8) | (with_reducible apply rowAt.set4) | (with_reducible apply rowAt.set2) | (with_reducible apply rowAt.set) | ((with_reducible apply rowAt.co); (· (first | (simp; done) | (simp; omega) | omega))) | assumption))); (· (first | exact sizeTrap | exact sizeIns | (rw [sizeRegs]; simp [regs_sz, sr_len, gsz]; done)))) | (apply load_row (hgd := rfl) (ty := 31) (ho := rfl) (hx := rfl) (hu := Tryz.underlying31) (hd := rfl); (· (repeat (first | ((with_reducible apply rowAt.new); simp; done) | (with_reducible apply rowAt.drew) | (with_reducible apply rowAt.drewN) | (with_reducible apply rowAt.alloc) | (with_reducible apply rowAt.setRow_same) | ((with_reducible apply rowAt.so); (· (first | (simp; done) | (simp; omega) | omega))) | (with_reducible apply rowAt.set10) | (with_reducible apply rowAt.set8) | (with_reducible apply rowAt.set4) | (with_reducible apply rowAt.set2) | (with_reducible apply rowAt.set) | ((with_reducible apply rowAt.co); (· (first | (simp; done) | (simp; omega) | omega))) | assumption))); (· (first | exact sizeTrap | exact sizeIns | (rw [sizeRegs]; simp [regs_sz, sr_len, gsz]; done)))) | (apply store_row (hgd := rfl) (ho := rfl) (hx := rfl) (hy := rfl); (· (repeat (first | ((with_reducible apply rowAt.new); simp; done) | (with_reducible apply rowAt.drew) | (with_reducible apply rowAt.drewN) | (with_reducible apply rowAt.alloc) | (with_reducible apply rowAt.setRow_same) | ((with_reducible apply rowAt.so); (· (first | (simp; done) | (simp; omega) | omega))) | (with_reducible apply rowAt.set10) | (with_reducible apply rowAt.set8) | (with_reducible apply rowAt.set4) | (with_reducible apply rowAt.set2) | (with_reducible apply rowAt.set) | ((with_reducible apply rowAt.co); (· (first | (simp; done) | (simp; omega) | omega))) | assumption))); (· (first | exact sizeTrap | exact sizeIns | (rw [sizeRegs]; simp [regs_sz, sr_len, gsz]; done))); (· (first | (simp [regs_sz, sr_len, gsz]; done) | rfl)); (· (first | exact regs_one _ _ | (rw [HS.out]; exact regs_one _ _) | (simp [Value.oneCell']; done)))))
      refine fetch_end (t := 106) (cs := #[.int .i64 2, .int .u32 (p + k)]) rfl rfl ?_ rfl rfl ⟨⟨2, _, by decide, rfl⟩, ?_⟩
      · (repeat (first | ((with_reducible apply rowAt.new); simp; done) | (with_reducible apply rowAt.drew) | (with_reducible apply rowAt.drewN) | (with_reducible apply rowAt.alloc) | (with_reducible apply rowAt.setRow_same) | ((with_reducible apply rowAt.so); (· (first | (simp; done) | (simp; omega) | omega))) | (with_reducible apply rowAt.set10) | (with_reducible apply rowAt.set8) | (with_reducible apply rowAt.set4) | (with_reducible apply rowAt.set2) | (with_reducible apply rowAt.set) | ((with_reducible apply rowAt.co); (· (first | (simp; done) | (simp; omega) | omega))) | assumption))
      · (repeat (first | (with_reducible exact Below.refl _ _) | (with_reducible apply Below.drew) | (with_reducible apply bl_drewN) | ((with_reducible apply bl_alloc); (· (first | (simp; done) | (simp; omega) | omega))) | ((with_reducible apply bl_row); (· (first | (simp; done) | (simp; omega) | omega))) | ((with_reducible apply bl_cell); (· (first | (simp; done) | (simp; omega) | omega))) | assumption))

set_option maxHeartbeats 800000 in
set_option maxRecDepth 100000 in
theorem fetch_odd (h0 : ¬ p % 4 = 0) :
    Calls Tryz.prog 85 #[busV m, .int .u32 p, .int .i64 want] w (TrapIs (.int .u32 0) w) := by
  have h1 : (p % 4 != 0) = true := by simpa using h0
  clear h0
  go_enter Tryz.func85, Tryz.ntmps85
  go_wp2_with (first | (apply load_row (hgd := rfl) (ty := 104) (ho := rfl) (hx := rfl) (hu := Tryz.underlying104) (hd := rfl); (· (repeat (first | ((with_reducible apply rowAt.new); simp; done) | (with_reducible apply rowAt.drew) | (with_reducible apply rowAt.drewN) | (with_reducible apply rowAt.alloc) | (with_reducible apply rowAt.setRow_same) | ((with_reducible apply rowAt.so); (· (first | (simp; done) | (simp; omega) | omega))) | (with_reducible apply rowAt.set10) | (with_reducible apply rowAt.set8) | (with_reducible apply rowAt.set4) | (with_reducible apply rowAt.set2) | (with_reducible apply rowAt.set) | ((with_reducible apply rowAt.co); (· (first | (simp; done) | (simp; omega) | omega))) | assumption))); (· (first | exact sizeTrap | exact sizeIns | (rw [sizeRegs]; simp [regs_sz, sr_len, gsz]; done)))) | (apply load_row (hgd := rfl) (ty := 106) (ho := rfl) (hx := rfl) (hu := Tryz.underlying106) (hd := rfl); (· (repeat (first | ((with_reducible apply rowAt.new); simp; done) | (with_reducible apply rowAt.drew) | (with_reducible apply rowAt.drewN) | (with_reducible apply rowAt.alloc) | (with_reducible apply rowAt.setRow_same) | ((with_reducible apply rowAt.so); (· (first | (simp; done) | (simp; omega) | omega))) | (with_reducible apply rowAt.set10) | (with_reducible apply rowAt.set8) | (with_reducible apply rowAt.set4) | (with_reducible apply rowAt.set2) | (with_reducible apply rowAt.set) | ((with_reducible apply rowAt.co); (· (first | (simp; done) | (simp; omega) | omega))) | assumption))); (· (first | exact sizeTrap | exact sizeIns | (rw [sizeRegs]; simp [regs_sz, sr_len, gsz]; done)))) | (apply load_row (hgd := rfl) (ty := 31) (ho := rfl) (hx := rfl) (hu := Tryz.underlying31) (hd := rfl); (· (repeat (first | ((with_reducible apply rowAt.new); simp; done) | (with_reducible apply rowAt.drew) | (with_reducible apply rowAt.drewN) | (with_reducible apply rowAt.alloc) | (with_reducible apply rowAt.setRow_same) | ((with_reducible apply rowAt.so); (· (first | (simp; done) | (simp; omega) | omega))) | (with_reducible apply rowAt.set10) | (with_reducible apply rowAt.set8) | (with_reducible apply rowAt.set4) | (with_reducible apply rowAt.set2) | (with_reducible apply rowAt.set) | ((with_reducible apply rowAt.co); (· (first | (simp; done) | (simp; omega) | omega))) | assumption))); (· (first | exact sizeTrap | exact sizeIns | (rw [sizeRegs]; simp [regs_sz, sr_len, gsz]; done)))) | (apply store_row (hgd := rfl) (ho := rfl) (hx := rfl) (hy := rfl); (· (repeat (first | ((with_reducible apply rowAt.new); simp; done) | (with_reducible apply rowAt.drew) | (with_reducible apply rowAt.drewN) | (with_reducible apply rowAt.alloc) | (with_reducible apply rowAt.setRow_same) | ((with_reducible apply rowAt.so); (· (first | (simp; done) | (simp; omega) | omega))) | (with_reducible apply rowAt.set10) | (with_reducible apply rowAt.set8) | (with_reducible apply rowAt.set4) | (with_reducible apply rowAt.set2) | (with_reducible apply rowAt.set) | ((with_reducible apply rowAt.co); (· (first | (simp; done) | (simp; omega) | omega))) | assumption))); (· (first | exact sizeTrap | exact sizeIns | (rw [sizeRegs]; simp [regs_sz, sr_len, gsz]; done))); (· (first | (simp [regs_sz, sr_len, gsz]; done) | rfl)); (· (first | exact regs_one _ _ | (rw [HS.out]; exact regs_one _ _) | (simp [Value.oneCell']; done)))))
  refine fetch_end (t := 106) (cs := #[.int .i64 2, .int .u32 p]) rfl rfl ?_ rfl rfl ⟨⟨2, _, by decide, rfl⟩, ?_⟩
  · (repeat (first | ((with_reducible apply rowAt.new); simp; done) | (with_reducible apply rowAt.drew) | (with_reducible apply rowAt.drewN) | (with_reducible apply rowAt.alloc) | (with_reducible apply rowAt.setRow_same) | ((with_reducible apply rowAt.so); (· (first | (simp; done) | (simp; omega) | omega))) | (with_reducible apply rowAt.set10) | (with_reducible apply rowAt.set8) | (with_reducible apply rowAt.set4) | (with_reducible apply rowAt.set2) | (with_reducible apply rowAt.set) | ((with_reducible apply rowAt.co); (· (first | (simp; done) | (simp; omega) | omega))) | assumption))
  · (repeat (first | (with_reducible exact Below.refl _ _) | (with_reducible apply Below.drew) | (with_reducible apply bl_drewN) | ((with_reducible apply bl_alloc); (· (first | (simp; done) | (simp; omega) | omega))) | ((with_reducible apply bl_row); (· (first | (simp; done) | (simp; omega) | omega))) | ((with_reducible apply bl_cell); (· (first | (simp; done) | (simp; omega) | omega))) | assumption))
end

section
variable {m g : Nat} {wv dv : Value} {xs D : List Int} {p : Int} {w : World} (H : Room w m g wv dv xs D) (hp : 0 ≤ p ∧ p < 4294967296)
include H hp

theorem fetchx_ok (hx : ∀ k, k < xs.length → 0 ≤ xs.getD k 0 ∧ xs.getD k 0 < 4294967296) (h0 : p % 4 = 0) (h1 : 64 ≤ p) (h2 : p - 64 < 4 * xs.length) :
    Calls Tryz.prog 85 #[busV m, .int .u32 p, .int .i64 4] w fun e w' =>
      e = .returned (.tuple #[.int .u32 (xs.getD ((p - 64) / 4).toNat 0), noTrap]) ∧ Below w.heap.size w w' := by
  have hb := hx ((p - 64) / 4).toNat (by omega)
  have h := fetch_all (m := m) (want := 4) (w := w) hp (fun k => xs.getD ((p - 64) / 4).toNat 0 / 2 ^ (8 * k) % 256) (fun k _ => by omega) h0 (fun k hk w' hw => by
    have h := Load_exec (H.kept hw) (p := p + (k : Nat)) (by omega) hx (by omega) (by omega)
    rw [show (p + (k : Nat) - 64) / 4 = (p - 64) / 4 by omega, show ((p + (k : Nat)) % 4 * 8).toNat = 8 * k by omega] at h
    exact h)
  rw [acc4] at h
  have e : xs.getD ((p - 64) / 4).toNat 0 / 2 ^ (8 * 0) % 256 + xs.getD ((p - 64) / 4).toNat 0 / 2 ^ (8 * 1) % 256 * 256 + xs.getD ((p - 64) / 4).toNat 0 / 2 ^ (8 * 2) % 256 * 65536 + xs.getD ((p - 64) / 4).toNat 0 / 2 ^ (8 * 3) % 256 * 16777216 = xs.getD ((p - 64) / 4).toNat 0 := by
    generalize xs.getD ((p - 64) / 4).toNat 0 = x at *
    simp only [Nat.mul_zero, Nat.mul_one, Int.pow_zero]
    simp
    omega
  rw [e] at h
  exact h

theorem fetchx_no (h : ¬ (p % 4 = 0 ∧ 64 ≤ p ∧ p - 64 < 4 * xs.length)) :
    Calls Tryz.prog 85 #[busV m, .int .u32 p, .int .i64 4] w (TrapIs (.int .u32 0) w) := by
  by_cases h0 : p % 4 = 0
  · refine fetch_fail hp (fun _ => 0) 0 0 (by omega) h0 (fun k hk => by omega) (fun w' hw => ?_)
    exact Load_exec_no (H.kept hw) (p := p + ((0 : Nat) : Int)) (by omega) (by omega)
  · exact fetch_odd hp h0

theorem fetchr_ok (hD : Pl.goodD D) (h : Pl.okw D p = true) :
    Calls Tryz.prog 85 #[busV m, .int .u32 p, .int .i64 1] w fun e w' =>
      e = .returned (.tuple #[.int .u32 (Pl.gw D p), noTrap]) ∧ Below w.heap.size w w' := by
  simp only [Pl.okw, Bool.and_eq_true, decide_eq_true_eq] at h
  obtain ⟨h0, h1, h2⟩ := h
  have h := fetch_all (m := m) (want := 1) (w := w) hp (fun k => Pl.gb D (p + (k : Nat))) (fun k _ => Pl.gb_bd hD _) h0 (fun k hk w' hw => by
    exact Load_read (H.kept hw) (p := p + (k : Nat)) (by omega) (by simp only [Pl.ok1, Bool.and_eq_true, decide_eq_true_eq]; omega))
  rw [acc4] at h
  have e : Pl.gb D (p + (0 : Nat)) + Pl.gb D (p + (1 : Nat)) * 256 + Pl.gb D (p + (2 : Nat)) * 65536 + Pl.gb D (p + (3 : Nat)) * 16777216 = Pl.gw D p := by
    have e0 : p + ((0 : Nat) : Int) = p := by omega
    rw [e0]
    show Pl.gb D p + Pl.gb D (p + 1) * 256 + Pl.gb D (p + 2) * 65536 + Pl.gb D (p + 3) * 16777216 = Pl.gw D p
    unfold Pl.gw
    omega
  rw [e] at h
  exact h

theorem fetchr_no (h : Pl.okw D p = false) :
    Calls Tryz.prog 85 #[busV m, .int .u32 p, .int .i64 1] w (TrapIs (.int .u32 0) w) := by
  by_cases h0 : p % 4 = 0
  · have h : p < 4096 ∨ (4096 ≤ p ∧ (D.length : Int) ≤ p - 4096 + 3) := by
      simp only [Pl.okw, Bool.and_eq_false_iff, decide_eq_false_iff_not] at h
      omega
    rcases h with h | ⟨h1, h2⟩
    · refine fetch_fail hp (fun _ => 0) 0 0 (by omega) h0 (fun k hk => by omega) (fun w' hw => ?_)
      exact Load_read_no (H.kept hw) (p := p + ((0 : Nat) : Int)) (by omega) (by simp only [Pl.ok1, Bool.and_eq_false_iff, decide_eq_false_iff_not]; omega)
    · have hj : ∃ j : Nat, j < 4 ∧ (∀ k : Nat, k < j → p + k - 4096 < D.length) ∧ (D.length : Int) ≤ p + j - 4096 := by
        by_cases e : (D.length : Int) ≤ p - 4096
        · exact ⟨0, by omega, fun k hk => by omega, by omega⟩
        · exact ⟨((D.length : Int) - (p - 4096)).toNat, by omega, fun k hk => by omega, by omega⟩
      obtain ⟨j, hj, hjk, hjl⟩ := hj
      refine fetch_fail hp (fun k => Pl.gb D (p + (k : Nat))) 0 j hj h0 (fun k hk w' hw => ?_) (fun w' hw => ?_)
      · have := hjk k hk
        exact Load_read (H.kept hw) (p := p + (k : Nat)) (by omega) (by simp only [Pl.ok1, Bool.and_eq_true, decide_eq_true_eq]; omega)
      · exact Load_read_no (H.kept hw) (p := p + (j : Nat)) (by omega) (by simp only [Pl.ok1, Bool.and_eq_false_iff, decide_eq_false_iff_not]; omega)
  · exact fetch_odd hp h0
end
end Go.Proofs.YtghjjemnegncpaaGreatDoor
