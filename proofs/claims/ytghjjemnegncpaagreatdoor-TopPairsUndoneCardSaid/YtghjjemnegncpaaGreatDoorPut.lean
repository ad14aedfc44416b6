/- The walk of cpu.put over the room. -/
import Derived.Test.YtghjjemnegncpaaGreatDoorFetch
set_option linter.unusedSimpArgs false
set_option linter.unusedVariables false
set_option linter.unusedSectionVars false
namespace Go.Proofs.YtghjjemnegncpaaGreatDoor
open Go.RowKit

theorem put_end {R : Ending → World → Prop} {a : Act} {w : World} {g : Nat} {t : TypeId} {cs : Array Value} (hp : a.tmps.getD 6 undef = .pointer (some ⟨g, 0, none⟩))
    (hg : rowAt w g cs t) (hn : cs.size = 2) (hdf : a.defers = []) (hR : R (.returned (.agg cs)) w) : bodyPost Tryz.prog Tryz.f111 R .ret a w :=
  post_c (p := 6) (ty := 106) rfl Tryz.underlying106 rfl sizeTrap hp hg hn hdf hR

/-- The bytes of a word, so many of them put. -/
def pbk (D : List Int) (p v : Int) : Nat → List Int
  | 0 => D
  | k + 1 => Pl.pb (pbk D p v k) (p + (k : Nat)) (v / 2 ^ (8 * k))
theorem len_pbk (D : List Int) (p v : Int) (k : Nat) : (pbk D p v k).length = D.length := by
  induction k with
  | zero => rfl
  | succ k ih => rw [pbk, Pl.len_pb, ih]
theorem pb_mod (D : List Int) (p x : Int) : Pl.pb D p (x % 256) = Pl.pb D p x := by unfold Pl.pb; rw [Int.emod_emod_of_dvd _ (Int.dvd_refl 256)]
theorem pbk4 (D : List Int) (p v : Int) : pbk D p v 4 = Pl.pw D p v := by
  show Pl.pb (Pl.pb (Pl.pb (Pl.pb D (p + ((0 : Nat) : Int)) (v / 2 ^ (8 * 0))) (p + 1) (v / 2 ^ (8 * 1))) (p + 2) (v / 2 ^ (8 * 2))) (p + 3) (v / 2 ^ (8 * 3)) = _
  have e0 : p + ((0 : Nat) : Int) = p := by omega
  have e1 : v / 2 ^ (8 * 0) = v := by simp
  rw [e0, e1]
  rfl

/-- What turns only blocks that came behind w0's turns no room that w0 holds. -/
theorem Room.kept2 {w0 w w' : World} {m g : Nat} {wv dv : Value} {xs D0 D : List Int} (H0 : Room w0 m g wv dv xs D0) (H : Room w m g wv dv xs D) (h : ∀ k, k < w0.heap.size → w'.heap[k]? = w.heap[k]?) : Room w' m g wv dv xs D := by
  refine ⟨(h m H0.row.lt).trans H.row, ?_, ?_, H.ne, H.wne, H.len, H.lenD, lt_kept H.gl (h g H0.gl)⟩
  · obtain ⟨a, c, hv, hk⟩ := H.words
    obtain ⟨a', c', hv', hk'⟩ := H0.words
    refine ⟨a, c, hv, fun k hkl => ?_⟩
    obtain ⟨ad, ha, hc⟩ := hk k hkl
    obtain ⟨ad', ha', hc'⟩ := hk' k hkl
    have e : ad = ad' := by
      rw [hv] at hv'
      injection hv' with e1 _ _
      rw [ha, ha'] at e1
      exact Option.some.inj e1
    subst e
    exact ⟨ad, ha, (World.cell?_of_block (w := w) (h _ (World.block_lt_of_cell? w0 _ hc'))).trans hc⟩
  · obtain ⟨a, c, hv, hk⟩ := H.data
    obtain ⟨a', c', hv', hk'⟩ := H0.data
    have el : D.length = D0.length := by
      rw [hv] at hv'
      injection hv' with _ e2 _
    refine ⟨a, c, hv, fun k hkl => ?_⟩
    obtain ⟨ha, hc, hf⟩ := hk k hkl
    obtain ⟨_, hc', _⟩ := hk' k (by omega)
    have hb := h g (World.block_lt_of_cell? w0 _ hc')
    exact ⟨ha, (World.cell?_of_block (w := w) hb).trans hc, (World.frozen?_of_block (w := w) hb).trans hf⟩

/-- A trap of one result. -/
def Trap1 (e : Ending) : Prop := ∃ k a, k ≠ 0 ∧ e = .returned (.agg #[.int .i64 k, .int .u32 a])

section
variable {m g : Nat} {wv dv : Value} {xs D : List Int} {p v : Int} {w : World} (H : Room w m g wv dv xs D) (hp : 0 ≤ p ∧ p < 4294967296) (hv : 0 ≤ v ∧ v < 4294967296)
include H hp hv

set_option maxHeartbeats 1600000 in
set_option maxRecDepth 100000 in
theorem put_ok (h : Pl.okw D p = true) :
    Calls Tryz.prog 111 #[busV m, .int .u32 p, .int .u32 v] w fun e w' => e = .returned noTrap ∧ Room w' m g wv dv xs (Pl.pw D p v) ∧ w.grownBy w' (some g) := by
  simp only [Pl.okw, Bool.and_eq_true, decide_eq_true_eq] at h
  obtain ⟨h0, h1, h2⟩ := h
  have hgw : g ≠ w.heap.size := by
    obtain ⟨a, c, hv, hk⟩ := H.data
    obtain ⟨_, hc, _⟩ := hk 0 (by omega)
    exact Nat.ne_of_lt (World.block_lt_of_cell? w _ hc)
  have hlen := H.lenD
  have HL := Lib.hid (fun k => len_pbk D p v k)
  go_enter Tryz.func111, Tryz.ntmps111
  go_wp2
  clear h0
  have ms := method_store m
  go_loopw [14] (fun t wr => ∃ k : Nat, k ≤ 4 ∧ t = .int .u32 k ∧ Room wr m g wv dv xs (pbk D p v k) ∧ w.grownBy wr (some g) ∧ rowAt wr w.heap.size #[.int .i64 0, .int .u32 0] 106) (fun t _ => (4 - intOf t).toNat)
  case atStart => exact ⟨0, by omega, rfl, H.kept fun k hk => Below.heap_alloc _ _ _ hk, gb_alloc (gb_refl _ _), rowAt.new _ _ _ rfl⟩
  case round =>
    obtain ⟨k, hk, rfl, hroom, hgb, hrow⟩ := hrel
    have hpk : p + k < 4294967296 := by omega
    by_cases hlt : k < 4
    · go_wp2_with fail
      refine (Store_ok hroom (p := p + k) (by omega) (v / 2 ^ (8 * k) % 256) (by omega) (by simp only [Pl.ok1, Bool.and_eq_true, decide_eq_true_eq, HL.out]; omega)).mono ?_
      rintro e w1 ⟨rfl, hr1, hg1⟩
      have hrow1 := hrow.grown hg1 (by intro e; exact hgw (Option.some.inj e).symm)
      have hgb1 := gb_trans hg1 hgb
      go_wp2
      exact ⟨⟨k + 1, by omega, by go_num, by rw [pbk, ← pb_mod]; exact hr1, hgb1, hrow1⟩, by simp [intOf]; omega⟩
    · obtain rfl : k = 4 := by omega
      go_wp2_with (first | (apply load_row (hgd := rfl) (ty := 104) (ho := rfl) (hx := rfl) (hu := Tryz.underlying104) (hd := rfl); (· (repeat (first | ((with_reducible apply rowAt.new); simp; done) | (with_reducible apply rowAt.drew) | (with_reducible apply rowAt.drewN) | (with_reducible apply rowAt.alloc) | (with_reducible apply rowAt.setRow_same) | ((with_reducible apply rowAt.so); (· (first | (simp; done) | (simp; omega) | omega))) | (with_reducible apply rowAt.set10) | (with_reducible apply rowAt.set8) | (with_reducible apply rowAt.set4) | (with_reducible apply rowAt.set2) | (with_reducible apply rowAt.set) | ((with_reducible apply rowAt.co); (· (first | (simp; done) | (simp; omega) | omega))) | assumption))); (· (first | exact sizeTrap | exact sizeIns | (rw [sizeRegs]; simp [regs_sz, sr_len, gsz]; done)))) | (apply load_row (hgd := rfl) (ty := 106) (ho := rfl) (hx := rfl) (hu := Tryz.underlying106) (hd := rfl); (· (repeat (first | ((with_reducible apply rowAt.new); simp; done) | (with_reducible apply rowAt.drew) | (with_reducible apply rowAt.drewN) | (with_reducible apply rowAt.alloc) | (with_reducible apply rowAt.setRow_same) | ((with_reducible apply rowAt.so); (· (first | (simp; done) | (simp; omega) | omega))) | (with_reducible apply rowAt.set10) | (with_reducible apply rowAt.set8) | (with_reducible apply rowAt.set4) | (with_reducible apply rowAt.set2) | (with_reducible apply rowAt.set) | ((with_reducible apply rowAt.co); (· (first | (simp; done) | (simp; omega) | omega))) | assumption))); (· (first | exact sizeTrap | exact sizeIns | (rw [sizeRegs]; simp [regs_sz, sr_len, gsz]; done)))) | (apply load_row (hgd := rfl) (ty := 31) (ho := rfl) (hx := rfl) (hu := Tryz.underlying31) (hd := rfl); (· (repeat (first | ((with_reducible apply rowAt.new); simp; done) | (with_reducible apply rowAt.drew) | (with_reducible apply rowAt.drewN) | (with_reducible apply rowAt.alloc) | (with_reducible apply rowAt.setRow_same) | ((with_reducible apply rowAt.so); (· (first | (simp; done) | (simp; omega) | omega))) | (with_reducible apply rowAt.set10) | (with_reducible apply rowAt.set8) | (with_reducible apply rowAt.set4) | (with_reducible apply rowAt.set2) | (with_reducible apply rowAt.set) | ((with_reducible apply rowAt.co); (· (first | (simp; done) | (simp; omega) | omega))) | assumption))); (· (first | exact sizeTrap | exact sizeIns | (rw [sizeRegs]; simp [regs_sz, sr_len, gsz]; done)))) | (apply store_row (hgd := rfl) (ho := rfl) (hx := rfl) (hy := rfl); (· (repeat (first | ((with_reducible apply rowAt.new); simp; done) | (with_reducible apply rowAt.drew) | (with_reducible apply rowAt.drewN) | (with_reducible apply rowAt.alloc) | (with_reducible apply rowAt.setRow_same) | ((with_reducible apply rowAt.so); (· (first | (simp; done) | (simp; omega) | omega))) | (with_reducible apply rowAt.set10) | (with_reducible apply rowAt.set8) | (with_reducible apply rowAt.set4) | (with_reducible apply rowAt.set2) | (with_reducible apply rowAt.set) | ((with_reducible apply rowAt.co); (· (first | (simp; done) | (simp; omega) | omega))) | assumption))); (· (first | exact sizeTrap | exact sizeIns | (rw [sizeRegs]; simp [regs_sz, sr_len, gsz]; done))); (· (first | (simp [regs_sz, sr_len, gsz]; done) | rfl)); (· (first | exact regs_one _ _ | (rw [HS.out]; exact regs_one _ _) | (simp [Value.oneCell']; done)))))
      refine put_end (t := 106) (cs := #[.int .i64 0, .int .u32 0]) rfl ?_ rfl rfl ⟨rfl, ?_, ?_⟩
      · (repeat (first | ((with_reducible apply rowAt.new); simp; done) | (with_reducible apply rowAt.drew) | (with_reducible apply rowAt.drewN) | (with_reducible apply rowAt.alloc) | (with_reducible apply rowAt.setRow_same) | ((with_reducible apply rowAt.so); (· (first | (simp; done) | (simp; omega) | omega))) | (with_reducible apply rowAt.set10) | (with_reducible apply rowAt.set8) | (with_reducible apply rowAt.set4) | (with_reducible apply rowAt.set2) | (with_reducible apply rowAt.set) | ((with_reducible apply rowAt.co); (· (first | (simp; done) | (simp; omega) | omega))) | assumption))
      · rw [← pbk4]
        exact H.kept2 hroom fun b hb => Go.setRow_other _ _ _ _ (by omega)
      · (repeat (first | (with_reducible exact gb_refl _ _) | (with_reducible apply gb_drew) | (with_reducible apply gb_drewN) | (with_reducible apply gb_alloc) | ((with_reducible apply gb_cell); (· (first | exact .inl rfl | (right; (first | (simp; done) | (simp; omega) | omega))))) | ((with_reducible apply gb_row); (· (first | exact .inl rfl | (right; (first | (simp; done) | (simp; omega) | omega))))) | assumption))

set_option maxHeartbeats 1600000 in
set_option maxRecDepth 100000 in
theorem put_fail (j : Nat) (hj : j < 4) (h0 : p % 4 = 0) (hjk : ∀ k : Nat, k < j → Pl.ok1 D (p + k) = true) (hjl : Pl.ok1 D (p + j) = false) :
    Calls Tryz.prog 111 #[busV m, .int .u32 p, .int .u32 v] w fun e w' => Trap1 e ∧ w.grownBy w' (some g) := by
  have hlen := H.lenD
  have hp3 : p + 3 < 4294967296 := by omega
  have HL := Lib.hid (fun k => len_pbk D p v k)
  have HK := Lib.hid hjk; clear hjk
  have HN := Lib.hid hjl; clear hjl
  have hgw : Hid (0 < j → g ≠ w.heap.size) := Lib.hid fun hj0 => by
    obtain ⟨a, c, hv, hk⟩ := H.data
    have := HK.out 0 hj0
    simp only [Pl.ok1, Bool.and_eq_true, decide_eq_true_eq] at this
    obtain ⟨_, hc, _⟩ := hk 0 (by omega)
    exact Nat.ne_of_lt (World.block_lt_of_cell? w _ hc)
  go_enter Tryz.func111, Tryz.ntmps111
  go_wp2
  clear h0
  have ms := method_store m
  go_loopw [14] (fun t wr => ∃ k : Nat, k ≤ j ∧ t = .int .u32 k ∧ Room wr m g wv dv xs (pbk D p v k) ∧ w.grownBy wr (some g) ∧ rowAt wr w.heap.size #[.int .i64 0, .int .u32 0] 106) (fun t _ => (4 - intOf t).toNat)
  case atStart => exact ⟨0, by omega, rfl, H.kept fun k hk => Below.heap_alloc _ _ _ hk, gb_alloc (gb_refl _ _), rowAt.new _ _ _ rfl⟩
  case round =>
    obtain ⟨k, hk, rfl, hroom, hgb, hrow⟩ := hrel
    have hk4 : k < 4 := by omega
    have hpk : p + k < 4294967296 := by omega
    by_cases hlt : k < j
    · go_wp2_with fail
      refine (Store_ok hroom (p := p + k) (by omega) (v / 2 ^ (8 * k) % 256) (by omega) (by have := HK.out k hlt; simp only [Pl.ok1, Bool.and_eq_true, decide_eq_true_eq, HL.out] at this ⊢; exact this)).mono ?_
      rintro e w1 ⟨rfl, hr1, hg1⟩
      have hrow1 := hrow.grown hg1 (by intro e; exact hgw.out (by omega) (Option.some.inj e).symm)
      have hgb1 := gb_trans hg1 hgb
      go_wp2
      exact ⟨⟨k + 1, by omega, by go_num, by rw [pbk, ← pb_mod]; exact hr1, hgb1, hrow1⟩, by simp [intOf]; omega⟩
    · obtain rfl : k = j := by omega
      go_wp2_with fail
      refine (Store_no hroom (p := p + k) (by omega) (v / 2 ^ (8 * k) % 256) (by omega) (by have := HN.out; simp only [Pl.ok1, Bool.and_eq_false_iff, decide_eq_false_iff_not, HL.out] at this ⊢; exact this)).mono ?_
      rintro e w1 ⟨rfl, rfl⟩
      go_wp2_with (first | (apply load_row (hgd := rfl) (ty := 104) (ho := rfl) (hx := rfl) (hu := Tryz.underlying104) (hd := rfl); (· (repeat (first | ((with_reducible apply rowAt.new); simp; done) | (with_reducible apply rowAt.drew) | (with_reducible apply rowAt.drewN) | (with_reducible apply rowAt.alloc) | (with_reducible apply rowAt.setRow_same) | ((with_reducible apply rowAt.so); (· (first | (simp; done) | (simp; omega) | omega))) | (with_reducible apply rowAt.set10) | (with_reducible apply rowAt.set8) | (with_reducible apply rowAt.set4) | (with_reducible apply rowAt.set2) | (with_reducible apply rowAt.set) | ((with_reducible apply rowAt.co); (· (first | (simp; done) | (simp; omega) | omega))) | assumption))); (· (first | exact sizeTrap | exact sizeIns | (rw [sizeRegs]; simp [regs_sz, sr_len, gsz]; done)))) | (apply load_row (hgd := rfl) (ty := 106) (ho := rfl) (hx := rfl) (hu := Tryz.underlying106) (hd := rfl); (· (repeat (first | ((with_reducible apply rowAt.new); simp; done) | (with_reducible apply rowAt.drew) | (with_reducible apply rowAt.drewN) | (with_reducible apply rowAt.alloc) | (with_reducible apply rowAt.setRow_same) | ((with_reducible apply rowAt.so); (· (first | (simp; done) | (simp; omega) | omega))) | (with_reducible apply rowAt.set10) | (with_reducible apply rowAt.set8) | (with_reducible apply rowAt.set4) | (with_reducible apply rowAt.set2) | (with_reducible apply rowAt.set) | ((with_reducible apply rowAt.co); (· (first | (simp; done) | (simp; omega) | omega))) | assumption))); (· (first | exact sizeTrap | exact sizeIns | (rw [sizeRegs]; simp [regs_sz, sr_len, gsz]; done)))) | (apply load_row (hgd := rfl) (ty := 31) (ho := rfl) (hx := rfl) (hu := Tryz.underlying31) (hd := rfl); (· (repeat (first | ((with_reducible apply rowAt.new); simp; done) | (with_reducible apply rowAt.drew) | (with_reducible apply rowAt.drewN) | (with_reducible apply rowAt.alloc) | (with_reducible apply rowAt.setRow_same) | ((with_reducible apply rowAt.so); (· (first | (simp; done) | (simp; omega) | omega))) | (with_reducible apply rowAt.set10) | (with_reducible apply rowAt.set8) | (with_reducible apply rowAt.set4) | (with_reducible apply rowAt.set2) | (with_reducible apply rowAt.set) | ((with_reducible apply rowAt.co); (· (first | (simp; done) | (simp; omega) | omega))) | assumption))); (· (first | exact sizeTrap | exact sizeIns | (rw [sizeRegs]; simp [regs_sz, sr_len, gsz]; done)))) | (apply store_row (hgd := rfl) (ho := rfl) (hx := rfl) (hy := rfl); (· (repeat (first | ((with_reducible apply rowAt.new); simp; done) | (with_reducible apply rowAt.drew) | (with_reducible apply rowAt.drewN) | (with_reducible apply rowAt.alloc) | (with_reducible apply rowAt.setRow_same) | ((with_reducible apply rowAt.so); (· (first | (simp; done) | (simp; omega) | omega))) | (with_reducible apply rowAt.set10) | (with_reducible apply rowAt.set8) | (with_reducible apply rowAt.set4) | (with_reducible apply rowAt.set2) | (with_reducible apply rowAt.set) | ((with_reducible apply rowAt.co); (· (first | (simp; done) | (simp; omega) | omega))) | assumption))); (· (first | exact sizeTrap | exact sizeIns | (rw [sizeRegs]; simp [regs_sz, sr_len, gsz]; done))); (· (first | (simp [regs_sz, sr_len, gsz]; done) | rfl)); (· (first | exact regs_one _ _ | (rw [HS.out]; exact regs_one _ _) | (simp [Value.oneCell']; done)))))
      refine put_end (t := 106) (cs := #[.int .i64 2, .int .u32 (p + k)]) rfl ?_ rfl rfl ⟨⟨2, _, by decide, rfl⟩, ?_⟩
      · (repeat (first | ((with_reducible apply rowAt.new); simp; done) | (with_reducible apply rowAt.drew) | (with_reducible apply rowAt.drewN) | (with_reducible apply rowAt.alloc) | (with_reducible apply rowAt.setRow_same) | ((with_reducible apply rowAt.so); (· (first | (simp; done) | (simp; omega) | omega))) | (with_reducible apply rowAt.set10) | (with_reducible apply rowAt.set8) | (with_reducible apply rowAt.set4) | (with_reducible apply rowAt.set2) | (with_reducible apply rowAt.set) | ((with_reducible apply rowAt.co); (· (first | (simp; done) | (simp; omega) | omega))) | assumption))
      · (repeat (first | (with_reducible exact gb_refl _ _) | (with_reducible apply gb_drew) | (with_reducible apply gb_drewN) | (with_reducible apply gb_alloc) | ((with_reducible apply gb_cell); (· (first | exact .inl rfl | (right; (first | (simp; done) | (simp; omega) | omega))))) | ((with_reducible apply gb_row); (· (first | exact .inl rfl | (right; (first | (simp; done) | (simp; omega) | omega))))) | assumption))

set_option maxHeartbeats 800000 in
set_option maxRecDepth 100000 in
theorem put_odd (h0 : ¬ p % 4 = 0) :
    Calls Tryz.prog 111 #[busV m, .int .u32 p, .int .u32 v] w fun e w' => Trap1 e ∧ w.grownBy w' (some g) := by
  have h1 : (p % 4 != 0) = true := by simpa using h0
  clear h0
  go_enter Tryz.func111, Tryz.ntmps111
  go_wp2_with (first | (apply load_row (hgd := rfl) (ty := 104) (ho := rfl) (hx := rfl) (hu := Tryz.underlying104) (hd := rfl); (· (repeat (first | ((with_reducible apply rowAt.new); simp; done) | (with_reducible apply rowAt.drew) | (with_reducible apply rowAt.drewN) | (with_reducible apply rowAt.alloc) | (with_reducible apply rowAt.setRow_same) | ((with_reducible apply rowAt.so); (· (first | (simp; done) | (simp; omega) | omega))) | (with_reducible apply rowAt.set10) | (with_reducible apply rowAt.set8) | (with_reducible apply rowAt.set4) | (with_reducible apply rowAt.set2) | (with_reducible apply rowAt.set) | ((with_reducible apply rowAt.co); (· (first | (simp; done) | (simp; omega) | omega))) | assumption))); (· (first | exact sizeTrap | exact sizeIns | (rw [sizeRegs]; simp [regs_sz, sr_len, gsz]; done)))) | (apply load_row (hgd := rfl) (ty := 106) (ho := rfl) (hx := rfl) (hu := Tryz.underlying106) (hd := rfl); (· (repeat (first | ((with_reducible apply rowAt.new); simp; done) | (with_reducible apply rowAt.drew) | (with_reducible apply rowAt.drewN) | (with_reducible apply rowAt.alloc) | (with_reducible apply rowAt.setRow_same) | ((with_reducible apply rowAt.so); (· (first | (simp; done) | (simp; omega) | omega))) | (with_reducible apply rowAt.set10) | (with_reducible apply rowAt.set8) | (with_reducible apply rowAt.set4) | (with_reducible apply rowAt.set2) | (with_reducible apply rowAt.set) | ((with_reducible apply rowAt.co); (· (first | (simp; done) | (simp; omega) | omega))) | assumption))); (· (first | exact sizeTrap | exact sizeIns | (rw [sizeRegs]; simp [regs_sz, sr_len, gsz]; done)))) | (apply load_row (hgd := rfl) (ty := 31) (ho := rfl) (hx := rfl) (hu := Tryz.underlying31) (hd := rfl); (· (repeat (first | ((with_reducible apply rowAt.new); simp; done) | (with_reducible apply rowAt.drew) | (with_reducible apply rowAt.drewN) | (with_reducible apply rowAt.alloc) | (with_reducible apply rowAt.setRow_same) | ((with_reducible apply rowAt.so); (· (first | (simp; done) | (simp; omega) | omega))) | (with_reducible apply rowAt.set10) | (with_reducible apply rowAt.set8) | (with_reducible apply rowAt.set4) | (with_reducible apply rowAt.set2) | (with_reducible apply rowAt.set) | ((with_reducible apply rowAt.co); (· (first | (simp; done) | (simp; omega) | omega))) | assumption))); (· (first | exact sizeTrap | exact sizeIns | (rw [sizeRegs]; simp [regs_sz, sr_len, gsz]; done)))) | (apply store_row (hgd := rfl) (ho := rfl) (hx := rfl) (hy := rfl); (· (repeat (first | ((with_reducible apply rowAt.new); simp; done) | (with_reducible apply rowAt.drew) | (with_reducible apply rowAt.drewN) | (with_reducible apply rowAt.alloc) | (with_reducible apply rowAt.setRow_same) | ((with_reducible apply rowAt.so); (· (first | (simp; done) | (simp; omega) | omega))) | (with_reducible apply rowAt.set10) | (with_reducible apply rowAt.set8) | (with_reducible apply rowAt.set4) | (with_reducible apply rowAt.set2) | (with_reducible apply rowAt.set) | ((with_reducible apply rowAt.co); (· (first | (simp; done) | (simp; omega) | omega))) | assumption))); (· (first | exact sizeTrap | exact sizeIns | (rw [sizeRegs]; simp [regs_sz, sr_len, gsz]; done))); (· (first | (simp [regs_sz, sr_len, gsz]; done) | rfl)); (· (first | exact regs_one _ _ | (rw [HS.out]; exact regs_one _ _) | (simp [Value.oneCell']; done)))))
  refine put_end (t := 106) (cs := #[.int .i64 2, .int .u32 p]) rfl ?_ rfl rfl ⟨⟨2, _, by decide, rfl⟩, ?_⟩
  · (repeat (first | ((with_reducible apply rowAt.new); simp; done) | (with_reducible apply rowAt.drew) | (with_reducible apply rowAt.drewN) | (with_reducible apply rowAt.alloc) | (with_reducible apply rowAt.setRow_same) | ((with_reducible apply rowAt.so); (· (first | (simp; done) | (simp; omega) | omega))) | (with_reducible apply rowAt.set10) | (with_reducible apply rowAt.set8) | (with_reducible apply rowAt.set4) | (with_reducible apply rowAt.set2) | (with_reducible apply rowAt.set) | ((with_reducible apply rowAt.co); (· (first | (simp; done) | (simp; omega) | omega))) | assumption))
  · (repeat (first | (with_reducible exact gb_refl _ _) | (with_reducible apply gb_drew) | (with_reducible apply gb_drewN) | (with_reducible apply gb_alloc) | ((with_reducible apply gb_cell); (· (first | exact .inl rfl | (right; (first | (simp; done) | (simp; omega) | omega))))) | ((with_reducible apply gb_row); (· (first | exact .inl rfl | (right; (first | (simp; done) | (simp; omega) | omega))))) | assumption))

theorem put_no (h : Pl.okw D p = false) :
    Calls Tryz.prog 111 #[busV m, .int .u32 p, .int .u32 v] w fun e w' => Trap1 e ∧ w.grownBy w' (some g) := by
  by_cases h0 : p % 4 = 0
  · have h : p < 4096 ∨ (4096 ≤ p ∧ (D.length : Int) ≤ p - 4096 + 3) := by
      simp only [Pl.okw, Bool.and_eq_false_iff, decide_eq_false_iff_not] at h
      omega
    rcases h with h | ⟨h1, h2⟩
    · exact put_fail H hp hv 0 (by omega) h0 (fun k hk => by omega) (by simp only [Pl.ok1, Bool.and_eq_false_iff, decide_eq_false_iff_not]; omega)
    · have hj : ∃ j : Nat, j < 4 ∧ (∀ k : Nat, k < j → p + k - 4096 < D.length) ∧ (D.length : Int) ≤ p + j - 4096 := by
        by_cases e : (D.length : Int) ≤ p - 4096
        · exact ⟨0, by omega, fun k hk => by omega, by omega⟩
        · exact ⟨((D.length : Int) - (p - 4096)).toNat, by omega, fun k hk => by omega, by omega⟩
      obtain ⟨j, hj, hjk, hjl⟩ := hj
      exact put_fail H hp hv j hj h0 (fun k hk => by have := hjk k hk; simp only [Pl.ok1, Bool.and_eq_true, decide_eq_true_eq]; omega) (by simp only [Pl.ok1, Bool.and_eq_false_iff, decide_eq_false_iff_not]; omega)
  · exact put_odd H hp hv h0
end
end Go.Proofs.YtghjjemnegncpaaGreatDoor
