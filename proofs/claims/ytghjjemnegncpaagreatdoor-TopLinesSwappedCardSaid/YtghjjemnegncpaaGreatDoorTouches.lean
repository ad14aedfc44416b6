/- The walks of slices.Contains (of numbers) and wTouches. -/
import Derived.Test.YtghjjemnegncpaaGreatDoorSameOk
set_option linter.unusedSimpArgs false
set_option linter.unusedVariables false
set_option linter.unusedSectionVars false
set_option linter.unnecessarySimpa false
namespace Go.Proofs.YtghjjemnegncpaaGreatDoor
open Go.RowKit

/-- A slice of numbers. -/
def Nums (w : World) (v : Value) (xs : List Int) : Prop := ∃ a c, v = .slice a xs.length c ∧ ∀ k x, xs[k]? = some x → ∃ b off, a = some ⟨b, off, none⟩ ∧ w.cell? ⟨b, off + k, none⟩ = some (.int .i64 x)
theorem Nums.kept {w w' : World} {v : Value} {xs : List Int} (H : Nums w v xs) (h : ∀ k, k < w.heap.size → w'.heap[k]? = w.heap[k]?) : Nums w' v xs := by
  obtain ⟨a, c, hv, hk⟩ := H
  refine ⟨a, c, hv, fun k x hx => ?_⟩
  obtain ⟨b, off, ha, hc⟩ := hk k x hx
  exact ⟨b, off, ha, cell_kept h hc⟩
theorem nums0 (w : World) : Nums w (.slice none 0 0) [] := ⟨none, 0, rfl, fun k x h => (by simp at h)⟩
theorem nums1 {w : World} {g : Nat} {t : TypeId} {x : Int} (h : rowAt w g #[.int .i64 x] t) : Nums w (.slice (some ⟨g, 0, none⟩) 1 1) [x] := by
  refine ⟨_, _, rfl, fun k z hk => ⟨g, 0, rfl, ?_⟩⟩
  match k, hk with
  | 0, hk => simp at hk; subst hk; exact h.cell 0
  | k + 1, hk => simp at hk
theorem nums2 {w : World} {g : Nat} {t : TypeId} {x y : Int} (h : rowAt w g #[.int .i64 x, .int .i64 y] t) : Nums w (.slice (some ⟨g, 0, none⟩) 2 2) [x, y] := by
  refine ⟨_, _, rfl, fun k z hk => ⟨g, 0, rfl, ?_⟩⟩
  match k, hk with
  | 0, hk => simp at hk; subst hk; exact h.cell 0
  | 1, hk => simp at hk; subst hk; exact h.cell 1
  | k + 2, hk => simp at hk

theorem mem_take_succ {xs : List Int} {k : Nat} {z x : Int} (h : xs[k]? = some z) (hn : x ∉ xs.take k) (hz : x ≠ z) : x ∉ xs.take (k + 1) := by
  rw [List.take_add_one, h]
  simp [hn, hz]

set_option maxHeartbeats 1600000 in
set_option maxRecDepth 100000 in
theorem Contains_is {w : World} {v : Value} {xs : List Int} (x : Int) (H : Nums w v xs) (hl : xs.length ≤ 1000) : Calls Tryz.prog 16 #[v, .int .i64 x] w fun e w' => e = .returned (.bool (decide (x ∈ xs))) ∧ Below w.heap.size w w' := by
  have HI : ∀ W, (∃ n, W = w.drewN n) → Calls Tryz.prog 43 #[v, .int .i64 x] W fun e w' => (∃ r : Int, e = .returned (.int .i64 r) ∧ -1 ≤ r ∧ r ≤ 1000 ∧ (0 ≤ r ↔ x ∈ xs)) ∧ Below w.heap.size w w' := by
    rintro W ⟨n0, rfl⟩
    obtain ⟨a, c, rfl, hk⟩ := H
    have HK := Lib.hid hk
    clear hk
    go_enter Tryz.func43, Tryz.ntmps43
    go_wp2
    go_loopw [8] (fun t wr => ∃ k : Nat, k ≤ xs.length ∧ t = .int .i64 k ∧ x ∉ xs.take k ∧ ∃ n, wr = w.drewN n) (fun t _ => xs.length - (intOf t).toNat)
    case atStart => exact ⟨0, Nat.zero_le _, rfl, by simp, _, rfl⟩
    case round =>
      obtain ⟨k, hk, rfl, hn, n, rfl⟩ := hrel
      by_cases hlt : k < xs.length
      · obtain ⟨z, hz⟩ : ∃ z, xs[k]? = some z := ⟨xs[k], by simp [hlt]⟩
        obtain ⟨b, off, rfl, hc⟩ := HK.out k z hz
        have HZ := Lib.hid hz
        have HN := Lib.hid hn
        clear hz hn
        by_cases hxz : x = z
        · subst hxz
          go_wp2
          go_ret
          exact ⟨⟨k, rfl, by omega, by omega, fun _ => List.mem_of_getElem? HZ.out, fun _ => by omega⟩, by (repeat (first | (with_reducible exact Below.refl _ _) | (with_reducible apply Below.drew) | (with_reducible apply bl_drewN) | ((with_reducible apply bl_alloc); (· (first | (simp; done) | (simp; omega) | omega))) | ((with_reducible apply bl_row); (· (first | (simp; done) | (simp; omega) | omega))) | ((with_reducible apply bl_cell); (· (first | (simp; done) | (simp; omega) | omega))) | assumption))⟩
        · have hxz' : (x == z) = false := by simpa using hxz
          have HX := Lib.hid hxz
          clear hxz
          go_wp2
          exact ⟨⟨k + 1, by omega, by go_num, mem_take_succ HZ.out HN.out HX.out, _, rfl⟩, by simp [intOf]; omega⟩
      · obtain rfl : k = xs.length := by omega
        rw [List.take_length] at hn
        have HN := Lib.hid hn
        clear hn
        go_wp2
        go_ret
        exact ⟨⟨-1, rfl, by omega, by omega, fun h => by omega, fun h => absurd h HN.out⟩, by (repeat (first | (with_reducible exact Below.refl _ _) | (with_reducible apply Below.drew) | (with_reducible apply bl_drewN) | ((with_reducible apply bl_alloc); (· (first | (simp; done) | (simp; omega) | omega))) | ((with_reducible apply bl_row); (· (first | (simp; done) | (simp; omega) | omega))) | ((with_reducible apply bl_cell); (· (first | (simp; done) | (simp; omega) | omega))) | assumption))⟩
  have HI := Lib.hid HI
  clear H
  go_enter Tryz.func16, Tryz.ntmps16
  go_wp2_with fail
  refine (HI.out _ ⟨0, rfl⟩).mono ?_
  rintro e w' ⟨⟨r, rfl, h1, h2, h3⟩, hb⟩
  by_cases h0 : 0 ≤ r
  · have hm : decide (x ∈ xs) = true := decide_eq_true (h3.1 h0)
    have HM := Lib.hid hm
    clear h3 hm HI
    go_wp2
    go_ret
    exact ⟨by rw [HM.out]; rfl, hb⟩
  · have hm : decide (x ∈ xs) = false := decide_eq_false (fun h => h0 (h3.2 h))
    have HM := Lib.hid hm
    clear h3 hm HI
    go_wp2
    go_ret
    exact ⟨by rw [HM.out]; simp; exact h0, hb⟩

/-- What wTouches hands back. -/
def TouchSays (i : Pl.Ins) (e : Ending) (w' : World) : Prop := ∃ v, e = .returned (.tuple #[v, .int .i64 (Pl.touches i).2.1, .bool (Pl.touches i).2.2]) ∧ Nums w' v (Pl.touches i).1

set_option maxHeartbeats 3200000 in
set_option maxRecDepth 100000 in
theorem touches_is (i : Pl.Ins) (hf : Pl.flat i) (W : World) : Calls Tryz.prog 15 #[insV i] W fun e w' => TouchSays i e w' ∧ Below W.heap.size W w' := by
  obtain ⟨op, a, b, c⟩ := i
  rw [show (#[insV ⟨op, a, b, c⟩] : Array Value) = #[.agg #[.int .i64 op, .int .i64 a, .int .i64 b, .int .i64 c]] from rfl]
  rcases Pl.flat_ops hf with rfl | rfl | rfl | h5 | rfl | rfl | rfl | rfl | rfl | rfl
  · clear hf
    have he : Pl.touches ⟨2, a, b, c⟩ = ([], a, false) := rfl
    go_enter Tryz.func15, Tryz.ntmps15
    go_wp2_with fail
    go_quiet (fail)
    go_wp2
    go_ret3
    exact ⟨⟨_, by rw [he]; rfl, by rw [he]; exact nums0 _⟩, by (repeat (first | (with_reducible exact Below.refl _ _) | (with_reducible apply Below.drew) | (with_reducible apply bl_drewN) | ((with_reducible apply bl_alloc); (· (first | (simp; done) | (simp; omega) | omega))) | ((with_reducible apply bl_row); (· (first | (simp; done) | (simp; omega) | omega))) | ((with_reducible apply bl_cell); (· (first | (simp; done) | (simp; omega) | omega))) | assumption))⟩
  · clear hf
    have he : Pl.touches ⟨3, a, b, c⟩ = ([a], a, false) := rfl
    go_enter Tryz.func15, Tryz.ntmps15
    go_wp2_with fail
    go_region_with (fail)
    all_goals
      go_wp2
      go_ret3
      exact ⟨⟨_, by rw [he]; rfl, by rw [he]; exact nums1 (t := 3) (by (repeat (first | ((with_reducible apply rowAt.new); simp; done) | (with_reducible apply rowAt.drew) | (with_reducible apply rowAt.drewN) | (with_reducible apply rowAt.alloc) | (with_reducible apply rowAt.setRow_same) | ((with_reducible apply rowAt.so); (· (first | (simp; done) | (simp; omega) | omega))) | (with_reducible apply rowAt.set10) | (with_reducible apply rowAt.set8) | (with_reducible apply rowAt.set4) | (with_reducible apply rowAt.set2) | (with_reducible apply rowAt.set) | ((with_reducible apply rowAt.co); (· (first | (simp; done) | (simp; omega) | omega))) | assumption)))⟩, by (repeat (first | (with_reducible exact Below.refl _ _) | (with_reducible apply Below.drew) | (with_reducible apply bl_drewN) | ((with_reducible apply bl_alloc); (· (first | (simp; done) | (simp; omega) | omega))) | ((with_reducible apply bl_row); (· (first | (simp; done) | (simp; omega) | omega))) | ((with_reducible apply bl_cell); (· (first | (simp; done) | (simp; omega) | omega))) | assumption))⟩
  · clear hf
    have he : Pl.touches ⟨4, a, b, c⟩ = ([b], a, false) := rfl
    go_enter Tryz.func15, Tryz.ntmps15
    go_wp2_with fail
    go_region_with (fail)
    all_goals
      go_wp2
      go_ret3
      exact ⟨⟨_, by rw [he]; rfl, by rw [he]; exact nums1 (t := 3) (by (repeat (first | ((with_reducible apply rowAt.new); simp; done) | (with_reducible apply rowAt.drew) | (with_reducible apply rowAt.drewN) | (with_reducible apply rowAt.alloc) | (with_reducible apply rowAt.setRow_same) | ((with_reducible apply rowAt.so); (· (first | (simp; done) | (simp; omega) | omega))) | (with_reducible apply rowAt.set10) | (with_reducible apply rowAt.set8) | (with_reducible apply rowAt.set4) | (with_reducible apply rowAt.set2) | (with_reducible apply rowAt.set) | ((with_reducible apply rowAt.co); (· (first | (simp; done) | (simp; omega) | omega))) | assumption)))⟩, by (repeat (first | (with_reducible exact Below.refl _ _) | (with_reducible apply Below.drew) | (with_reducible apply bl_drewN) | ((with_reducible apply bl_alloc); (· (first | (simp; done) | (simp; omega) | omega))) | ((with_reducible apply bl_row); (· (first | (simp; done) | (simp; omega) | omega))) | ((with_reducible apply bl_cell); (· (first | (simp; done) | (simp; omega) | omega))) | assumption))⟩
  · clear hf
    have h6 : 5 ≤ op ∧ op ≤ 13 := h5
    have e2 : (op == 2) = false := by simp; omega
    have e3 : (op == 3) = false := by simp; omega
    have e4 : (op == 4) = false := by simp; omega
    have e14 : (op == 14) = false := by simp; omega
    have e15 : (op == 15) = false := by simp; omega
    have e16 : (op == 16) = false := by simp; omega
    have e17 : (op == 17) = false := by simp; omega
    have e18 : (op == 18) = false := by simp; omega
    have e25 : (op == 25) = false := by simp; omega
    have he : Pl.touches ⟨op, a, b, c⟩ = ([a, b], a, false) := Pl.touches_mid h5
    clear h5 h6
    go_enter Tryz.func15, Tryz.ntmps15
    go_wp2_with fail
    go_region_with (fail)
    all_goals
      go_wp2
      go_ret3
      exact ⟨⟨_, by rw [he]; rfl, by rw [he]; exact nums2 (t := 3) (by (repeat (first | ((with_reducible apply rowAt.new); simp; done) | (with_reducible apply rowAt.drew) | (with_reducible apply rowAt.drewN) | (with_reducible apply rowAt.alloc) | (with_reducible apply rowAt.setRow_same) | ((with_reducible apply rowAt.so); (· (first | (simp; done) | (simp; omega) | omega))) | (with_reducible apply rowAt.set10) | (with_reducible apply rowAt.set8) | (with_reducible apply rowAt.set4) | (with_reducible apply rowAt.set2) | (with_reducible apply rowAt.set) | ((with_reducible apply rowAt.co); (· (first | (simp; done) | (simp; omega) | omega))) | assumption)))⟩, by (repeat (first | (with_reducible exact Below.refl _ _) | (with_reducible apply Below.drew) | (with_reducible apply bl_drewN) | ((with_reducible apply bl_alloc); (· (first | (simp; done) | (simp; omega) | omega))) | ((with_reducible apply bl_row); (· (first | (simp; done) | (simp; omega) | omega))) | ((with_reducible apply bl_cell); (· (first | (simp; done) | (simp; omega) | omega))) | assumption))⟩
  · clear hf
    have he : Pl.touches ⟨14, a, b, c⟩ = ([b], a, false) := rfl
    go_enter Tryz.func15, Tryz.ntmps15
    go_wp2_with fail
    go_region_with (fail)
    all_goals
      go_wp2
      go_ret3
      exact ⟨⟨_, by rw [he]; rfl, by rw [he]; exact nums1 (t := 3) (by (repeat (first | ((with_reducible apply rowAt.new); simp; done) | (with_reducible apply rowAt.drew) | (with_reducible apply rowAt.drewN) | (with_reducible apply rowAt.alloc) | (with_reducible apply rowAt.setRow_same) | ((with_reducible apply rowAt.so); (· (first | (simp; done) | (simp; omega) | omega))) | (with_reducible apply rowAt.set10) | (with_reducible apply rowAt.set8) | (with_reducible apply rowAt.set4) | (with_reducible apply rowAt.set2) | (with_reducible apply rowAt.set) | ((with_reducible apply rowAt.co); (· (first | (simp; done) | (simp; omega) | omega))) | assumption)))⟩, by (repeat (first | (with_reducible exact Below.refl _ _) | (with_reducible apply Below.drew) | (with_reducible apply bl_drewN) | ((with_reducible apply bl_alloc); (· (first | (simp; done) | (simp; omega) | omega))) | ((with_reducible apply bl_row); (· (first | (simp; done) | (simp; omega) | omega))) | ((with_reducible apply bl_cell); (· (first | (simp; done) | (simp; omega) | omega))) | assumption))⟩
  · clear hf
    have he : Pl.touches ⟨15, a, b, c⟩ = ([b], a, true) := rfl
    go_enter Tryz.func15, Tryz.ntmps15
    go_wp2_with fail
    go_region_with (fail)
    all_goals
      go_wp2
      go_ret3
      exact ⟨⟨_, by rw [he]; rfl, by rw [he]; exact nums1 (t := 3) (by (repeat (first | ((with_reducible apply rowAt.new); simp; done) | (with_reducible apply rowAt.drew) | (with_reducible apply rowAt.drewN) | (with_reducible apply rowAt.alloc) | (with_reducible apply rowAt.setRow_same) | ((with_reducible apply rowAt.so); (· (first | (simp; done) | (simp; omega) | omega))) | (with_reducible apply rowAt.set10) | (with_reducible apply rowAt.set8) | (with_reducible apply rowAt.set4) | (with_reducible apply rowAt.set2) | (with_reducible apply rowAt.set) | ((with_reducible apply rowAt.co); (· (first | (simp; done) | (simp; omega) | omega))) | assumption)))⟩, by (repeat (first | (with_reducible exact Below.refl _ _) | (with_reducible apply Below.drew) | (with_reducible apply bl_drewN) | ((with_reducible apply bl_alloc); (· (first | (simp; done) | (simp; omega) | omega))) | ((with_reducible apply bl_row); (· (first | (simp; done) | (simp; omega) | omega))) | ((with_reducible apply bl_cell); (· (first | (simp; done) | (simp; omega) | omega))) | assumption))⟩
  · clear hf
    have he : Pl.touches ⟨16, a, b, c⟩ = ([b], a, true) := rfl
    go_enter Tryz.func15, Tryz.ntmps15
    go_wp2_with fail
    go_region_with (fail)
    all_goals
      go_wp2
      go_ret3
      exact ⟨⟨_, by rw [he]; rfl, by rw [he]; exact nums1 (t := 3) (by (repeat (first | ((with_reducible apply rowAt.new); simp; done) | (with_reducible apply rowAt.drew) | (with_reducible apply rowAt.drewN) | (with_reducible apply rowAt.alloc) | (with_reducible apply rowAt.setRow_same) | ((with_reducible apply rowAt.so); (· (first | (simp; done) | (simp; omega) | omega))) | (with_reducible apply rowAt.set10) | (with_reducible apply rowAt.set8) | (with_reducible apply rowAt.set4) | (with_reducible apply rowAt.set2) | (with_reducible apply rowAt.set) | ((with_reducible apply rowAt.co); (· (first | (simp; done) | (simp; omega) | omega))) | assumption)))⟩, by (repeat (first | (with_reducible exact Below.refl _ _) | (with_reducible apply Below.drew) | (with_reducible apply bl_drewN) | ((with_reducible apply bl_alloc); (· (first | (simp; done) | (simp; omega) | omega))) | ((with_reducible apply bl_row); (· (first | (simp; done) | (simp; omega) | omega))) | ((with_reducible apply bl_cell); (· (first | (simp; done) | (simp; omega) | omega))) | assumption))⟩
  · clear hf
    have he : Pl.touches ⟨17, a, b, c⟩ = ([a, b], -1, true) := rfl
    go_enter Tryz.func15, Tryz.ntmps15
    go_wp2
    go_ret3
    exact ⟨⟨_, by rw [he]; rfl, by rw [he]; exact nums2 (t := 3) (by (repeat (first | ((with_reducible apply rowAt.new); simp; done) | (with_reducible apply rowAt.drew) | (with_reducible apply rowAt.drewN) | (with_reducible apply rowAt.alloc) | (with_reducible apply rowAt.setRow_same) | ((with_reducible apply rowAt.so); (· (first | (simp; done) | (simp; omega) | omega))) | (with_reducible apply rowAt.set10) | (with_reducible apply rowAt.set8) | (with_reducible apply rowAt.set4) | (with_reducible apply rowAt.set2) | (with_reducible apply rowAt.set) | ((with_reducible apply rowAt.co); (· (first | (simp; done) | (simp; omega) | omega))) | assumption)))⟩, by (repeat (first | (with_reducible exact Below.refl _ _) | (with_reducible apply Below.drew) | (with_reducible apply bl_drewN) | ((with_reducible apply bl_alloc); (· (first | (simp; done) | (simp; omega) | omega))) | ((with_reducible apply bl_row); (· (first | (simp; done) | (simp; omega) | omega))) | ((with_reducible apply bl_cell); (· (first | (simp; done) | (simp; omega) | omega))) | assumption))⟩
  · clear hf
    have he : Pl.touches ⟨18, a, b, c⟩ = ([a, b], -1, true) := rfl
    go_enter Tryz.func15, Tryz.ntmps15
    go_wp2
    go_ret3
    exact ⟨⟨_, by rw [he]; rfl, by rw [he]; exact nums2 (t := 3) (by (repeat (first | ((with_reducible apply rowAt.new); simp; done) | (with_reducible apply rowAt.drew) | (with_reducible apply rowAt.drewN) | (with_reducible apply rowAt.alloc) | (with_reducible apply rowAt.setRow_same) | ((with_reducible apply rowAt.so); (· (first | (simp; done) | (simp; omega) | omega))) | (with_reducible apply rowAt.set10) | (with_reducible apply rowAt.set8) | (with_reducible apply rowAt.set4) | (with_reducible apply rowAt.set2) | (with_reducible apply rowAt.set) | ((with_reducible apply rowAt.co); (· (first | (simp; done) | (simp; omega) | omega))) | assumption)))⟩, by (repeat (first | (with_reducible exact Below.refl _ _) | (with_reducible apply Below.drew) | (with_reducible apply bl_drewN) | ((with_reducible apply bl_alloc); (· (first | (simp; done) | (simp; omega) | omega))) | ((with_reducible apply bl_row); (· (first | (simp; done) | (simp; omega) | omega))) | ((with_reducible apply bl_cell); (· (first | (simp; done) | (simp; omega) | omega))) | assumption))⟩
  · clear hf
    have he : Pl.touches ⟨25, a, b, c⟩ = ([a, b], a, true) := rfl
    go_enter Tryz.func15, Tryz.ntmps15
    go_wp2_with fail
    go_region_with (fail)
    all_goals
      go_wp2
      go_ret3
      exact ⟨⟨_, by rw [he]; rfl, by rw [he]; exact nums2 (t := 3) (by (repeat (first | ((with_reducible apply rowAt.new); simp; done) | (with_reducible apply rowAt.drew) | (with_reducible apply rowAt.drewN) | (with_reducible apply rowAt.alloc) | (with_reducible apply rowAt.setRow_same) | ((with_reducible apply rowAt.so); (· (first | (simp; done) | (simp; omega) | omega))) | (with_reducible apply rowAt.set10) | (with_reducible apply rowAt.set8) | (with_reducible apply rowAt.set4) | (with_reducible apply rowAt.set2) | (with_reducible apply rowAt.set) | ((with_reducible apply rowAt.co); (· (first | (simp; done) | (simp; omega) | omega))) | assumption)))⟩, by (repeat (first | (with_reducible exact Below.refl _ _) | (with_reducible apply Below.drew) | (with_reducible apply bl_drewN) | ((with_reducible apply bl_alloc); (· (first | (simp; done) | (simp; omega) | omega))) | ((with_reducible apply bl_row); (· (first | (simp; done) | (simp; omega) | omega))) | ((with_reducible apply bl_cell); (· (first | (simp; done) | (simp; omega) | omega))) | assumption))⟩
end Go.Proofs.YtghjjemnegncpaaGreatDoor
