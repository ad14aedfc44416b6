/- The walks of the room's Load and Store. -/
import Derived.Test.YtghjjemnegncpaaGreatDoorProg
import Derived.Test.YtghjjemnegncpaaGreatDoorRows2
set_option linter.unusedSimpArgs false
set_option linter.unusedVariables false
set_option linter.unusedSectionVars false
namespace Go.Proofs.YtghjjemnegncpaaGreatDoor
open Go.RowKit

/-- A slice of words that reads so. -/
def Wd (w : World) (v : Value) (xs : List Int) : Prop :=
  ∃ a c, v = .slice a xs.length c ∧ ∀ k, k < xs.length → ∃ ad : Addr, a = some ad ∧ w.cell? (ad.add k) = some (.int .u32 (xs.getD k 0))
/-- A slice of bytes at the head of block g that reads so, and may be written. -/
def Dt (w : World) (v : Value) (g : Nat) (D : List Int) : Prop :=
  ∃ a c, v = .slice a D.length c ∧ ∀ k, k < D.length → a = some ⟨g, 0, none⟩ ∧ w.cell? ⟨g, k, none⟩ = some (.int .u8 (D.getD k 0)) ∧ w.frozen? ⟨g, k, none⟩ = false
/-- The memory of a run: words that are executed, data. -/
structure Room (w : World) (m g : Nat) (wv dv : Value) (xs D : List Int) : Prop where
  row : rowAt w m #[wv, dv] 102
  words : Wd w wv xs
  data : Dt w dv g D
  ne : m ≠ g
  wne : ∀ a n c, wv = .slice (some a) n c → a.block ≠ g
  len : xs.length ≤ 1000
  lenD : D.length ≤ 4096
  gl : g < w.heap.size

theorem add_at (b k : Nat) : (⟨b, 0, none⟩ : Addr).add k = ⟨b, k, none⟩ := by unfold Addr.add; split <;> simp_all
theorem cell_kept {w w' : World} (h : ∀ k, k < w.heap.size → w'.heap[k]? = w.heap[k]?) {a : Addr} {v : Value} (hc : w.cell? a = some v) : w'.cell? a = some v :=
  (World.cell?_of_block (w := w) (h a.block (World.block_lt_of_cell? w a hc))).trans hc
theorem lt_kept {w w' : World} {g : Nat} (hg : g < w.heap.size) (h : w'.heap[g]? = w.heap[g]?) : g < w'.heap.size := by
  rw [Array.getElem?_eq_getElem hg] at h
  exact (Array.getElem?_eq_some_iff.1 h).1
theorem Wd.kept {w w' : World} {v : Value} {xs : List Int} (H : Wd w v xs) (h : ∀ k, k < w.heap.size → w'.heap[k]? = w.heap[k]?) : Wd w' v xs := by
  obtain ⟨a, c, hv, hk⟩ := H
  refine ⟨a, c, hv, fun k hkl => ?_⟩
  obtain ⟨ad, ha, hc⟩ := hk k hkl
  exact ⟨ad, ha, cell_kept h hc⟩
theorem Dt.kept {w w' : World} {v : Value} {g : Nat} {D : List Int} (H : Dt w v g D) (h : ∀ k, k < w.heap.size → w'.heap[k]? = w.heap[k]?) : Dt w' v g D := by
  obtain ⟨a, c, hv, hk⟩ := H
  refine ⟨a, c, hv, fun k hkl => ?_⟩
  obtain ⟨ha, hc, hf⟩ := hk k hkl
  exact ⟨ha, cell_kept h hc, (World.frozen?_of_block (w := w) (h g (World.block_lt_of_cell? w _ hc))).trans hf⟩
theorem Room.kept {w w' : World} {m g : Nat} {wv dv : Value} {xs D : List Int} (H : Room w m g wv dv xs D) (h : ∀ k, k < w.heap.size → w'.heap[k]? = w.heap[k]?) : Room w' m g wv dv xs D :=
  ⟨(h m H.row.lt).trans H.row, H.words.kept h, H.data.kept h, H.ne, H.wne, H.len, H.lenD, lt_kept H.gl (h g H.gl)⟩
theorem Room.store {w : World} {m g : Nat} {wv dv : Value} {xs D : List Int} (H : Room w m g wv dv xs D) {p b : Int} (hb : 0 ≤ b ∧ b < 256) (h1 : 4096 ≤ p) (h2 : p - 4096 < D.length) :
    Room (w.setCell ⟨g, (p - 4096).toNat, none⟩ (.int .u8 b)) m g wv dv xs (Pl.pb D p b) := by
  refine ⟨H.row.other H.ne _, ?_, ?_, H.ne, H.wne, H.len, by rw [Pl.len_pb]; exact H.lenD, by simpa [World.setCell] using H.gl⟩
  · obtain ⟨a, c, hv, hk⟩ := H.words
    refine ⟨a, c, hv, fun k hkl => ?_⟩
    obtain ⟨ad, ha, hc⟩ := hk k hkl
    refine ⟨ad, ha, ?_⟩
    subst ha
    have hne := H.wne _ _ _ hv
    rw [World.cell?_setCell_other]
    · exact hc
    · intro e
      have : (ad.add k).block = ad.block := by unfold Addr.add; split <;> rfl
      rw [← e] at this
      exact hne this.symm
  · obtain ⟨a, c, hv, hk⟩ := H.data
    refine ⟨a, c, by rw [Pl.len_pb]; exact hv, fun k hkl => ?_⟩
    rw [Pl.len_pb] at hkl
    obtain ⟨ha, hc, hf⟩ := hk k hkl
    refine ⟨ha, ?_, by rw [World.frozen?_setCell]; exact hf⟩
    unfold Pl.pb
    rw [Pl.getD_set]
    by_cases e : (p - 4096).toNat = k
    · subst e
      rw [if_pos ⟨rfl, by omega⟩, World.cell?_setCell_same _ _ _ hc, Int.emod_eq_of_lt hb.1 hb.2]
    · rw [if_neg (fun h => e h.1), World.cell?_setCell_other]
      · exact hc
      · intro h; exact e (congrArg Addr.off h)

section
variable {m g : Nat} {wv dv : Value} {xs D : List Int} {p : Int} {w : World} (H : Room w m g wv dv xs D) (hp : 0 ≤ p ∧ p < 4294967296)
include H hp

set_option maxHeartbeats 800000 in
theorem Load_exec (hx : ∀ k, k < xs.length → 0 ≤ xs.getD k 0 ∧ xs.getD k 0 < 4294967296) (h1 : 64 ≤ p) (h2 : p - 64 < 4 * xs.length) :
    Calls Tryz.prog 161 #[.pointer (some ⟨m, 0, none⟩), .int .u32 p, .int .i64 4] w fun e w' =>
      e = .returned (.tuple #[.int .u8 (xs.getD ((p - 64) / 4).toNat 0 / 2 ^ (p % 4 * 8).toNat % 256), .int .i64 0]) ∧ w = w' := by
  obtain ⟨a, c, rfl, hw⟩ := H.words
  obtain ⟨ad, rfl, hc⟩ := hw ((p - 64) / 4).toNat (by omega)
  have hx0 := hx ((p - 64) / 4).toNat (by omega)
  have hm : w.cell? ⟨m, 0, none⟩ = some (.slice (some ad) xs.length c) := H.row.cell 0
  have hl := H.len
  clear hw hx
  generalize xs.getD ((p - 64) / 4).toNat 0 = x at *
  go_enter Tryz.func161, Tryz.ntmps161
  go_wp2
  go_ret2
  exact ⟨rfl, rfl⟩

set_option maxHeartbeats 800000 in
theorem Load_exec_no (h : p < 64 ∨ 4 * xs.length ≤ p - 64) :
    Calls Tryz.prog 161 #[.pointer (some ⟨m, 0, none⟩), .int .u32 p, .int .i64 4] w fun e w' =>
      e = .returned (.tuple #[.int .u8 0, .int .i64 11]) ∧ w = w' := by
  obtain ⟨a, c, rfl, hw⟩ := H.words
  have hm : w.cell? ⟨m, 0, none⟩ = some (.slice a xs.length c) := H.row.cell 0
  have hl := H.len
  clear hw
  rcases h with h | h
  · go_enter Tryz.func161, Tryz.ntmps161
    go_wp2
    go_ret2
    exact ⟨rfl, rfl⟩
  · have h64 : 64 ≤ p := by omega
    go_enter Tryz.func161, Tryz.ntmps161
    go_wp2
    go_ret2
    exact ⟨rfl, rfl⟩

set_option maxHeartbeats 800000 in
theorem Load_read (h : Pl.ok1 D p = true) :
    Calls Tryz.prog 161 #[.pointer (some ⟨m, 0, none⟩), .int .u32 p, .int .i64 1] w fun e w' =>
      e = .returned (.tuple #[.int .u8 (Pl.gb D p), .int .i64 0]) ∧ w = w' := by
  obtain ⟨a, c, rfl, hw⟩ := H.data
  simp only [Pl.ok1, Bool.and_eq_true, decide_eq_true_eq] at h
  obtain ⟨h1, h2⟩ := h
  obtain ⟨rfl, hc, -⟩ := hw (p - 4096).toNat (by omega)
  have hm : w.cell? ⟨m, 1, none⟩ = some (.slice (some ⟨g, 0, none⟩) D.length c) := H.row.cell 1
  have hl := H.lenD
  clear hw
  unfold Pl.gb
  generalize D.getD (p - 4096).toNat 0 = x at *
  go_enter Tryz.func161, Tryz.ntmps161
  go_wp2
  go_ret2
  exact ⟨rfl, rfl⟩

set_option maxHeartbeats 800000 in
theorem Load_read_no (h : Pl.ok1 D p = false) :
    Calls Tryz.prog 161 #[.pointer (some ⟨m, 0, none⟩), .int .u32 p, .int .i64 1] w fun e w' =>
      e = .returned (.tuple #[.int .u8 0, .int .i64 11]) ∧ w = w' := by
  obtain ⟨a, c, rfl, hw⟩ := H.data
  have h : p < 4096 ∨ (D.length : Int) ≤ p - 4096 := by
    simp only [Pl.ok1, Bool.and_eq_false_iff, decide_eq_false_iff_not] at h
    omega
  have hm : w.cell? ⟨m, 1, none⟩ = some (.slice a D.length c) := H.row.cell 1
  have hl := H.lenD
  clear hw
  rcases h with h | h
  · go_enter Tryz.func161, Tryz.ntmps161
    go_wp2
    go_ret2
    exact ⟨rfl, rfl⟩
  · have h64 : 4096 ≤ p := by omega
    go_enter Tryz.func161, Tryz.ntmps161
    go_wp2
    go_ret2
    exact ⟨rfl, rfl⟩

set_option maxHeartbeats 800000 in
theorem Store_ok (b : Int) (hb : 0 ≤ b ∧ b < 256) (h : Pl.ok1 D p = true) :
    Calls Tryz.prog 162 #[.pointer (some ⟨m, 0, none⟩), .int .u32 p, .int .u8 b] w fun e w' =>
      e = .returned (.int .i64 0) ∧ Room w' m g wv dv xs (Pl.pb D p b) ∧ w.grownBy w' (some g) := by
  have H0 := H
  obtain ⟨a, c, rfl, hw⟩ := H.data
  simp only [Pl.ok1, Bool.and_eq_true, decide_eq_true_eq] at h
  obtain ⟨h1, h2⟩ := h
  obtain ⟨rfl, hc, hf⟩ := hw (p - 4096).toNat (by omega)
  have hm : w.cell? ⟨m, 1, none⟩ = some (.slice (some ⟨g, 0, none⟩) D.length c) := H.row.cell 1
  have hl := H.lenD
  clear hw
  generalize D.getD (p - 4096).toNat 0 = x at *
  go_enter Tryz.func162, Tryz.ntmps162
  go_wp2
  go_ret
  refine ⟨rfl, ?_, ?_⟩
  · exact H0.store hb h1 h2
  · (repeat (first | (with_reducible exact gb_refl _ _) | (with_reducible apply gb_drew) | (with_reducible apply gb_drewN) | (with_reducible apply gb_alloc) | ((with_reducible apply gb_cell); (· (first | exact .inl rfl | (right; (first | (simp; done) | (simp; omega) | omega))))) | ((with_reducible apply gb_row); (· (first | exact .inl rfl | (right; (first | (simp; done) | (simp; omega) | omega))))) | assumption))

set_option maxHeartbeats 800000 in
theorem Store_no (b : Int) (hb : 0 ≤ b ∧ b < 256) (h : Pl.ok1 D p = false) :
    Calls Tryz.prog 162 #[.pointer (some ⟨m, 0, none⟩), .int .u32 p, .int .u8 b] w fun e w' =>
      e = .returned (.int .i64 11) ∧ w = w' := by
  obtain ⟨a, c, rfl, hw⟩ := H.data
  have h : p < 4096 ∨ (D.length : Int) ≤ p - 4096 := by
    simp only [Pl.ok1, Bool.and_eq_false_iff, decide_eq_false_iff_not] at h
    omega
  have hm : w.cell? ⟨m, 1, none⟩ = some (.slice a D.length c) := H.row.cell 1
  have hl := H.lenD
  clear hw
  rcases h with h | h
  · go_enter Tryz.func162, Tryz.ntmps162
    go_wp2
    go_ret
    exact ⟨rfl, rfl⟩
  · have h64 : 4096 ≤ p := by omega
    go_enter Tryz.func162, Tryz.ntmps162
    go_wp2
    go_ret
    exact ⟨rfl, rfl⟩
end
end Go.Proofs.YtghjjemnegncpaaGreatDoor
