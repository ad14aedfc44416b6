/- The walk of wAwake. -/
import Derived.Test.YtghjjemnegncpaaGreatDoorRead
set_option linter.unusedSimpArgs false
set_option linter.unusedVariables false
set_option linter.unusedSectionVars false
set_option linter.unnecessarySimpa false
namespace Go.Proofs.YtghjjemnegncpaaGreatDoor
open Go.RowKit

def awakeW : List Pl.Ins := [⟨2, 1, 0, 7⟩, ⟨14, 2, 1, -3⟩]
theorem awake_valid : ∀ i ∈ awakeW, Pl.valid i := by decide +kernel
theorem awake_run : Pl.run 400 awakeW ⟨[0, 0, 0, 0, 0, 0, 0, 0], 64, []⟩ = some ([0, 7, 4, 0, 0, 0, 0, 0], []) := by decide +kernel
theorem zeros_good : Pl.goodR [0, 0, 0, 0, 0, 0, 0, 0] := by
  refine ⟨rfl, ?_⟩
  intro k hk
  match k, hk with
  | 0, _ => decide
  | 1, _ => decide
  | 2, _ => decide
  | 3, _ => decide
  | 4, _ => decide
  | 5, _ => decide
  | 6, _ => decide
  | 7, _ => decide

theorem set_text : Pl.showL ⟨2, 1, 0, 7⟩ = [115, 101, 116, 32, 114, 49, 32, 55] := by
  have h : Lib.itoa 7 = [55] := by
    unfold Lib.itoa
    rw [if_neg (by decide)]
    exact Lib.decDigits_one (by decide)
  simp [Pl.showL, Pl.flds, Pl.nm, Pl.fl, Pl.rgB, h]

theorem set_line : LineOf [115, 101, 116, 32, 114, 49, 32, 55] [⟨2, 1, 0, 7⟩] := by
  have hv : Pl.valid ⟨2, 1, 0, 7⟩ := by decide +kernel
  have ht := Pl.tx_showL ⟨2, 1, 0, 7⟩ hv
  rw [set_text] at ht
  exact .instr _ hv (fun b hb => (ht.bytes b hb).1) (by decide) (Pl.cut_absent _ (by decide)) ht

/-- What ownsRow says of the first element. -/
theorem owns_at {w : World} {B : Nat} {e : TypeId} {v : Value} {n : Nat} {xs : List Value} (H : w.ownsRow B e 1 v n xs) (hn : 0 < n) : ∃ g c, v = .slice (some ⟨g, 0, none⟩) n c ∧ B ≤ g ∧ g < w.heap.size ∧ ∀ k x, xs[k]? = some x → w.cell? ⟨g, k, none⟩ = some x := by
  rcases H.2 with ⟨hv, h0⟩ | ⟨g, cap, cur, hv, hB, hg, hcap, _, hsz, htk⟩
  · omega
  · refine ⟨g, cap, hv, hB, (Array.getElem?_eq_some_iff.1 hg).1, fun k x hx => ?_⟩
    have hk : k < n := by
      have := (List.getElem?_eq_some_iff.1 hx).1
      rw [H.1] at this
      omega
    rw [cell_of_row w g k cur e (0, 0) hg, ← Array.getElem?_toList, ← hx, ← htk, List.getElem?_take_of_lt (by omega)]

set_option maxHeartbeats 1600000 in
set_option maxRecDepth 100000 in
theorem wAwake_ok {w : World} (hE : Env w) : Calls Tryz.prog 33 #[] w fun e w' => e = .returned (.bool true) ∧ Below w.heap.size w w' := by
  have HE := Lib.hid hE
  clear hE
  go_enter Tryz.func33, Tryz.ntmps33
  go_wp2_with fail
  have hr0 : rowAt (w.alloc (Obj.cells #[.int .i64 2, .int .i64 1, .int .i64 0, .int .i64 7, .int .i64 14, .int .i64 2, .int .i64 1, .int .i64 (-3)] 31)) w.heap.size #[.int .i64 2, .int .i64 1, .int .i64 0, .int .i64 7, .int .i64 14, .int .i64 2, .int .i64 1, .int .i64 (-3)] 31 := rowAt.new _ _ _ rfl
  have hil : Il (w.alloc (Obj.cells #[.int .i64 2, .int .i64 1, .int .i64 0, .int .i64 7, .int .i64 14, .int .i64 2, .int .i64 1, .int .i64 (-3)] 31)) (.slice (some ⟨w.heap.size, 0, none⟩) 2 2) awakeW := by
    refine ⟨some ⟨w.heap.size, 0, none⟩, 2, rfl, (fun h => by cases h), fun k i hi => ⟨w.heap.size, 0, rfl, ?_⟩⟩
    match k, hi with
    | 0, hi =>
      simp [awakeW] at hi
      subst hi
      exact ⟨hr0.cell 0, hr0.cell 1, hr0.cell 2, hr0.cell 3⟩
    | 1, hi =>
      simp [awakeW] at hi
      subst hi
      exact ⟨hr0.cell 4, hr0.cell 5, hr0.cell 6, hr0.cell 7⟩
  refine (wWords_ok hil (by decide) awake_valid).mono ?_
  rintro e w1 ⟨v1, rfl, hown, hb1⟩
  have hb1' : Below w.heap.size w w1 := (show Below w.heap.size w _ from by (repeat (first | (with_reducible exact Below.refl _ _) | (with_reducible apply Below.drew) | (with_reducible apply bl_drewN) | ((with_reducible apply bl_alloc); (· (first | (simp; done) | (simp; omega) | omega))) | ((with_reducible apply bl_row); (· (first | (simp; done) | (simp; omega) | omega))) | ((with_reducible apply bl_cell); (· (first | (simp; done) | (simp; omega) | omega))) | assumption))).trans (hb1.mono (by simp))
  obtain ⟨g1, c1, rfl, hg1, hg1l, hcell1⟩ := owns_at hown (by decide)
  have k0 : w1.cell? ⟨g1, 0, none⟩ = some (.int .u32 (Pl.encW ⟨2, 1, 0, 7⟩)) := hcell1 0 _ rfl
  have hwd := owns_wd hown
  have hrun := fun dv (hD : Bd w1 dv []) => wRun_is (w := w1) (R := [0, 0, 0, 0, 0, 0, 0, 0]) (D := []) (dv := dv) awake_valid hwd hD zeros_good ⟨by decide, fun k hk => by simp at hk⟩ (by decide) (fun a n c h => by cases h; exact hg1l)
  rw [show awakeW.length = 2 from rfl] at hrun ⊢
  have HR := Lib.hid hrun
  have HB1 := Lib.hid hb1'
  clear hil hr0 hown hb1 hb1' hcell1 hwd hrun
  go_wp2_with fail
  refine (HR.out _ ⟨none, 0, rfl, fun _ => rfl, fun k hk => by simp at hk⟩).mono ?_
  rintro e w2 ⟨⟨hyes, -⟩, hb2⟩
  obtain ⟨dv2, rfl, -⟩ := hyes _ _ awake_run
  have k1 : w2.cell? ⟨g1, 0, none⟩ = some (.int .u32 (Pl.encW ⟨2, 1, 0, 7⟩)) := (hb2.cell (p := ⟨g1, 0, none⟩) hg1l).trans k0
  have hg2l : g1 < w2.heap.size := Nat.lt_of_lt_of_le hg1l hb2.size
  have hb2' := HB1.out.trans (hb2.mono HB1.out.size)
  have HB2 := Lib.hid hb2'
  rw [arr8]
  clear HR hyes hb2 hb2' k0 HB1
  have hE2 := HE.out.kept (w' := w2.alloc (Obj.cells #[.int .u32 0, .int .u32 7, .int .u32 4, .int .u32 0, .int .u32 0, .int .u32 0, .int .u32 0, .int .u32 0] 24)) (Below.block (B := w.heap.size) (by
    have hb2 := HB2.out
    have := hb2.size
    (repeat (first | (with_reducible exact Below.refl _ _) | (with_reducible apply Below.drew) | (with_reducible apply bl_drewN) | ((with_reducible apply bl_alloc); (· (first | (simp; done) | (simp; omega) | omega))) | ((with_reducible apply bl_row); (· (first | (simp; done) | (simp; omega) | omega))) | ((with_reducible apply bl_cell); (· (first | (simp; done) | (simp; omega) | omega))) | assumption))))
  have hrd := Read_ok (L := [[115, 101, 116, 32, 114, 49, 32, 55]]) (Is := [[⟨2, 1, 0, 7⟩]]) hE2 (by simp) rfl (by decide) (fun k s is h1 h2 => by
    match k, h1, h2 with
    | 0, h1, h2 =>
      simp at h1 h2
      subst h1 h2
      exact set_line) (by decide) (by decide)
  have HRd := Lib.hid hrd
  clear hrd hE2
  go_wp2_with fail
  refine HRd.out.mono ?_
  rintro e w3 ⟨⟨cv, ma, mc, rfl, hown3⟩, hb3⟩
  obtain ⟨g3, c3, rfl, hg3, hg3l, hcell3⟩ := owns_at hown3 (by decide)
  have k3 : w3.cell? ⟨g3, 0, none⟩ = some (.int .u32 (Pl.encW ⟨2, 1, 0, 7⟩)) := hcell3 0 _ rfl
  have k4 : w3.cell? ⟨g1, 0, none⟩ = some (.int .u32 (Pl.encW ⟨2, 1, 0, 7⟩)) := (hb3.cell (p := ⟨g1, 0, none⟩) (by simp; omega)).trans (((show Below w2.heap.size w2 _ from by (repeat (first | (with_reducible exact Below.refl _ _) | (with_reducible apply Below.drew) | (with_reducible apply bl_drewN) | ((with_reducible apply bl_alloc); (· (first | (simp; done) | (simp; omega) | omega))) | ((with_reducible apply bl_row); (· (first | (simp; done) | (simp; omega) | omega))) | ((with_reducible apply bl_cell); (· (first | (simp; done) | (simp; omega) | omega))) | assumption))).cell (p := ⟨g1, 0, none⟩) hg2l).trans k1)
  have hr3 : rowAt w3 w2.heap.size #[.int .u32 0, .int .u32 7, .int .u32 4, .int .u32 0, .int .u32 0, .int .u32 0, .int .u32 0, .int .u32 0] 24 := rowAt.below (by (repeat (first | ((with_reducible apply rowAt.new); simp; done) | (with_reducible apply rowAt.drew) | (with_reducible apply rowAt.drewN) | (with_reducible apply rowAt.alloc) | (with_reducible apply rowAt.setRow_same) | ((with_reducible apply rowAt.so); (· (first | (simp; done) | (simp; omega) | omega))) | (with_reducible apply rowAt.set10) | (with_reducible apply rowAt.set8) | (with_reducible apply rowAt.set4) | (with_reducible apply rowAt.set2) | (with_reducible apply rowAt.set) | ((with_reducible apply rowAt.co); (· (first | (simp; done) | (simp; omega) | omega))) | assumption))) hb3 (by simp)
  have hz3 : w2.heap.size < w3.heap.size := hr3.lt
  have hz4 : g1 < w3.heap.size := by omega
  have k5 : w3.cell? ⟨w2.heap.size, 1, none⟩ = some (.int .u32 7) := hr3.cell 1
  have k6 : w3.cell? ⟨w2.heap.size, 2, none⟩ = some (.int .u32 4) := hr3.cell 2
  have hb4 : Below w.heap.size w w3 := by
    have hb2 := HB2.out
    have := hb2.size
    exact (show Below w.heap.size w (w2.alloc (Obj.cells #[.int .u32 0, .int .u32 7, .int .u32 4, .int .u32 0, .int .u32 0, .int .u32 0, .int .u32 0, .int .u32 0] 24)) from by (repeat (first | (with_reducible exact Below.refl _ _) | (with_reducible apply Below.drew) | (with_reducible apply bl_drewN) | ((with_reducible apply bl_alloc); (· (first | (simp; done) | (simp; omega) | omega))) | ((with_reducible apply bl_row); (· (first | (simp; done) | (simp; omega) | omega))) | ((with_reducible apply bl_cell); (· (first | (simp; done) | (simp; omega) | omega))) | assumption))).trans (hb3.mono (by simp; omega))
  have HB4 := Lib.hid hb4
  clear hb4 hb3 hown3 hcell3 hr3 HB2 HRd HE k1
  generalize Pl.encW ⟨2, 1, 0, 7⟩ = en at *
  go_wp2_with fail
  go_quiet (fail)
  go_wp2
  have hb4 := HB4.out
  have hsz := hb4.size
  go_ret
  refine ⟨rfl, ?_⟩
  (repeat (first | (with_reducible exact Below.refl _ _) | (with_reducible apply Below.drew) | (with_reducible apply bl_drewN) | ((with_reducible apply bl_alloc); (· (first | (simp; done) | (simp; omega) | omega))) | ((with_reducible apply bl_row); (· (first | (simp; done) | (simp; omega) | omega))) | ((with_reducible apply bl_cell); (· (first | (simp; done) | (simp; omega) | omega))) | assumption))
end Go.Proofs.YtghjjemnegncpaaGreatDoor
