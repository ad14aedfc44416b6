/- The walk of asm's line. -/
import Derived.Test.YtghjjemnegncpaaGreatDoorOrder
set_option linter.unusedSimpArgs false
set_option linter.unusedVariables false
set_option linter.unusedSectionVars false
set_option linter.unnecessarySimpa false
namespace Go.Proofs.YtghjjemnegncpaaGreatDoor
open Go.RowKit

/-- What bytes a line may have. -/
def okB (b : UInt8) : Prop := b.toNat = 9 ∨ (32 ≤ b.toNat ∧ b.toNat ≤ 126)

theorem flds_len (i : Pl.Ins) : (Pl.flds i).length ≤ 3 := by
  unfold Pl.flds
  split <;> split <;> split <;> simp
theorem wds_len (i : Pl.Ins) : (Pl.wds i).length ≤ 4 := by
  have := flds_len i
  simp [Pl.wds]; omega
theorem nm_suffix_aux : ∀ x : Fin 26, Lib.hasSuffix (Pl.nm ((x.val : Int) + 1)) [58] = false := by decide +kernel
theorem nm_suffix (op : Int) (h1 : 1 ≤ op) (h2 : op ≤ 26) : Lib.hasSuffix (Pl.nm op) [58] = false := by
  have := nm_suffix_aux ⟨(op - 1).toNat, by omega⟩
  simp only [show (((op - 1).toNat : Int) + 1) = op by omega] at this
  exact this

theorem byte_mem (s : List UInt8) (k : Nat) (h : k < s.length) : ((⟨s.toArray⟩ : ByteArray)[k]'(by rw [str_size]; exact h)) ∈ s := by
  show s.toArray[k] ∈ s
  simp

theorem cut_len (s t : List UInt8) : (Lib.cut s t).1.length ≤ s.length := by
  unfold Lib.cut
  split
  · simp
    omega
  · exact Nat.le_refl _

section
variable {w : World} {u B : Nat} {words : List Int} {ms : List (List UInt8 × Int)} {s l : List UInt8} (hE : Env w) (H : UnitAt w u B words ms) (hl : words.length < 128) (hB : B ≤ w.heap.size)
  (hs : ∀ b ∈ s, okB b) (hlen : s.length ≤ 2000) (hcut : (Lib.cut s [59]).1 = l)
include hE H hl hB hs hlen hcut

set_option maxHeartbeats 1600000 in
set_option maxRecDepth 100000 in
theorem line_instr (i : Pl.Ins) (hv : Pl.valid i) (htx : Pl.Tx l (Pl.wds i)) : Calls Tryz.prog 61 #[.pointer (some ⟨u, 0, none⟩), str s] w fun e w' =>
    e = .returned (.int .i64 0) ∧ UnitAt w' u B (words ++ [Pl.encW i]) ms ∧ Fr B w w' := by
  have HS := Lib.hid hs
  have HH := Lib.hid H
  have HE := Lib.hid hE
  have HV := Lib.hid hv
  have HT := Lib.hid htx
  have HC := Lib.hid hcut
  clear hs H hE hv htx hcut
  go_enter Tryz.func61, Tryz.ntmps61
  go_wp2_with fail
  go_loop [10] (fun t => ∃ k : Nat, k ≤ s.length ∧ t = .int .i64 k) (fun t => s.length - (intOf t).toNat)
  case atStart => exact ⟨0, Nat.zero_le _, rfl⟩
  case round =>
    obtain ⟨k, hk, rfl⟩ := hrel
    by_cases hlt : k < s.length
    · have hbk : (((⟨s.toArray⟩ : ByteArray)[k]'(by rw [str_size]; exact hlt)).toNat : Int) = 9 ∨ (32 ≤ (((⟨s.toArray⟩ : ByteArray)[k]'(by rw [str_size]; exact hlt)).toNat : Int) ∧ (((⟨s.toArray⟩ : ByteArray)[k]'(by rw [str_size]; exact hlt)).toNat : Int) ≤ 126) := by
        have := HS.out _ (byte_mem s k hlt)
        unfold okB at this
        omega
      go_wp2_with fail
      all_goals first
        | exact ⟨⟨k + 1, by omega, by go_num⟩, by simp [intOf]; omega⟩
        | (exfalso; omega)
    · obtain rfl : k = s.length := by omega
      clear HS
      have HCu := Lib.hid fun W m hm => Tryz.strings_Cut ⟨s.toArray⟩ ⟨#[59]⟩ m W (by rw [str_size]; omega) hm
      have HFi := Lib.hid fun W ht => Tryz.strings_Fields_laid ⟨l.toArray⟩ W (by rw [str_size]; have := cut_len s [59]; rw [HC.out] at this; omega) (fun j b hb => by
        have := (HT.out.bytes b (List.mem_of_getElem? (by simpa using hb))).1
        omega) ht
      go_wp2_with fail
      obtain ⟨m, hm⟩ := HE.out.1
      refine (HCu.out _ m hm).mono ?_
      clear hm
      rintro e w' ⟨rfl, n, rfl⟩
      have hce : (Lib.cut (⟨s.toArray⟩ : ByteArray).data.toList (⟨#[59]⟩ : ByteArray).data.toList).1 = l := by simpa using HC.out
      rw [hce]
      generalize (Lib.cut (⟨s.toArray⟩ : ByteArray).data.toList (⟨#[59]⟩ : ByteArray).data.toList).2.1 = x1
      generalize (Lib.cut (⟨s.toArray⟩ : ByteArray).data.toList (⟨#[59]⟩ : ByteArray).data.toList).2.2 = x2
      clear hce HCu
      go_wp2_with fail
      refine (HFi.out (w.drewN n) (HE.out.kept (fun k _ => rfl)).2.1).mono ?_
      rintro e w' ⟨rfl, rfl⟩
      have hfe : Lib.fields (⟨l.toArray⟩ : ByteArray).data.toList = Pl.wds i := by simpa using HT.out.fields
      rw [hfe]
      clear hfe HFi HC
      have hb1 : Below w.heap.size w ((w.drewN n).alloc (Obj.cells ((Pl.wds i).map fun l => Value.string ⟨l.toArray⟩).toArray 9)) := by (repeat (first | (with_reducible exact Below.refl _ _) | (with_reducible apply Below.drew) | (with_reducible apply bl_drewN) | ((with_reducible apply bl_alloc); (· (first | (simp; done) | (simp; omega) | omega))) | ((with_reducible apply bl_row); (· (first | (simp; done) | (simp; omega) | omega))) | ((with_reducible apply bl_cell); (· (first | (simp; done) | (simp; omega) | omega))) | assumption))
      have hr1 : rowAt ((w.drewN n).alloc (Obj.cells ((Pl.wds i).map fun l => Value.string ⟨l.toArray⟩).toArray 9)) w.heap.size ((Pl.wds i).map fun l => Value.string ⟨l.toArray⟩).toArray 9 := rowAt.new _ _ _ rfl
      generalize (w.drewN n).alloc (Obj.cells ((Pl.wds i).map fun l => Value.string ⟨l.toArray⟩).toArray 9) = w1 at *
      have hw1 := hr1.lt
      have hcell : ∀ k f, (Pl.wds i)[k]? = some f → w1.cell? ⟨w.heap.size, k, none⟩ = some (str f) := fun k f hk => by
        rw [hr1.cell k]
        simp [hk]
      have hS1 : Ss w1 (.slice (some ⟨w.heap.size, 0, none⟩) (Pl.wds i).length (Pl.wds i).length) (Pl.wds i) := ⟨w.heap.size, 0, _, rfl, Nat.le_refl _, by (have := wds_len i; omega), hw1, fun k f hk => by rw [Nat.zero_add]; exact hcell k f hk⟩
      have HB1 := Lib.hid hb1
      have HS1 := Lib.hid hS1
      have HU1 := Lib.hid (HH.out.kept (Below.block hb1))
      have HE1 := Lib.hid (HE.out.kept (Below.block hb1))
      have HCe := Lib.hid hcell
      clear hb1 hr1 hS1 hcell HE HH
      have hn := Pl.nm_facts i.op HV.out.1 HV.out.2.1
      have c0 : w1.cell? ⟨w.heap.size, 0, none⟩ = some (str (Pl.nm i.op)) := HCe.out 0 _ rfl
      have hsu : Lib.hasSuffix (Pl.nm i.op) [58] = false := nm_suffix i.op HV.out.1 HV.out.2.1
      have HSu := Lib.hid fun W => Tryz.strings_HasSuffix ⟨(Pl.nm i.op).toArray⟩ ⟨#[58]⟩ W (by rw [str_size]; omega)
      obtain ⟨cv, mv, hru, hBu, hcv, hmv⟩ := HU1.out
      obtain ⟨ca, cc, hcv2⟩ := owns_form hcv
      have cu : w1.cell? ⟨u, 0, none⟩ = some (.slice ca words.length cc) := by rw [← hcv2]; exact hru.cell 0
      have hwl : ((words.length : Int) == 128) = false := by simp; omega
      have hnw : (Pl.nm i.op == [119, 111, 114, 100]) = false := by simpa using hn.2.1
      clear hru hcv hmv hcv2 hn
      rw [show (Pl.wds i).length = (Pl.flds i).length + 1 from rfl]
      go_wp2_with fail
      refine (HSu.out _).mono ?_
      rintro e w' ⟨rfl, hww⟩
      rw [hww, hsu]
      clear hww HSu hsu
      have HOr : Hid (∀ W fv, W.heap = w1.heap → W.os = w1.os → W.tape = w1.tape → W.output = w1.output → Ss w1 fv (Pl.flds i) →
          Calls Tryz.prog 83 #[.pointer (some ⟨u, 0, none⟩), str (Pl.nm i.op), fv] W fun e w' => e = .returned (.int .i64 0) ∧ UnitAt w' u B (words ++ [Pl.encW i]) ms ∧ Fr B w w') := Lib.hid fun W fv h1 h2 h3 h4 hS => by
        have hb : ∀ k, k < w1.heap.size → W.heap[k]? = w1.heap[k]? := fun k _ => by rw [h1]
        have hbw : Below w.heap.size w W := HB1.out.trans ⟨h2, h3, h4, by rw [h1]; exact Nat.le_refl _, fun k _ => by rw [h1]⟩
        exact (order_ok (w := W) HV.out (HE1.out.kept hb) (HU1.out.kept hb) (by omega) (hS.kept hb (by rw [h1]; exact Nat.le_refl _)) (by rw [h1]; omega)).mono fun e w' h => ⟨h.1, h.2.1, (Fr.of hbw hB).trans h.2.2⟩
      have HT1 := Lib.hid (show Ss w1 (.slice (some ⟨w.heap.size, 0, none⟩) ((Pl.flds i).length + 1) ((Pl.flds i).length + 1)) (Pl.nm i.op :: Pl.flds i) from HS1.out)
      have hfl3 := flds_len i
      by_cases hf0 : (Pl.flds i).length = 0
      · have hSE : Ss w1 (.slice (some ⟨w.heap.size, 0, none⟩) 0 0) (Pl.flds i) := ⟨w.heap.size, 0, 0, by rw [hf0], by omega, by omega, hw1, fun k f h => by rw [List.length_eq_zero_iff.1 hf0] at h; simp at h⟩
        have HX := Lib.hid hSE
        clear hSE
        rw [hf0]
        go_wp2_with fail
        go_region_with (first | (go_at_call 83; refine (HOr.out _ _ ?_ ?_ ?_ ?_ ?_).mono ?_; rfl; rfl; rfl; rfl; exact HX.out; rintro e w' ⟨rfl, hu', hfr'⟩))
        all_goals
          go_wp2
          go_ret
          exact ⟨rfl, by assumption, by assumption⟩
      · obtain ⟨kf, hkf⟩ : ∃ k, (Pl.flds i).length = k + 1 := ⟨(Pl.flds i).length - 1, by omega⟩
        have hX : Ss w1 (.slice (some ⟨w.heap.size, 1, none⟩) (Pl.flds i).length (Pl.flds i).length) (Pl.flds i) := by simpa using Ss.tail HT1.out
        rw [hkf] at hX hfl3 ⊢
        have HX := Lib.hid hX
        clear hX HT1 hf0
        go_wp2_with fail
        go_region_with (first | (go_at_call 83; refine (HOr.out _ _ ?_ ?_ ?_ ?_ ?_).mono ?_; rfl; rfl; rfl; rfl; exact HX.out; rintro e w' ⟨rfl, hu', hfr'⟩))
        all_goals
          go_wp2
          go_ret
          exact ⟨rfl, by assumption, by assumption⟩
end
end Go.Proofs.YtghjjemnegncpaaGreatDoor
