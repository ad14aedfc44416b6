/- The walk of asm's order. -/
import Derived.Test.YtghjjemnegncpaaGreatDoorAsm1
import Derived.Deep.RegionWith
set_option linter.unusedSimpArgs false
set_option linter.unusedVariables false
set_option linter.unusedSectionVars false
set_option linter.unnecessarySimpa false
namespace Go.Proofs.YtghjjemnegncpaaGreatDoor
open Go.RowKit

/-- What is left of the fields behind so many registers. -/
def rest (i : Pl.Ins) (k : Nat) : List (List UInt8) :=
  if k = 0 then Pl.flds i else if k = 1 then (if Pl.fl i.op / 2 % 2 = 1 then [Pl.rgB i.b] else []) ++ (if Pl.fl i.op / 4 = 1 then [Lib.itoa i.c] else [])
  else (if Pl.fl i.op / 4 = 1 then [Lib.itoa i.c] else [])

theorem Ss.tail {w : World} {b off c : Nat} {f : List UInt8} {fs : List (List UInt8)} (H : Ss w (.slice (some ⟨b, off, none⟩) (fs.length + 1) c) (f :: fs)) : Ss w (.slice (some ⟨b, off + 1, none⟩) fs.length (c - 1)) fs := by
  obtain ⟨b', off', c', h1, h2, h3, h5, h4⟩ := H
  simp only [Value.slice.injEq, Option.some.injEq, Addr.mk.injEq] at h1
  obtain ⟨⟨rfl, rfl, -⟩, -, rfl⟩ := h1
  simp only [List.length_cons] at h2
  exact ⟨b, off + 1, c - 1, rfl, by omega, by omega, h5, fun k g hg => by
    have := h4 (k + 1) g (by simpa using hg)
    rwa [show off + 1 + k = off + (k + 1) by omega]⟩

section
variable {w : World} {i : Pl.Ins} {u B : Nat} {words : List Int} {ms : List (List UInt8 × Int)} {fv : Value} (hv : Pl.valid i) (hE : Env w) (H : UnitAt w u B words ms) (hl : words.length ≤ 1000) (hS : Ss w fv (Pl.flds i)) (hB : B ≤ w.heap.size)
include hv hE H hl hS hB

set_option maxHeartbeats 1600000 in
set_option maxRecDepth 100000 in
theorem order_ok : Calls Tryz.prog 83 #[.pointer (some ⟨u, 0, none⟩), str (Pl.nm i.op), fv] w fun e w' =>
    e = .returned (.int .i64 0) ∧ UnitAt w' u B (words ++ [Pl.encW i]) ms ∧ Fr B w w' := by
  have HV := Lib.hid hv
  obtain ⟨o1, o2, a1, a2, b1, b2, c1, c2, f1, f2, f3⟩ := hv
  have HN := Lib.hid fun W => Number_ok i.op W o1 o2
  have HF := Lib.hid fun W => Fields_ok i.op W o1 o2
  have HH := Lib.hid H
  have HS := Lib.hid hS
  have HE := Lib.hid hE
  have HFF := Lib.hid (And.intro f1 (And.intro f2 f3))
  clear H hS hE f1 f2 f3
  obtain ⟨b0, off0, c0, hfv⟩ : ∃ b off c, fv = .slice (some ⟨b, off, none⟩) (Pl.flds i).length c := by
    obtain ⟨b, off, c, h, _⟩ := HS.out
    exact ⟨b, off, c, h⟩
  subst hfv
  go_enter Tryz.func83, Tryz.ntmps83
  go_wp2_with fail
  refine (HN.out _).mono ?_
  rintro e w' ⟨rfl, rfl⟩
  go_wp2_with fail
  refine (HF.out _).mono ?_
  rintro e w' ⟨rfl, rfl⟩
  go_wp2_with fail
  go_loopw [36, 2, 9] (fun t v h wr => ∃ k off c : Nat, k ≤ 2 ∧ t = .int .i64 k ∧ v = .slice (some ⟨b0, off, none⟩) (rest i k).length c ∧ Ss w (.slice (some ⟨b0, off, none⟩) (rest i k).length c) (rest i k) ∧
      h = .int .i64 (if k = 0 then Pl.fl i.op else if k = 1 then Pl.fl i.op / 2 else Pl.fl i.op / 4) ∧
      rowAt wr w.heap.size #[.int .i64 i.op, .int .i64 (if k = 0 then 0 else i.a), .int .i64 (if k = 2 then i.b else 0), .int .i64 0] 31 ∧ Below w.heap.size w wr) (fun t _ _ _ => 2 - (intOf t).toNat)
  case atStart => exact ⟨0, off0, c0, by omega, rfl, rfl, HS.out, rfl, (by show rowAt _ _ #[.int .i64 i.op, .int .i64 0, .int .i64 0, .int .i64 0] _; (repeat (first | ((with_reducible apply rowAt.new); simp; done) | (with_reducible apply rowAt.drew) | (with_reducible apply rowAt.drewN) | (with_reducible apply rowAt.alloc) | (with_reducible apply rowAt.setRow_same) | ((with_reducible apply rowAt.so); (· (first | (simp; done) | (simp; omega) | omega))) | (with_reducible apply rowAt.set10) | (with_reducible apply rowAt.set8) | (with_reducible apply rowAt.set4) | (with_reducible apply rowAt.set2) | (with_reducible apply rowAt.set) | ((with_reducible apply rowAt.co); (· (first | (simp; done) | (simp; omega) | omega))) | assumption))), by (repeat (first | (with_reducible exact Below.refl _ _) | (with_reducible apply Below.drew) | (with_reducible apply bl_drewN) | ((with_reducible apply bl_alloc); (· (first | (simp; done) | (simp; omega) | omega))) | ((with_reducible apply bl_row); (· (first | (simp; done) | (simp; omega) | omega))) | ((with_reducible apply bl_cell); (· (first | (simp; done) | (simp; omega) | omega))) | assumption))⟩
  case round =>
    obtain ⟨k, off, c, hk, rfl, rfl, hss, rfl, hrow, hbel⟩ := hrel
    have HRa := Lib.hid fun W => register_ok i.a W a1 a2
    have HRb := Lib.hid fun W => register_ok i.b W b1 b2
    have hrl := hrow.lt
    obtain ⟨bx, ofx, cx, hx1, hx2, hx3, hx5, hx4⟩ := hss
    simp only [Value.slice.injEq, Option.some.injEq, Addr.mk.injEq] at hx1
    obtain ⟨⟨rfl, rfl, -⟩, -, rfl⟩ := hx1
    have hx6 : ∀ k' f, (rest i k)[k']? = some f → wr.cell? ⟨b0, off + k', none⟩ = some (str f) := fun k' f hf => cell_kept (Below.block hbel) (hx4 k' f hf)
    have HB := Lib.hid hbel
    have HX := Lib.hid hx4
    clear hbel hx4
    have hk' : k = 0 ∨ k = 1 ∨ k = 2 := by omega
    rcases hk' with rfl | rfl | rfl
    · have r0 : wr.cell? ⟨w.heap.size, 1, none⟩ = some (.int .i64 0) := hrow.cell 1
      have fr0 : wr.frozen? ⟨w.heap.size, 1, none⟩ = false := hrow.frozen 1
      rcases Pl.fl_cases i.op with hf | hf | hf | hf | hf | hf
      · have e0 : rest i 0 = [] := by simp [rest, Pl.flds, hf]
        have e1 : rest i 1 = [] := by simp [rest, Pl.flds, hf]
        rw [e0] at hx2 hx6 HX ⊢
        rw [hf]
        simp only [List.length_cons, List.length_nil] at hx2 ⊢
        have ix : ∀ W : World, (Instr.index 162 (.agg #[.pointer (some ⟨w.heap.size, 1, none⟩), .pointer (some ⟨w.heap.size, 2, none⟩)]) (.int .i64 0)).run Tryz.prog W = .ok (.pointer (some ⟨w.heap.size, 1, none⟩)) W := fun _ => by kernel_rfl
        clear hx6
        go_wp2_with fail
        refine ⟨⟨1, off, c, by omega, rfl, by rw [e1]; rfl, ?_, ?_, ?_, ?_⟩, by simp [intOf]⟩
        · rw [e1]
          exact ⟨b0, off, c, rfl, by simpa using hx2, hx3, hx5, HX.out⟩
        · rfl
        · show rowAt _ _ #[.int .i64 i.op, .int .i64 i.a, .int .i64 0, .int .i64 0] _
          rw [HFF.out.1 (by rw [hf]; rfl)]
          exact hrow
        · have hb := HB.out
          (repeat (first | (with_reducible exact Below.refl _ _) | (with_reducible apply Below.drew) | (with_reducible apply bl_drewN) | ((with_reducible apply bl_alloc); (· (first | (simp; done) | (simp; omega) | omega))) | ((with_reducible apply bl_row); (· (first | (simp; done) | (simp; omega) | omega))) | ((with_reducible apply bl_cell); (· (first | (simp; done) | (simp; omega) | omega))) | assumption))
      · have e0 : rest i 0 = [Pl.rgB i.a] := by simp [rest, Pl.flds, hf]
        have e1 : rest i 1 = [] := by simp [rest, Pl.flds, hf]
        rw [e0] at hx2 hx6 HX ⊢
        rw [hf]
        simp only [List.length_cons, List.length_nil] at hx2 ⊢
        have ix : ∀ W : World, (Instr.index 162 (.agg #[.pointer (some ⟨w.heap.size, 1, none⟩), .pointer (some ⟨w.heap.size, 2, none⟩)]) (.int .i64 0)).run Tryz.prog W = .ok (.pointer (some ⟨w.heap.size, 1, none⟩)) W := fun _ => by kernel_rfl
        have ca : wr.cell? ⟨b0, off, none⟩ = some (str (Pl.rgB i.a)) := hx6 0 _ rfl
        clear hx6
        go_wp2_with fail
        refine (HRa.out _).mono ?_
        rintro e w' ⟨rfl, rfl⟩
        go_wp2_with fail
        by_cases hc : c = 1
        · subst hc
          go_region_with (first | (go_at_call 109; refine (HRa.out _).mono ?_; rintro e w' ⟨rfl, rfl⟩))
          go_wp2_with fail
          refine ⟨⟨1, off, 0, by omega, rfl, by rw [e1]; rfl, ?_, rfl, ?_, ?_⟩, by simp [intOf]⟩
          · rw [e1]
            exact ⟨b0, off, 0, rfl, by simp, by omega, hx5, fun k f h => by simp at h⟩
          · show rowAt _ _ #[.int .i64 i.op, .int .i64 i.a, .int .i64 0, .int .i64 0] _
            exact ((show rowAt _ w.heap.size #[.int .i64 i.op, .int .i64 0, .int .i64 0, .int .i64 0] _ from hrow).set 1 _)
          · have hb := HB.out
            (repeat (first | (with_reducible exact Below.refl _ _) | (with_reducible apply Below.drew) | (with_reducible apply bl_drewN) | ((with_reducible apply bl_alloc); (· (first | (simp; done) | (simp; omega) | omega))) | ((with_reducible apply bl_row); (· (first | (simp; done) | (simp; omega) | omega))) | ((with_reducible apply bl_cell); (· (first | (simp; done) | (simp; omega) | omega))) | assumption))
        · have hc2 : 2 ≤ c := by omega
          go_region_with (first | (go_at_call 109; refine (HRa.out _).mono ?_; rintro e w' ⟨rfl, rfl⟩))
          go_wp2_with fail
          refine ⟨⟨1, off + 1, c - 1, by omega, rfl, by rw [e1]; rfl, ?_, rfl, ?_, ?_⟩, by simp [intOf]⟩
          · rw [e1]
            exact Ss.tail ⟨b0, off, c, rfl, by simpa using hx2, hx3, hx5, HX.out⟩
          · show rowAt _ _ #[.int .i64 i.op, .int .i64 i.a, .int .i64 0, .int .i64 0] _
            exact ((show rowAt _ w.heap.size #[.int .i64 i.op, .int .i64 0, .int .i64 0, .int .i64 0] _ from hrow).set 1 _)
          · have hb := HB.out
            (repeat (first | (with_reducible exact Below.refl _ _) | (with_reducible apply Below.drew) | (with_reducible apply bl_drewN) | ((with_reducible apply bl_alloc); (· (first | (simp; done) | (simp; omega) | omega))) | ((with_reducible apply bl_row); (· (first | (simp; done) | (simp; omega) | omega))) | ((with_reducible apply bl_cell); (· (first | (simp; done) | (simp; omega) | omega))) | assumption))
      · have e0 : rest i 0 = [Pl.rgB i.a, Pl.rgB i.b] := by simp [rest, Pl.flds, hf]
        have e1 : rest i 1 = [Pl.rgB i.b] := by simp [rest, Pl.flds, hf]
        rw [e0] at hx2 hx6 HX ⊢
        rw [hf]
        simp only [List.length_cons, List.length_nil] at hx2 ⊢
        have ix : ∀ W : World, (Instr.index 162 (.agg #[.pointer (some ⟨w.heap.size, 1, none⟩), .pointer (some ⟨w.heap.size, 2, none⟩)]) (.int .i64 0)).run Tryz.prog W = .ok (.pointer (some ⟨w.heap.size, 1, none⟩)) W := fun _ => by kernel_rfl
        have ca : wr.cell? ⟨b0, off, none⟩ = some (str (Pl.rgB i.a)) := hx6 0 _ rfl
        clear hx6
        go_wp2_with fail
        refine (HRa.out _).mono ?_
        rintro e w' ⟨rfl, rfl⟩
        go_wp2_with fail
        have hc1 : 2 ≤ c := by omega
        go_region_with (first | (go_at_call 109; refine (HRa.out _).mono ?_; rintro e w' ⟨rfl, rfl⟩))
        go_wp2_with fail
        refine ⟨⟨1, off + 1, c - 1, by omega, rfl, by rw [e1]; rfl, ?_, rfl, ?_, ?_⟩, by simp [intOf]⟩
        · rw [e1]
          exact Ss.tail ⟨b0, off, c, rfl, by simpa using hx2, hx3, hx5, HX.out⟩
        · show rowAt _ _ #[.int .i64 i.op, .int .i64 i.a, .int .i64 0, .int .i64 0] _
          exact ((show rowAt _ w.heap.size #[.int .i64 i.op, .int .i64 0, .int .i64 0, .int .i64 0] _ from hrow).set 1 _)
        · have hb := HB.out
          (repeat (first | (with_reducible exact Below.refl _ _) | (with_reducible apply Below.drew) | (with_reducible apply bl_drewN) | ((with_reducible apply bl_alloc); (· (first | (simp; done) | (simp; omega) | omega))) | ((with_reducible apply bl_row); (· (first | (simp; done) | (simp; omega) | omega))) | ((with_reducible apply bl_cell); (· (first | (simp; done) | (simp; omega) | omega))) | assumption))
      · have e0 : rest i 0 = [Lib.itoa i.c] := by simp [rest, Pl.flds, hf]
        have e1 : rest i 1 = [Lib.itoa i.c] := by simp [rest, Pl.flds, hf]
        rw [e0] at hx2 hx6 HX ⊢
        rw [hf]
        simp only [List.length_cons, List.length_nil] at hx2 ⊢
        have ix : ∀ W : World, (Instr.index 162 (.agg #[.pointer (some ⟨w.heap.size, 1, none⟩), .pointer (some ⟨w.heap.size, 2, none⟩)]) (.int .i64 0)).run Tryz.prog W = .ok (.pointer (some ⟨w.heap.size, 1, none⟩)) W := fun _ => by kernel_rfl
        clear hx6
        go_wp2_with fail
        refine ⟨⟨1, off, c, by omega, rfl, by rw [e1]; rfl, ?_, ?_, ?_, ?_⟩, by simp [intOf]⟩
        · rw [e1]
          exact ⟨b0, off, c, rfl, by simpa using hx2, hx3, hx5, HX.out⟩
        · rfl
        · show rowAt _ _ #[.int .i64 i.op, .int .i64 i.a, .int .i64 0, .int .i64 0] _
          rw [HFF.out.1 (by rw [hf]; rfl)]
          exact hrow
        · have hb := HB.out
          (repeat (first | (with_reducible exact Below.refl _ _) | (with_reducible apply Below.drew) | (with_reducible apply bl_drewN) | ((with_reducible apply bl_alloc); (· (first | (simp; done) | (simp; omega) | omega))) | ((with_reducible apply bl_row); (· (first | (simp; done) | (simp; omega) | omega))) | ((with_reducible apply bl_cell); (· (first | (simp; done) | (simp; omega) | omega))) | assumption))
      · have e0 : rest i 0 = [Pl.rgB i.a, Lib.itoa i.c] := by simp [rest, Pl.flds, hf]
        have e1 : rest i 1 = [Lib.itoa i.c] := by simp [rest, Pl.flds, hf]
        rw [e0] at hx2 hx6 HX ⊢
        rw [hf]
        simp only [List.length_cons, List.length_nil] at hx2 ⊢
        have ix : ∀ W : World, (Instr.index 162 (.agg #[.pointer (some ⟨w.heap.size, 1, none⟩), .pointer (some ⟨w.heap.size, 2, none⟩)]) (.int .i64 0)).run Tryz.prog W = .ok (.pointer (some ⟨w.heap.size, 1, none⟩)) W := fun _ => by kernel_rfl
        have ca : wr.cell? ⟨b0, off, none⟩ = some (str (Pl.rgB i.a)) := hx6 0 _ rfl
        clear hx6
        go_wp2_with fail
        refine (HRa.out _).mono ?_
        rintro e w' ⟨rfl, rfl⟩
        go_wp2_with fail
        have hc1 : 2 ≤ c := by omega
        go_region_with (first | (go_at_call 109; refine (HRa.out _).mono ?_; rintro e w' ⟨rfl, rfl⟩))
        go_wp2_with fail
        refine ⟨⟨1, off + 1, c - 1, by omega, rfl, by rw [e1]; rfl, ?_, rfl, ?_, ?_⟩, by simp [intOf]⟩
        · rw [e1]
          exact Ss.tail ⟨b0, off, c, rfl, by simpa using hx2, hx3, hx5, HX.out⟩
        · show rowAt _ _ #[.int .i64 i.op, .int .i64 i.a, .int .i64 0, .int .i64 0] _
          exact ((show rowAt _ w.heap.size #[.int .i64 i.op, .int .i64 0, .int .i64 0, .int .i64 0] _ from hrow).set 1 _)
        · have hb := HB.out
          (repeat (first | (with_reducible exact Below.refl _ _) | (with_reducible apply Below.drew) | (with_reducible apply bl_drewN) | ((with_reducible apply bl_alloc); (· (first | (simp; done) | (simp; omega) | omega))) | ((with_reducible apply bl_row); (· (first | (simp; done) | (simp; omega) | omega))) | ((with_reducible apply bl_cell); (· (first | (simp; done) | (simp; omega) | omega))) | assumption))
      · have e0 : rest i 0 = [Pl.rgB i.a, Pl.rgB i.b, Lib.itoa i.c] := by simp [rest, Pl.flds, hf]
        have e1 : rest i 1 = [Pl.rgB i.b, Lib.itoa i.c] := by simp [rest, Pl.flds, hf]
        rw [e0] at hx2 hx6 HX ⊢
        rw [hf]
        simp only [List.length_cons, List.length_nil] at hx2 ⊢
        have ix : ∀ W : World, (Instr.index 162 (.agg #[.pointer (some ⟨w.heap.size, 1, none⟩), .pointer (some ⟨w.heap.size, 2, none⟩)]) (.int .i64 0)).run Tryz.prog W = .ok (.pointer (some ⟨w.heap.size, 1, none⟩)) W := fun _ => by kernel_rfl
        have ca : wr.cell? ⟨b0, off, none⟩ = some (str (Pl.rgB i.a)) := hx6 0 _ rfl
        clear hx6
        go_wp2_with fail
        refine (HRa.out _).mono ?_
        rintro e w' ⟨rfl, rfl⟩
        go_wp2_with fail
        have hc1 : 3 ≤ c := by omega
        go_region_with (first | (go_at_call 109; refine (HRa.out _).mono ?_; rintro e w' ⟨rfl, rfl⟩))
        go_wp2_with fail
        refine ⟨⟨1, off + 1, c - 1, by omega, rfl, by rw [e1]; rfl, ?_, rfl, ?_, ?_⟩, by simp [intOf]⟩
        · rw [e1]
          exact Ss.tail ⟨b0, off, c, rfl, by simpa using hx2, hx3, hx5, HX.out⟩
        · show rowAt _ _ #[.int .i64 i.op, .int .i64 i.a, .int .i64 0, .int .i64 0] _
          exact ((show rowAt _ w.heap.size #[.int .i64 i.op, .int .i64 0, .int .i64 0, .int .i64 0] _ from hrow).set 1 _)
        · have hb := HB.out
          (repeat (first | (with_reducible exact Below.refl _ _) | (with_reducible apply Below.drew) | (with_reducible apply bl_drewN) | ((with_reducible apply bl_alloc); (· (first | (simp; done) | (simp; omega) | omega))) | ((with_reducible apply bl_row); (· (first | (simp; done) | (simp; omega) | omega))) | ((with_reducible apply bl_cell); (· (first | (simp; done) | (simp; omega) | omega))) | assumption))
    · have r0 : wr.cell? ⟨w.heap.size, 2, none⟩ = some (.int .i64 0) := hrow.cell 2
      have fr0 : wr.frozen? ⟨w.heap.size, 2, none⟩ = false := hrow.frozen 2
      rcases Pl.fl_cases i.op with hf | hf | hf | hf | hf | hf
      · have e0 : rest i 1 = [] := by simp [rest, Pl.flds, hf]
        have e1 : rest i 2 = [] := by simp [rest, Pl.flds, hf]
        rw [e0] at hx2 hx6 HX ⊢
        rw [hf]
        simp only [List.length_cons, List.length_nil] at hx2 ⊢
        have ix : ∀ W : World, (Instr.index 162 (.agg #[.pointer (some ⟨w.heap.size, 1, none⟩), .pointer (some ⟨w.heap.size, 2, none⟩)]) (.int .i64 1)).run Tryz.prog W = .ok (.pointer (some ⟨w.heap.size, 2, none⟩)) W := fun _ => by kernel_rfl
        clear hx6
        go_wp2_with fail
        refine ⟨⟨2, off, c, by omega, rfl, by rw [e1]; rfl, ?_, ?_, ?_, ?_⟩, by simp [intOf]⟩
        · rw [e1]
          exact ⟨b0, off, c, rfl, by simpa using hx2, hx3, hx5, HX.out⟩
        · rfl
        · show rowAt _ _ #[.int .i64 i.op, .int .i64 i.a, .int .i64 i.b, .int .i64 0] _
          rw [HFF.out.2.1 (by rw [hf]; rfl)]
          exact hrow
        · have hb := HB.out
          (repeat (first | (with_reducible exact Below.refl _ _) | (with_reducible apply Below.drew) | (with_reducible apply bl_drewN) | ((with_reducible apply bl_alloc); (· (first | (simp; done) | (simp; omega) | omega))) | ((with_reducible apply bl_row); (· (first | (simp; done) | (simp; omega) | omega))) | ((with_reducible apply bl_cell); (· (first | (simp; done) | (simp; omega) | omega))) | assumption))
      · have e0 : rest i 1 = [] := by simp [rest, Pl.flds, hf]
        have e1 : rest i 2 = [] := by simp [rest, Pl.flds, hf]
        rw [e0] at hx2 hx6 HX ⊢
        rw [hf]
        simp only [List.length_cons, List.length_nil] at hx2 ⊢
        have ix : ∀ W : World, (Instr.index 162 (.agg #[.pointer (some ⟨w.heap.size, 1, none⟩), .pointer (some ⟨w.heap.size, 2, none⟩)]) (.int .i64 1)).run Tryz.prog W = .ok (.pointer (some ⟨w.heap.size, 2, none⟩)) W := fun _ => by kernel_rfl
        clear hx6
        go_wp2_with fail
        refine ⟨⟨2, off, c, by omega, rfl, by rw [e1]; rfl, ?_, ?_, ?_, ?_⟩, by simp [intOf]⟩
        · rw [e1]
          exact ⟨b0, off, c, rfl, by simpa using hx2, hx3, hx5, HX.out⟩
        · rfl
        · show rowAt _ _ #[.int .i64 i.op, .int .i64 i.a, .int .i64 i.b, .int .i64 0] _
          rw [HFF.out.2.1 (by rw [hf]; rfl)]
          exact hrow
        · have hb := HB.out
          (repeat (first | (with_reducible exact Below.refl _ _) | (with_reducible apply Below.drew) | (with_reducible apply bl_drewN) | ((with_reducible apply bl_alloc); (· (first | (simp; done) | (simp; omega) | omega))) | ((with_reducible apply bl_row); (· (first | (simp; done) | (simp; omega) | omega))) | ((with_reducible apply bl_cell); (· (first | (simp; done) | (simp; omega) | omega))) | assumption))
      · have e0 : rest i 1 = [Pl.rgB i.b] := by simp [rest, Pl.flds, hf]
        have e1 : rest i 2 = [] := by simp [rest, Pl.flds, hf]
        rw [e0] at hx2 hx6 HX ⊢
        rw [hf]
        simp only [List.length_cons, List.length_nil] at hx2 ⊢
        have ix : ∀ W : World, (Instr.index 162 (.agg #[.pointer (some ⟨w.heap.size, 1, none⟩), .pointer (some ⟨w.heap.size, 2, none⟩)]) (.int .i64 1)).run Tryz.prog W = .ok (.pointer (some ⟨w.heap.size, 2, none⟩)) W := fun _ => by kernel_rfl
        have ca : wr.cell? ⟨b0, off, none⟩ = some (str (Pl.rgB i.b)) := hx6 0 _ rfl
        clear hx6
        go_wp2_with fail
        refine (HRb.out _).mono ?_
        rintro e w' ⟨rfl, rfl⟩
        go_wp2_with fail
        by_cases hc : c = 1
        · subst hc
          go_region_with (first | (go_at_call 109; refine (HRb.out _).mono ?_; rintro e w' ⟨rfl, rfl⟩))
          go_wp2_with fail
          refine ⟨⟨2, off, 0, by omega, rfl, by rw [e1]; rfl, ?_, rfl, ?_, ?_⟩, by simp [intOf]⟩
          · rw [e1]
            exact ⟨b0, off, 0, rfl, by simp, by omega, hx5, fun k f h => by simp at h⟩
          · show rowAt _ _ #[.int .i64 i.op, .int .i64 i.a, .int .i64 i.b, .int .i64 0] _
            exact ((show rowAt _ w.heap.size #[.int .i64 i.op, .int .i64 i.a, .int .i64 0, .int .i64 0] _ from hrow).set 2 _)
          · have hb := HB.out
            (repeat (first | (with_reducible exact Below.refl _ _) | (with_reducible apply Below.drew) | (with_reducible apply bl_drewN) | ((with_reducible apply bl_alloc); (· (first | (simp; done) | (simp; omega) | omega))) | ((with_reducible apply bl_row); (· (first | (simp; done) | (simp; omega) | omega))) | ((with_reducible apply bl_cell); (· (first | (simp; done) | (simp; omega) | omega))) | assumption))
        · have hc2 : 2 ≤ c := by omega
          go_region_with (first | (go_at_call 109; refine (HRb.out _).mono ?_; rintro e w' ⟨rfl, rfl⟩))
          go_wp2_with fail
          refine ⟨⟨2, off + 1, c - 1, by omega, rfl, by rw [e1]; rfl, ?_, rfl, ?_, ?_⟩, by simp [intOf]⟩
          · rw [e1]
            exact Ss.tail ⟨b0, off, c, rfl, by simpa using hx2, hx3, hx5, HX.out⟩
          · show rowAt _ _ #[.int .i64 i.op, .int .i64 i.a, .int .i64 i.b, .int .i64 0] _
            exact ((show rowAt _ w.heap.size #[.int .i64 i.op, .int .i64 i.a, .int .i64 0, .int .i64 0] _ from hrow).set 2 _)
          · have hb := HB.out
            (repeat (first | (with_reducible exact Below.refl _ _) | (with_reducible apply Below.drew) | (with_reducible apply bl_drewN) | ((with_reducible apply bl_alloc); (· (first | (simp; done) | (simp; omega) | omega))) | ((with_reducible apply bl_row); (· (first | (simp; done) | (simp; omega) | omega))) | ((with_reducible apply bl_cell); (· (first | (simp; done) | (simp; omega) | omega))) | assumption))
      · have e0 : rest i 1 = [Lib.itoa i.c] := by simp [rest, Pl.flds, hf]
        have e1 : rest i 2 = [Lib.itoa i.c] := by simp [rest, Pl.flds, hf]
        rw [e0] at hx2 hx6 HX ⊢
        rw [hf]
        simp only [List.length_cons, List.length_nil] at hx2 ⊢
        have ix : ∀ W : World, (Instr.index 162 (.agg #[.pointer (some ⟨w.heap.size, 1, none⟩), .pointer (some ⟨w.heap.size, 2, none⟩)]) (.int .i64 1)).run Tryz.prog W = .ok (.pointer (some ⟨w.heap.size, 2, none⟩)) W := fun _ => by kernel_rfl
        clear hx6
        go_wp2_with fail
        refine ⟨⟨2, off, c, by omega, rfl, by rw [e1]; rfl, ?_, ?_, ?_, ?_⟩, by simp [intOf]⟩
        · rw [e1]
          exact ⟨b0, off, c, rfl, by simpa using hx2, hx3, hx5, HX.out⟩
        · rfl
        · show rowAt _ _ #[.int .i64 i.op, .int .i64 i.a, .int .i64 i.b, .int .i64 0] _
          rw [HFF.out.2.1 (by rw [hf]; rfl)]
          exact hrow
        · have hb := HB.out
          (repeat (first | (with_reducible exact Below.refl _ _) | (with_reducible apply Below.drew) | (with_reducible apply bl_drewN) | ((with_reducible apply bl_alloc); (· (first | (simp; done) | (simp; omega) | omega))) | ((with_reducible apply bl_row); (· (first | (simp; done) | (simp; omega) | omega))) | ((with_reducible apply bl_cell); (· (first | (simp; done) | (simp; omega) | omega))) | assumption))
      · have e0 : rest i 1 = [Lib.itoa i.c] := by simp [rest, Pl.flds, hf]
        have e1 : rest i 2 = [Lib.itoa i.c] := by simp [rest, Pl.flds, hf]
        rw [e0] at hx2 hx6 HX ⊢
        rw [hf]
        simp only [List.length_cons, List.length_nil] at hx2 ⊢
        have ix : ∀ W : World, (Instr.index 162 (.agg #[.pointer (some ⟨w.heap.size, 1, none⟩), .pointer (some ⟨w.heap.size, 2, none⟩)]) (.int .i64 1)).run Tryz.prog W = .ok (.pointer (some ⟨w.heap.size, 2, none⟩)) W := fun _ => by kernel_rfl
        clear hx6
        go_wp2_with fail
        refine ⟨⟨2, off, c, by omega, rfl, by rw [e1]; rfl, ?_, ?_, ?_, ?_⟩, by simp [intOf]⟩
        · rw [e1]
          exact ⟨b0, off, c, rfl, by simpa using hx2, hx3, hx5, HX.out⟩
        · rfl
        · show rowAt _ _ #[.int .i64 i.op, .int .i64 i.a, .int .i64 i.b, .int .i64 0] _
          rw [HFF.out.2.1 (by rw [hf]; rfl)]
          exact hrow
        · have hb := HB.out
          (repeat (first | (with_reducible exact Below.refl _ _) | (with_reducible apply Below.drew) | (with_reducible apply bl_drewN) | ((with_reducible apply bl_alloc); (· (first | (simp; done) | (simp; omega) | omega))) | ((with_reducible apply bl_row); (· (first | (simp; done) | (simp; omega) | omega))) | ((with_reducible apply bl_cell); (· (first | (simp; done) | (simp; omega) | omega))) | assumption))
      · have e0 : rest i 1 = [Pl.rgB i.b, Lib.itoa i.c] := by simp [rest, Pl.flds, hf]
        have e1 : rest i 2 = [Lib.itoa i.c] := by simp [rest, Pl.flds, hf]
        rw [e0] at hx2 hx6 HX ⊢
        rw [hf]
        simp only [List.length_cons, List.length_nil] at hx2 ⊢
        have ix : ∀ W : World, (Instr.index 162 (.agg #[.pointer (some ⟨w.heap.size, 1, none⟩), .pointer (some ⟨w.heap.size, 2, none⟩)]) (.int .i64 1)).run Tryz.prog W = .ok (.pointer (some ⟨w.heap.size, 2, none⟩)) W := fun _ => by kernel_rfl
        have ca : wr.cell? ⟨b0, off, none⟩ = some (str (Pl.rgB i.b)) := hx6 0 _ rfl
        clear hx6
        go_wp2_with fail
        refine (HRb.out _).mono ?_
        rintro e w' ⟨rfl, rfl⟩
        go_wp2_with fail
        have hc1 : 2 ≤ c := by omega
        go_region_with (first | (go_at_call 109; refine (HRb.out _).mono ?_; rintro e w' ⟨rfl, rfl⟩))
        go_wp2_with fail
        refine ⟨⟨2, off + 1, c - 1, by omega, rfl, by rw [e1]; rfl, ?_, rfl, ?_, ?_⟩, by simp [intOf]⟩
        · rw [e1]
          exact Ss.tail ⟨b0, off, c, rfl, by simpa using hx2, hx3, hx5, HX.out⟩
        · show rowAt _ _ #[.int .i64 i.op, .int .i64 i.a, .int .i64 i.b, .int .i64 0] _
          exact ((show rowAt _ w.heap.size #[.int .i64 i.op, .int .i64 i.a, .int .i64 0, .int .i64 0] _ from hrow).set 2 _)
        · have hb := HB.out
          (repeat (first | (with_reducible exact Below.refl _ _) | (with_reducible apply Below.drew) | (with_reducible apply bl_drewN) | ((with_reducible apply bl_alloc); (· (first | (simp; done) | (simp; omega) | omega))) | ((with_reducible apply bl_row); (· (first | (simp; done) | (simp; omega) | omega))) | ((with_reducible apply bl_cell); (· (first | (simp; done) | (simp; omega) | omega))) | assumption))
    · have r0 : wr.cell? ⟨w.heap.size, 3, none⟩ = some (.int .i64 0) := hrow.cell 3
      have fr0 : wr.frozen? ⟨w.heap.size, 3, none⟩ = false := hrow.frozen 3
      rcases Pl.fl_cases i.op with hf | hf | hf | hf | hf | hf
      · have e0 : rest i 2 = [] := by simp [rest, Pl.flds, hf]
        rw [e0] at hx2 hx6 HX ⊢
        rw [hf]
        simp only [List.length_cons, List.length_nil] at hx2 ⊢
        have HEn : Hid (∀ W, Calls Tryz.prog 45 #[.agg #[.int .i64 i.op, .int .i64 i.a, .int .i64 i.b, .int .i64 i.c]] W fun e w' => e = .returned (.tuple #[.int .u32 (Pl.encW i), .int .i64 0]) ∧ Below W.heap.size W w') := Lib.hid fun W => Encode_ok i W HV.out
        clear HS HX HRa HRb HN HF
        have hc0 : i.c = 0 := HFF.out.2.2 (by rw [hf]; rfl)
        rw [hc0] at HEn
        have q0 : wr.cell? ⟨w.heap.size, 0, none⟩ = some (.int .i64 i.op) := hrow.cell 0
        have q1 : wr.cell? ⟨w.heap.size, 1, none⟩ = some (.int .i64 i.a) := hrow.cell 1
        have q2 : wr.cell? ⟨w.heap.size, 2, none⟩ = some (.int .i64 i.b) := hrow.cell 2
        clear hx6
        go_wp2_with fail
        refine (near_is _ _).mono ?_
        rintro e w' ⟨⟨bb, rfl⟩, rfl⟩
        cases bb
        all_goals
          go_wp2_with fail
          refine (HEn.out _).mono ?_
          rintro e w2 ⟨rfl, hb3⟩
          have hb4 : Below w.heap.size w w2 := HB.out.trans (hb3.mono (Nat.le_of_lt hrl))
          have HU2 := Lib.hid (HH.out.kept (Below.block hb4))
          have HFr2 := Lib.hid (Fr.of hb4 hB)
          clear hb4 hb3
          go_wp2_with fail
          refine (put_word u B words ms _ _ _ HU2.out hl).mono ?_
          rintro e w3 ⟨rfl, hu3, hfr3⟩
          have HU3 := Lib.hid hu3
          have HFr3 := Lib.hid (HFr2.out.trans hfr3)
          clear hu3 hfr3
          go_wp2
          go_ret
          exact ⟨rfl, HU3.out, HFr3.out⟩
      · have e0 : rest i 2 = [] := by simp [rest, Pl.flds, hf]
        rw [e0] at hx2 hx6 HX ⊢
        rw [hf]
        simp only [List.length_cons, List.length_nil] at hx2 ⊢
        have HEn : Hid (∀ W, Calls Tryz.prog 45 #[.agg #[.int .i64 i.op, .int .i64 i.a, .int .i64 i.b, .int .i64 i.c]] W fun e w' => e = .returned (.tuple #[.int .u32 (Pl.encW i), .int .i64 0]) ∧ Below W.heap.size W w') := Lib.hid fun W => Encode_ok i W HV.out
        clear HS HX HRa HRb HN HF
        have hc0 : i.c = 0 := HFF.out.2.2 (by rw [hf]; rfl)
        rw [hc0] at HEn
        have q0 : wr.cell? ⟨w.heap.size, 0, none⟩ = some (.int .i64 i.op) := hrow.cell 0
        have q1 : wr.cell? ⟨w.heap.size, 1, none⟩ = some (.int .i64 i.a) := hrow.cell 1
        have q2 : wr.cell? ⟨w.heap.size, 2, none⟩ = some (.int .i64 i.b) := hrow.cell 2
        clear hx6
        go_wp2_with fail
        refine (near_is _ _).mono ?_
        rintro e w' ⟨⟨bb, rfl⟩, rfl⟩
        cases bb
        all_goals
          go_wp2_with fail
          refine (HEn.out _).mono ?_
          rintro e w2 ⟨rfl, hb3⟩
          have hb4 : Below w.heap.size w w2 := HB.out.trans (hb3.mono (Nat.le_of_lt hrl))
          have HU2 := Lib.hid (HH.out.kept (Below.block hb4))
          have HFr2 := Lib.hid (Fr.of hb4 hB)
          clear hb4 hb3
          go_wp2_with fail
          refine (put_word u B words ms _ _ _ HU2.out hl).mono ?_
          rintro e w3 ⟨rfl, hu3, hfr3⟩
          have HU3 := Lib.hid hu3
          have HFr3 := Lib.hid (HFr2.out.trans hfr3)
          clear hu3 hfr3
          go_wp2
          go_ret
          exact ⟨rfl, HU3.out, HFr3.out⟩
      · have e0 : rest i 2 = [] := by simp [rest, Pl.flds, hf]
        rw [e0] at hx2 hx6 HX ⊢
        rw [hf]
        simp only [List.length_cons, List.length_nil] at hx2 ⊢
        have HEn : Hid (∀ W, Calls Tryz.prog 45 #[.agg #[.int .i64 i.op, .int .i64 i.a, .int .i64 i.b, .int .i64 i.c]] W fun e w' => e = .returned (.tuple #[.int .u32 (Pl.encW i), .int .i64 0]) ∧ Below W.heap.size W w') := Lib.hid fun W => Encode_ok i W HV.out
        clear HS HX HRa HRb HN HF
        have hc0 : i.c = 0 := HFF.out.2.2 (by rw [hf]; rfl)
        rw [hc0] at HEn
        have q0 : wr.cell? ⟨w.heap.size, 0, none⟩ = some (.int .i64 i.op) := hrow.cell 0
        have q1 : wr.cell? ⟨w.heap.size, 1, none⟩ = some (.int .i64 i.a) := hrow.cell 1
        have q2 : wr.cell? ⟨w.heap.size, 2, none⟩ = some (.int .i64 i.b) := hrow.cell 2
        clear hx6
        go_wp2_with fail
        refine (near_is _ _).mono ?_
        rintro e w' ⟨⟨bb, rfl⟩, rfl⟩
        cases bb
        all_goals
          go_wp2_with fail
          refine (HEn.out _).mono ?_
          rintro e w2 ⟨rfl, hb3⟩
          have hb4 : Below w.heap.size w w2 := HB.out.trans (hb3.mono (Nat.le_of_lt hrl))
          have HU2 := Lib.hid (HH.out.kept (Below.block hb4))
          have HFr2 := Lib.hid (Fr.of hb4 hB)
          clear hb4 hb3
          go_wp2_with fail
          refine (put_word u B words ms _ _ _ HU2.out hl).mono ?_
          rintro e w3 ⟨rfl, hu3, hfr3⟩
          have HU3 := Lib.hid hu3
          have HFr3 := Lib.hid (HFr2.out.trans hfr3)
          clear hu3 hfr3
          go_wp2
          go_ret
          exact ⟨rfl, HU3.out, HFr3.out⟩
      · have e0 : rest i 2 = [Lib.itoa i.c] := by simp [rest, Pl.flds, hf]
        rw [e0] at hx2 hx6 HX ⊢
        rw [hf]
        simp only [List.length_cons, List.length_nil] at hx2 ⊢
        have HEn : Hid (∀ W, Calls Tryz.prog 45 #[.agg #[.int .i64 i.op, .int .i64 i.a, .int .i64 i.b, .int .i64 i.c]] W fun e w' => e = .returned (.tuple #[.int .u32 (Pl.encW i), .int .i64 0]) ∧ Below W.heap.size W w') := Lib.hid fun W => Encode_ok i W HV.out
        clear HS HX HRa HRb HN HF
        have hEr := HE.out.kept (Below.block HB.out)
        have HNu := Lib.hid (number_ok i.c (-32768) 32767 wr hEr c1 c2 ⟨c1, c2⟩)
        have ca : wr.cell? ⟨b0, off, none⟩ = some (str (Lib.itoa i.c)) := hx6 0 _ rfl
        clear hx6 hEr
        go_wp2_with fail
        refine (near_is _ _).mono ?_
        rintro e w' ⟨⟨bb, rfl⟩, rfl⟩
        cases bb
        all_goals
          go_wp2_with fail
          refine HNu.out.mono ?_
          rintro e w1 ⟨rfl, hb1⟩
          have hrow1 := rowAt.below hrow hb1 hrl
          have q0 : w1.cell? ⟨w.heap.size, 0, none⟩ = some (.int .i64 i.op) := hrow1.cell 0
          have q1 : w1.cell? ⟨w.heap.size, 1, none⟩ = some (.int .i64 i.a) := hrow1.cell 1
          have q2 : w1.cell? ⟨w.heap.size, 2, none⟩ = some (.int .i64 i.b) := hrow1.cell 2
          have q3 : w1.cell? ⟨w.heap.size, 3, none⟩ = some (.int .i64 0) := hrow1.cell 3
          have fq3 : w1.frozen? ⟨w.heap.size, 3, none⟩ = false := hrow1.frozen 3
          have hb2 : Below w.heap.size w (w1.setCell ⟨w.heap.size, 3, none⟩ (.int .i64 i.c)) := by
            have h := HB.out.trans (hb1.mono (Nat.le_of_lt hrl))
            (repeat (first | (with_reducible exact Below.refl _ _) | (with_reducible apply Below.drew) | (with_reducible apply bl_drewN) | ((with_reducible apply bl_alloc); (· (first | (simp; done) | (simp; omega) | omega))) | ((with_reducible apply bl_row); (· (first | (simp; done) | (simp; omega) | omega))) | ((with_reducible apply bl_cell); (· (first | (simp; done) | (simp; omega) | omega))) | assumption))
          have HB2 := Lib.hid hb2
          clear hb2 hb1 hrow1
          go_wp2_with fail
        all_goals
          refine (HEn.out _).mono ?_
          rintro e w2 ⟨rfl, hb3⟩
          have hb4 : Below w.heap.size w w2 := HB2.out.trans (hb3.mono HB2.out.size)
          have HU2 := Lib.hid (HH.out.kept (Below.block hb4))
          have HFr2 := Lib.hid (Fr.of hb4 hB)
          clear hb4 hb3
          go_wp2_with fail
          refine (put_word u B words ms _ _ _ HU2.out hl).mono ?_
          rintro e w3 ⟨rfl, hu3, hfr3⟩
          have HU3 := Lib.hid hu3
          have HFr3 := Lib.hid (HFr2.out.trans hfr3)
          clear hu3 hfr3
          go_wp2
          go_ret
          exact ⟨rfl, HU3.out, HFr3.out⟩
      · have e0 : rest i 2 = [Lib.itoa i.c] := by simp [rest, Pl.flds, hf]
        rw [e0] at hx2 hx6 HX ⊢
        rw [hf]
        simp only [List.length_cons, List.length_nil] at hx2 ⊢
        have HEn : Hid (∀ W, Calls Tryz.prog 45 #[.agg #[.int .i64 i.op, .int .i64 i.a, .int .i64 i.b, .int .i64 i.c]] W fun e w' => e = .returned (.tuple #[.int .u32 (Pl.encW i), .int .i64 0]) ∧ Below W.heap.size W w') := Lib.hid fun W => Encode_ok i W HV.out
        clear HS HX HRa HRb HN HF
        have hEr := HE.out.kept (Below.block HB.out)
        have HNu := Lib.hid (number_ok i.c (-32768) 32767 wr hEr c1 c2 ⟨c1, c2⟩)
        have ca : wr.cell? ⟨b0, off, none⟩ = some (str (Lib.itoa i.c)) := hx6 0 _ rfl
        clear hx6 hEr
        go_wp2_with fail
        refine (near_is _ _).mono ?_
        rintro e w' ⟨⟨bb, rfl⟩, rfl⟩
        cases bb
        all_goals
          go_wp2_with fail
          refine HNu.out.mono ?_
          rintro e w1 ⟨rfl, hb1⟩
          have hrow1 := rowAt.below hrow hb1 hrl
          have q0 : w1.cell? ⟨w.heap.size, 0, none⟩ = some (.int .i64 i.op) := hrow1.cell 0
          have q1 : w1.cell? ⟨w.heap.size, 1, none⟩ = some (.int .i64 i.a) := hrow1.cell 1
          have q2 : w1.cell? ⟨w.heap.size, 2, none⟩ = some (.int .i64 i.b) := hrow1.cell 2
          have q3 : w1.cell? ⟨w.heap.size, 3, none⟩ = some (.int .i64 0) := hrow1.cell 3
          have fq3 : w1.frozen? ⟨w.heap.size, 3, none⟩ = false := hrow1.frozen 3
          have hb2 : Below w.heap.size w (w1.setCell ⟨w.heap.size, 3, none⟩ (.int .i64 i.c)) := by
            have h := HB.out.trans (hb1.mono (Nat.le_of_lt hrl))
            (repeat (first | (with_reducible exact Below.refl _ _) | (with_reducible apply Below.drew) | (with_reducible apply bl_drewN) | ((with_reducible apply bl_alloc); (· (first | (simp; done) | (simp; omega) | omega))) | ((with_reducible apply bl_row); (· (first | (simp; done) | (simp; omega) | omega))) | ((with_reducible apply bl_cell); (· (first | (simp; done) | (simp; omega) | omega))) | assumption))
          have HB2 := Lib.hid hb2
          clear hb2 hb1 hrow1
          go_wp2_with fail
        all_goals
          refine (HEn.out _).mono ?_
          rintro e w2 ⟨rfl, hb3⟩
          have hb4 : Below w.heap.size w w2 := HB2.out.trans (hb3.mono HB2.out.size)
          have HU2 := Lib.hid (HH.out.kept (Below.block hb4))
          have HFr2 := Lib.hid (Fr.of hb4 hB)
          clear hb4 hb3
          go_wp2_with fail
          refine (put_word u B words ms _ _ _ HU2.out hl).mono ?_
          rintro e w3 ⟨rfl, hu3, hfr3⟩
          have HU3 := Lib.hid hu3
          have HFr3 := Lib.hid (HFr2.out.trans hfr3)
          clear hu3 hfr3
          go_wp2
          go_ret
          exact ⟨rfl, HU3.out, HFr3.out⟩
      · have e0 : rest i 2 = [Lib.itoa i.c] := by simp [rest, Pl.flds, hf]
        rw [e0] at hx2 hx6 HX ⊢
        rw [hf]
        simp only [List.length_cons, List.length_nil] at hx2 ⊢
        have HEn : Hid (∀ W, Calls Tryz.prog 45 #[.agg #[.int .i64 i.op, .int .i64 i.a, .int .i64 i.b, .int .i64 i.c]] W fun e w' => e = .returned (.tuple #[.int .u32 (Pl.encW i), .int .i64 0]) ∧ Below W.heap.size W w') := Lib.hid fun W => Encode_ok i W HV.out
        clear HS HX HRa HRb HN HF
        have hEr := HE.out.kept (Below.block HB.out)
        have HNu := Lib.hid (number_ok i.c (-32768) 32767 wr hEr c1 c2 ⟨c1, c2⟩)
        have ca : wr.cell? ⟨b0, off, none⟩ = some (str (Lib.itoa i.c)) := hx6 0 _ rfl
        clear hx6 hEr
        go_wp2_with fail
        refine (near_is _ _).mono ?_
        rintro e w' ⟨⟨bb, rfl⟩, rfl⟩
        cases bb
        all_goals
          go_wp2_with fail
          refine HNu.out.mono ?_
          rintro e w1 ⟨rfl, hb1⟩
          have hrow1 := rowAt.below hrow hb1 hrl
          have q0 : w1.cell? ⟨w.heap.size, 0, none⟩ = some (.int .i64 i.op) := hrow1.cell 0
          have q1 : w1.cell? ⟨w.heap.size, 1, none⟩ = some (.int .i64 i.a) := hrow1.cell 1
          have q2 : w1.cell? ⟨w.heap.size, 2, none⟩ = some (.int .i64 i.b) := hrow1.cell 2
          have q3 : w1.cell? ⟨w.heap.size, 3, none⟩ = some (.int .i64 0) := hrow1.cell 3
          have fq3 : w1.frozen? ⟨w.heap.size, 3, none⟩ = false := hrow1.frozen 3
          have hb2 : Below w.heap.size w (w1.setCell ⟨w.heap.size, 3, none⟩ (.int .i64 i.c)) := by
            have h := HB.out.trans (hb1.mono (Nat.le_of_lt hrl))
            (repeat (first | (with_reducible exact Below.refl _ _) | (with_reducible apply Below.drew) | (with_reducible apply bl_drewN) | ((with_reducible apply bl_alloc); (· (first | (simp; done) | (simp; omega) | omega))) | ((with_reducible apply bl_row); (· (first | (simp; done) | (simp; omega) | omega))) | ((with_reducible apply bl_cell); (· (first | (simp; done) | (simp; omega) | omega))) | assumption))
          have HB2 := Lib.hid hb2
          clear hb2 hb1 hrow1
          go_wp2_with fail
        all_goals
          refine (HEn.out _).mono ?_
          rintro e w2 ⟨rfl, hb3⟩
          have hb4 : Below w.heap.size w w2 := HB2.out.trans (hb3.mono HB2.out.size)
          have HU2 := Lib.hid (HH.out.kept (Below.block hb4))
          have HFr2 := Lib.hid (Fr.of hb4 hB)
          clear hb4 hb3
          go_wp2_with fail
          refine (put_word u B words ms _ _ _ HU2.out hl).mono ?_
          rintro e w3 ⟨rfl, hu3, hfr3⟩
          have HU3 := Lib.hid hu3
          have HFr3 := Lib.hid (HFr2.out.trans hfr3)
          clear hu3 hfr3
          go_wp2
          go_ret
          exact ⟨rfl, HU3.out, HFr3.out⟩
end
end Go.Proofs.YtghjjemnegncpaaGreatDoor
