/- The walk of cpu.Step over the room. -/
import Derived.Test.YtghjjemnegncpaaGreatDoorMemory
import Derived.Test.YtghjjemnegncpaaGreatDoorJump
import Derived.Test.YtghjjemnegncpaaGreatDoorReckon
import Derived.Test.YtghjjemnegncpaaGreatDoorDec
set_option linter.unusedSimpArgs false
set_option linter.unusedVariables false
set_option linter.unusedSectionVars false
namespace Go.Proofs.YtghjjemnegncpaaGreatDoor
open Go.RowKit

theorem step_end {R : Ending → World → Prop} {a : Act} {w : World} {g g2 : Nat} {t t2 : TypeId} {cs cs2 : Array Value} (hp : a.tmps.getD 4 undef = .pointer (some ⟨g, 0, none⟩)) (hp2 : a.tmps.getD 5 undef = .pointer (some ⟨g2, 0, none⟩))
    (hg : rowAt w g cs t) (hn : cs.size = 10) (hg2 : rowAt w g2 cs2 t2) (hn2 : cs2.size = 2) (hdf : a.defers = []) (hR : R (.returned (.tuple #[.agg cs, .agg cs2])) w) : bodyPost Tryz.prog Tryz.f64 R .ret a w :=
  post_cc (p := 4) (u := 5) (ty := 104) (tu := 106) rfl Tryz.underlying104 rfl sizeRegs Tryz.underlying106 rfl sizeTrap hp hp2 hg hn hg2 hn2 hdf hR

/-- What Step comes to. -/
def StepOk (w0 : World) (m g : Nat) (wv dv : Value) (xs : List Int) (s : Pl.St) (e : Ending) (w' : World) : Prop :=
  e = .returned (.tuple #[.agg (regs s.R s.pc), noTrap]) ∧ Room w' m g wv dv xs s.D ∧ w0.grownBy w' (some g)
def StepTrap (w0 : World) (g : Nat) (e : Ending) (w' : World) : Prop :=
  (∃ (R : List Int) (pc k a : Int), R.length = 8 ∧ k ≠ 0 ∧ e = .returned (.tuple #[.agg (regs R pc), .agg #[.int .i64 k, .int .u32 a]])) ∧ w0.grownBy w' (some g)

theorem eight {R : List Int} (h : R.length = 8) : ∃ r0 r1 r2 r3 r4 r5 r6 r7, R = [r0, r1, r2, r3, r4, r5, r6, r7] := by
  match R, h with
  | [r0, r1, r2, r3, r4, r5, r6, r7], _ => exact ⟨r0, r1, r2, r3, r4, r5, r6, r7, rfl⟩
theorem regs8 (r0 r1 r2 r3 r4 r5 r6 r7 pc : Int) : regs [r0, r1, r2, r3, r4, r5, r6, r7] pc =
    #[.int .u32 r0, .int .u32 r1, .int .u32 r2, .int .u32 r3, .int .u32 r4, .int .u32 r5, .int .u32 r6, .int .u32 r7, .int .u32 pc, .int .i64 1] := rfl
abbrev zeros10 : Array Value := #[.int .u32 0, .int .u32 0, .int .u32 0, .int .u32 0, .int .u32 0, .int .u32 0, .int .u32 0, .int .u32 0, .int .u32 0, .int .i64 0]

theorem rowAt.set10 {w : World} {g : Nat} {x0 x1 x2 x3 x4 x5 x6 x7 x8 x9 : Value} {t : TypeId} (a b c d e f h i j k : Value) (hr : rowAt w g #[x0, x1, x2, x3, x4, x5, x6, x7, x8, x9] t) :
    rowAt ((((((((((w.setCell ⟨g, 0, none⟩ a).setCell ⟨g, 1, none⟩ b).setCell ⟨g, 2, none⟩ c).setCell ⟨g, 3, none⟩ d).setCell ⟨g, 4, none⟩ e).setCell ⟨g, 5, none⟩ f).setCell ⟨g, 6, none⟩ h).setCell ⟨g, 7, none⟩ i).setCell ⟨g, 8, none⟩ j).setCell ⟨g, 9, none⟩ k) g #[a, b, c, d, e, f, h, i, j, k] t := by
  have h := (((((((((hr.set 0 a).set 1 b).set 2 c).set 3 d).set 4 e).set 5 f).set 6 h).set 7 i).set 8 j).set 9 k
  simpa using h

section
variable {m g : Nat} {wv dv : Value} {xs D R : List Int} {pc : Int} {w : World} (H : Room w m g wv dv xs D) (hR : Pl.goodR R) (hD : Pl.goodD D) (hp : 0 ≤ pc ∧ pc < 4294967296)
include H hR hD hp

set_option maxHeartbeats 1600000 in
set_option maxRecDepth 100000 in
theorem step_out (h : ¬ (pc % 4 = 0 ∧ 64 ≤ pc ∧ pc - 64 < 4 * xs.length)) :
    Calls Tryz.prog 64 #[.agg (regs R pc), busV m] w (StepTrap w g) := by
  have hf := fun W HW => fetchx_no (w := W) (H := HW) (D := D) (m := m) (g := g) (wv := wv) (dv := dv) hp h
  have HF := Lib.hid hf
  clear hf h
  obtain ⟨r0, r1, r2, r3, r4, r5, r6, r7, rfl⟩ := eight hR.1
  have HG := H.kept (Below.block (B := w.heap.size) (w' := ((w.alloc (Obj.cells (regs [r0, r1, r2, r3, r4, r5, r6, r7] pc) 104)).alloc (Obj.cells zeros10 104)).alloc (Obj.cells #[.int .i64 0, .int .u32 0] 106)) (by (repeat (first | (with_reducible exact Below.refl _ _) | (with_reducible apply Below.drew) | (with_reducible apply bl_drewN) | ((with_reducible apply bl_alloc); (· (first | (simp; done) | (simp; omega) | omega))) | ((with_reducible apply bl_row); (· (first | (simp; done) | (simp; omega) | omega))) | ((with_reducible apply bl_cell); (· (first | (simp; done) | (simp; omega) | omega))) | assumption))))
  clear hR
  rw [regs8]
  rw [regs8] at HG
  go_enter Tryz.func64, Tryz.ntmps64
  go_wp2_with fail
  refine (HF.out _ HG).mono ?_
  rintro e w1 ⟨⟨k, q, hk, rfl⟩, hb1⟩
  have hk' : (k != 0) = true := by simpa using hk
  have hr1 : rowAt w1 w.heap.size #[.int .u32 r0, .int .u32 r1, .int .u32 r2, .int .u32 r3, .int .u32 r4, .int .u32 r5, .int .u32 r6, .int .u32 r7, .int .u32 pc, .int .i64 1] 104 := rowAt.below (by (repeat (first | ((with_reducible apply rowAt.new); simp; done) | (with_reducible apply rowAt.drew) | (with_reducible apply rowAt.drewN) | (with_reducible apply rowAt.alloc) | (with_reducible apply rowAt.setRow_same) | ((with_reducible apply rowAt.so); (· (first | (simp; done) | (simp; omega) | omega))) | (with_reducible apply rowAt.set10) | (with_reducible apply rowAt.set8) | (with_reducible apply rowAt.set4) | (with_reducible apply rowAt.set2) | (with_reducible apply rowAt.set) | ((with_reducible apply rowAt.co); (· (first | (simp; done) | (simp; omega) | omega))) | assumption))) hb1 (by simp; try omega)
  have hs1 : rowAt w1 (w.heap.size + 1) zeros10 104 := rowAt.below (by (repeat (first | ((with_reducible apply rowAt.new); simp; done) | (with_reducible apply rowAt.drew) | (with_reducible apply rowAt.drewN) | (with_reducible apply rowAt.alloc) | (with_reducible apply rowAt.setRow_same) | ((with_reducible apply rowAt.so); (· (first | (simp; done) | (simp; omega) | omega))) | (with_reducible apply rowAt.set10) | (with_reducible apply rowAt.set8) | (with_reducible apply rowAt.set4) | (with_reducible apply rowAt.set2) | (with_reducible apply rowAt.set) | ((with_reducible apply rowAt.co); (· (first | (simp; done) | (simp; omega) | omega))) | assumption))) hb1 (by simp; try omega)
  have ht1 : rowAt w1 (w.heap.size + 1 + 1) #[.int .i64 0, .int .u32 0] 106 := rowAt.below (by (repeat (first | ((with_reducible apply rowAt.new); simp; done) | (with_reducible apply rowAt.drew) | (with_reducible apply rowAt.drewN) | (with_reducible apply rowAt.alloc) | (with_reducible apply rowAt.setRow_same) | ((with_reducible apply rowAt.so); (· (first | (simp; done) | (simp; omega) | omega))) | (with_reducible apply rowAt.set10) | (with_reducible apply rowAt.set8) | (with_reducible apply rowAt.set4) | (with_reducible apply rowAt.set2) | (with_reducible apply rowAt.set) | ((with_reducible apply rowAt.co); (· (first | (simp; done) | (simp; omega) | omega))) | assumption))) hb1 (by simp; try omega)
  have hz0 : w.heap.size < w1.heap.size := hr1.lt
  have hz1 : w.heap.size + 1 < w1.heap.size := hs1.lt
  have hz2 : w.heap.size + 1 + 1 < w1.heap.size := ht1.lt
  have i0 : w1.cell? ⟨w.heap.size, 0, none⟩ = some (.int .u32 r0) := hr1.cell 0
  have i1 : w1.cell? ⟨w.heap.size, 1, none⟩ = some (.int .u32 r1) := hr1.cell 1
  have i2 : w1.cell? ⟨w.heap.size, 2, none⟩ = some (.int .u32 r2) := hr1.cell 2
  have i3 : w1.cell? ⟨w.heap.size, 3, none⟩ = some (.int .u32 r3) := hr1.cell 3
  have i4 : w1.cell? ⟨w.heap.size, 4, none⟩ = some (.int .u32 r4) := hr1.cell 4
  have i5 : w1.cell? ⟨w.heap.size, 5, none⟩ = some (.int .u32 r5) := hr1.cell 5
  have i6 : w1.cell? ⟨w.heap.size, 6, none⟩ = some (.int .u32 r6) := hr1.cell 6
  have i7 : w1.cell? ⟨w.heap.size, 7, none⟩ = some (.int .u32 r7) := hr1.cell 7
  have i8 : w1.cell? ⟨w.heap.size, 8, none⟩ = some (.int .u32 pc) := hr1.cell 8
  have i9 : w1.cell? ⟨w.heap.size, 9, none⟩ = some (.int .i64 1) := hr1.cell 9
  have s0 : w1.cell? ⟨w.heap.size + 1, 0, none⟩ = some (.int .u32 0) := hs1.cell 0
  have s1 : w1.cell? ⟨w.heap.size + 1, 1, none⟩ = some (.int .u32 0) := hs1.cell 1
  have s2 : w1.cell? ⟨w.heap.size + 1, 2, none⟩ = some (.int .u32 0) := hs1.cell 2
  have s3 : w1.cell? ⟨w.heap.size + 1, 3, none⟩ = some (.int .u32 0) := hs1.cell 3
  have s4 : w1.cell? ⟨w.heap.size + 1, 4, none⟩ = some (.int .u32 0) := hs1.cell 4
  have s5 : w1.cell? ⟨w.heap.size + 1, 5, none⟩ = some (.int .u32 0) := hs1.cell 5
  have s6 : w1.cell? ⟨w.heap.size + 1, 6, none⟩ = some (.int .u32 0) := hs1.cell 6
  have s7 : w1.cell? ⟨w.heap.size + 1, 7, none⟩ = some (.int .u32 0) := hs1.cell 7
  have s8 : w1.cell? ⟨w.heap.size + 1, 8, none⟩ = some (.int .u32 0) := hs1.cell 8
  have s9 : w1.cell? ⟨w.heap.size + 1, 9, none⟩ = some (.int .i64 0) := hs1.cell 9
  have t0 : w1.cell? ⟨w.heap.size + 1 + 1, 0, none⟩ = some (.int .i64 0) := ht1.cell 0
  have t1 : w1.cell? ⟨w.heap.size + 1 + 1, 1, none⟩ = some (.int .u32 0) := ht1.cell 1
  have fs0 : w1.frozen? ⟨w.heap.size + 1, 0, none⟩ = false := hs1.frozen 0
  have fs1 : w1.frozen? ⟨w.heap.size + 1, 1, none⟩ = false := hs1.frozen 1
  have fs2 : w1.frozen? ⟨w.heap.size + 1, 2, none⟩ = false := hs1.frozen 2
  have fs3 : w1.frozen? ⟨w.heap.size + 1, 3, none⟩ = false := hs1.frozen 3
  have fs4 : w1.frozen? ⟨w.heap.size + 1, 4, none⟩ = false := hs1.frozen 4
  have fs5 : w1.frozen? ⟨w.heap.size + 1, 5, none⟩ = false := hs1.frozen 5
  have fs6 : w1.frozen? ⟨w.heap.size + 1, 6, none⟩ = false := hs1.frozen 6
  have fs7 : w1.frozen? ⟨w.heap.size + 1, 7, none⟩ = false := hs1.frozen 7
  have fs8 : w1.frozen? ⟨w.heap.size + 1, 8, none⟩ = false := hs1.frozen 8
  have fs9 : w1.frozen? ⟨w.heap.size + 1, 9, none⟩ = false := hs1.frozen 9
  have ft0 : w1.frozen? ⟨w.heap.size + 1 + 1, 0, none⟩ = false := ht1.frozen 0
  have ft1 : w1.frozen? ⟨w.heap.size + 1 + 1, 1, none⟩ = false := ht1.frozen 1
  go_wp2_with fail
  go_region
  go_wp2_with fail
  refine step_end (t := 104) (t2 := 106) (cs := #[.int .u32 r0, .int .u32 r1, .int .u32 r2, .int .u32 r3, .int .u32 r4, .int .u32 r5, .int .u32 r6, .int .u32 r7, .int .u32 pc, .int .i64 1]) (cs2 := #[.int .i64 k, .int .u32 q]) rfl rfl ?_ rfl ?_ rfl rfl ⟨⟨[r0, r1, r2, r3, r4, r5, r6, r7], pc, k, q, rfl, hk, rfl⟩, ?_⟩
  · (repeat (first | ((with_reducible apply rowAt.new); simp; done) | (with_reducible apply rowAt.drew) | (with_reducible apply rowAt.drewN) | (with_reducible apply rowAt.alloc) | (with_reducible apply rowAt.setRow_same) | ((with_reducible apply rowAt.so); (· (first | (simp; done) | (simp; omega) | omega))) | (with_reducible apply rowAt.set10) | (with_reducible apply rowAt.set8) | (with_reducible apply rowAt.set4) | (with_reducible apply rowAt.set2) | (with_reducible apply rowAt.set) | ((with_reducible apply rowAt.co); (· (first | (simp; done) | (simp; omega) | omega))) | assumption))
  · (repeat (first | ((with_reducible apply rowAt.new); simp; done) | (with_reducible apply rowAt.drew) | (with_reducible apply rowAt.drewN) | (with_reducible apply rowAt.alloc) | (with_reducible apply rowAt.setRow_same) | ((with_reducible apply rowAt.so); (· (first | (simp; done) | (simp; omega) | omega))) | (with_reducible apply rowAt.set10) | (with_reducible apply rowAt.set8) | (with_reducible apply rowAt.set4) | (with_reducible apply rowAt.set2) | (with_reducible apply rowAt.set) | ((with_reducible apply rowAt.co); (· (first | (simp; done) | (simp; omega) | omega))) | assumption))
  · exact gb_new (by
      have hb4 : Below w.heap.size w w1 := (show Below w.heap.size w _ from by (repeat (first | (with_reducible exact Below.refl _ _) | (with_reducible apply Below.drew) | (with_reducible apply bl_drewN) | ((with_reducible apply bl_alloc); (· (first | (simp; done) | (simp; omega) | omega))) | ((with_reducible apply bl_row); (· (first | (simp; done) | (simp; omega) | omega))) | ((with_reducible apply bl_cell); (· (first | (simp; done) | (simp; omega) | omega))) | assumption))).trans (hb1.mono (by simp; try omega))
      (repeat (first | (with_reducible exact Below.refl _ _) | (with_reducible apply Below.drew) | (with_reducible apply bl_drewN) | ((with_reducible apply bl_alloc); (· (first | (simp; done) | (simp; omega) | omega))) | ((with_reducible apply bl_row); (· (first | (simp; done) | (simp; omega) | omega))) | ((with_reducible apply bl_cell); (· (first | (simp; done) | (simp; omega) | omega))) | assumption)))
end

section
variable {m g : Nat} {wv dv : Value} {xs D R : List Int} {pc op a b c : Int} {w : World} (H : Room w m g wv dv xs D) (hR : Pl.goodR R) (hp : 0 ≤ pc ∧ pc < 4294967296)
  (ha : 0 ≤ a ∧ a < 8) (hb : 0 ≤ b ∧ b < 8)
  (HF : Hid (∀ W, Room W m g wv dv xs D → Calls Tryz.prog 85 #[busV m, .int .u32 pc, .int .i64 4] W fun e w' => e = .returned (.tuple #[.int .u32 (Pl.encW ⟨op, a, b, c⟩), noTrap]) ∧ Below W.heap.size W w'))
  (HDe : Hid (∀ W, Calls Tryz.prog 49 #[.int .u32 (Pl.encW ⟨op, a, b, c⟩)] W fun e w' => e = .returned (.tuple #[insV ⟨op, a, b, c⟩, .int .i64 0]) ∧ Below W.heap.size W w'))
include H hR hp ha hb HF HDe

set_option maxHeartbeats 1600000 in
set_option maxRecDepth 100000 in
theorem step_mem {D' R' : List Int} (h13 : 13 < op) (h15 : 15 ≤ op) (h18 : op ≤ 18) (h1 : (op == 1) = false) (h26 : (op == 26) = false) (hR' : R'.length = 8)
    (HMe : Hid (∀ W0 W gr, Room W0 m g wv dv xs D → Room W m g wv dv xs D → W0.grownBy W (some g) → W0.heap.size ≤ gr → rowAt W gr (regs R (Pl.m32 (pc + 4))) 104 →
      Calls Tryz.prog 87 #[.pointer (some ⟨gr, 0, none⟩), insV ⟨op, a, b, c⟩, busV m] W (MemIs W0 m g gr wv dv xs D' R' (Pl.m32 (pc + 4))))) :
    Calls Tryz.prog 64 #[.agg (regs R pc), busV m] w (StepOk w m g wv dv xs ⟨R', Pl.m32 (pc + 4), D'⟩) := by
  obtain ⟨r0, r1, r2, r3, r4, r5, r6, r7, hRe⟩ := eight hR.1
  have hR1 : regs R pc = #[.int .u32 r0, .int .u32 r1, .int .u32 r2, .int .u32 r3, .int .u32 r4, .int .u32 r5, .int .u32 r6, .int .u32 r7, .int .u32 pc, .int .i64 1] := by rw [hRe]; rfl
  have hR2 : #[.int .u32 r0, .int .u32 r1, .int .u32 r2, .int .u32 r3, .int .u32 r4, .int .u32 r5, .int .u32 r6, .int .u32 r7, .int .u32 (Pl.m32 (pc + 4)), .int .i64 1] = regs R (Pl.m32 (pc + 4)) := by rw [hRe]; rfl
  clear hRe
  rw [hR1]
  have HG := H.kept (Below.block (B := w.heap.size) (w' := ((w.alloc (Obj.cells #[.int .u32 r0, .int .u32 r1, .int .u32 r2, .int .u32 r3, .int .u32 r4, .int .u32 r5, .int .u32 r6, .int .u32 r7, .int .u32 pc, .int .i64 1] 104)).alloc (Obj.cells zeros10 104)).alloc (Obj.cells #[.int .i64 0, .int .u32 0] 106)) (by (repeat (first | (with_reducible exact Below.refl _ _) | (with_reducible apply Below.drew) | (with_reducible apply bl_drewN) | ((with_reducible apply bl_alloc); (· (first | (simp; done) | (simp; omega) | omega))) | ((with_reducible apply bl_row); (· (first | (simp; done) | (simp; omega) | omega))) | ((with_reducible apply bl_cell); (· (first | (simp; done) | (simp; omega) | omega))) | assumption))))
  go_enter Tryz.func64, Tryz.ntmps64
  go_wp2_with fail
  refine (HF.out _ HG).mono ?_
  rintro e w1 ⟨rfl, hb1⟩
  have hr1 : rowAt w1 w.heap.size #[.int .u32 r0, .int .u32 r1, .int .u32 r2, .int .u32 r3, .int .u32 r4, .int .u32 r5, .int .u32 r6, .int .u32 r7, .int .u32 pc, .int .i64 1] 104 := rowAt.below (by (repeat (first | ((with_reducible apply rowAt.new); simp; done) | (with_reducible apply rowAt.drew) | (with_reducible apply rowAt.drewN) | (with_reducible apply rowAt.alloc) | (with_reducible apply rowAt.setRow_same) | ((with_reducible apply rowAt.so); (· (first | (simp; done) | (simp; omega) | omega))) | (with_reducible apply rowAt.set10) | (with_reducible apply rowAt.set8) | (with_reducible apply rowAt.set4) | (with_reducible apply rowAt.set2) | (with_reducible apply rowAt.set) | ((with_reducible apply rowAt.co); (· (first | (simp; done) | (simp; omega) | omega))) | assumption))) hb1 (by simp; try omega)
  have hs1 : rowAt w1 (w.heap.size + 1) zeros10 104 := rowAt.below (by (repeat (first | ((with_reducible apply rowAt.new); simp; done) | (with_reducible apply rowAt.drew) | (with_reducible apply rowAt.drewN) | (with_reducible apply rowAt.alloc) | (with_reducible apply rowAt.setRow_same) | ((with_reducible apply rowAt.so); (· (first | (simp; done) | (simp; omega) | omega))) | (with_reducible apply rowAt.set10) | (with_reducible apply rowAt.set8) | (with_reducible apply rowAt.set4) | (with_reducible apply rowAt.set2) | (with_reducible apply rowAt.set) | ((with_reducible apply rowAt.co); (· (first | (simp; done) | (simp; omega) | omega))) | assumption))) hb1 (by simp; try omega)
  have ht1 : rowAt w1 (w.heap.size + 1 + 1) #[.int .i64 0, .int .u32 0] 106 := rowAt.below (by (repeat (first | ((with_reducible apply rowAt.new); simp; done) | (with_reducible apply rowAt.drew) | (with_reducible apply rowAt.drewN) | (with_reducible apply rowAt.alloc) | (with_reducible apply rowAt.setRow_same) | ((with_reducible apply rowAt.so); (· (first | (simp; done) | (simp; omega) | omega))) | (with_reducible apply rowAt.set10) | (with_reducible apply rowAt.set8) | (with_reducible apply rowAt.set4) | (with_reducible apply rowAt.set2) | (with_reducible apply rowAt.set) | ((with_reducible apply rowAt.co); (· (first | (simp; done) | (simp; omega) | omega))) | assumption))) hb1 (by simp; try omega)
  have hz1 : w.heap.size + 1 + 1 < w1.heap.size := ht1.lt
  have hb1' : Below w.heap.size w w1 := (show Below w.heap.size w _ from by (repeat (first | (with_reducible exact Below.refl _ _) | (with_reducible apply Below.drew) | (with_reducible apply bl_drewN) | ((with_reducible apply bl_alloc); (· (first | (simp; done) | (simp; omega) | omega))) | ((with_reducible apply bl_row); (· (first | (simp; done) | (simp; omega) | omega))) | ((with_reducible apply bl_cell); (· (first | (simp; done) | (simp; omega) | omega))) | assumption))).trans (hb1.mono (by simp; try omega))
  clear hb1 HG
  go_wp2_with fail
  refine (HDe.out _).mono ?_
  rintro e w2 ⟨rfl, hb2⟩
  have hr2 : rowAt w2 w.heap.size #[.int .u32 r0, .int .u32 r1, .int .u32 r2, .int .u32 r3, .int .u32 r4, .int .u32 r5, .int .u32 r6, .int .u32 r7, .int .u32 pc, .int .i64 1] 104 := rowAt.below (by (repeat (first | ((with_reducible apply rowAt.new); simp; done) | (with_reducible apply rowAt.drew) | (with_reducible apply rowAt.drewN) | (with_reducible apply rowAt.alloc) | (with_reducible apply rowAt.setRow_same) | ((with_reducible apply rowAt.so); (· (first | (simp; done) | (simp; omega) | omega))) | (with_reducible apply rowAt.set10) | (with_reducible apply rowAt.set8) | (with_reducible apply rowAt.set4) | (with_reducible apply rowAt.set2) | (with_reducible apply rowAt.set) | ((with_reducible apply rowAt.co); (· (first | (simp; done) | (simp; omega) | omega))) | assumption))) hb2 (by simp; try omega)
  have hs2 : rowAt w2 (w.heap.size + 1) zeros10 104 := rowAt.below (by (repeat (first | ((with_reducible apply rowAt.new); simp; done) | (with_reducible apply rowAt.drew) | (with_reducible apply rowAt.drewN) | (with_reducible apply rowAt.alloc) | (with_reducible apply rowAt.setRow_same) | ((with_reducible apply rowAt.so); (· (first | (simp; done) | (simp; omega) | omega))) | (with_reducible apply rowAt.set10) | (with_reducible apply rowAt.set8) | (with_reducible apply rowAt.set4) | (with_reducible apply rowAt.set2) | (with_reducible apply rowAt.set) | ((with_reducible apply rowAt.co); (· (first | (simp; done) | (simp; omega) | omega))) | assumption))) hb2 (by simp; try omega)
  have ht2 : rowAt w2 (w.heap.size + 1 + 1) #[.int .i64 0, .int .u32 0] 106 := rowAt.below (by (repeat (first | ((with_reducible apply rowAt.new); simp; done) | (with_reducible apply rowAt.drew) | (with_reducible apply rowAt.drewN) | (with_reducible apply rowAt.alloc) | (with_reducible apply rowAt.setRow_same) | ((with_reducible apply rowAt.so); (· (first | (simp; done) | (simp; omega) | omega))) | (with_reducible apply rowAt.set10) | (with_reducible apply rowAt.set8) | (with_reducible apply rowAt.set4) | (with_reducible apply rowAt.set2) | (with_reducible apply rowAt.set) | ((with_reducible apply rowAt.co); (· (first | (simp; done) | (simp; omega) | omega))) | assumption))) hb2 (by simp; try omega)
  have hb2' : Below w.heap.size w w2 := (show Below w.heap.size w _ from by (repeat (first | (with_reducible exact Below.refl _ _) | (with_reducible apply Below.drew) | (with_reducible apply bl_drewN) | ((with_reducible apply bl_alloc); (· (first | (simp; done) | (simp; omega) | omega))) | ((with_reducible apply bl_row); (· (first | (simp; done) | (simp; omega) | omega))) | ((with_reducible apply bl_cell); (· (first | (simp; done) | (simp; omega) | omega))) | assumption))).trans (hb2.mono (by simp; try omega))
  clear hr1 hs1 ht1 hz1 hb1' hb2
  have hz0 : w.heap.size < w2.heap.size := hr2.lt
  have hz1 : w.heap.size + 1 < w2.heap.size := hs2.lt
  have hz2 : w.heap.size + 1 + 1 < w2.heap.size := ht2.lt
  have i0 : w2.cell? ⟨w.heap.size, 0, none⟩ = some (.int .u32 r0) := hr2.cell 0
  have i1 : w2.cell? ⟨w.heap.size, 1, none⟩ = some (.int .u32 r1) := hr2.cell 1
  have i2 : w2.cell? ⟨w.heap.size, 2, none⟩ = some (.int .u32 r2) := hr2.cell 2
  have i3 : w2.cell? ⟨w.heap.size, 3, none⟩ = some (.int .u32 r3) := hr2.cell 3
  have i4 : w2.cell? ⟨w.heap.size, 4, none⟩ = some (.int .u32 r4) := hr2.cell 4
  have i5 : w2.cell? ⟨w.heap.size, 5, none⟩ = some (.int .u32 r5) := hr2.cell 5
  have i6 : w2.cell? ⟨w.heap.size, 6, none⟩ = some (.int .u32 r6) := hr2.cell 6
  have i7 : w2.cell? ⟨w.heap.size, 7, none⟩ = some (.int .u32 r7) := hr2.cell 7
  have i8 : w2.cell? ⟨w.heap.size, 8, none⟩ = some (.int .u32 pc) := hr2.cell 8
  have i9 : w2.cell? ⟨w.heap.size, 9, none⟩ = some (.int .i64 1) := hr2.cell 9
  have s0 : w2.cell? ⟨w.heap.size + 1, 0, none⟩ = some (.int .u32 0) := hs2.cell 0
  have s1 : w2.cell? ⟨w.heap.size + 1, 1, none⟩ = some (.int .u32 0) := hs2.cell 1
  have s2 : w2.cell? ⟨w.heap.size + 1, 2, none⟩ = some (.int .u32 0) := hs2.cell 2
  have s3 : w2.cell? ⟨w.heap.size + 1, 3, none⟩ = some (.int .u32 0) := hs2.cell 3
  have s4 : w2.cell? ⟨w.heap.size + 1, 4, none⟩ = some (.int .u32 0) := hs2.cell 4
  have s5 : w2.cell? ⟨w.heap.size + 1, 5, none⟩ = some (.int .u32 0) := hs2.cell 5
  have s6 : w2.cell? ⟨w.heap.size + 1, 6, none⟩ = some (.int .u32 0) := hs2.cell 6
  have s7 : w2.cell? ⟨w.heap.size + 1, 7, none⟩ = some (.int .u32 0) := hs2.cell 7
  have s8 : w2.cell? ⟨w.heap.size + 1, 8, none⟩ = some (.int .u32 0) := hs2.cell 8
  have s9 : w2.cell? ⟨w.heap.size + 1, 9, none⟩ = some (.int .i64 0) := hs2.cell 9
  have t0 : w2.cell? ⟨w.heap.size + 1 + 1, 0, none⟩ = some (.int .i64 0) := ht2.cell 0
  have t1 : w2.cell? ⟨w.heap.size + 1 + 1, 1, none⟩ = some (.int .u32 0) := ht2.cell 1
  have fs0 : w2.frozen? ⟨w.heap.size + 1, 0, none⟩ = false := hs2.frozen 0
  have fs1 : w2.frozen? ⟨w.heap.size + 1, 1, none⟩ = false := hs2.frozen 1
  have fs2 : w2.frozen? ⟨w.heap.size + 1, 2, none⟩ = false := hs2.frozen 2
  have fs3 : w2.frozen? ⟨w.heap.size + 1, 3, none⟩ = false := hs2.frozen 3
  have fs4 : w2.frozen? ⟨w.heap.size + 1, 4, none⟩ = false := hs2.frozen 4
  have fs5 : w2.frozen? ⟨w.heap.size + 1, 5, none⟩ = false := hs2.frozen 5
  have fs6 : w2.frozen? ⟨w.heap.size + 1, 6, none⟩ = false := hs2.frozen 6
  have fs7 : w2.frozen? ⟨w.heap.size + 1, 7, none⟩ = false := hs2.frozen 7
  have fs8 : w2.frozen? ⟨w.heap.size + 1, 8, none⟩ = false := hs2.frozen 8
  have fs9 : w2.frozen? ⟨w.heap.size + 1, 9, none⟩ = false := hs2.frozen 9
  have ft0 : w2.frozen? ⟨w.heap.size + 1 + 1, 0, none⟩ = false := ht2.frozen 0
  have ft1 : w2.frozen? ⟨w.heap.size + 1 + 1, 1, none⟩ = false := ht2.frozen 1
  have hg1 := H.gl
  have HR2 := H.kept (Below.block hb2')
  go_wp2_with fail
  rw [show (pc + 4) % 4294967296 = Pl.m32 (pc + 4) from rfl, hR2]
  have hgb2 : w.grownBy w2 (some g) := gb_new hb2'
  have hra : rowAt ((w2.alloc (Obj.cells #[.int .i64 op, .int .i64 a, .int .i64 b, .int .i64 c] 31)).alloc (Obj.cells (regs R (Pl.m32 (pc + 4))) 104)) (w2.heap.size + 1) (regs R (Pl.m32 (pc + 4))) 104 := by (repeat (first | ((with_reducible apply rowAt.new); simp; done) | (with_reducible apply rowAt.drew) | (with_reducible apply rowAt.drewN) | (with_reducible apply rowAt.alloc) | (with_reducible apply rowAt.setRow_same) | ((with_reducible apply rowAt.so); (· (first | (simp; done) | (simp; omega) | omega))) | (with_reducible apply rowAt.set10) | (with_reducible apply rowAt.set8) | (with_reducible apply rowAt.set4) | (with_reducible apply rowAt.set2) | (with_reducible apply rowAt.set) | ((with_reducible apply rowAt.co); (· (first | (simp; done) | (simp; omega) | omega))) | assumption))
  refine (HMe.out w2 _ (w2.heap.size + 1) HR2 (HR2.kept (Below.block (B := w2.heap.size) (by (repeat (first | (with_reducible exact Below.refl _ _) | (with_reducible apply Below.drew) | (with_reducible apply bl_drewN) | ((with_reducible apply bl_alloc); (· (first | (simp; done) | (simp; omega) | omega))) | ((with_reducible apply bl_row); (· (first | (simp; done) | (simp; omega) | omega))) | ((with_reducible apply bl_cell); (· (first | (simp; done) | (simp; omega) | omega))) | assumption))))) (by (repeat (first | (with_reducible exact gb_refl _ _) | (with_reducible apply gb_drew) | (with_reducible apply gb_drewN) | (with_reducible apply gb_alloc) | ((with_reducible apply gb_cell); (· (first | exact .inl rfl | (right; (first | (simp; done) | (simp; omega) | omega))))) | ((with_reducible apply gb_row); (· (first | exact .inl rfl | (right; (first | (simp; done) | (simp; omega) | omega))))) | assumption))) (by omega) hra).mono ?_
  clear hra
  rintro e w3 ⟨rfl, hr3, HR3, hg3⟩
  have hs3 : rowAt w3 (w.heap.size + 1) zeros10 104 := rowAt.grown hs2 hg3 (fun e => by have := Option.some.inj e; omega)
  have ht3 : rowAt w3 (w.heap.size + 1 + 1) #[.int .i64 0, .int .u32 0] 106 := rowAt.grown ht2 hg3 (fun e => by have := Option.some.inj e; omega)
  have hgb3 : w.grownBy w3 (some g) := gb_trans hg3 hgb2
  have hz9 : w.heap.size < w3.heap.size := by have := hs3.lt; omega
  have gsz := hR'
  clear i0 i1 i2 i3 i4 i5 i6 i7 i8 i9 s0 s1 s2 s3 s4 s5 s6 s7 s8 s9 fs0 fs1 fs2 fs3 fs4 fs5 fs6 fs7 fs8 fs9 t0 t1 ft0 ft1
  go_wp2_with (first | (apply load_row (hgd := rfl) (ty := 104) (ho := rfl) (hx := rfl) (hu := Tryz.underlying104) (hd := rfl); (· (repeat (first | ((with_reducible apply rowAt.new); simp; done) | (with_reducible apply rowAt.drew) | (with_reducible apply rowAt.drewN) | (with_reducible apply rowAt.alloc) | (with_reducible apply rowAt.setRow_same) | ((with_reducible apply rowAt.so); (· (first | (simp; done) | (simp; omega) | omega))) | (with_reducible apply rowAt.set10) | (with_reducible apply rowAt.set8) | (with_reducible apply rowAt.set4) | (with_reducible apply rowAt.set2) | (with_reducible apply rowAt.set) | ((with_reducible apply rowAt.co); (· (first | (simp; done) | (simp; omega) | omega))) | assumption))); (· (first | exact sizeTrap | exact sizeIns | (rw [sizeRegs]; simp [regs_sz, sr_len, gsz]; done)))) | (apply store_row (hgd := rfl) (ty := 104) (ho := rfl) (hx := rfl) (hy := rfl); (· (repeat (first | ((with_reducible apply rowAt.new); simp; done) | (with_reducible apply rowAt.drew) | (with_reducible apply rowAt.drewN) | (with_reducible apply rowAt.alloc) | (with_reducible apply rowAt.setRow_same) | ((with_reducible apply rowAt.so); (· (first | (simp; done) | (simp; omega) | omega))) | (with_reducible apply rowAt.set10) | (with_reducible apply rowAt.set8) | (with_reducible apply rowAt.set4) | (with_reducible apply rowAt.set2) | (with_reducible apply rowAt.set) | ((with_reducible apply rowAt.co); (· (first | (simp; done) | (simp; omega) | omega))) | assumption))); (· (first | exact sizeTrap | exact sizeIns | (rw [sizeRegs]; simp [regs_sz, sr_len, gsz]; done))); (· (first | (simp [regs_sz, sr_len, gsz]; done) | rfl)); (· (first | exact regs_one _ _ | (simp [Value.oneCell']; done)))) | (apply store_row (hgd := rfl) (ty := 106) (x := .tmp 5) (ho := rfl) (hx := rfl) (hy := rfl); (· (repeat (first | ((with_reducible apply rowAt.new); simp; done) | (with_reducible apply rowAt.drew) | (with_reducible apply rowAt.drewN) | (with_reducible apply rowAt.alloc) | (with_reducible apply rowAt.setRow_same) | ((with_reducible apply rowAt.so); (· (first | (simp; done) | (simp; omega) | omega))) | (with_reducible apply rowAt.set10) | (with_reducible apply rowAt.set8) | (with_reducible apply rowAt.set4) | (with_reducible apply rowAt.set2) | (with_reducible apply rowAt.set) | ((with_reducible apply rowAt.co); (· (first | (simp; done) | (simp; omega) | omega))) | assumption))); (· (first | exact sizeTrap | exact sizeIns | (rw [sizeRegs]; simp [regs_sz, sr_len, gsz]; done))); (· rfl); (· (simp [Value.oneCell']; done))))
  refine step_end (t := 104) (t2 := 106) (cs := regs R' (Pl.m32 (pc + 4))) (cs2 := #[.int .i64 0, .int .u32 0]) rfl rfl ?_ (regs_size hR') ?_ rfl rfl ⟨rfl, ?_, ?_⟩
  · (repeat (first | ((with_reducible apply rowAt.new); simp; done) | (with_reducible apply rowAt.drew) | (with_reducible apply rowAt.drewN) | (with_reducible apply rowAt.alloc) | (with_reducible apply rowAt.setRow_same) | ((with_reducible apply rowAt.so); (· (first | (simp; done) | (simp; omega) | omega))) | (with_reducible apply rowAt.set10) | (with_reducible apply rowAt.set8) | (with_reducible apply rowAt.set4) | (with_reducible apply rowAt.set2) | (with_reducible apply rowAt.set) | ((with_reducible apply rowAt.co); (· (first | (simp; done) | (simp; omega) | omega))) | assumption))
  · (repeat (first | ((with_reducible apply rowAt.new); simp; done) | (with_reducible apply rowAt.drew) | (with_reducible apply rowAt.drewN) | (with_reducible apply rowAt.alloc) | (with_reducible apply rowAt.setRow_same) | ((with_reducible apply rowAt.so); (· (first | (simp; done) | (simp; omega) | omega))) | (with_reducible apply rowAt.set10) | (with_reducible apply rowAt.set8) | (with_reducible apply rowAt.set4) | (with_reducible apply rowAt.set2) | (with_reducible apply rowAt.set) | ((with_reducible apply rowAt.co); (· (first | (simp; done) | (simp; omega) | omega))) | assumption))
  · exact H.kept2 HR3 (Below.block (B := w.heap.size) (by (repeat (first | (with_reducible exact Below.refl _ _) | (with_reducible apply Below.drew) | (with_reducible apply bl_drewN) | ((with_reducible apply bl_alloc); (· (first | (simp; done) | (simp; omega) | omega))) | ((with_reducible apply bl_row); (· (first | (simp; done) | (simp; omega) | omega))) | ((with_reducible apply bl_cell); (· (first | (simp; done) | (simp; omega) | omega))) | assumption))))
  · (repeat (first | (with_reducible exact gb_refl _ _) | (with_reducible apply gb_drew) | (with_reducible apply gb_drewN) | (with_reducible apply gb_alloc) | ((with_reducible apply gb_cell); (· (first | exact .inl rfl | (right; (first | (simp; done) | (simp; omega) | omega))))) | ((with_reducible apply gb_row); (· (first | exact .inl rfl | (right; (first | (simp; done) | (simp; omega) | omega))))) | assumption))

set_option maxHeartbeats 1600000 in
set_option maxRecDepth 100000 in
theorem step_mem_no (h13 : 13 < op) (h15 : 15 ≤ op) (h18 : op ≤ 18) (h1 : (op == 1) = false) (h26 : (op == 26) = false)
    (HMe : Hid (∀ W0 W gr, Room W0 m g wv dv xs D → Room W m g wv dv xs D → W0.grownBy W (some g) → W0.heap.size ≤ gr → rowAt W gr (regs R (Pl.m32 (pc + 4))) 104 →
      Calls Tryz.prog 87 #[.pointer (some ⟨gr, 0, none⟩), insV ⟨op, a, b, c⟩, busV m] W (MemTrap W0 g))) :
    Calls Tryz.prog 64 #[.agg (regs R pc), busV m] w (StepTrap w g) := by
  obtain ⟨r0, r1, r2, r3, r4, r5, r6, r7, hRe⟩ := eight hR.1
  have hR1 : regs R pc = #[.int .u32 r0, .int .u32 r1, .int .u32 r2, .int .u32 r3, .int .u32 r4, .int .u32 r5, .int .u32 r6, .int .u32 r7, .int .u32 pc, .int .i64 1] := by rw [hRe]; rfl
  have hR2 : #[.int .u32 r0, .int .u32 r1, .int .u32 r2, .int .u32 r3, .int .u32 r4, .int .u32 r5, .int .u32 r6, .int .u32 r7, .int .u32 (Pl.m32 (pc + 4)), .int .i64 1] = regs R (Pl.m32 (pc + 4)) := by rw [hRe]; rfl
  clear hRe
  rw [hR1]
  have HG := H.kept (Below.block (B := w.heap.size) (w' := ((w.alloc (Obj.cells #[.int .u32 r0, .int .u32 r1, .int .u32 r2, .int .u32 r3, .int .u32 r4, .int .u32 r5, .int .u32 r6, .int .u32 r7, .int .u32 pc, .int .i64 1] 104)).alloc (Obj.cells zeros10 104)).alloc (Obj.cells #[.int .i64 0, .int .u32 0] 106)) (by (repeat (first | (with_reducible exact Below.refl _ _) | (with_reducible apply Below.drew) | (with_reducible apply bl_drewN) | ((with_reducible apply bl_alloc); (· (first | (simp; done) | (simp; omega) | omega))) | ((with_reducible apply bl_row); (· (first | (simp; done) | (simp; omega) | omega))) | ((with_reducible apply bl_cell); (· (first | (simp; done) | (simp; omega) | omega))) | assumption))))
  go_enter Tryz.func64, Tryz.ntmps64
  go_wp2_with fail
  refine (HF.out _ HG).mono ?_
  rintro e w1 ⟨rfl, hb1⟩
  have hr1 : rowAt w1 w.heap.size #[.int .u32 r0, .int .u32 r1, .int .u32 r2, .int .u32 r3, .int .u32 r4, .int .u32 r5, .int .u32 r6, .int .u32 r7, .int .u32 pc, .int .i64 1] 104 := rowAt.below (by (repeat (first | ((with_reducible apply rowAt.new); simp; done) | (with_reducible apply rowAt.drew) | (with_reducible apply rowAt.drewN) | (with_reducible apply rowAt.alloc) | (with_reducible apply rowAt.setRow_same) | ((with_reducible apply rowAt.so); (· (first | (simp; done) | (simp; omega) | omega))) | (with_reducible apply rowAt.set10) | (with_reducible apply rowAt.set8) | (with_reducible apply rowAt.set4) | (with_reducible apply rowAt.set2) | (with_reducible apply rowAt.set) | ((with_reducible apply rowAt.co); (· (first | (simp; done) | (simp; omega) | omega))) | assumption))) hb1 (by simp; try omega)
  have hs1 : rowAt w1 (w.heap.size + 1) zeros10 104 := rowAt.below (by (repeat (first | ((with_reducible apply rowAt.new); simp; done) | (with_reducible apply rowAt.drew) | (with_reducible apply rowAt.drewN) | (with_reducible apply rowAt.alloc) | (with_reducible apply rowAt.setRow_same) | ((with_reducible apply rowAt.so); (· (first | (simp; done) | (simp; omega) | omega))) | (with_reducible apply rowAt.set10) | (with_reducible apply rowAt.set8) | (with_reducible apply rowAt.set4) | (with_reducible apply rowAt.set2) | (with_reducible apply rowAt.set) | ((with_reducible apply rowAt.co); (· (first | (simp; done) | (simp; omega) | omega))) | assumption))) hb1 (by simp; try omega)
  have ht1 : rowAt w1 (w.heap.size + 1 + 1) #[.int .i64 0, .int .u32 0] 106 := rowAt.below (by (repeat (first | ((with_reducible apply rowAt.new); simp; done) | (with_reducible apply rowAt.drew) | (with_reducible apply rowAt.drewN) | (with_reducible apply rowAt.alloc) | (with_reducible apply rowAt.setRow_same) | ((with_reducible apply rowAt.so); (· (first | (simp; done) | (simp; omega) | omega))) | (with_reducible apply rowAt.set10) | (with_reducible apply rowAt.set8) | (with_reducible apply rowAt.set4) | (with_reducible apply rowAt.set2) | (with_reducible apply rowAt.set) | ((with_reducible apply rowAt.co); (· (first | (simp; done) | (simp; omega) | omega))) | assumption))) hb1 (by simp; try omega)
  have hz1 : w.heap.size + 1 + 1 < w1.heap.size := ht1.lt
  have hb1' : Below w.heap.size w w1 := (show Below w.heap.size w _ from by (repeat (first | (with_reducible exact Below.refl _ _) | (with_reducible apply Below.drew) | (with_reducible apply bl_drewN) | ((with_reducible apply bl_alloc); (· (first | (simp; done) | (simp; omega) | omega))) | ((with_reducible apply bl_row); (· (first | (simp; done) | (simp; omega) | omega))) | ((with_reducible apply bl_cell); (· (first | (simp; done) | (simp; omega) | omega))) | assumption))).trans (hb1.mono (by simp; try omega))
  clear hb1 HG
  go_wp2_with fail
  refine (HDe.out _).mono ?_
  rintro e w2 ⟨rfl, hb2⟩
  have hr2 : rowAt w2 w.heap.size #[.int .u32 r0, .int .u32 r1, .int .u32 r2, .int .u32 r3, .int .u32 r4, .int .u32 r5, .int .u32 r6, .int .u32 r7, .int .u32 pc, .int .i64 1] 104 := rowAt.below (by (repeat (first | ((with_reducible apply rowAt.new); simp; done) | (with_reducible apply rowAt.drew) | (with_reducible apply rowAt.drewN) | (with_reducible apply rowAt.alloc) | (with_reducible apply rowAt.setRow_same) | ((with_reducible apply rowAt.so); (· (first | (simp; done) | (simp; omega) | omega))) | (with_reducible apply rowAt.set10) | (with_reducible apply rowAt.set8) | (with_reducible apply rowAt.set4) | (with_reducible apply rowAt.set2) | (with_reducible apply rowAt.set) | ((with_reducible apply rowAt.co); (· (first | (simp; done) | (simp; omega) | omega))) | assumption))) hb2 (by simp; try omega)
  have hs2 : rowAt w2 (w.heap.size + 1) zeros10 104 := rowAt.below (by (repeat (first | ((with_reducible apply rowAt.new); simp; done) | (with_reducible apply rowAt.drew) | (with_reducible apply rowAt.drewN) | (with_reducible apply rowAt.alloc) | (with_reducible apply rowAt.setRow_same) | ((with_reducible apply rowAt.so); (· (first | (simp; done) | (simp; omega) | omega))) | (with_reducible apply rowAt.set10) | (with_reducible apply rowAt.set8) | (with_reducible apply rowAt.set4) | (with_reducible apply rowAt.set2) | (with_reducible apply rowAt.set) | ((with_reducible apply rowAt.co); (· (first | (simp; done) | (simp; omega) | omega))) | assumption))) hb2 (by simp; try omega)
  have ht2 : rowAt w2 (w.heap.size + 1 + 1) #[.int .i64 0, .int .u32 0] 106 := rowAt.below (by (repeat (first | ((with_reducible apply rowAt.new); simp; done) | (with_reducible apply rowAt.drew) | (with_reducible apply rowAt.drewN) | (with_reducible apply rowAt.alloc) | (with_reducible apply rowAt.setRow_same) | ((with_reducible apply rowAt.so); (· (first | (simp; done) | (simp; omega) | omega))) | (with_reducible apply rowAt.set10) | (with_reducible apply rowAt.set8) | (with_reducible apply rowAt.set4) | (with_reducible apply rowAt.set2) | (with_reducible apply rowAt.set) | ((with_reducible apply rowAt.co); (· (first | (simp; done) | (simp; omega) | omega))) | assumption))) hb2 (by simp; try omega)
  have hb2' : Below w.heap.size w w2 := (show Below w.heap.size w _ from by (repeat (first | (with_reducible exact Below.refl _ _) | (with_reducible apply Below.drew) | (with_reducible apply bl_drewN) | ((with_reducible apply bl_alloc); (· (first | (simp; done) | (simp; omega) | omega))) | ((with_reducible apply bl_row); (· (first | (simp; done) | (simp; omega) | omega))) | ((with_reducible apply bl_cell); (· (first | (simp; done) | (simp; omega) | omega))) | assumption))).trans (hb2.mono (by simp; try omega))
  clear hr1 hs1 ht1 hz1 hb1' hb2
  have hz0 : w.heap.size < w2.heap.size := hr2.lt
  have hz1 : w.heap.size + 1 < w2.heap.size := hs2.lt
  have hz2 : w.heap.size + 1 + 1 < w2.heap.size := ht2.lt
  have i0 : w2.cell? ⟨w.heap.size, 0, none⟩ = some (.int .u32 r0) := hr2.cell 0
  have i1 : w2.cell? ⟨w.heap.size, 1, none⟩ = some (.int .u32 r1) := hr2.cell 1
  have i2 : w2.cell? ⟨w.heap.size, 2, none⟩ = some (.int .u32 r2) := hr2.cell 2
  have i3 : w2.cell? ⟨w.heap.size, 3, none⟩ = some (.int .u32 r3) := hr2.cell 3
  have i4 : w2.cell? ⟨w.heap.size, 4, none⟩ = some (.int .u32 r4) := hr2.cell 4
  have i5 : w2.cell? ⟨w.heap.size, 5, none⟩ = some (.int .u32 r5) := hr2.cell 5
  have i6 : w2.cell? ⟨w.heap.size, 6, none⟩ = some (.int .u32 r6) := hr2.cell 6
  have i7 : w2.cell? ⟨w.heap.size, 7, none⟩ = some (.int .u32 r7) := hr2.cell 7
  have i8 : w2.cell? ⟨w.heap.size, 8, none⟩ = some (.int .u32 pc) := hr2.cell 8
  have i9 : w2.cell? ⟨w.heap.size, 9, none⟩ = some (.int .i64 1) := hr2.cell 9
  have s0 : w2.cell? ⟨w.heap.size + 1, 0, none⟩ = some (.int .u32 0) := hs2.cell 0
  have s1 : w2.cell? ⟨w.heap.size + 1, 1, none⟩ = some (.int .u32 0) := hs2.cell 1
  have s2 : w2.cell? ⟨w.heap.size + 1, 2, none⟩ = some (.int .u32 0) := hs2.cell 2
  have s3 : w2.cell? ⟨w.heap.size + 1, 3, none⟩ = some (.int .u32 0) := hs2.cell 3
  have s4 : w2.cell? ⟨w.heap.size + 1, 4, none⟩ = some (.int .u32 0) := hs2.cell 4
  have s5 : w2.cell? ⟨w.heap.size + 1, 5, none⟩ = some (.int .u32 0) := hs2.cell 5
  have s6 : w2.cell? ⟨w.heap.size + 1, 6, none⟩ = some (.int .u32 0) := hs2.cell 6
  have s7 : w2.cell? ⟨w.heap.size + 1, 7, none⟩ = some (.int .u32 0) := hs2.cell 7
  have s8 : w2.cell? ⟨w.heap.size + 1, 8, none⟩ = some (.int .u32 0) := hs2.cell 8
  have s9 : w2.cell? ⟨w.heap.size + 1, 9, none⟩ = some (.int .i64 0) := hs2.cell 9
  have t0 : w2.cell? ⟨w.heap.size + 1 + 1, 0, none⟩ = some (.int .i64 0) := ht2.cell 0
  have t1 : w2.cell? ⟨w.heap.size + 1 + 1, 1, none⟩ = some (.int .u32 0) := ht2.cell 1
  have fs0 : w2.frozen? ⟨w.heap.size + 1, 0, none⟩ = false := hs2.frozen 0
  have fs1 : w2.frozen? ⟨w.heap.size + 1, 1, none⟩ = false := hs2.frozen 1
  have fs2 : w2.frozen? ⟨w.heap.size + 1, 2, none⟩ = false := hs2.frozen 2
  have fs3 : w2.frozen? ⟨w.heap.size + 1, 3, none⟩ = false := hs2.frozen 3
  have fs4 : w2.frozen? ⟨w.heap.size + 1, 4, none⟩ = false := hs2.frozen 4
  have fs5 : w2.frozen? ⟨w.heap.size + 1, 5, none⟩ = false := hs2.frozen 5
  have fs6 : w2.frozen? ⟨w.heap.size + 1, 6, none⟩ = false := hs2.frozen 6
  have fs7 : w2.frozen? ⟨w.heap.size + 1, 7, none⟩ = false := hs2.frozen 7
  have fs8 : w2.frozen? ⟨w.heap.size + 1, 8, none⟩ = false := hs2.frozen 8
  have fs9 : w2.frozen? ⟨w.heap.size + 1, 9, none⟩ = false := hs2.frozen 9
  have ft0 : w2.frozen? ⟨w.heap.size + 1 + 1, 0, none⟩ = false := ht2.frozen 0
  have ft1 : w2.frozen? ⟨w.heap.size + 1 + 1, 1, none⟩ = false := ht2.frozen 1
  have hg1 := H.gl
  have HR2 := H.kept (Below.block hb2')
  go_wp2_with fail
  rw [show (pc + 4) % 4294967296 = Pl.m32 (pc + 4) from rfl, hR2]
  have hgb2 : w.grownBy w2 (some g) := gb_new hb2'
  have hra : rowAt ((w2.alloc (Obj.cells #[.int .i64 op, .int .i64 a, .int .i64 b, .int .i64 c] 31)).alloc (Obj.cells (regs R (Pl.m32 (pc + 4))) 104)) (w2.heap.size + 1) (regs R (Pl.m32 (pc + 4))) 104 := by (repeat (first | ((with_reducible apply rowAt.new); simp; done) | (with_reducible apply rowAt.drew) | (with_reducible apply rowAt.drewN) | (with_reducible apply rowAt.alloc) | (with_reducible apply rowAt.setRow_same) | ((with_reducible apply rowAt.so); (· (first | (simp; done) | (simp; omega) | omega))) | (with_reducible apply rowAt.set10) | (with_reducible apply rowAt.set8) | (with_reducible apply rowAt.set4) | (with_reducible apply rowAt.set2) | (with_reducible apply rowAt.set) | ((with_reducible apply rowAt.co); (· (first | (simp; done) | (simp; omega) | omega))) | assumption))
  refine (HMe.out w2 _ (w2.heap.size + 1) HR2 (HR2.kept (Below.block (B := w2.heap.size) (by (repeat (first | (with_reducible exact Below.refl _ _) | (with_reducible apply Below.drew) | (with_reducible apply bl_drewN) | ((with_reducible apply bl_alloc); (· (first | (simp; done) | (simp; omega) | omega))) | ((with_reducible apply bl_row); (· (first | (simp; done) | (simp; omega) | omega))) | ((with_reducible apply bl_cell); (· (first | (simp; done) | (simp; omega) | omega))) | assumption))))) (by (repeat (first | (with_reducible exact gb_refl _ _) | (with_reducible apply gb_drew) | (with_reducible apply gb_drewN) | (with_reducible apply gb_alloc) | ((with_reducible apply gb_cell); (· (first | exact .inl rfl | (right; (first | (simp; done) | (simp; omega) | omega))))) | ((with_reducible apply gb_row); (· (first | exact .inl rfl | (right; (first | (simp; done) | (simp; omega) | omega))))) | assumption))) (by omega) hra).mono ?_
  clear hra
  rintro e w3 ⟨⟨k, q, hk, rfl⟩, hg3⟩
  have hk' : (k != 0) = true := by simpa using hk
  have hs3 : rowAt w3 (w.heap.size + 1) zeros10 104 := rowAt.grown hs2 hg3 (fun e => by have := Option.some.inj e; omega)
  have ht3 : rowAt w3 (w.heap.size + 1 + 1) #[.int .i64 0, .int .u32 0] 106 := rowAt.grown ht2 hg3 (fun e => by have := Option.some.inj e; omega)
  have hgb3 : w.grownBy w3 (some g) := gb_trans hg3 hgb2
  have hz9 : w.heap.size < w3.heap.size := by have := hs3.lt; omega
  have hr3 : rowAt w3 w.heap.size #[.int .u32 r0, .int .u32 r1, .int .u32 r2, .int .u32 r3, .int .u32 r4, .int .u32 r5, .int .u32 r6, .int .u32 r7, .int .u32 pc, .int .i64 1] 104 := rowAt.grown hr2 hg3 (fun e => by have := Option.some.inj e; omega)
  clear i0 i1 i2 i3 i4 i5 i6 i7 i8 i9 s0 s1 s2 s3 s4 s5 s6 s7 s8 s9 fs0 fs1 fs2 fs3 fs4 fs5 fs6 fs7 fs8 fs9 t0 t1 ft0 ft1
  have hz0 : w.heap.size < w3.heap.size := hr3.lt
  have hz1 : w.heap.size + 1 < w3.heap.size := hs3.lt
  have hz2 : w.heap.size + 1 + 1 < w3.heap.size := ht3.lt
  have i0 : w3.cell? ⟨w.heap.size, 0, none⟩ = some (.int .u32 r0) := hr3.cell 0
  have i1 : w3.cell? ⟨w.heap.size, 1, none⟩ = some (.int .u32 r1) := hr3.cell 1
  have i2 : w3.cell? ⟨w.heap.size, 2, none⟩ = some (.int .u32 r2) := hr3.cell 2
  have i3 : w3.cell? ⟨w.heap.size, 3, none⟩ = some (.int .u32 r3) := hr3.cell 3
  have i4 : w3.cell? ⟨w.heap.size, 4, none⟩ = some (.int .u32 r4) := hr3.cell 4
  have i5 : w3.cell? ⟨w.heap.size, 5, none⟩ = some (.int .u32 r5) := hr3.cell 5
  have i6 : w3.cell? ⟨w.heap.size, 6, none⟩ = some (.int .u32 r6) := hr3.cell 6
  have i7 : w3.cell? ⟨w.heap.size, 7, none⟩ = some (.int .u32 r7) := hr3.cell 7
  have i8 : w3.cell? ⟨w.heap.size, 8, none⟩ = some (.int .u32 pc) := hr3.cell 8
  have i9 : w3.cell? ⟨w.heap.size, 9, none⟩ = some (.int .i64 1) := hr3.cell 9
  have s0 : w3.cell? ⟨w.heap.size + 1, 0, none⟩ = some (.int .u32 0) := hs3.cell 0
  have s1 : w3.cell? ⟨w.heap.size + 1, 1, none⟩ = some (.int .u32 0) := hs3.cell 1
  have s2 : w3.cell? ⟨w.heap.size + 1, 2, none⟩ = some (.int .u32 0) := hs3.cell 2
  have s3 : w3.cell? ⟨w.heap.size + 1, 3, none⟩ = some (.int .u32 0) := hs3.cell 3
  have s4 : w3.cell? ⟨w.heap.size + 1, 4, none⟩ = some (.int .u32 0) := hs3.cell 4
  have s5 : w3.cell? ⟨w.heap.size + 1, 5, none⟩ = some (.int .u32 0) := hs3.cell 5
  have s6 : w3.cell? ⟨w.heap.size + 1, 6, none⟩ = some (.int .u32 0) := hs3.cell 6
  have s7 : w3.cell? ⟨w.heap.size + 1, 7, none⟩ = some (.int .u32 0) := hs3.cell 7
  have s8 : w3.cell? ⟨w.heap.size + 1, 8, none⟩ = some (.int .u32 0) := hs3.cell 8
  have s9 : w3.cell? ⟨w.heap.size + 1, 9, none⟩ = some (.int .i64 0) := hs3.cell 9
  have t0 : w3.cell? ⟨w.heap.size + 1 + 1, 0, none⟩ = some (.int .i64 0) := ht3.cell 0
  have t1 : w3.cell? ⟨w.heap.size + 1 + 1, 1, none⟩ = some (.int .u32 0) := ht3.cell 1
  have fs0 : w3.frozen? ⟨w.heap.size + 1, 0, none⟩ = false := hs3.frozen 0
  have fs1 : w3.frozen? ⟨w.heap.size + 1, 1, none⟩ = false := hs3.frozen 1
  have fs2 : w3.frozen? ⟨w.heap.size + 1, 2, none⟩ = false := hs3.frozen 2
  have fs3 : w3.frozen? ⟨w.heap.size + 1, 3, none⟩ = false := hs3.frozen 3
  have fs4 : w3.frozen? ⟨w.heap.size + 1, 4, none⟩ = false := hs3.frozen 4
  have fs5 : w3.frozen? ⟨w.heap.size + 1, 5, none⟩ = false := hs3.frozen 5
  have fs6 : w3.frozen? ⟨w.heap.size + 1, 6, none⟩ = false := hs3.frozen 6
  have fs7 : w3.frozen? ⟨w.heap.size + 1, 7, none⟩ = false := hs3.frozen 7
  have fs8 : w3.frozen? ⟨w.heap.size + 1, 8, none⟩ = false := hs3.frozen 8
  have fs9 : w3.frozen? ⟨w.heap.size + 1, 9, none⟩ = false := hs3.frozen 9
  have ft0 : w3.frozen? ⟨w.heap.size + 1 + 1, 0, none⟩ = false := ht3.frozen 0
  have ft1 : w3.frozen? ⟨w.heap.size + 1 + 1, 1, none⟩ = false := ht3.frozen 1
  go_wp2_with fail
  go_region
  go_wp2_with fail
  refine step_end (t := 104) (t2 := 106) (cs := #[.int .u32 r0, .int .u32 r1, .int .u32 r2, .int .u32 r3, .int .u32 r4, .int .u32 r5, .int .u32 r6, .int .u32 r7, .int .u32 pc, .int .i64 1]) (cs2 := #[.int .i64 k, .int .u32 q]) rfl rfl ?_ rfl ?_ rfl rfl ⟨⟨[r0, r1, r2, r3, r4, r5, r6, r7], pc, k, q, rfl, hk, rfl⟩, ?_⟩
  · (repeat (first | ((with_reducible apply rowAt.new); simp; done) | (with_reducible apply rowAt.drew) | (with_reducible apply rowAt.drewN) | (with_reducible apply rowAt.alloc) | (with_reducible apply rowAt.setRow_same) | ((with_reducible apply rowAt.so); (· (first | (simp; done) | (simp; omega) | omega))) | (with_reducible apply rowAt.set10) | (with_reducible apply rowAt.set8) | (with_reducible apply rowAt.set4) | (with_reducible apply rowAt.set2) | (with_reducible apply rowAt.set) | ((with_reducible apply rowAt.co); (· (first | (simp; done) | (simp; omega) | omega))) | assumption))
  · (repeat (first | ((with_reducible apply rowAt.new); simp; done) | (with_reducible apply rowAt.drew) | (with_reducible apply rowAt.drewN) | (with_reducible apply rowAt.alloc) | (with_reducible apply rowAt.setRow_same) | ((with_reducible apply rowAt.so); (· (first | (simp; done) | (simp; omega) | omega))) | (with_reducible apply rowAt.set10) | (with_reducible apply rowAt.set8) | (with_reducible apply rowAt.set4) | (with_reducible apply rowAt.set2) | (with_reducible apply rowAt.set) | ((with_reducible apply rowAt.co); (· (first | (simp; done) | (simp; omega) | omega))) | assumption))
  · (repeat (first | (with_reducible exact gb_refl _ _) | (with_reducible apply gb_drew) | (with_reducible apply gb_drewN) | (with_reducible apply gb_alloc) | ((with_reducible apply gb_cell); (· (first | exact .inl rfl | (right; (first | (simp; done) | (simp; omega) | omega))))) | ((with_reducible apply gb_row); (· (first | exact .inl rfl | (right; (first | (simp; done) | (simp; omega) | omega))))) | assumption))

set_option maxHeartbeats 1600000 in
set_option maxRecDepth 100000 in
theorem step_swap {D' R' : List Int} (h13 : 13 < op) (h15 : 15 ≤ op) (h18 : 18 < op) (h25 : (op == 25) = true) (h1 : (op == 1) = false) (h26 : (op == 26) = false) (hR' : R'.length = 8)
    (HMe : Hid (∀ W0 W gr, Room W0 m g wv dv xs D → Room W m g wv dv xs D → W0.grownBy W (some g) → W0.heap.size ≤ gr → rowAt W gr (regs R (Pl.m32 (pc + 4))) 104 →
      Calls Tryz.prog 87 #[.pointer (some ⟨gr, 0, none⟩), insV ⟨op, a, b, c⟩, busV m] W (MemIs W0 m g gr wv dv xs D' R' (Pl.m32 (pc + 4))))) :
    Calls Tryz.prog 64 #[.agg (regs R pc), busV m] w (StepOk w m g wv dv xs ⟨R', Pl.m32 (pc + 4), D'⟩) := by
  obtain ⟨r0, r1, r2, r3, r4, r5, r6, r7, hRe⟩ := eight hR.1
  have hR1 : regs R pc = #[.int .u32 r0, .int .u32 r1, .int .u32 r2, .int .u32 r3, .int .u32 r4, .int .u32 r5, .int .u32 r6, .int .u32 r7, .int .u32 pc, .int .i64 1] := by rw [hRe]; rfl
  have hR2 : #[.int .u32 r0, .int .u32 r1, .int .u32 r2, .int .u32 r3, .int .u32 r4, .int .u32 r5, .int .u32 r6, .int .u32 r7, .int .u32 (Pl.m32 (pc + 4)), .int .i64 1] = regs R (Pl.m32 (pc + 4)) := by rw [hRe]; rfl
  clear hRe
  rw [hR1]
  have HG := H.kept (Below.block (B := w.heap.size) (w' := ((w.alloc (Obj.cells #[.int .u32 r0, .int .u32 r1, .int .u32 r2, .int .u32 r3, .int .u32 r4, .int .u32 r5, .int .u32 r6, .int .u32 r7, .int .u32 pc, .int .i64 1] 104)).alloc (Obj.cells zeros10 104)).alloc (Obj.cells #[.int .i64 0, .int .u32 0] 106)) (by (repeat (first | (with_reducible exact Below.refl _ _) | (with_reducible apply Below.drew) | (with_reducible apply bl_drewN) | ((with_reducible apply bl_alloc); (· (first | (simp; done) | (simp; omega) | omega))) | ((with_reducible apply bl_row); (· (first | (simp; done) | (simp; omega) | omega))) | ((with_reducible apply bl_cell); (· (first | (simp; done) | (simp; omega) | omega))) | assumption))))
  go_enter Tryz.func64, Tryz.ntmps64
  go_wp2_with fail
  refine (HF.out _ HG).mono ?_
  rintro e w1 ⟨rfl, hb1⟩
  have hr1 : rowAt w1 w.heap.size #[.int .u32 r0, .int .u32 r1, .int .u32 r2, .int .u32 r3, .int .u32 r4, .int .u32 r5, .int .u32 r6, .int .u32 r7, .int .u32 pc, .int .i64 1] 104 := rowAt.below (by (repeat (first | ((with_reducible apply rowAt.new); simp; done) | (with_reducible apply rowAt.drew) | (with_reducible apply rowAt.drewN) | (with_reducible apply rowAt.alloc) | (with_reducible apply rowAt.setRow_same) | ((with_reducible apply rowAt.so); (· (first | (simp; done) | (simp; omega) | omega))) | (with_reducible apply rowAt.set10) | (with_reducible apply rowAt.set8) | (with_reducible apply rowAt.set4) | (with_reducible apply rowAt.set2) | (with_reducible apply rowAt.set) | ((with_reducible apply rowAt.co); (· (first | (simp; done) | (simp; omega) | omega))) | assumption))) hb1 (by simp; try omega)
  have hs1 : rowAt w1 (w.heap.size + 1) zeros10 104 := rowAt.below (by (repeat (first | ((with_reducible apply rowAt.new); simp; done) | (with_reducible apply rowAt.drew) | (with_reducible apply rowAt.drewN) | (with_reducible apply rowAt.alloc) | (with_reducible apply rowAt.setRow_same) | ((with_reducible apply rowAt.so); (· (first | (simp; done) | (simp; omega) | omega))) | (with_reducible apply rowAt.set10) | (with_reducible apply rowAt.set8) | (with_reducible apply rowAt.set4) | (with_reducible apply rowAt.set2) | (with_reducible apply rowAt.set) | ((with_reducible apply rowAt.co); (· (first | (simp; done) | (simp; omega) | omega))) | assumption))) hb1 (by simp; try omega)
  have ht1 : rowAt w1 (w.heap.size + 1 + 1) #[.int .i64 0, .int .u32 0] 106 := rowAt.below (by (repeat (first | ((with_reducible apply rowAt.new); simp; done) | (with_reducible apply rowAt.drew) | (with_reducible apply rowAt.drewN) | (with_reducible apply rowAt.alloc) | (with_reducible apply rowAt.setRow_same) | ((with_reducible apply rowAt.so); (· (first | (simp; done) | (simp; omega) | omega))) | (with_reducible apply rowAt.set10) | (with_reducible apply rowAt.set8) | (with_reducible apply rowAt.set4) | (with_reducible apply rowAt.set2) | (with_reducible apply rowAt.set) | ((with_reducible apply rowAt.co); (· (first | (simp; done) | (simp; omega) | omega))) | assumption))) hb1 (by simp; try omega)
  have hz1 : w.heap.size + 1 + 1 < w1.heap.size := ht1.lt
  have hb1' : Below w.heap.size w w1 := (show Below w.heap.size w _ from by (repeat (first | (with_reducible exact Below.refl _ _) | (with_reducible apply Below.drew) | (with_reducible apply bl_drewN) | ((with_reducible apply bl_alloc); (· (first | (simp; done) | (simp; omega) | omega))) | ((with_reducible apply bl_row); (· (first | (simp; done) | (simp; omega) | omega))) | ((with_reducible apply bl_cell); (· (first | (simp; done) | (simp; omega) | omega))) | assumption))).trans (hb1.mono (by simp; try omega))
  clear hb1 HG
  go_wp2_with fail
  refine (HDe.out _).mono ?_
  rintro e w2 ⟨rfl, hb2⟩
  have hr2 : rowAt w2 w.heap.size #[.int .u32 r0, .int .u32 r1, .int .u32 r2, .int .u32 r3, .int .u32 r4, .int .u32 r5, .int .u32 r6, .int .u32 r7, .int .u32 pc, .int .i64 1] 104 := rowAt.below (by (repeat (first | ((with_reducible apply rowAt.new); simp; done) | (with_reducible apply rowAt.drew) | (with_reducible apply rowAt.drewN) | (with_reducible apply rowAt.alloc) | (with_reducible apply rowAt.setRow_same) | ((with_reducible apply rowAt.so); (· (first | (simp; done) | (simp; omega) | omega))) | (with_reducible apply rowAt.set10) | (with_reducible apply rowAt.set8) | (with_reducible apply rowAt.set4) | (with_reducible apply rowAt.set2) | (with_reducible apply rowAt.set) | ((with_reducible apply rowAt.co); (· (first | (simp; done) | (simp; omega) | omega))) | assumption))) hb2 (by simp; try omega)
  have hs2 : rowAt w2 (w.heap.size + 1) zeros10 104 := rowAt.below (by (repeat (first | ((with_reducible apply rowAt.new); simp; done) | (with_reducible apply rowAt.drew) | (with_reducible apply rowAt.drewN) | (with_reducible apply rowAt.alloc) | (with_reducible apply rowAt.setRow_same) | ((with_reducible apply rowAt.so); (· (first | (simp; done) | (simp; omega) | omega))) | (with_reducible apply rowAt.set10) | (with_reducible apply rowAt.set8) | (with_reducible apply rowAt.set4) | (with_reducible apply rowAt.set2) | (with_reducible apply rowAt.set) | ((with_reducible apply rowAt.co); (· (first | (simp; done) | (simp; omega) | omega))) | assumption))) hb2 (by simp; try omega)
  have ht2 : rowAt w2 (w.heap.size + 1 + 1) #[.int .i64 0, .int .u32 0] 106 := rowAt.below (by (repeat (first | ((with_reducible apply rowAt.new); simp; done) | (with_reducible apply rowAt.drew) | (with_reducible apply rowAt.drewN) | (with_reducible apply rowAt.alloc) | (with_reducible apply rowAt.setRow_same) | ((with_reducible apply rowAt.so); (· (first | (simp; done) | (simp; omega) | omega))) | (with_reducible apply rowAt.set10) | (with_reducible apply rowAt.set8) | (with_reducible apply rowAt.set4) | (with_reducible apply rowAt.set2) | (with_reducible apply rowAt.set) | ((with_reducible apply rowAt.co); (· (first | (simp; done) | (simp; omega) | omega))) | assumption))) hb2 (by simp; try omega)
  have hb2' : Below w.heap.size w w2 := (show Below w.heap.size w _ from by (repeat (first | (with_reducible exact Below.refl _ _) | (with_reducible apply Below.drew) | (with_reducible apply bl_drewN) | ((with_reducible apply bl_alloc); (· (first | (simp; done) | (simp; omega) | omega))) | ((with_reducible apply bl_row); (· (first | (simp; done) | (simp; omega) | omega))) | ((with_reducible apply bl_cell); (· (first | (simp; done) | (simp; omega) | omega))) | assumption))).trans (hb2.mono (by simp; try omega))
  clear hr1 hs1 ht1 hz1 hb1' hb2
  have hz0 : w.heap.size < w2.heap.size := hr2.lt
  have hz1 : w.heap.size + 1 < w2.heap.size := hs2.lt
  have hz2 : w.heap.size + 1 + 1 < w2.heap.size := ht2.lt
  have i0 : w2.cell? ⟨w.heap.size, 0, none⟩ = some (.int .u32 r0) := hr2.cell 0
  have i1 : w2.cell? ⟨w.heap.size, 1, none⟩ = some (.int .u32 r1) := hr2.cell 1
  have i2 : w2.cell? ⟨w.heap.size, 2, none⟩ = some (.int .u32 r2) := hr2.cell 2
  have i3 : w2.cell? ⟨w.heap.size, 3, none⟩ = some (.int .u32 r3) := hr2.cell 3
  have i4 : w2.cell? ⟨w.heap.size, 4, none⟩ = some (.int .u32 r4) := hr2.cell 4
  have i5 : w2.cell? ⟨w.heap.size, 5, none⟩ = some (.int .u32 r5) := hr2.cell 5
  have i6 : w2.cell? ⟨w.heap.size, 6, none⟩ = some (.int .u32 r6) := hr2.cell 6
  have i7 : w2.cell? ⟨w.heap.size, 7, none⟩ = some (.int .u32 r7) := hr2.cell 7
  have i8 : w2.cell? ⟨w.heap.size, 8, none⟩ = some (.int .u32 pc) := hr2.cell 8
  have i9 : w2.cell? ⟨w.heap.size, 9, none⟩ = some (.int .i64 1) := hr2.cell 9
  have s0 : w2.cell? ⟨w.heap.size + 1, 0, none⟩ = some (.int .u32 0) := hs2.cell 0
  have s1 : w2.cell? ⟨w.heap.size + 1, 1, none⟩ = some (.int .u32 0) := hs2.cell 1
  have s2 : w2.cell? ⟨w.heap.size + 1, 2, none⟩ = some (.int .u32 0) := hs2.cell 2
  have s3 : w2.cell? ⟨w.heap.size + 1, 3, none⟩ = some (.int .u32 0) := hs2.cell 3
  have s4 : w2.cell? ⟨w.heap.size + 1, 4, none⟩ = some (.int .u32 0) := hs2.cell 4
  have s5 : w2.cell? ⟨w.heap.size + 1, 5, none⟩ = some (.int .u32 0) := hs2.cell 5
  have s6 : w2.cell? ⟨w.heap.size + 1, 6, none⟩ = some (.int .u32 0) := hs2.cell 6
  have s7 : w2.cell? ⟨w.heap.size + 1, 7, none⟩ = some (.int .u32 0) := hs2.cell 7
  have s8 : w2.cell? ⟨w.heap.size + 1, 8, none⟩ = some (.int .u32 0) := hs2.cell 8
  have s9 : w2.cell? ⟨w.heap.size + 1, 9, none⟩ = some (.int .i64 0) := hs2.cell 9
  have t0 : w2.cell? ⟨w.heap.size + 1 + 1, 0, none⟩ = some (.int .i64 0) := ht2.cell 0
  have t1 : w2.cell? ⟨w.heap.size + 1 + 1, 1, none⟩ = some (.int .u32 0) := ht2.cell 1
  have fs0 : w2.frozen? ⟨w.heap.size + 1, 0, none⟩ = false := hs2.frozen 0
  have fs1 : w2.frozen? ⟨w.heap.size + 1, 1, none⟩ = false := hs2.frozen 1
  have fs2 : w2.frozen? ⟨w.heap.size + 1, 2, none⟩ = false := hs2.frozen 2
  have fs3 : w2.frozen? ⟨w.heap.size + 1, 3, none⟩ = false := hs2.frozen 3
  have fs4 : w2.frozen? ⟨w.heap.size + 1, 4, none⟩ = false := hs2.frozen 4
  have fs5 : w2.frozen? ⟨w.heap.size + 1, 5, none⟩ = false := hs2.frozen 5
  have fs6 : w2.frozen? ⟨w.heap.size + 1, 6, none⟩ = false := hs2.frozen 6
  have fs7 : w2.frozen? ⟨w.heap.size + 1, 7, none⟩ = false := hs2.frozen 7
  have fs8 : w2.frozen? ⟨w.heap.size + 1, 8, none⟩ = false := hs2.frozen 8
  have fs9 : w2.frozen? ⟨w.heap.size + 1, 9, none⟩ = false := hs2.frozen 9
  have ft0 : w2.frozen? ⟨w.heap.size + 1 + 1, 0, none⟩ = false := ht2.frozen 0
  have ft1 : w2.frozen? ⟨w.heap.size + 1 + 1, 1, none⟩ = false := ht2.frozen 1
  have hg1 := H.gl
  have HR2 := H.kept (Below.block hb2')
  go_wp2_with fail
  rw [show (pc + 4) % 4294967296 = Pl.m32 (pc + 4) from rfl, hR2]
  have hgb2 : w.grownBy w2 (some g) := gb_new hb2'
  have hra : rowAt ((w2.alloc (Obj.cells #[.int .i64 op, .int .i64 a, .int .i64 b, .int .i64 c] 31)).alloc (Obj.cells (regs R (Pl.m32 (pc + 4))) 104)) (w2.heap.size + 1) (regs R (Pl.m32 (pc + 4))) 104 := by (repeat (first | ((with_reducible apply rowAt.new); simp; done) | (with_reducible apply rowAt.drew) | (with_reducible apply rowAt.drewN) | (with_reducible apply rowAt.alloc) | (with_reducible apply rowAt.setRow_same) | ((with_reducible apply rowAt.so); (· (first | (simp; done) | (simp; omega) | omega))) | (with_reducible apply rowAt.set10) | (with_reducible apply rowAt.set8) | (with_reducible apply rowAt.set4) | (with_reducible apply rowAt.set2) | (with_reducible apply rowAt.set) | ((with_reducible apply rowAt.co); (· (first | (simp; done) | (simp; omega) | omega))) | assumption))
  refine (HMe.out w2 _ (w2.heap.size + 1) HR2 (HR2.kept (Below.block (B := w2.heap.size) (by (repeat (first | (with_reducible exact Below.refl _ _) | (with_reducible apply Below.drew) | (with_reducible apply bl_drewN) | ((with_reducible apply bl_alloc); (· (first | (simp; done) | (simp; omega) | omega))) | ((with_reducible apply bl_row); (· (first | (simp; done) | (simp; omega) | omega))) | ((with_reducible apply bl_cell); (· (first | (simp; done) | (simp; omega) | omega))) | assumption))))) (by (repeat (first | (with_reducible exact gb_refl _ _) | (with_reducible apply gb_drew) | (with_reducible apply gb_drewN) | (with_reducible apply gb_alloc) | ((with_reducible apply gb_cell); (· (first | exact .inl rfl | (right; (first | (simp; done) | (simp; omega) | omega))))) | ((with_reducible apply gb_row); (· (first | exact .inl rfl | (right; (first | (simp; done) | (simp; omega) | omega))))) | assumption))) (by omega) hra).mono ?_
  clear hra
  rintro e w3 ⟨rfl, hr3, HR3, hg3⟩
  have hs3 : rowAt w3 (w.heap.size + 1) zeros10 104 := rowAt.grown hs2 hg3 (fun e => by have := Option.some.inj e; omega)
  have ht3 : rowAt w3 (w.heap.size + 1 + 1) #[.int .i64 0, .int .u32 0] 106 := rowAt.grown ht2 hg3 (fun e => by have := Option.some.inj e; omega)
  have hgb3 : w.grownBy w3 (some g) := gb_trans hg3 hgb2
  have hz9 : w.heap.size < w3.heap.size := by have := hs3.lt; omega
  have gsz := hR'
  clear i0 i1 i2 i3 i4 i5 i6 i7 i8 i9 s0 s1 s2 s3 s4 s5 s6 s7 s8 s9 fs0 fs1 fs2 fs3 fs4 fs5 fs6 fs7 fs8 fs9 t0 t1 ft0 ft1
  go_wp2_with (first | (apply load_row (hgd := rfl) (ty := 104) (ho := rfl) (hx := rfl) (hu := Tryz.underlying104) (hd := rfl); (· (repeat (first | ((with_reducible apply rowAt.new); simp; done) | (with_reducible apply rowAt.drew) | (with_reducible apply rowAt.drewN) | (with_reducible apply rowAt.alloc) | (with_reducible apply rowAt.setRow_same) | ((with_reducible apply rowAt.so); (· (first | (simp; done) | (simp; omega) | omega))) | (with_reducible apply rowAt.set10) | (with_reducible apply rowAt.set8) | (with_reducible apply rowAt.set4) | (with_reducible apply rowAt.set2) | (with_reducible apply rowAt.set) | ((with_reducible apply rowAt.co); (· (first | (simp; done) | (simp; omega) | omega))) | assumption))); (· (first | exact sizeTrap | exact sizeIns | (rw [sizeRegs]; simp [regs_sz, sr_len, gsz]; done)))) | (apply store_row (hgd := rfl) (ty := 104) (ho := rfl) (hx := rfl) (hy := rfl); (· (repeat (first | ((with_reducible apply rowAt.new); simp; done) | (with_reducible apply rowAt.drew) | (with_reducible apply rowAt.drewN) | (with_reducible apply rowAt.alloc) | (with_reducible apply rowAt.setRow_same) | ((with_reducible apply rowAt.so); (· (first | (simp; done) | (simp; omega) | omega))) | (with_reducible apply rowAt.set10) | (with_reducible apply rowAt.set8) | (with_reducible apply rowAt.set4) | (with_reducible apply rowAt.set2) | (with_reducible apply rowAt.set) | ((with_reducible apply rowAt.co); (· (first | (simp; done) | (simp; omega) | omega))) | assumption))); (· (first | exact sizeTrap | exact sizeIns | (rw [sizeRegs]; simp [regs_sz, sr_len, gsz]; done))); (· (first | (simp [regs_sz, sr_len, gsz]; done) | rfl)); (· (first | exact regs_one _ _ | (simp [Value.oneCell']; done)))) | (apply store_row (hgd := rfl) (ty := 106) (x := .tmp 5) (ho := rfl) (hx := rfl) (hy := rfl); (· (repeat (first | ((with_reducible apply rowAt.new); simp; done) | (with_reducible apply rowAt.drew) | (with_reducible apply rowAt.drewN) | (with_reducible apply rowAt.alloc) | (with_reducible apply rowAt.setRow_same) | ((with_reducible apply rowAt.so); (· (first | (simp; done) | (simp; omega) | omega))) | (with_reducible apply rowAt.set10) | (with_reducible apply rowAt.set8) | (with_reducible apply rowAt.set4) | (with_reducible apply rowAt.set2) | (with_reducible apply rowAt.set) | ((with_reducible apply rowAt.co); (· (first | (simp; done) | (simp; omega) | omega))) | assumption))); (· (first | exact sizeTrap | exact sizeIns | (rw [sizeRegs]; simp [regs_sz, sr_len, gsz]; done))); (· rfl); (· (simp [Value.oneCell']; done))))
  refine step_end (t := 104) (t2 := 106) (cs := regs R' (Pl.m32 (pc + 4))) (cs2 := #[.int .i64 0, .int .u32 0]) rfl rfl ?_ (regs_size hR') ?_ rfl rfl ⟨rfl, ?_, ?_⟩
  · (repeat (first | ((with_reducible apply rowAt.new); simp; done) | (with_reducible apply rowAt.drew) | (with_reducible apply rowAt.drewN) | (with_reducible apply rowAt.alloc) | (with_reducible apply rowAt.setRow_same) | ((with_reducible apply rowAt.so); (· (first | (simp; done) | (simp; omega) | omega))) | (with_reducible apply rowAt.set10) | (with_reducible apply rowAt.set8) | (with_reducible apply rowAt.set4) | (with_reducible apply rowAt.set2) | (with_reducible apply rowAt.set) | ((with_reducible apply rowAt.co); (· (first | (simp; done) | (simp; omega) | omega))) | assumption))
  · (repeat (first | ((with_reducible apply rowAt.new); simp; done) | (with_reducible apply rowAt.drew) | (with_reducible apply rowAt.drewN) | (with_reducible apply rowAt.alloc) | (with_reducible apply rowAt.setRow_same) | ((with_reducible apply rowAt.so); (· (first | (simp; done) | (simp; omega) | omega))) | (with_reducible apply rowAt.set10) | (with_reducible apply rowAt.set8) | (with_reducible apply rowAt.set4) | (with_reducible apply rowAt.set2) | (with_reducible apply rowAt.set) | ((with_reducible apply rowAt.co); (· (first | (simp; done) | (simp; omega) | omega))) | assumption))
  · exact H.kept2 HR3 (Below.block (B := w.heap.size) (by (repeat (first | (with_reducible exact Below.refl _ _) | (with_reducible apply Below.drew) | (with_reducible apply bl_drewN) | ((with_reducible apply bl_alloc); (· (first | (simp; done) | (simp; omega) | omega))) | ((with_reducible apply bl_row); (· (first | (simp; done) | (simp; omega) | omega))) | ((with_reducible apply bl_cell); (· (first | (simp; done) | (simp; omega) | omega))) | assumption))))
  · (repeat (first | (with_reducible exact gb_refl _ _) | (with_reducible apply gb_drew) | (with_reducible apply gb_drewN) | (with_reducible apply gb_alloc) | ((with_reducible apply gb_cell); (· (first | exact .inl rfl | (right; (first | (simp; done) | (simp; omega) | omega))))) | ((with_reducible apply gb_row); (· (first | exact .inl rfl | (right; (first | (simp; done) | (simp; omega) | omega))))) | assumption))

set_option maxHeartbeats 1600000 in
set_option maxRecDepth 100000 in
theorem step_swap_no (h13 : 13 < op) (h15 : 15 ≤ op) (h18 : 18 < op) (h25 : (op == 25) = true) (h1 : (op == 1) = false) (h26 : (op == 26) = false)
    (HMe : Hid (∀ W0 W gr, Room W0 m g wv dv xs D → Room W m g wv dv xs D → W0.grownBy W (some g) → W0.heap.size ≤ gr → rowAt W gr (regs R (Pl.m32 (pc + 4))) 104 →
      Calls Tryz.prog 87 #[.pointer (some ⟨gr, 0, none⟩), insV ⟨op, a, b, c⟩, busV m] W (MemTrap W0 g))) :
    Calls Tryz.prog 64 #[.agg (regs R pc), busV m] w (StepTrap w g) := by
  obtain ⟨r0, r1, r2, r3, r4, r5, r6, r7, hRe⟩ := eight hR.1
  have hR1 : regs R pc = #[.int .u32 r0, .int .u32 r1, .int .u32 r2, .int .u32 r3, .int .u32 r4, .int .u32 r5, .int .u32 r6, .int .u32 r7, .int .u32 pc, .int .i64 1] := by rw [hRe]; rfl
  have hR2 : #[.int .u32 r0, .int .u32 r1, .int .u32 r2, .int .u32 r3, .int .u32 r4, .int .u32 r5, .int .u32 r6, .int .u32 r7, .int .u32 (Pl.m32 (pc + 4)), .int .i64 1] = regs R (Pl.m32 (pc + 4)) := by rw [hRe]; rfl
  clear hRe
  rw [hR1]
  have HG := H.kept (Below.block (B := w.heap.size) (w' := ((w.alloc (Obj.cells #[.int .u32 r0, .int .u32 r1, .int .u32 r2, .int .u32 r3, .int .u32 r4, .int .u32 r5, .int .u32 r6, .int .u32 r7, .int .u32 pc, .int .i64 1] 104)).alloc (Obj.cells zeros10 104)).alloc (Obj.cells #[.int .i64 0, .int .u32 0] 106)) (by (repeat (first | (with_reducible exact Below.refl _ _) | (with_reducible apply Below.drew) | (with_reducible apply bl_drewN) | ((with_reducible apply bl_alloc); (· (first | (simp; done) | (simp; omega) | omega))) | ((with_reducible apply bl_row); (· (first | (simp; done) | (simp; omega) | omega))) | ((with_reducible apply bl_cell); (· (first | (simp; done) | (simp; omega) | omega))) | assumption))))
  go_enter Tryz.func64, Tryz.ntmps64
  go_wp2_with fail
  refine (HF.out _ HG).mono ?_
  rintro e w1 ⟨rfl, hb1⟩
  have hr1 : rowAt w1 w.heap.size #[.int .u32 r0, .int .u32 r1, .int .u32 r2, .int .u32 r3, .int .u32 r4, .int .u32 r5, .int .u32 r6, .int .u32 r7, .int .u32 pc, .int .i64 1] 104 := rowAt.below (by (repeat (first | ((with_reducible apply rowAt.new); simp; done) | (with_reducible apply rowAt.drew) | (with_reducible apply rowAt.drewN) | (with_reducible apply rowAt.alloc) | (with_reducible apply rowAt.setRow_same) | ((with_reducible apply rowAt.so); (· (first | (simp; done) | (simp; omega) | omega))) | (with_reducible apply rowAt.set10) | (with_reducible apply rowAt.set8) | (with_reducible apply rowAt.set4) | (with_reducible apply rowAt.set2) | (with_reducible apply rowAt.set) | ((with_reducible apply rowAt.co); (· (first | (simp; done) | (simp; omega) | omega))) | assumption))) hb1 (by simp; try omega)
  have hs1 : rowAt w1 (w.heap.size + 1) zeros10 104 := rowAt.below (by (repeat (first | ((with_reducible apply rowAt.new); simp; done) | (with_reducible apply rowAt.drew) | (with_reducible apply rowAt.drewN) | (with_reducible apply rowAt.alloc) | (with_reducible apply rowAt.setRow_same) | ((with_reducible apply rowAt.so); (· (first | (simp; done) | (simp; omega) | omega))) | (with_reducible apply rowAt.set10) | (with_reducible apply rowAt.set8) | (with_reducible apply rowAt.set4) | (with_reducible apply rowAt.set2) | (with_reducible apply rowAt.set) | ((with_reducible apply rowAt.co); (· (first | (simp; done) | (simp; omega) | omega))) | assumption))) hb1 (by simp; try omega)
  have ht1 : rowAt w1 (w.heap.size + 1 + 1) #[.int .i64 0, .int .u32 0] 106 := rowAt.below (by (repeat (first | ((with_reducible apply rowAt.new); simp; done) | (with_reducible apply rowAt.drew) | (with_reducible apply rowAt.drewN) | (with_reducible apply rowAt.alloc) | (with_reducible apply rowAt.setRow_same) | ((with_reducible apply rowAt.so); (· (first | (simp; done) | (simp; omega) | omega))) | (with_reducible apply rowAt.set10) | (with_reducible apply rowAt.set8) | (with_reducible apply rowAt.set4) | (with_reducible apply rowAt.set2) | (with_reducible apply rowAt.set) | ((with_reducible apply rowAt.co); (· (first | (simp; done) | (simp; omega) | omega))) | assumption))) hb1 (by simp; try omega)
  have hz1 : w.heap.size + 1 + 1 < w1.heap.size := ht1.lt
  have hb1' : Below w.heap.size w w1 := (show Below w.heap.size w _ from by (repeat (first | (with_reducible exact Below.refl _ _) | (with_reducible apply Below.drew) | (with_reducible apply bl_drewN) | ((with_reducible apply bl_alloc); (· (first | (simp; done) | (simp; omega) | omega))) | ((with_reducible apply bl_row); (· (first | (simp; done) | (simp; omega) | omega))) | ((with_reducible apply bl_cell); (· (first | (simp; done) | (simp; omega) | omega))) | assumption))).trans (hb1.mono (by simp; try omega))
  clear hb1 HG
  go_wp2_with fail
  refine (HDe.out _).mono ?_
  rintro e w2 ⟨rfl, hb2⟩
  have hr2 : rowAt w2 w.heap.size #[.int .u32 r0, .int .u32 r1, .int .u32 r2, .int .u32 r3, .int .u32 r4, .int .u32 r5, .int .u32 r6, .int .u32 r7, .int .u32 pc, .int .i64 1] 104 := rowAt.below (by (repeat (first | ((with_reducible apply rowAt.new); simp; done) | (with_reducible apply rowAt.drew) | (with_reducible apply rowAt.drewN) | (with_reducible apply rowAt.alloc) | (with_reducible apply rowAt.setRow_same) | ((with_reducible apply rowAt.so); (· (first | (simp; done) | (simp; omega) | omega))) | (with_reducible apply rowAt.set10) | (with_reducible apply rowAt.set8) | (with_reducible apply rowAt.set4) | (with_reducible apply rowAt.set2) | (with_reducible apply rowAt.set) | ((with_reducible apply rowAt.co); (· (first | (simp; done) | (simp; omega) | omega))) | assumption))) hb2 (by simp; try omega)
  have hs2 : rowAt w2 (w.heap.size + 1) zeros10 104 := rowAt.below (by (repeat (first | ((with_reducible apply rowAt.new); simp; done) | (with_reducible apply rowAt.drew) | (with_reducible apply rowAt.drewN) | (with_reducible apply rowAt.alloc) | (with_reducible apply rowAt.setRow_same) | ((with_reducible apply rowAt.so); (· (first | (simp; done) | (simp; omega) | omega))) | (with_reducible apply rowAt.set10) | (with_reducible apply rowAt.set8) | (with_reducible apply rowAt.set4) | (with_reducible apply rowAt.set2) | (with_reducible apply rowAt.set) | ((with_reducible apply rowAt.co); (· (first | (simp; done) | (simp; omega) | omega))) | assumption))) hb2 (by simp; try omega)
  have ht2 : rowAt w2 (w.heap.size + 1 + 1) #[.int .i64 0, .int .u32 0] 106 := rowAt.below (by (repeat (first | ((with_reducible apply rowAt.new); simp; done) | (with_reducible apply rowAt.drew) | (with_reducible apply rowAt.drewN) | (with_reducible apply rowAt.alloc) | (with_reducible apply rowAt.setRow_same) | ((with_reducible apply rowAt.so); (· (first | (simp; done) | (simp; omega) | omega))) | (with_reducible apply rowAt.set10) | (with_reducible apply rowAt.set8) | (with_reducible apply rowAt.set4) | (with_reducible apply rowAt.set2) | (with_reducible apply rowAt.set) | ((with_reducible apply rowAt.co); (· (first | (simp; done) | (simp; omega) | omega))) | assumption))) hb2 (by simp; try omega)
  have hb2' : Below w.heap.size w w2 := (show Below w.heap.size w _ from by (repeat (first | (with_reducible exact Below.refl _ _) | (with_reducible apply Below.drew) | (with_reducible apply bl_drewN) | ((with_reducible apply bl_alloc); (· (first | (simp; done) | (simp; omega) | omega))) | ((with_reducible apply bl_row); (· (first | (simp; done) | (simp; omega) | omega))) | ((with_reducible apply bl_cell); (· (first | (simp; done) | (simp; omega) | omega))) | assumption))).trans (hb2.mono (by simp; try omega))
  clear hr1 hs1 ht1 hz1 hb1' hb2
  have hz0 : w.heap.size < w2.heap.size := hr2.lt
  have hz1 : w.heap.size + 1 < w2.heap.size := hs2.lt
  have hz2 : w.heap.size + 1 + 1 < w2.heap.size := ht2.lt
  have i0 : w2.cell? ⟨w.heap.size, 0, none⟩ = some (.int .u32 r0) := hr2.cell 0
  have i1 : w2.cell? ⟨w.heap.size, 1, none⟩ = some (.int .u32 r1) := hr2.cell 1
  have i2 : w2.cell? ⟨w.heap.size, 2, none⟩ = some (.int .u32 r2) := hr2.cell 2
  have i3 : w2.cell? ⟨w.heap.size, 3, none⟩ = some (.int .u32 r3) := hr2.cell 3
  have i4 : w2.cell? ⟨w.heap.size, 4, none⟩ = some (.int .u32 r4) := hr2.cell 4
  have i5 : w2.cell? ⟨w.heap.size, 5, none⟩ = some (.int .u32 r5) := hr2.cell 5
  have i6 : w2.cell? ⟨w.heap.size, 6, none⟩ = some (.int .u32 r6) := hr2.cell 6
  have i7 : w2.cell? ⟨w.heap.size, 7, none⟩ = some (.int .u32 r7) := hr2.cell 7
  have i8 : w2.cell? ⟨w.heap.size, 8, none⟩ = some (.int .u32 pc) := hr2.cell 8
  have i9 : w2.cell? ⟨w.heap.size, 9, none⟩ = some (.int .i64 1) := hr2.cell 9
  have s0 : w2.cell? ⟨w.heap.size + 1, 0, none⟩ = some (.int .u32 0) := hs2.cell 0
  have s1 : w2.cell? ⟨w.heap.size + 1, 1, none⟩ = some (.int .u32 0) := hs2.cell 1
  have s2 : w2.cell? ⟨w.heap.size + 1, 2, none⟩ = some (.int .u32 0) := hs2.cell 2
  have s3 : w2.cell? ⟨w.heap.size + 1, 3, none⟩ = some (.int .u32 0) := hs2.cell 3
  have s4 : w2.cell? ⟨w.heap.size + 1, 4, none⟩ = some (.int .u32 0) := hs2.cell 4
  have s5 : w2.cell? ⟨w.heap.size + 1, 5, none⟩ = some (.int .u32 0) := hs2.cell 5
  have s6 : w2.cell? ⟨w.heap.size + 1, 6, none⟩ = some (.int .u32 0) := hs2.cell 6
  have s7 : w2.cell? ⟨w.heap.size + 1, 7, none⟩ = some (.int .u32 0) := hs2.cell 7
  have s8 : w2.cell? ⟨w.heap.size + 1, 8, none⟩ = some (.int .u32 0) := hs2.cell 8
  have s9 : w2.cell? ⟨w.heap.size + 1, 9, none⟩ = some (.int .i64 0) := hs2.cell 9
  have t0 : w2.cell? ⟨w.heap.size + 1 + 1, 0, none⟩ = some (.int .i64 0) := ht2.cell 0
  have t1 : w2.cell? ⟨w.heap.size + 1 + 1, 1, none⟩ = some (.int .u32 0) := ht2.cell 1
  have fs0 : w2.frozen? ⟨w.heap.size + 1, 0, none⟩ = false := hs2.frozen 0
  have fs1 : w2.frozen? ⟨w.heap.size + 1, 1, none⟩ = false := hs2.frozen 1
  have fs2 : w2.frozen? ⟨w.heap.size + 1, 2, none⟩ = false := hs2.frozen 2
  have fs3 : w2.frozen? ⟨w.heap.size + 1, 3, none⟩ = false := hs2.frozen 3
  have fs4 : w2.frozen? ⟨w.heap.size + 1, 4, none⟩ = false := hs2.frozen 4
  have fs5 : w2.frozen? ⟨w.heap.size + 1, 5, none⟩ = false := hs2.frozen 5
  have fs6 : w2.frozen? ⟨w.heap.size + 1, 6, none⟩ = false := hs2.frozen 6
  have fs7 : w2.frozen? ⟨w.heap.size + 1, 7, none⟩ = false := hs2.frozen 7
  have fs8 : w2.frozen? ⟨w.heap.size + 1, 8, none⟩ = false := hs2.frozen 8
  have fs9 : w2.frozen? ⟨w.heap.size + 1, 9, none⟩ = false := hs2.frozen 9
  have ft0 : w2.frozen? ⟨w.heap.size + 1 + 1, 0, none⟩ = false := ht2.frozen 0
  have ft1 : w2.frozen? ⟨w.heap.size + 1 + 1, 1, none⟩ = false := ht2.frozen 1
  have hg1 := H.gl
  have HR2 := H.kept (Below.block hb2')
  go_wp2_with fail
  rw [show (pc + 4) % 4294967296 = Pl.m32 (pc + 4) from rfl, hR2]
  have hgb2 : w.grownBy w2 (some g) := gb_new hb2'
  have hra : rowAt ((w2.alloc (Obj.cells #[.int .i64 op, .int .i64 a, .int .i64 b, .int .i64 c] 31)).alloc (Obj.cells (regs R (Pl.m32 (pc + 4))) 104)) (w2.heap.size + 1) (regs R (Pl.m32 (pc + 4))) 104 := by (repeat (first | ((with_reducible apply rowAt.new); simp; done) | (with_reducible apply rowAt.drew) | (with_reducible apply rowAt.drewN) | (with_reducible apply rowAt.alloc) | (with_reducible apply rowAt.setRow_same) | ((with_reducible apply rowAt.so); (· (first | (simp; done) | (simp; omega) | omega))) | (with_reducible apply rowAt.set10) | (with_reducible apply rowAt.set8) | (with_reducible apply rowAt.set4) | (with_reducible apply rowAt.set2) | (with_reducible apply rowAt.set) | ((with_reducible apply rowAt.co); (· (first | (simp; done) | (simp; omega) | omega))) | assumption))
  refine (HMe.out w2 _ (w2.heap.size + 1) HR2 (HR2.kept (Below.block (B := w2.heap.size) (by (repeat (first | (with_reducible exact Below.refl _ _) | (with_reducible apply Below.drew) | (with_reducible apply bl_drewN) | ((with_reducible apply bl_alloc); (· (first | (simp; done) | (simp; omega) | omega))) | ((with_reducible apply bl_row); (· (first | (simp; done) | (simp; omega) | omega))) | ((with_reducible apply bl_cell); (· (first | (simp; done) | (simp; omega) | omega))) | assumption))))) (by (repeat (first | (with_reducible exact gb_refl _ _) | (with_reducible apply gb_drew) | (with_reducible apply gb_drewN) | (with_reducible apply gb_alloc) | ((with_reducible apply gb_cell); (· (first | exact .inl rfl | (right; (first | (simp; done) | (simp; omega) | omega))))) | ((with_reducible apply gb_row); (· (first | exact .inl rfl | (right; (first | (simp; done) | (simp; omega) | omega))))) | assumption))) (by omega) hra).mono ?_
  clear hra
  rintro e w3 ⟨⟨k, q, hk, rfl⟩, hg3⟩
  have hk' : (k != 0) = true := by simpa using hk
  have hs3 : rowAt w3 (w.heap.size + 1) zeros10 104 := rowAt.grown hs2 hg3 (fun e => by have := Option.some.inj e; omega)
  have ht3 : rowAt w3 (w.heap.size + 1 + 1) #[.int .i64 0, .int .u32 0] 106 := rowAt.grown ht2 hg3 (fun e => by have := Option.some.inj e; omega)
  have hgb3 : w.grownBy w3 (some g) := gb_trans hg3 hgb2
  have hz9 : w.heap.size < w3.heap.size := by have := hs3.lt; omega
  have hr3 : rowAt w3 w.heap.size #[.int .u32 r0, .int .u32 r1, .int .u32 r2, .int .u32 r3, .int .u32 r4, .int .u32 r5, .int .u32 r6, .int .u32 r7, .int .u32 pc, .int .i64 1] 104 := rowAt.grown hr2 hg3 (fun e => by have := Option.some.inj e; omega)
  clear i0 i1 i2 i3 i4 i5 i6 i7 i8 i9 s0 s1 s2 s3 s4 s5 s6 s7 s8 s9 fs0 fs1 fs2 fs3 fs4 fs5 fs6 fs7 fs8 fs9 t0 t1 ft0 ft1
  have hz0 : w.heap.size < w3.heap.size := hr3.lt
  have hz1 : w.heap.size + 1 < w3.heap.size := hs3.lt
  have hz2 : w.heap.size + 1 + 1 < w3.heap.size := ht3.lt
  have i0 : w3.cell? ⟨w.heap.size, 0, none⟩ = some (.int .u32 r0) := hr3.cell 0
  have i1 : w3.cell? ⟨w.heap.size, 1, none⟩ = some (.int .u32 r1) := hr3.cell 1
  have i2 : w3.cell? ⟨w.heap.size, 2, none⟩ = some (.int .u32 r2) := hr3.cell 2
  have i3 : w3.cell? ⟨w.heap.size, 3, none⟩ = some (.int .u32 r3) := hr3.cell 3
  have i4 : w3.cell? ⟨w.heap.size, 4, none⟩ = some (.int .u32 r4) := hr3.cell 4
  have i5 : w3.cell? ⟨w.heap.size, 5, none⟩ = some (.int .u32 r5) := hr3.cell 5
  have i6 : w3.cell? ⟨w.heap.size, 6, none⟩ = some (.int .u32 r6) := hr3.cell 6
  have i7 : w3.cell? ⟨w.heap.size, 7, none⟩ = some (.int .u32 r7) := hr3.cell 7
  have i8 : w3.cell? ⟨w.heap.size, 8, none⟩ = some (.int .u32 pc) := hr3.cell 8
  have i9 : w3.cell? ⟨w.heap.size, 9, none⟩ = some (.int .i64 1) := hr3.cell 9
  have s0 : w3.cell? ⟨w.heap.size + 1, 0, none⟩ = some (.int .u32 0) := hs3.cell 0
  have s1 : w3.cell? ⟨w.heap.size + 1, 1, none⟩ = some (.int .u32 0) := hs3.cell 1
  have s2 : w3.cell? ⟨w.heap.size + 1, 2, none⟩ = some (.int .u32 0) := hs3.cell 2
  have s3 : w3.cell? ⟨w.heap.size + 1, 3, none⟩ = some (.int .u32 0) := hs3.cell 3
  have s4 : w3.cell? ⟨w.heap.size + 1, 4, none⟩ = some (.int .u32 0) := hs3.cell 4
  have s5 : w3.cell? ⟨w.heap.size + 1, 5, none⟩ = some (.int .u32 0) := hs3.cell 5
  have s6 : w3.cell? ⟨w.heap.size + 1, 6, none⟩ = some (.int .u32 0) := hs3.cell 6
  have s7 : w3.cell? ⟨w.heap.size + 1, 7, none⟩ = some (.int .u32 0) := hs3.cell 7
  have s8 : w3.cell? ⟨w.heap.size + 1, 8, none⟩ = some (.int .u32 0) := hs3.cell 8
  have s9 : w3.cell? ⟨w.heap.size + 1, 9, none⟩ = some (.int .i64 0) := hs3.cell 9
  have t0 : w3.cell? ⟨w.heap.size + 1 + 1, 0, none⟩ = some (.int .i64 0) := ht3.cell 0
  have t1 : w3.cell? ⟨w.heap.size + 1 + 1, 1, none⟩ = some (.int .u32 0) := ht3.cell 1
  have fs0 : w3.frozen? ⟨w.heap.size + 1, 0, none⟩ = false := hs3.frozen 0
  have fs1 : w3.frozen? ⟨w.heap.size + 1, 1, none⟩ = false := hs3.frozen 1
  have fs2 : w3.frozen? ⟨w.heap.size + 1, 2, none⟩ = false := hs3.frozen 2
  have fs3 : w3.frozen? ⟨w.heap.size + 1, 3, none⟩ = false := hs3.frozen 3
  have fs4 : w3.frozen? ⟨w.heap.size + 1, 4, none⟩ = false := hs3.frozen 4
  have fs5 : w3.frozen? ⟨w.heap.size + 1, 5, none⟩ = false := hs3.frozen 5
  have fs6 : w3.frozen? ⟨w.heap.size + 1, 6, none⟩ = false := hs3.frozen 6
  have fs7 : w3.frozen? ⟨w.heap.size + 1, 7, none⟩ = false := hs3.frozen 7
  have fs8 : w3.frozen? ⟨w.heap.size + 1, 8, none⟩ = false := hs3.frozen 8
  have fs9 : w3.frozen? ⟨w.heap.size + 1, 9, none⟩ = false := hs3.frozen 9
  have ft0 : w3.frozen? ⟨w.heap.size + 1 + 1, 0, none⟩ = false := ht3.frozen 0
  have ft1 : w3.frozen? ⟨w.heap.size + 1 + 1, 1, none⟩ = false := ht3.frozen 1
  go_wp2_with fail
  go_region
  go_wp2_with fail
  refine step_end (t := 104) (t2 := 106) (cs := #[.int .u32 r0, .int .u32 r1, .int .u32 r2, .int .u32 r3, .int .u32 r4, .int .u32 r5, .int .u32 r6, .int .u32 r7, .int .u32 pc, .int .i64 1]) (cs2 := #[.int .i64 k, .int .u32 q]) rfl rfl ?_ rfl ?_ rfl rfl ⟨⟨[r0, r1, r2, r3, r4, r5, r6, r7], pc, k, q, rfl, hk, rfl⟩, ?_⟩
  · (repeat (first | ((with_reducible apply rowAt.new); simp; done) | (with_reducible apply rowAt.drew) | (with_reducible apply rowAt.drewN) | (with_reducible apply rowAt.alloc) | (with_reducible apply rowAt.setRow_same) | ((with_reducible apply rowAt.so); (· (first | (simp; done) | (simp; omega) | omega))) | (with_reducible apply rowAt.set10) | (with_reducible apply rowAt.set8) | (with_reducible apply rowAt.set4) | (with_reducible apply rowAt.set2) | (with_reducible apply rowAt.set) | ((with_reducible apply rowAt.co); (· (first | (simp; done) | (simp; omega) | omega))) | assumption))
  · (repeat (first | ((with_reducible apply rowAt.new); simp; done) | (with_reducible apply rowAt.drew) | (with_reducible apply rowAt.drewN) | (with_reducible apply rowAt.alloc) | (with_reducible apply rowAt.setRow_same) | ((with_reducible apply rowAt.so); (· (first | (simp; done) | (simp; omega) | omega))) | (with_reducible apply rowAt.set10) | (with_reducible apply rowAt.set8) | (with_reducible apply rowAt.set4) | (with_reducible apply rowAt.set2) | (with_reducible apply rowAt.set) | ((with_reducible apply rowAt.co); (· (first | (simp; done) | (simp; omega) | omega))) | assumption))
  · (repeat (first | (with_reducible exact gb_refl _ _) | (with_reducible apply gb_drew) | (with_reducible apply gb_drewN) | (with_reducible apply gb_alloc) | ((with_reducible apply gb_cell); (· (first | exact .inl rfl | (right; (first | (simp; done) | (simp; omega) | omega))))) | ((with_reducible apply gb_row); (· (first | exact .inl rfl | (right; (first | (simp; done) | (simp; omega) | omega))))) | assumption))

set_option maxHeartbeats 1600000 in
set_option maxRecDepth 100000 in
theorem step_jump {R' : List Int} {pc' : Int} (h13 : 13 < op) (h18 : 18 < op) (h25 : (op == 25) = false) (h19 : 19 ≤ op) (h23 : op ≤ 23) (h1 : (op == 1) = false) (h26 : (op == 26) = false) (hR' : R'.length = 8)
    (HJ : Hid (∀ W gr, rowAt W gr (regs R (Pl.m32 (pc + 4))) 104 → Calls Tryz.prog 88 #[.pointer (some ⟨gr, 0, none⟩), insV ⟨op, a, b, c⟩, .int .u32 pc] W (JumpIs gr R' pc' W))) :
    Calls Tryz.prog 64 #[.agg (regs R pc), busV m] w (StepOk w m g wv dv xs ⟨R', pc', D⟩) := by
  obtain ⟨r0, r1, r2, r3, r4, r5, r6, r7, hRe⟩ := eight hR.1
  have hR1 : regs R pc = #[.int .u32 r0, .int .u32 r1, .int .u32 r2, .int .u32 r3, .int .u32 r4, .int .u32 r5, .int .u32 r6, .int .u32 r7, .int .u32 pc, .int .i64 1] := by rw [hRe]; rfl
  have hR2 : #[.int .u32 r0, .int .u32 r1, .int .u32 r2, .int .u32 r3, .int .u32 r4, .int .u32 r5, .int .u32 r6, .int .u32 r7, .int .u32 (Pl.m32 (pc + 4)), .int .i64 1] = regs R (Pl.m32 (pc + 4)) := by rw [hRe]; rfl
  clear hRe
  rw [hR1]
  have HG := H.kept (Below.block (B := w.heap.size) (w' := ((w.alloc (Obj.cells #[.int .u32 r0, .int .u32 r1, .int .u32 r2, .int .u32 r3, .int .u32 r4, .int .u32 r5, .int .u32 r6, .int .u32 r7, .int .u32 pc, .int .i64 1] 104)).alloc (Obj.cells zeros10 104)).alloc (Obj.cells #[.int .i64 0, .int .u32 0] 106)) (by (repeat (first | (with_reducible exact Below.refl _ _) | (with_reducible apply Below.drew) | (with_reducible apply bl_drewN) | ((with_reducible apply bl_alloc); (· (first | (simp; done) | (simp; omega) | omega))) | ((with_reducible apply bl_row); (· (first | (simp; done) | (simp; omega) | omega))) | ((with_reducible apply bl_cell); (· (first | (simp; done) | (simp; omega) | omega))) | assumption))))
  go_enter Tryz.func64, Tryz.ntmps64
  go_wp2_with fail
  refine (HF.out _ HG).mono ?_
  rintro e w1 ⟨rfl, hb1⟩
  have hr1 : rowAt w1 w.heap.size #[.int .u32 r0, .int .u32 r1, .int .u32 r2, .int .u32 r3, .int .u32 r4, .int .u32 r5, .int .u32 r6, .int .u32 r7, .int .u32 pc, .int .i64 1] 104 := rowAt.below (by (repeat (first | ((with_reducible apply rowAt.new); simp; done) | (with_reducible apply rowAt.drew) | (with_reducible apply rowAt.drewN) | (with_reducible apply rowAt.alloc) | (with_reducible apply rowAt.setRow_same) | ((with_reducible apply rowAt.so); (· (first | (simp; done) | (simp; omega) | omega))) | (with_reducible apply rowAt.set10) | (with_reducible apply rowAt.set8) | (with_reducible apply rowAt.set4) | (with_reducible apply rowAt.set2) | (with_reducible apply rowAt.set) | ((with_reducible apply rowAt.co); (· (first | (simp; done) | (simp; omega) | omega))) | assumption))) hb1 (by simp; try omega)
  have hs1 : rowAt w1 (w.heap.size + 1) zeros10 104 := rowAt.below (by (repeat (first | ((with_reducible apply rowAt.new); simp; done) | (with_reducible apply rowAt.drew) | (with_reducible apply rowAt.drewN) | (with_reducible apply rowAt.alloc) | (with_reducible apply rowAt.setRow_same) | ((with_reducible apply rowAt.so); (· (first | (simp; done) | (simp; omega) | omega))) | (with_reducible apply rowAt.set10) | (with_reducible apply rowAt.set8) | (with_reducible apply rowAt.set4) | (with_reducible apply rowAt.set2) | (with_reducible apply rowAt.set) | ((with_reducible apply rowAt.co); (· (first | (simp; done) | (simp; omega) | omega))) | assumption))) hb1 (by simp; try omega)
  have ht1 : rowAt w1 (w.heap.size + 1 + 1) #[.int .i64 0, .int .u32 0] 106 := rowAt.below (by (repeat (first | ((with_reducible apply rowAt.new); simp; done) | (with_reducible apply rowAt.drew) | (with_reducible apply rowAt.drewN) | (with_reducible apply rowAt.alloc) | (with_reducible apply rowAt.setRow_same) | ((with_reducible apply rowAt.so); (· (first | (simp; done) | (simp; omega) | omega))) | (with_reducible apply rowAt.set10) | (with_reducible apply rowAt.set8) | (with_reducible apply rowAt.set4) | (with_reducible apply rowAt.set2) | (with_reducible apply rowAt.set) | ((with_reducible apply rowAt.co); (· (first | (simp; done) | (simp; omega) | omega))) | assumption))) hb1 (by simp; try omega)
  have hz1 : w.heap.size + 1 + 1 < w1.heap.size := ht1.lt
  have hb1' : Below w.heap.size w w1 := (show Below w.heap.size w _ from by (repeat (first | (with_reducible exact Below.refl _ _) | (with_reducible apply Below.drew) | (with_reducible apply bl_drewN) | ((with_reducible apply bl_alloc); (· (first | (simp; done) | (simp; omega) | omega))) | ((with_reducible apply bl_row); (· (first | (simp; done) | (simp; omega) | omega))) | ((with_reducible apply bl_cell); (· (first | (simp; done) | (simp; omega) | omega))) | assumption))).trans (hb1.mono (by simp; try omega))
  clear hb1 HG
  go_wp2_with fail
  refine (HDe.out _).mono ?_
  rintro e w2 ⟨rfl, hb2⟩
  have hr2 : rowAt w2 w.heap.size #[.int .u32 r0, .int .u32 r1, .int .u32 r2, .int .u32 r3, .int .u32 r4, .int .u32 r5, .int .u32 r6, .int .u32 r7, .int .u32 pc, .int .i64 1] 104 := rowAt.below (by (repeat (first | ((with_reducible apply rowAt.new); simp; done) | (with_reducible apply rowAt.drew) | (with_reducible apply rowAt.drewN) | (with_reducible apply rowAt.alloc) | (with_reducible apply rowAt.setRow_same) | ((with_reducible apply rowAt.so); (· (first | (simp; done) | (simp; omega) | omega))) | (with_reducible apply rowAt.set10) | (with_reducible apply rowAt.set8) | (with_reducible apply rowAt.set4) | (with_reducible apply rowAt.set2) | (with_reducible apply rowAt.set) | ((with_reducible apply rowAt.co); (· (first | (simp; done) | (simp; omega) | omega))) | assumption))) hb2 (by simp; try omega)
  have hs2 : rowAt w2 (w.heap.size + 1) zeros10 104 := rowAt.below (by (repeat (first | ((with_reducible apply rowAt.new); simp; done) | (with_reducible apply rowAt.drew) | (with_reducible apply rowAt.drewN) | (with_reducible apply rowAt.alloc) | (with_reducible apply rowAt.setRow_same) | ((with_reducible apply rowAt.so); (· (first | (simp; done) | (simp; omega) | omega))) | (with_reducible apply rowAt.set10) | (with_reducible apply rowAt.set8) | (with_reducible apply rowAt.set4) | (with_reducible apply rowAt.set2) | (with_reducible apply rowAt.set) | ((with_reducible apply rowAt.co); (· (first | (simp; done) | (simp; omega) | omega))) | assumption))) hb2 (by simp; try omega)
  have ht2 : rowAt w2 (w.heap.size + 1 + 1) #[.int .i64 0, .int .u32 0] 106 := rowAt.below (by (repeat (first | ((with_reducible apply rowAt.new); simp; done) | (with_reducible apply rowAt.drew) | (with_reducible apply rowAt.drewN) | (with_reducible apply rowAt.alloc) | (with_reducible apply rowAt.setRow_same) | ((with_reducible apply rowAt.so); (· (first | (simp; done) | (simp; omega) | omega))) | (with_reducible apply rowAt.set10) | (with_reducible apply rowAt.set8) | (with_reducible apply rowAt.set4) | (with_reducible apply rowAt.set2) | (with_reducible apply rowAt.set) | ((with_reducible apply rowAt.co); (· (first | (simp; done) | (simp; omega) | omega))) | assumption))) hb2 (by simp; try omega)
  have hb2' : Below w.heap.size w w2 := (show Below w.heap.size w _ from by (repeat (first | (with_reducible exact Below.refl _ _) | (with_reducible apply Below.drew) | (with_reducible apply bl_drewN) | ((with_reducible apply bl_alloc); (· (first | (simp; done) | (simp; omega) | omega))) | ((with_reducible apply bl_row); (· (first | (simp; done) | (simp; omega) | omega))) | ((with_reducible apply bl_cell); (· (first | (simp; done) | (simp; omega) | omega))) | assumption))).trans (hb2.mono (by simp; try omega))
  clear hr1 hs1 ht1 hz1 hb1' hb2
  have hz0 : w.heap.size < w2.heap.size := hr2.lt
  have hz1 : w.heap.size + 1 < w2.heap.size := hs2.lt
  have hz2 : w.heap.size + 1 + 1 < w2.heap.size := ht2.lt
  have i0 : w2.cell? ⟨w.heap.size, 0, none⟩ = some (.int .u32 r0) := hr2.cell 0
  have i1 : w2.cell? ⟨w.heap.size, 1, none⟩ = some (.int .u32 r1) := hr2.cell 1
  have i2 : w2.cell? ⟨w.heap.size, 2, none⟩ = some (.int .u32 r2) := hr2.cell 2
  have i3 : w2.cell? ⟨w.heap.size, 3, none⟩ = some (.int .u32 r3) := hr2.cell 3
  have i4 : w2.cell? ⟨w.heap.size, 4, none⟩ = some (.int .u32 r4) := hr2.cell 4
  have i5 : w2.cell? ⟨w.heap.size, 5, none⟩ = some (.int .u32 r5) := hr2.cell 5
  have i6 : w2.cell? ⟨w.heap.size, 6, none⟩ = some (.int .u32 r6) := hr2.cell 6
  have i7 : w2.cell? ⟨w.heap.size, 7, none⟩ = some (.int .u32 r7) := hr2.cell 7
  have i8 : w2.cell? ⟨w.heap.size, 8, none⟩ = some (.int .u32 pc) := hr2.cell 8
  have i9 : w2.cell? ⟨w.heap.size, 9, none⟩ = some (.int .i64 1) := hr2.cell 9
  have s0 : w2.cell? ⟨w.heap.size + 1, 0, none⟩ = some (.int .u32 0) := hs2.cell 0
  have s1 : w2.cell? ⟨w.heap.size + 1, 1, none⟩ = some (.int .u32 0) := hs2.cell 1
  have s2 : w2.cell? ⟨w.heap.size + 1, 2, none⟩ = some (.int .u32 0) := hs2.cell 2
  have s3 : w2.cell? ⟨w.heap.size + 1, 3, none⟩ = some (.int .u32 0) := hs2.cell 3
  have s4 : w2.cell? ⟨w.heap.size + 1, 4, none⟩ = some (.int .u32 0) := hs2.cell 4
  have s5 : w2.cell? ⟨w.heap.size + 1, 5, none⟩ = some (.int .u32 0) := hs2.cell 5
  have s6 : w2.cell? ⟨w.heap.size + 1, 6, none⟩ = some (.int .u32 0) := hs2.cell 6
  have s7 : w2.cell? ⟨w.heap.size + 1, 7, none⟩ = some (.int .u32 0) := hs2.cell 7
  have s8 : w2.cell? ⟨w.heap.size + 1, 8, none⟩ = some (.int .u32 0) := hs2.cell 8
  have s9 : w2.cell? ⟨w.heap.size + 1, 9, none⟩ = some (.int .i64 0) := hs2.cell 9
  have t0 : w2.cell? ⟨w.heap.size + 1 + 1, 0, none⟩ = some (.int .i64 0) := ht2.cell 0
  have t1 : w2.cell? ⟨w.heap.size + 1 + 1, 1, none⟩ = some (.int .u32 0) := ht2.cell 1
  have fs0 : w2.frozen? ⟨w.heap.size + 1, 0, none⟩ = false := hs2.frozen 0
  have fs1 : w2.frozen? ⟨w.heap.size + 1, 1, none⟩ = false := hs2.frozen 1
  have fs2 : w2.frozen? ⟨w.heap.size + 1, 2, none⟩ = false := hs2.frozen 2
  have fs3 : w2.frozen? ⟨w.heap.size + 1, 3, none⟩ = false := hs2.frozen 3
  have fs4 : w2.frozen? ⟨w.heap.size + 1, 4, none⟩ = false := hs2.frozen 4
  have fs5 : w2.frozen? ⟨w.heap.size + 1, 5, none⟩ = false := hs2.frozen 5
  have fs6 : w2.frozen? ⟨w.heap.size + 1, 6, none⟩ = false := hs2.frozen 6
  have fs7 : w2.frozen? ⟨w.heap.size + 1, 7, none⟩ = false := hs2.frozen 7
  have fs8 : w2.frozen? ⟨w.heap.size + 1, 8, none⟩ = false := hs2.frozen 8
  have fs9 : w2.frozen? ⟨w.heap.size + 1, 9, none⟩ = false := hs2.frozen 9
  have ft0 : w2.frozen? ⟨w.heap.size + 1 + 1, 0, none⟩ = false := ht2.frozen 0
  have ft1 : w2.frozen? ⟨w.heap.size + 1 + 1, 1, none⟩ = false := ht2.frozen 1
  have hg1 := H.gl
  have HR2 := H.kept (Below.block hb2')
  go_wp2_with fail
  rw [show (pc + 4) % 4294967296 = Pl.m32 (pc + 4) from rfl, hR2]
  have hgb2 : w.grownBy w2 (some g) := gb_new hb2'
  refine (HJ.out _ (w2.heap.size + 1) (by (repeat (first | ((with_reducible apply rowAt.new); simp; done) | (with_reducible apply rowAt.drew) | (with_reducible apply rowAt.drewN) | (with_reducible apply rowAt.alloc) | (with_reducible apply rowAt.setRow_same) | ((with_reducible apply rowAt.so); (· (first | (simp; done) | (simp; omega) | omega))) | (with_reducible apply rowAt.set10) | (with_reducible apply rowAt.set8) | (with_reducible apply rowAt.set4) | (with_reducible apply rowAt.set2) | (with_reducible apply rowAt.set) | ((with_reducible apply rowAt.co); (· (first | (simp; done) | (simp; omega) | omega))) | assumption)))).mono ?_
  rintro e w3 ⟨rfl, hr3, hg3⟩
  have hs3 : rowAt w3 (w.heap.size + 1) zeros10 104 := rowAt.grown (by (repeat (first | ((with_reducible apply rowAt.new); simp; done) | (with_reducible apply rowAt.drew) | (with_reducible apply rowAt.drewN) | (with_reducible apply rowAt.alloc) | (with_reducible apply rowAt.setRow_same) | ((with_reducible apply rowAt.so); (· (first | (simp; done) | (simp; omega) | omega))) | (with_reducible apply rowAt.set10) | (with_reducible apply rowAt.set8) | (with_reducible apply rowAt.set4) | (with_reducible apply rowAt.set2) | (with_reducible apply rowAt.set) | ((with_reducible apply rowAt.co); (· (first | (simp; done) | (simp; omega) | omega))) | assumption))) hg3 (fun e => by have := Option.some.inj e; omega)
  have ht3 : rowAt w3 (w.heap.size + 1 + 1) #[.int .i64 0, .int .u32 0] 106 := rowAt.grown (by (repeat (first | ((with_reducible apply rowAt.new); simp; done) | (with_reducible apply rowAt.drew) | (with_reducible apply rowAt.drewN) | (with_reducible apply rowAt.alloc) | (with_reducible apply rowAt.setRow_same) | ((with_reducible apply rowAt.so); (· (first | (simp; done) | (simp; omega) | omega))) | (with_reducible apply rowAt.set10) | (with_reducible apply rowAt.set8) | (with_reducible apply rowAt.set4) | (with_reducible apply rowAt.set2) | (with_reducible apply rowAt.set) | ((with_reducible apply rowAt.co); (· (first | (simp; done) | (simp; omega) | omega))) | assumption))) hg3 (fun e => by have := Option.some.inj e; omega)
  have hsz := hg3.size
  simp only [World.size_alloc] at hsz
  have hblk : ∀ k, k < w2.heap.size → w3.heap[k]? = w2.heap[k]? := fun k hk => (hg3.block k (by simp; omega) (fun e => by have := Option.some.inj e; omega)).trans (((Below.heap_alloc _ _ k (by simp; omega))).trans (Below.heap_alloc _ _ k hk))
  have HR3 : Room w3 m g wv dv xs D := H.kept2 HR2 fun k hk => hblk k (by omega)
  have hb3 : Below w.heap.size w2 w3 := ⟨hg3.os, hg3.tape, hg3.output, by omega, fun k hk => hblk k (by omega)⟩
  have hgb3 : w.grownBy w3 (some g) := gb_below hb3 (Nat.le_refl _) hgb2
  have hz9 : w.heap.size < w3.heap.size := by omega
  have gsz := hR'
  clear i0 i1 i2 i3 i4 i5 i6 i7 i8 i9 s0 s1 s2 s3 s4 s5 s6 s7 s8 s9 fs0 fs1 fs2 fs3 fs4 fs5 fs6 fs7 fs8 fs9 t0 t1 ft0 ft1
  go_wp2_with (first | (apply load_row (hgd := rfl) (ty := 104) (ho := rfl) (hx := rfl) (hu := Tryz.underlying104) (hd := rfl); (· (repeat (first | ((with_reducible apply rowAt.new); simp; done) | (with_reducible apply rowAt.drew) | (with_reducible apply rowAt.drewN) | (with_reducible apply rowAt.alloc) | (with_reducible apply rowAt.setRow_same) | ((with_reducible apply rowAt.so); (· (first | (simp; done) | (simp; omega) | omega))) | (with_reducible apply rowAt.set10) | (with_reducible apply rowAt.set8) | (with_reducible apply rowAt.set4) | (with_reducible apply rowAt.set2) | (with_reducible apply rowAt.set) | ((with_reducible apply rowAt.co); (· (first | (simp; done) | (simp; omega) | omega))) | assumption))); (· (first | exact sizeTrap | exact sizeIns | (rw [sizeRegs]; simp [regs_sz, sr_len, gsz]; done)))) | (apply store_row (hgd := rfl) (ty := 104) (ho := rfl) (hx := rfl) (hy := rfl); (· (repeat (first | ((with_reducible apply rowAt.new); simp; done) | (with_reducible apply rowAt.drew) | (with_reducible apply rowAt.drewN) | (with_reducible apply rowAt.alloc) | (with_reducible apply rowAt.setRow_same) | ((with_reducible apply rowAt.so); (· (first | (simp; done) | (simp; omega) | omega))) | (with_reducible apply rowAt.set10) | (with_reducible apply rowAt.set8) | (with_reducible apply rowAt.set4) | (with_reducible apply rowAt.set2) | (with_reducible apply rowAt.set) | ((with_reducible apply rowAt.co); (· (first | (simp; done) | (simp; omega) | omega))) | assumption))); (· (first | exact sizeTrap | exact sizeIns | (rw [sizeRegs]; simp [regs_sz, sr_len, gsz]; done))); (· (first | (simp [regs_sz, sr_len, gsz]; done) | rfl)); (· (first | exact regs_one _ _ | (simp [Value.oneCell']; done)))) | (apply store_row (hgd := rfl) (ty := 106) (x := .tmp 5) (ho := rfl) (hx := rfl) (hy := rfl); (· (repeat (first | ((with_reducible apply rowAt.new); simp; done) | (with_reducible apply rowAt.drew) | (with_reducible apply rowAt.drewN) | (with_reducible apply rowAt.alloc) | (with_reducible apply rowAt.setRow_same) | ((with_reducible apply rowAt.so); (· (first | (simp; done) | (simp; omega) | omega))) | (with_reducible apply rowAt.set10) | (with_reducible apply rowAt.set8) | (with_reducible apply rowAt.set4) | (with_reducible apply rowAt.set2) | (with_reducible apply rowAt.set) | ((with_reducible apply rowAt.co); (· (first | (simp; done) | (simp; omega) | omega))) | assumption))); (· (first | exact sizeTrap | exact sizeIns | (rw [sizeRegs]; simp [regs_sz, sr_len, gsz]; done))); (· rfl); (· (simp [Value.oneCell']; done))))
  refine step_end (t := 104) (t2 := 106) (cs := regs R' pc') (cs2 := #[.int .i64 0, .int .u32 0]) rfl rfl ?_ (regs_size hR') ?_ rfl rfl ⟨rfl, ?_, ?_⟩
  · (repeat (first | ((with_reducible apply rowAt.new); simp; done) | (with_reducible apply rowAt.drew) | (with_reducible apply rowAt.drewN) | (with_reducible apply rowAt.alloc) | (with_reducible apply rowAt.setRow_same) | ((with_reducible apply rowAt.so); (· (first | (simp; done) | (simp; omega) | omega))) | (with_reducible apply rowAt.set10) | (with_reducible apply rowAt.set8) | (with_reducible apply rowAt.set4) | (with_reducible apply rowAt.set2) | (with_reducible apply rowAt.set) | ((with_reducible apply rowAt.co); (· (first | (simp; done) | (simp; omega) | omega))) | assumption))
  · (repeat (first | ((with_reducible apply rowAt.new); simp; done) | (with_reducible apply rowAt.drew) | (with_reducible apply rowAt.drewN) | (with_reducible apply rowAt.alloc) | (with_reducible apply rowAt.setRow_same) | ((with_reducible apply rowAt.so); (· (first | (simp; done) | (simp; omega) | omega))) | (with_reducible apply rowAt.set10) | (with_reducible apply rowAt.set8) | (with_reducible apply rowAt.set4) | (with_reducible apply rowAt.set2) | (with_reducible apply rowAt.set) | ((with_reducible apply rowAt.co); (· (first | (simp; done) | (simp; omega) | omega))) | assumption))
  · exact H.kept2 HR3 (Below.block (B := w.heap.size) (by (repeat (first | (with_reducible exact Below.refl _ _) | (with_reducible apply Below.drew) | (with_reducible apply bl_drewN) | ((with_reducible apply bl_alloc); (· (first | (simp; done) | (simp; omega) | omega))) | ((with_reducible apply bl_row); (· (first | (simp; done) | (simp; omega) | omega))) | ((with_reducible apply bl_cell); (· (first | (simp; done) | (simp; omega) | omega))) | assumption))))
  · (repeat (first | (with_reducible exact gb_refl _ _) | (with_reducible apply gb_drew) | (with_reducible apply gb_drewN) | (with_reducible apply gb_alloc) | ((with_reducible apply gb_cell); (· (first | exact .inl rfl | (right; (first | (simp; done) | (simp; omega) | omega))))) | ((with_reducible apply gb_row); (· (first | exact .inl rfl | (right; (first | (simp; done) | (simp; omega) | omega))))) | assumption))

set_option maxHeartbeats 1600000 in
set_option maxRecDepth 100000 in
theorem step_reckon {v : Int} (h5 : 5 ≤ op) (h13 : op ≤ 13) (h1 : (op == 1) = false) (h26 : (op == 26) = false)
    (HK : Hid (∀ W, Calls Tryz.prog 86 #[.int .i64 op, .int .u32 (Pl.rg R a), .int .u32 (Pl.rg R b)] W fun e w' => e = .returned (.tuple #[.int .u32 v, .bool true]) ∧ w' = W)) :
    Calls Tryz.prog 64 #[.agg (regs R pc), busV m] w (StepOk w m g wv dv xs ⟨Pl.sr R a v, Pl.m32 (pc + 4), D⟩) := by
  obtain ⟨r0, r1, r2, r3, r4, r5, r6, r7, hRe⟩ := eight hR.1
  have hR1 : regs R pc = #[.int .u32 r0, .int .u32 r1, .int .u32 r2, .int .u32 r3, .int .u32 r4, .int .u32 r5, .int .u32 r6, .int .u32 r7, .int .u32 pc, .int .i64 1] := by rw [hRe]; rfl
  have hR2 : #[.int .u32 r0, .int .u32 r1, .int .u32 r2, .int .u32 r3, .int .u32 r4, .int .u32 r5, .int .u32 r6, .int .u32 r7, .int .u32 (Pl.m32 (pc + 4)), .int .i64 1] = regs R (Pl.m32 (pc + 4)) := by rw [hRe]; rfl
  clear hRe
  rw [hR1]
  have HG := H.kept (Below.block (B := w.heap.size) (w' := ((w.alloc (Obj.cells #[.int .u32 r0, .int .u32 r1, .int .u32 r2, .int .u32 r3, .int .u32 r4, .int .u32 r5, .int .u32 r6, .int .u32 r7, .int .u32 pc, .int .i64 1] 104)).alloc (Obj.cells zeros10 104)).alloc (Obj.cells #[.int .i64 0, .int .u32 0] 106)) (by (repeat (first | (with_reducible exact Below.refl _ _) | (with_reducible apply Below.drew) | (with_reducible apply bl_drewN) | ((with_reducible apply bl_alloc); (· (first | (simp; done) | (simp; omega) | omega))) | ((with_reducible apply bl_row); (· (first | (simp; done) | (simp; omega) | omega))) | ((with_reducible apply bl_cell); (· (first | (simp; done) | (simp; omega) | omega))) | assumption))))
  go_enter Tryz.func64, Tryz.ntmps64
  go_wp2_with fail
  refine (HF.out _ HG).mono ?_
  rintro e w1 ⟨rfl, hb1⟩
  have hr1 : rowAt w1 w.heap.size #[.int .u32 r0, .int .u32 r1, .int .u32 r2, .int .u32 r3, .int .u32 r4, .int .u32 r5, .int .u32 r6, .int .u32 r7, .int .u32 pc, .int .i64 1] 104 := rowAt.below (by (repeat (first | ((with_reducible apply rowAt.new); simp; done) | (with_reducible apply rowAt.drew) | (with_reducible apply rowAt.drewN) | (with_reducible apply rowAt.alloc) | (with_reducible apply rowAt.setRow_same) | ((with_reducible apply rowAt.so); (· (first | (simp; done) | (simp; omega) | omega))) | (with_reducible apply rowAt.set10) | (with_reducible apply rowAt.set8) | (with_reducible apply rowAt.set4) | (with_reducible apply rowAt.set2) | (with_reducible apply rowAt.set) | ((with_reducible apply rowAt.co); (· (first | (simp; done) | (simp; omega) | omega))) | assumption))) hb1 (by simp; try omega)
  have hs1 : rowAt w1 (w.heap.size + 1) zeros10 104 := rowAt.below (by (repeat (first | ((with_reducible apply rowAt.new); simp; done) | (with_reducible apply rowAt.drew) | (with_reducible apply rowAt.drewN) | (with_reducible apply rowAt.alloc) | (with_reducible apply rowAt.setRow_same) | ((with_reducible apply rowAt.so); (· (first | (simp; done) | (simp; omega) | omega))) | (with_reducible apply rowAt.set10) | (with_reducible apply rowAt.set8) | (with_reducible apply rowAt.set4) | (with_reducible apply rowAt.set2) | (with_reducible apply rowAt.set) | ((with_reducible apply rowAt.co); (· (first | (simp; done) | (simp; omega) | omega))) | assumption))) hb1 (by simp; try omega)
  have ht1 : rowAt w1 (w.heap.size + 1 + 1) #[.int .i64 0, .int .u32 0] 106 := rowAt.below (by (repeat (first | ((with_reducible apply rowAt.new); simp; done) | (with_reducible apply rowAt.drew) | (with_reducible apply rowAt.drewN) | (with_reducible apply rowAt.alloc) | (with_reducible apply rowAt.setRow_same) | ((with_reducible apply rowAt.so); (· (first | (simp; done) | (simp; omega) | omega))) | (with_reducible apply rowAt.set10) | (with_reducible apply rowAt.set8) | (with_reducible apply rowAt.set4) | (with_reducible apply rowAt.set2) | (with_reducible apply rowAt.set) | ((with_reducible apply rowAt.co); (· (first | (simp; done) | (simp; omega) | omega))) | assumption))) hb1 (by simp; try omega)
  have hz1 : w.heap.size + 1 + 1 < w1.heap.size := ht1.lt
  have hb1' : Below w.heap.size w w1 := (show Below w.heap.size w _ from by (repeat (first | (with_reducible exact Below.refl _ _) | (with_reducible apply Below.drew) | (with_reducible apply bl_drewN) | ((with_reducible apply bl_alloc); (· (first | (simp; done) | (simp; omega) | omega))) | ((with_reducible apply bl_row); (· (first | (simp; done) | (simp; omega) | omega))) | ((with_reducible apply bl_cell); (· (first | (simp; done) | (simp; omega) | omega))) | assumption))).trans (hb1.mono (by simp; try omega))
  clear hb1 HG
  go_wp2_with fail
  refine (HDe.out _).mono ?_
  rintro e w2 ⟨rfl, hb2⟩
  have hr2 : rowAt w2 w.heap.size #[.int .u32 r0, .int .u32 r1, .int .u32 r2, .int .u32 r3, .int .u32 r4, .int .u32 r5, .int .u32 r6, .int .u32 r7, .int .u32 pc, .int .i64 1] 104 := rowAt.below (by (repeat (first | ((with_reducible apply rowAt.new); simp; done) | (with_reducible apply rowAt.drew) | (with_reducible apply rowAt.drewN) | (with_reducible apply rowAt.alloc) | (with_reducible apply rowAt.setRow_same) | ((with_reducible apply rowAt.so); (· (first | (simp; done) | (simp; omega) | omega))) | (with_reducible apply rowAt.set10) | (with_reducible apply rowAt.set8) | (with_reducible apply rowAt.set4) | (with_reducible apply rowAt.set2) | (with_reducible apply rowAt.set) | ((with_reducible apply rowAt.co); (· (first | (simp; done) | (simp; omega) | omega))) | assumption))) hb2 (by simp; try omega)
  have hs2 : rowAt w2 (w.heap.size + 1) zeros10 104 := rowAt.below (by (repeat (first | ((with_reducible apply rowAt.new); simp; done) | (with_reducible apply rowAt.drew) | (with_reducible apply rowAt.drewN) | (with_reducible apply rowAt.alloc) | (with_reducible apply rowAt.setRow_same) | ((with_reducible apply rowAt.so); (· (first | (simp; done) | (simp; omega) | omega))) | (with_reducible apply rowAt.set10) | (with_reducible apply rowAt.set8) | (with_reducible apply rowAt.set4) | (with_reducible apply rowAt.set2) | (with_reducible apply rowAt.set) | ((with_reducible apply rowAt.co); (· (first | (simp; done) | (simp; omega) | omega))) | assumption))) hb2 (by simp; try omega)
  have ht2 : rowAt w2 (w.heap.size + 1 + 1) #[.int .i64 0, .int .u32 0] 106 := rowAt.below (by (repeat (first | ((with_reducible apply rowAt.new); simp; done) | (with_reducible apply rowAt.drew) | (with_reducible apply rowAt.drewN) | (with_reducible apply rowAt.alloc) | (with_reducible apply rowAt.setRow_same) | ((with_reducible apply rowAt.so); (· (first | (simp; done) | (simp; omega) | omega))) | (with_reducible apply rowAt.set10) | (with_reducible apply rowAt.set8) | (with_reducible apply rowAt.set4) | (with_reducible apply rowAt.set2) | (with_reducible apply rowAt.set) | ((with_reducible apply rowAt.co); (· (first | (simp; done) | (simp; omega) | omega))) | assumption))) hb2 (by simp; try omega)
  have hb2' : Below w.heap.size w w2 := (show Below w.heap.size w _ from by (repeat (first | (with_reducible exact Below.refl _ _) | (with_reducible apply Below.drew) | (with_reducible apply bl_drewN) | ((with_reducible apply bl_alloc); (· (first | (simp; done) | (simp; omega) | omega))) | ((with_reducible apply bl_row); (· (first | (simp; done) | (simp; omega) | omega))) | ((with_reducible apply bl_cell); (· (first | (simp; done) | (simp; omega) | omega))) | assumption))).trans (hb2.mono (by simp; try omega))
  clear hr1 hs1 ht1 hz1 hb1' hb2
  have hz0 : w.heap.size < w2.heap.size := hr2.lt
  have hz1 : w.heap.size + 1 < w2.heap.size := hs2.lt
  have hz2 : w.heap.size + 1 + 1 < w2.heap.size := ht2.lt
  have i0 : w2.cell? ⟨w.heap.size, 0, none⟩ = some (.int .u32 r0) := hr2.cell 0
  have i1 : w2.cell? ⟨w.heap.size, 1, none⟩ = some (.int .u32 r1) := hr2.cell 1
  have i2 : w2.cell? ⟨w.heap.size, 2, none⟩ = some (.int .u32 r2) := hr2.cell 2
  have i3 : w2.cell? ⟨w.heap.size, 3, none⟩ = some (.int .u32 r3) := hr2.cell 3
  have i4 : w2.cell? ⟨w.heap.size, 4, none⟩ = some (.int .u32 r4) := hr2.cell 4
  have i5 : w2.cell? ⟨w.heap.size, 5, none⟩ = some (.int .u32 r5) := hr2.cell 5
  have i6 : w2.cell? ⟨w.heap.size, 6, none⟩ = some (.int .u32 r6) := hr2.cell 6
  have i7 : w2.cell? ⟨w.heap.size, 7, none⟩ = some (.int .u32 r7) := hr2.cell 7
  have i8 : w2.cell? ⟨w.heap.size, 8, none⟩ = some (.int .u32 pc) := hr2.cell 8
  have i9 : w2.cell? ⟨w.heap.size, 9, none⟩ = some (.int .i64 1) := hr2.cell 9
  have s0 : w2.cell? ⟨w.heap.size + 1, 0, none⟩ = some (.int .u32 0) := hs2.cell 0
  have s1 : w2.cell? ⟨w.heap.size + 1, 1, none⟩ = some (.int .u32 0) := hs2.cell 1
  have s2 : w2.cell? ⟨w.heap.size + 1, 2, none⟩ = some (.int .u32 0) := hs2.cell 2
  have s3 : w2.cell? ⟨w.heap.size + 1, 3, none⟩ = some (.int .u32 0) := hs2.cell 3
  have s4 : w2.cell? ⟨w.heap.size + 1, 4, none⟩ = some (.int .u32 0) := hs2.cell 4
  have s5 : w2.cell? ⟨w.heap.size + 1, 5, none⟩ = some (.int .u32 0) := hs2.cell 5
  have s6 : w2.cell? ⟨w.heap.size + 1, 6, none⟩ = some (.int .u32 0) := hs2.cell 6
  have s7 : w2.cell? ⟨w.heap.size + 1, 7, none⟩ = some (.int .u32 0) := hs2.cell 7
  have s8 : w2.cell? ⟨w.heap.size + 1, 8, none⟩ = some (.int .u32 0) := hs2.cell 8
  have s9 : w2.cell? ⟨w.heap.size + 1, 9, none⟩ = some (.int .i64 0) := hs2.cell 9
  have t0 : w2.cell? ⟨w.heap.size + 1 + 1, 0, none⟩ = some (.int .i64 0) := ht2.cell 0
  have t1 : w2.cell? ⟨w.heap.size + 1 + 1, 1, none⟩ = some (.int .u32 0) := ht2.cell 1
  have fs0 : w2.frozen? ⟨w.heap.size + 1, 0, none⟩ = false := hs2.frozen 0
  have fs1 : w2.frozen? ⟨w.heap.size + 1, 1, none⟩ = false := hs2.frozen 1
  have fs2 : w2.frozen? ⟨w.heap.size + 1, 2, none⟩ = false := hs2.frozen 2
  have fs3 : w2.frozen? ⟨w.heap.size + 1, 3, none⟩ = false := hs2.frozen 3
  have fs4 : w2.frozen? ⟨w.heap.size + 1, 4, none⟩ = false := hs2.frozen 4
  have fs5 : w2.frozen? ⟨w.heap.size + 1, 5, none⟩ = false := hs2.frozen 5
  have fs6 : w2.frozen? ⟨w.heap.size + 1, 6, none⟩ = false := hs2.frozen 6
  have fs7 : w2.frozen? ⟨w.heap.size + 1, 7, none⟩ = false := hs2.frozen 7
  have fs8 : w2.frozen? ⟨w.heap.size + 1, 8, none⟩ = false := hs2.frozen 8
  have fs9 : w2.frozen? ⟨w.heap.size + 1, 9, none⟩ = false := hs2.frozen 9
  have ft0 : w2.frozen? ⟨w.heap.size + 1 + 1, 0, none⟩ = false := ht2.frozen 0
  have ft1 : w2.frozen? ⟨w.heap.size + 1 + 1, 1, none⟩ = false := ht2.frozen 1
  have hg1 := H.gl
  have HR2 := H.kept (Below.block hb2')
  have ca : w2.cell? ⟨w.heap.size, a.toNat, none⟩ = some (.int .u32 (Pl.rg R a)) := (hr2.cell _).trans (by rw [← hR1]; exact regs_at hR.1 ha.1 ha.2)
  have cb : w2.cell? ⟨w.heap.size, b.toNat, none⟩ = some (.int .u32 (Pl.rg R b)) := (hr2.cell _).trans (by rw [← hR1]; exact regs_at hR.1 hb.1 hb.2)
  go_wp2_with fail
  go_quiet (first | (go_at_call 86; refine Calls.quiet_of_same (HK.out _)))
  rw [show (pc + 4) % 4294967296 = Pl.m32 (pc + 4) from rfl, hR2]
  have hr3 : rowAt (((w2.alloc (Obj.cells #[.int .i64 op, .int .i64 a, .int .i64 b, .int .i64 c] 31)).alloc (Obj.cells (regs R (Pl.m32 (pc + 4))) 104)).drewN nq) (w2.heap.size + 1) (regs R (Pl.m32 (pc + 4))) 104 := by (repeat (first | ((with_reducible apply rowAt.new); simp; done) | (with_reducible apply rowAt.drew) | (with_reducible apply rowAt.drewN) | (with_reducible apply rowAt.alloc) | (with_reducible apply rowAt.setRow_same) | ((with_reducible apply rowAt.so); (· (first | (simp; done) | (simp; omega) | omega))) | (with_reducible apply rowAt.set10) | (with_reducible apply rowAt.set8) | (with_reducible apply rowAt.set4) | (with_reducible apply rowAt.set2) | (with_reducible apply rowAt.set) | ((with_reducible apply rowAt.co); (· (first | (simp; done) | (simp; omega) | omega))) | assumption))
  have hb3 : Below w2.heap.size w2 (((w2.alloc (Obj.cells #[.int .i64 op, .int .i64 a, .int .i64 b, .int .i64 c] 31)).alloc (Obj.cells (regs R (Pl.m32 (pc + 4))) 104)).drewN nq) := by (repeat (first | (with_reducible exact Below.refl _ _) | (with_reducible apply Below.drew) | (with_reducible apply bl_drewN) | ((with_reducible apply bl_alloc); (· (first | (simp; done) | (simp; omega) | omega))) | ((with_reducible apply bl_row); (· (first | (simp; done) | (simp; omega) | omega))) | ((with_reducible apply bl_cell); (· (first | (simp; done) | (simp; omega) | omega))) | assumption))
  have hi3 : rowAt (((w2.alloc (Obj.cells #[.int .i64 op, .int .i64 a, .int .i64 b, .int .i64 c] 31)).alloc (Obj.cells (regs R (Pl.m32 (pc + 4))) 104)).drewN nq) w2.heap.size #[.int .i64 op, .int .i64 a, .int .i64 b, .int .i64 c] 31 := by (repeat (first | ((with_reducible apply rowAt.new); simp; done) | (with_reducible apply rowAt.drew) | (with_reducible apply rowAt.drewN) | (with_reducible apply rowAt.alloc) | (with_reducible apply rowAt.setRow_same) | ((with_reducible apply rowAt.so); (· (first | (simp; done) | (simp; omega) | omega))) | (with_reducible apply rowAt.set10) | (with_reducible apply rowAt.set8) | (with_reducible apply rowAt.set4) | (with_reducible apply rowAt.set2) | (with_reducible apply rowAt.set) | ((with_reducible apply rowAt.co); (· (first | (simp; done) | (simp; omega) | omega))) | assumption))
  generalize ((w2.alloc (Obj.cells #[.int .i64 op, .int .i64 a, .int .i64 b, .int .i64 c] 31)).alloc (Obj.cells (regs R (Pl.m32 (pc + 4))) 104)).drewN nq = w3 at *
  have hgb3 : w.grownBy w3 (some g) := gb_below hb3 (by omega) (gb_new hb2')
  have HR3 : Room w3 m g wv dv xs D := HR2.kept (Below.block hb3)
  have hs3 : rowAt w3 (w.heap.size + 1) zeros10 104 := rowAt.below hs2 hb3 (by omega)
  have ht3 : rowAt w3 (w.heap.size + 1 + 1) #[.int .i64 0, .int .u32 0] 106 := rowAt.below ht2 hb3 (by omega)
  have hz3 : w2.heap.size + 1 < w3.heap.size := hr3.lt
  have hz9 : w.heap.size < w3.heap.size := by omega
  have j1 : w3.cell? ⟨w2.heap.size, 1, none⟩ = some (.int .i64 a) := hi3.cell 1
  have c3 : w3.cell? ⟨w2.heap.size + 1, a.toNat, none⟩ = some (.int .u32 (Pl.rg R a)) := (hr3.cell _).trans (regs_at hR.1 ha.1 ha.2)
  have f3 : w3.frozen? ⟨w2.heap.size + 1, a.toNat, none⟩ = false := hr3.frozen _
  have HS := Lib.hid (fun v => regs_set (pc := Pl.m32 (pc + 4)) hR.1 ha.1 ha.2 v)
  have gsz := hR.1
  clear i0 i1 i2 i3 i4 i5 i6 i7 i8 i9 s0 s1 s2 s3 s4 s5 s6 s7 s8 s9 fs0 fs1 fs2 fs3 fs4 fs5 fs6 fs7 fs8 fs9 t0 t1 ft0 ft1
  clear ca cb
  go_wp2_with (first | (apply load_row (hgd := rfl) (ty := 104) (ho := rfl) (hx := rfl) (hu := Tryz.underlying104) (hd := rfl); (· (repeat (first | ((with_reducible apply rowAt.new); simp; done) | (with_reducible apply rowAt.drew) | (with_reducible apply rowAt.drewN) | (with_reducible apply rowAt.alloc) | (with_reducible apply rowAt.setRow_same) | ((with_reducible apply rowAt.so); (· (first | (simp; done) | (simp; omega) | omega))) | (with_reducible apply rowAt.set10) | (with_reducible apply rowAt.set8) | (with_reducible apply rowAt.set4) | (with_reducible apply rowAt.set2) | (with_reducible apply rowAt.set) | ((with_reducible apply rowAt.co); (· (first | (simp; done) | (simp; omega) | omega))) | assumption))); (· (first | exact sizeTrap | exact sizeIns | (rw [sizeRegs]; simp [regs_sz, sr_len, gsz]; done)))) | (apply load_row (hgd := rfl) (ty := 106) (ho := rfl) (hx := rfl) (hu := Tryz.underlying106) (hd := rfl); (· (repeat (first | ((with_reducible apply rowAt.new); simp; done) | (with_reducible apply rowAt.drew) | (with_reducible apply rowAt.drewN) | (with_reducible apply rowAt.alloc) | (with_reducible apply rowAt.setRow_same) | ((with_reducible apply rowAt.so); (· (first | (simp; done) | (simp; omega) | omega))) | (with_reducible apply rowAt.set10) | (with_reducible apply rowAt.set8) | (with_reducible apply rowAt.set4) | (with_reducible apply rowAt.set2) | (with_reducible apply rowAt.set) | ((with_reducible apply rowAt.co); (· (first | (simp; done) | (simp; omega) | omega))) | assumption))); (· (first | exact sizeTrap | exact sizeIns | (rw [sizeRegs]; simp [regs_sz, sr_len, gsz]; done)))) | (apply load_row (hgd := rfl) (ty := 31) (ho := rfl) (hx := rfl) (hu := Tryz.underlying31) (hd := rfl); (· (repeat (first | ((with_reducible apply rowAt.new); simp; done) | (with_reducible apply rowAt.drew) | (with_reducible apply rowAt.drewN) | (with_reducible apply rowAt.alloc) | (with_reducible apply rowAt.setRow_same) | ((with_reducible apply rowAt.so); (· (first | (simp; done) | (simp; omega) | omega))) | (with_reducible apply rowAt.set10) | (with_reducible apply rowAt.set8) | (with_reducible apply rowAt.set4) | (with_reducible apply rowAt.set2) | (with_reducible apply rowAt.set) | ((with_reducible apply rowAt.co); (· (first | (simp; done) | (simp; omega) | omega))) | assumption))); (· (first | exact sizeTrap | exact sizeIns | (rw [sizeRegs]; simp [regs_sz, sr_len, gsz]; done)))) | (apply store_row (hgd := rfl) (ho := rfl) (hx := rfl) (hy := rfl); (· (repeat (first | ((with_reducible apply rowAt.new); simp; done) | (with_reducible apply rowAt.drew) | (with_reducible apply rowAt.drewN) | (with_reducible apply rowAt.alloc) | (with_reducible apply rowAt.setRow_same) | ((with_reducible apply rowAt.so); (· (first | (simp; done) | (simp; omega) | omega))) | (with_reducible apply rowAt.set10) | (with_reducible apply rowAt.set8) | (with_reducible apply rowAt.set4) | (with_reducible apply rowAt.set2) | (with_reducible apply rowAt.set) | ((with_reducible apply rowAt.co); (· (first | (simp; done) | (simp; omega) | omega))) | assumption))); (· (first | exact sizeTrap | exact sizeIns | (rw [sizeRegs]; simp [regs_sz, sr_len, gsz]; done))); (· (first | (simp [regs_sz, sr_len, gsz]; done) | rfl)); (· (first | exact regs_one _ _ | (rw [HS.out]; exact regs_one _ _) | (simp [Value.oneCell']; done)))))
  simp only [HS.out]
  refine step_end (t := 104) (t2 := 106) (cs := regs (Pl.sr R a v) (Pl.m32 (pc + 4))) (cs2 := #[.int .i64 0, .int .u32 0]) rfl rfl ?_ (regs_size (by simp [Pl.sr, hR.1])) ?_ rfl rfl ⟨rfl, ?_, ?_⟩
  · (repeat (first | ((with_reducible apply rowAt.new); simp; done) | (with_reducible apply rowAt.drew) | (with_reducible apply rowAt.drewN) | (with_reducible apply rowAt.alloc) | (with_reducible apply rowAt.setRow_same) | ((with_reducible apply rowAt.so); (· (first | (simp; done) | (simp; omega) | omega))) | (with_reducible apply rowAt.set10) | (with_reducible apply rowAt.set8) | (with_reducible apply rowAt.set4) | (with_reducible apply rowAt.set2) | (with_reducible apply rowAt.set) | ((with_reducible apply rowAt.co); (· (first | (simp; done) | (simp; omega) | omega))) | assumption))
  · (repeat (first | ((with_reducible apply rowAt.new); simp; done) | (with_reducible apply rowAt.drew) | (with_reducible apply rowAt.drewN) | (with_reducible apply rowAt.alloc) | (with_reducible apply rowAt.setRow_same) | ((with_reducible apply rowAt.so); (· (first | (simp; done) | (simp; omega) | omega))) | (with_reducible apply rowAt.set10) | (with_reducible apply rowAt.set8) | (with_reducible apply rowAt.set4) | (with_reducible apply rowAt.set2) | (with_reducible apply rowAt.set) | ((with_reducible apply rowAt.co); (· (first | (simp; done) | (simp; omega) | omega))) | assumption))
  · exact H.kept2 HR3 (Below.block (B := w.heap.size) (by (repeat (first | (with_reducible exact Below.refl _ _) | (with_reducible apply Below.drew) | (with_reducible apply bl_drewN) | ((with_reducible apply bl_alloc); (· (first | (simp; done) | (simp; omega) | omega))) | ((with_reducible apply bl_row); (· (first | (simp; done) | (simp; omega) | omega))) | ((with_reducible apply bl_cell); (· (first | (simp; done) | (simp; omega) | omega))) | assumption))))
  · (repeat (first | (with_reducible exact gb_refl _ _) | (with_reducible apply gb_drew) | (with_reducible apply gb_drewN) | (with_reducible apply gb_alloc) | ((with_reducible apply gb_cell); (· (first | exact .inl rfl | (right; (first | (simp; done) | (simp; omega) | omega))))) | ((with_reducible apply gb_row); (· (first | exact .inl rfl | (right; (first | (simp; done) | (simp; omega) | omega))))) | assumption))

set_option maxHeartbeats 1600000 in
set_option maxRecDepth 100000 in
theorem step_reckon_no (h5 : 5 ≤ op) (h13 : op ≤ 13) (h1 : (op == 1) = false) (h26 : (op == 26) = false)
    (HK : Hid (∀ W, Calls Tryz.prog 86 #[.int .i64 op, .int .u32 (Pl.rg R a), .int .u32 (Pl.rg R b)] W fun e w' => e = .returned (.tuple #[.int .u32 0, .bool false]) ∧ w' = W)) :
    Calls Tryz.prog 64 #[.agg (regs R pc), busV m] w (StepTrap w g) := by
  obtain ⟨r0, r1, r2, r3, r4, r5, r6, r7, hRe⟩ := eight hR.1
  have hR1 : regs R pc = #[.int .u32 r0, .int .u32 r1, .int .u32 r2, .int .u32 r3, .int .u32 r4, .int .u32 r5, .int .u32 r6, .int .u32 r7, .int .u32 pc, .int .i64 1] := by rw [hRe]; rfl
  have hR2 : #[.int .u32 r0, .int .u32 r1, .int .u32 r2, .int .u32 r3, .int .u32 r4, .int .u32 r5, .int .u32 r6, .int .u32 r7, .int .u32 (Pl.m32 (pc + 4)), .int .i64 1] = regs R (Pl.m32 (pc + 4)) := by rw [hRe]; rfl
  clear hRe
  rw [hR1]
  have HG := H.kept (Below.block (B := w.heap.size) (w' := ((w.alloc (Obj.cells #[.int .u32 r0, .int .u32 r1, .int .u32 r2, .int .u32 r3, .int .u32 r4, .int .u32 r5, .int .u32 r6, .int .u32 r7, .int .u32 pc, .int .i64 1] 104)).alloc (Obj.cells zeros10 104)).alloc (Obj.cells #[.int .i64 0, .int .u32 0] 106)) (by (repeat (first | (with_reducible exact Below.refl _ _) | (with_reducible apply Below.drew) | (with_reducible apply bl_drewN) | ((with_reducible apply bl_alloc); (· (first | (simp; done) | (simp; omega) | omega))) | ((with_reducible apply bl_row); (· (first | (simp; done) | (simp; omega) | omega))) | ((with_reducible apply bl_cell); (· (first | (simp; done) | (simp; omega) | omega))) | assumption))))
  go_enter Tryz.func64, Tryz.ntmps64
  go_wp2_with fail
  refine (HF.out _ HG).mono ?_
  rintro e w1 ⟨rfl, hb1⟩
  have hr1 : rowAt w1 w.heap.size #[.int .u32 r0, .int .u32 r1, .int .u32 r2, .int .u32 r3, .int .u32 r4, .int .u32 r5, .int .u32 r6, .int .u32 r7, .int .u32 pc, .int .i64 1] 104 := rowAt.below (by (repeat (first | ((with_reducible apply rowAt.new); simp; done) | (with_reducible apply rowAt.drew) | (with_reducible apply rowAt.drewN) | (with_reducible apply rowAt.alloc) | (with_reducible apply rowAt.setRow_same) | ((with_reducible apply rowAt.so); (· (first | (simp; done) | (simp; omega) | omega))) | (with_reducible apply rowAt.set10) | (with_reducible apply rowAt.set8) | (with_reducible apply rowAt.set4) | (with_reducible apply rowAt.set2) | (with_reducible apply rowAt.set) | ((with_reducible apply rowAt.co); (· (first | (simp; done) | (simp; omega) | omega))) | assumption))) hb1 (by simp; try omega)
  have hs1 : rowAt w1 (w.heap.size + 1) zeros10 104 := rowAt.below (by (repeat (first | ((with_reducible apply rowAt.new); simp; done) | (with_reducible apply rowAt.drew) | (with_reducible apply rowAt.drewN) | (with_reducible apply rowAt.alloc) | (with_reducible apply rowAt.setRow_same) | ((with_reducible apply rowAt.so); (· (first | (simp; done) | (simp; omega) | omega))) | (with_reducible apply rowAt.set10) | (with_reducible apply rowAt.set8) | (with_reducible apply rowAt.set4) | (with_reducible apply rowAt.set2) | (with_reducible apply rowAt.set) | ((with_reducible apply rowAt.co); (· (first | (simp; done) | (simp; omega) | omega))) | assumption))) hb1 (by simp; try omega)
  have ht1 : rowAt w1 (w.heap.size + 1 + 1) #[.int .i64 0, .int .u32 0] 106 := rowAt.below (by (repeat (first | ((with_reducible apply rowAt.new); simp; done) | (with_reducible apply rowAt.drew) | (with_reducible apply rowAt.drewN) | (with_reducible apply rowAt.alloc) | (with_reducible apply rowAt.setRow_same) | ((with_reducible apply rowAt.so); (· (first | (simp; done) | (simp; omega) | omega))) | (with_reducible apply rowAt.set10) | (with_reducible apply rowAt.set8) | (with_reducible apply rowAt.set4) | (with_reducible apply rowAt.set2) | (with_reducible apply rowAt.set) | ((with_reducible apply rowAt.co); (· (first | (simp; done) | (simp; omega) | omega))) | assumption))) hb1 (by simp; try omega)
  have hz1 : w.heap.size + 1 + 1 < w1.heap.size := ht1.lt
  have hb1' : Below w.heap.size w w1 := (show Below w.heap.size w _ from by (repeat (first | (with_reducible exact Below.refl _ _) | (with_reducible apply Below.drew) | (with_reducible apply bl_drewN) | ((with_reducible apply bl_alloc); (· (first | (simp; done) | (simp; omega) | omega))) | ((with_reducible apply bl_row); (· (first | (simp; done) | (simp; omega) | omega))) | ((with_reducible apply bl_cell); (· (first | (simp; done) | (simp; omega) | omega))) | assumption))).trans (hb1.mono (by simp; try omega))
  clear hb1 HG
  go_wp2_with fail
  refine (HDe.out _).mono ?_
  rintro e w2 ⟨rfl, hb2⟩
  have hr2 : rowAt w2 w.heap.size #[.int .u32 r0, .int .u32 r1, .int .u32 r2, .int .u32 r3, .int .u32 r4, .int .u32 r5, .int .u32 r6, .int .u32 r7, .int .u32 pc, .int .i64 1] 104 := rowAt.below (by (repeat (first | ((with_reducible apply rowAt.new); simp; done) | (with_reducible apply rowAt.drew) | (with_reducible apply rowAt.drewN) | (with_reducible apply rowAt.alloc) | (with_reducible apply rowAt.setRow_same) | ((with_reducible apply rowAt.so); (· (first | (simp; done) | (simp; omega) | omega))) | (with_reducible apply rowAt.set10) | (with_reducible apply rowAt.set8) | (with_reducible apply rowAt.set4) | (with_reducible apply rowAt.set2) | (with_reducible apply rowAt.set) | ((with_reducible apply rowAt.co); (· (first | (simp; done) | (simp; omega) | omega))) | assumption))) hb2 (by simp; try omega)
  have hs2 : rowAt w2 (w.heap.size + 1) zeros10 104 := rowAt.below (by (repeat (first | ((with_reducible apply rowAt.new); simp; done) | (with_reducible apply rowAt.drew) | (with_reducible apply rowAt.drewN) | (with_reducible apply rowAt.alloc) | (with_reducible apply rowAt.setRow_same) | ((with_reducible apply rowAt.so); (· (first | (simp; done) | (simp; omega) | omega))) | (with_reducible apply rowAt.set10) | (with_reducible apply rowAt.set8) | (with_reducible apply rowAt.set4) | (with_reducible apply rowAt.set2) | (with_reducible apply rowAt.set) | ((with_reducible apply rowAt.co); (· (first | (simp; done) | (simp; omega) | omega))) | assumption))) hb2 (by simp; try omega)
  have ht2 : rowAt w2 (w.heap.size + 1 + 1) #[.int .i64 0, .int .u32 0] 106 := rowAt.below (by (repeat (first | ((with_reducible apply rowAt.new); simp; done) | (with_reducible apply rowAt.drew) | (with_reducible apply rowAt.drewN) | (with_reducible apply rowAt.alloc) | (with_reducible apply rowAt.setRow_same) | ((with_reducible apply rowAt.so); (· (first | (simp; done) | (simp; omega) | omega))) | (with_reducible apply rowAt.set10) | (with_reducible apply rowAt.set8) | (with_reducible apply rowAt.set4) | (with_reducible apply rowAt.set2) | (with_reducible apply rowAt.set) | ((with_reducible apply rowAt.co); (· (first | (simp; done) | (simp; omega) | omega))) | assumption))) hb2 (by simp; try omega)
  have hb2' : Below w.heap.size w w2 := (show Below w.heap.size w _ from by (repeat (first | (with_reducible exact Below.refl _ _) | (with_reducible apply Below.drew) | (with_reducible apply bl_drewN) | ((with_reducible apply bl_alloc); (· (first | (simp; done) | (simp; omega) | omega))) | ((with_reducible apply bl_row); (· (first | (simp; done) | (simp; omega) | omega))) | ((with_reducible apply bl_cell); (· (first | (simp; done) | (simp; omega) | omega))) | assumption))).trans (hb2.mono (by simp; try omega))
  clear hr1 hs1 ht1 hz1 hb1' hb2
  have hz0 : w.heap.size < w2.heap.size := hr2.lt
  have hz1 : w.heap.size + 1 < w2.heap.size := hs2.lt
  have hz2 : w.heap.size + 1 + 1 < w2.heap.size := ht2.lt
  have i0 : w2.cell? ⟨w.heap.size, 0, none⟩ = some (.int .u32 r0) := hr2.cell 0
  have i1 : w2.cell? ⟨w.heap.size, 1, none⟩ = some (.int .u32 r1) := hr2.cell 1
  have i2 : w2.cell? ⟨w.heap.size, 2, none⟩ = some (.int .u32 r2) := hr2.cell 2
  have i3 : w2.cell? ⟨w.heap.size, 3, none⟩ = some (.int .u32 r3) := hr2.cell 3
  have i4 : w2.cell? ⟨w.heap.size, 4, none⟩ = some (.int .u32 r4) := hr2.cell 4
  have i5 : w2.cell? ⟨w.heap.size, 5, none⟩ = some (.int .u32 r5) := hr2.cell 5
  have i6 : w2.cell? ⟨w.heap.size, 6, none⟩ = some (.int .u32 r6) := hr2.cell 6
  have i7 : w2.cell? ⟨w.heap.size, 7, none⟩ = some (.int .u32 r7) := hr2.cell 7
  have i8 : w2.cell? ⟨w.heap.size, 8, none⟩ = some (.int .u32 pc) := hr2.cell 8
  have i9 : w2.cell? ⟨w.heap.size, 9, none⟩ = some (.int .i64 1) := hr2.cell 9
  have s0 : w2.cell? ⟨w.heap.size + 1, 0, none⟩ = some (.int .u32 0) := hs2.cell 0
  have s1 : w2.cell? ⟨w.heap.size + 1, 1, none⟩ = some (.int .u32 0) := hs2.cell 1
  have s2 : w2.cell? ⟨w.heap.size + 1, 2, none⟩ = some (.int .u32 0) := hs2.cell 2
  have s3 : w2.cell? ⟨w.heap.size + 1, 3, none⟩ = some (.int .u32 0) := hs2.cell 3
  have s4 : w2.cell? ⟨w.heap.size + 1, 4, none⟩ = some (.int .u32 0) := hs2.cell 4
  have s5 : w2.cell? ⟨w.heap.size + 1, 5, none⟩ = some (.int .u32 0) := hs2.cell 5
  have s6 : w2.cell? ⟨w.heap.size + 1, 6, none⟩ = some (.int .u32 0) := hs2.cell 6
  have s7 : w2.cell? ⟨w.heap.size + 1, 7, none⟩ = some (.int .u32 0) := hs2.cell 7
  have s8 : w2.cell? ⟨w.heap.size + 1, 8, none⟩ = some (.int .u32 0) := hs2.cell 8
  have s9 : w2.cell? ⟨w.heap.size + 1, 9, none⟩ = some (.int .i64 0) := hs2.cell 9
  have t0 : w2.cell? ⟨w.heap.size + 1 + 1, 0, none⟩ = some (.int .i64 0) := ht2.cell 0
  have t1 : w2.cell? ⟨w.heap.size + 1 + 1, 1, none⟩ = some (.int .u32 0) := ht2.cell 1
  have fs0 : w2.frozen? ⟨w.heap.size + 1, 0, none⟩ = false := hs2.frozen 0
  have fs1 : w2.frozen? ⟨w.heap.size + 1, 1, none⟩ = false := hs2.frozen 1
  have fs2 : w2.frozen? ⟨w.heap.size + 1, 2, none⟩ = false := hs2.frozen 2
  have fs3 : w2.frozen? ⟨w.heap.size + 1, 3, none⟩ = false := hs2.frozen 3
  have fs4 : w2.frozen? ⟨w.heap.size + 1, 4, none⟩ = false := hs2.frozen 4
  have fs5 : w2.frozen? ⟨w.heap.size + 1, 5, none⟩ = false := hs2.frozen 5
  have fs6 : w2.frozen? ⟨w.heap.size + 1, 6, none⟩ = false := hs2.frozen 6
  have fs7 : w2.frozen? ⟨w.heap.size + 1, 7, none⟩ = false := hs2.frozen 7
  have fs8 : w2.frozen? ⟨w.heap.size + 1, 8, none⟩ = false := hs2.frozen 8
  have fs9 : w2.frozen? ⟨w.heap.size + 1, 9, none⟩ = false := hs2.frozen 9
  have ft0 : w2.frozen? ⟨w.heap.size + 1 + 1, 0, none⟩ = false := ht2.frozen 0
  have ft1 : w2.frozen? ⟨w.heap.size + 1 + 1, 1, none⟩ = false := ht2.frozen 1
  have ca : w2.cell? ⟨w.heap.size, a.toNat, none⟩ = some (.int .u32 (Pl.rg R a)) := (hr2.cell _).trans (by rw [← hR1]; exact regs_at hR.1 ha.1 ha.2)
  have cb : w2.cell? ⟨w.heap.size, b.toNat, none⟩ = some (.int .u32 (Pl.rg R b)) := (hr2.cell _).trans (by rw [← hR1]; exact regs_at hR.1 hb.1 hb.2)
  go_wp2_with fail
  go_quiet (first | (go_at_call 86; refine Calls.quiet_of_same (HK.out _)))
  clear ca cb
  go_wp2_with fail
  obtain ⟨k, q, hk, hkk, hqq⟩ : ∃ k q : Int, k ≠ 0 ∧ k = 4 ∧ q = 0 := ⟨4, 0, by decide, rfl, rfl⟩
  rw [← hkk, ← hqq]
  refine step_end (t := 104) (t2 := 106) (cs := #[.int .u32 r0, .int .u32 r1, .int .u32 r2, .int .u32 r3, .int .u32 r4, .int .u32 r5, .int .u32 r6, .int .u32 r7, .int .u32 pc, .int .i64 1]) (cs2 := #[.int .i64 k, .int .u32 q]) rfl rfl ?_ rfl ?_ rfl rfl ⟨⟨[r0, r1, r2, r3, r4, r5, r6, r7], pc, k, q, rfl, hk, rfl⟩, ?_⟩
  · (repeat (first | ((with_reducible apply rowAt.new); simp; done) | (with_reducible apply rowAt.drew) | (with_reducible apply rowAt.drewN) | (with_reducible apply rowAt.alloc) | (with_reducible apply rowAt.setRow_same) | ((with_reducible apply rowAt.so); (· (first | (simp; done) | (simp; omega) | omega))) | (with_reducible apply rowAt.set10) | (with_reducible apply rowAt.set8) | (with_reducible apply rowAt.set4) | (with_reducible apply rowAt.set2) | (with_reducible apply rowAt.set) | ((with_reducible apply rowAt.co); (· (first | (simp; done) | (simp; omega) | omega))) | assumption))
  · (repeat (first | ((with_reducible apply rowAt.new); simp; done) | (with_reducible apply rowAt.drew) | (with_reducible apply rowAt.drewN) | (with_reducible apply rowAt.alloc) | (with_reducible apply rowAt.setRow_same) | ((with_reducible apply rowAt.so); (· (first | (simp; done) | (simp; omega) | omega))) | (with_reducible apply rowAt.set10) | (with_reducible apply rowAt.set8) | (with_reducible apply rowAt.set4) | (with_reducible apply rowAt.set2) | (with_reducible apply rowAt.set) | ((with_reducible apply rowAt.co); (· (first | (simp; done) | (simp; omega) | omega))) | assumption))
  · exact gb_new (by (repeat (first | (with_reducible exact Below.refl _ _) | (with_reducible apply Below.drew) | (with_reducible apply bl_drewN) | ((with_reducible apply bl_alloc); (· (first | (simp; done) | (simp; omega) | omega))) | ((with_reducible apply bl_row); (· (first | (simp; done) | (simp; omega) | omega))) | ((with_reducible apply bl_cell); (· (first | (simp; done) | (simp; omega) | omega))) | assumption)))

set_option maxHeartbeats 1600000 in
set_option maxRecDepth 100000 in
theorem step_other {R' : List Int} {pc' : Int} (h13 : op < 5 ∨ op = 14) (h1 : (op == 1) = false) (h26 : (op == 26) = false) (hR' : R'.length = 8)
    (HO : Hid (∀ W, Calls Tryz.prog 89 #[.agg (regs R (Pl.m32 (pc + 4))), insV ⟨op, a, b, c⟩] W (OtherIs R' pc' W))) :
    Calls Tryz.prog 64 #[.agg (regs R pc), busV m] w (StepOk w m g wv dv xs ⟨R', pc', D⟩) := by
  obtain ⟨r0, r1, r2, r3, r4, r5, r6, r7, hRe⟩ := eight hR.1
  have hR1 : regs R pc = #[.int .u32 r0, .int .u32 r1, .int .u32 r2, .int .u32 r3, .int .u32 r4, .int .u32 r5, .int .u32 r6, .int .u32 r7, .int .u32 pc, .int .i64 1] := by rw [hRe]; rfl
  have hR2 : #[.int .u32 r0, .int .u32 r1, .int .u32 r2, .int .u32 r3, .int .u32 r4, .int .u32 r5, .int .u32 r6, .int .u32 r7, .int .u32 (Pl.m32 (pc + 4)), .int .i64 1] = regs R (Pl.m32 (pc + 4)) := by rw [hRe]; rfl
  clear hRe
  rw [hR1]
  have HG := H.kept (Below.block (B := w.heap.size) (w' := ((w.alloc (Obj.cells #[.int .u32 r0, .int .u32 r1, .int .u32 r2, .int .u32 r3, .int .u32 r4, .int .u32 r5, .int .u32 r6, .int .u32 r7, .int .u32 pc, .int .i64 1] 104)).alloc (Obj.cells zeros10 104)).alloc (Obj.cells #[.int .i64 0, .int .u32 0] 106)) (by (repeat (first | (with_reducible exact Below.refl _ _) | (with_reducible apply Below.drew) | (with_reducible apply bl_drewN) | ((with_reducible apply bl_alloc); (· (first | (simp; done) | (simp; omega) | omega))) | ((with_reducible apply bl_row); (· (first | (simp; done) | (simp; omega) | omega))) | ((with_reducible apply bl_cell); (· (first | (simp; done) | (simp; omega) | omega))) | assumption))))
  go_enter Tryz.func64, Tryz.ntmps64
  go_wp2_with fail
  refine (HF.out _ HG).mono ?_
  rintro e w1 ⟨rfl, hb1⟩
  have hr1 : rowAt w1 w.heap.size #[.int .u32 r0, .int .u32 r1, .int .u32 r2, .int .u32 r3, .int .u32 r4, .int .u32 r5, .int .u32 r6, .int .u32 r7, .int .u32 pc, .int .i64 1] 104 := rowAt.below (by (repeat (first | ((with_reducible apply rowAt.new); simp; done) | (with_reducible apply rowAt.drew) | (with_reducible apply rowAt.drewN) | (with_reducible apply rowAt.alloc) | (with_reducible apply rowAt.setRow_same) | ((with_reducible apply rowAt.so); (· (first | (simp; done) | (simp; omega) | omega))) | (with_reducible apply rowAt.set10) | (with_reducible apply rowAt.set8) | (with_reducible apply rowAt.set4) | (with_reducible apply rowAt.set2) | (with_reducible apply rowAt.set) | ((with_reducible apply rowAt.co); (· (first | (simp; done) | (simp; omega) | omega))) | assumption))) hb1 (by simp; try omega)
  have hs1 : rowAt w1 (w.heap.size + 1) zeros10 104 := rowAt.below (by (repeat (first | ((with_reducible apply rowAt.new); simp; done) | (with_reducible apply rowAt.drew) | (with_reducible apply rowAt.drewN) | (with_reducible apply rowAt.alloc) | (with_reducible apply rowAt.setRow_same) | ((with_reducible apply rowAt.so); (· (first | (simp; done) | (simp; omega) | omega))) | (with_reducible apply rowAt.set10) | (with_reducible apply rowAt.set8) | (with_reducible apply rowAt.set4) | (with_reducible apply rowAt.set2) | (with_reducible apply rowAt.set) | ((with_reducible apply rowAt.co); (· (first | (simp; done) | (simp; omega) | omega))) | assumption))) hb1 (by simp; try omega)
  have ht1 : rowAt w1 (w.heap.size + 1 + 1) #[.int .i64 0, .int .u32 0] 106 := rowAt.below (by (repeat (first | ((with_reducible apply rowAt.new); simp; done) | (with_reducible apply rowAt.drew) | (with_reducible apply rowAt.drewN) | (with_reducible apply rowAt.alloc) | (with_reducible apply rowAt.setRow_same) | ((with_reducible apply rowAt.so); (· (first | (simp; done) | (simp; omega) | omega))) | (with_reducible apply rowAt.set10) | (with_reducible apply rowAt.set8) | (with_reducible apply rowAt.set4) | (with_reducible apply rowAt.set2) | (with_reducible apply rowAt.set) | ((with_reducible apply rowAt.co); (· (first | (simp; done) | (simp; omega) | omega))) | assumption))) hb1 (by simp; try omega)
  have hz1 : w.heap.size + 1 + 1 < w1.heap.size := ht1.lt
  have hb1' : Below w.heap.size w w1 := (show Below w.heap.size w _ from by (repeat (first | (with_reducible exact Below.refl _ _) | (with_reducible apply Below.drew) | (with_reducible apply bl_drewN) | ((with_reducible apply bl_alloc); (· (first | (simp; done) | (simp; omega) | omega))) | ((with_reducible apply bl_row); (· (first | (simp; done) | (simp; omega) | omega))) | ((with_reducible apply bl_cell); (· (first | (simp; done) | (simp; omega) | omega))) | assumption))).trans (hb1.mono (by simp; try omega))
  clear hb1 HG
  go_wp2_with fail
  refine (HDe.out _).mono ?_
  rintro e w2 ⟨rfl, hb2⟩
  have hr2 : rowAt w2 w.heap.size #[.int .u32 r0, .int .u32 r1, .int .u32 r2, .int .u32 r3, .int .u32 r4, .int .u32 r5, .int .u32 r6, .int .u32 r7, .int .u32 pc, .int .i64 1] 104 := rowAt.below (by (repeat (first | ((with_reducible apply rowAt.new); simp; done) | (with_reducible apply rowAt.drew) | (with_reducible apply rowAt.drewN) | (with_reducible apply rowAt.alloc) | (with_reducible apply rowAt.setRow_same) | ((with_reducible apply rowAt.so); (· (first | (simp; done) | (simp; omega) | omega))) | (with_reducible apply rowAt.set10) | (with_reducible apply rowAt.set8) | (with_reducible apply rowAt.set4) | (with_reducible apply rowAt.set2) | (with_reducible apply rowAt.set) | ((with_reducible apply rowAt.co); (· (first | (simp; done) | (simp; omega) | omega))) | assumption))) hb2 (by simp; try omega)
  have hs2 : rowAt w2 (w.heap.size + 1) zeros10 104 := rowAt.below (by (repeat (first | ((with_reducible apply rowAt.new); simp; done) | (with_reducible apply rowAt.drew) | (with_reducible apply rowAt.drewN) | (with_reducible apply rowAt.alloc) | (with_reducible apply rowAt.setRow_same) | ((with_reducible apply rowAt.so); (· (first | (simp; done) | (simp; omega) | omega))) | (with_reducible apply rowAt.set10) | (with_reducible apply rowAt.set8) | (with_reducible apply rowAt.set4) | (with_reducible apply rowAt.set2) | (with_reducible apply rowAt.set) | ((with_reducible apply rowAt.co); (· (first | (simp; done) | (simp; omega) | omega))) | assumption))) hb2 (by simp; try omega)
  have ht2 : rowAt w2 (w.heap.size + 1 + 1) #[.int .i64 0, .int .u32 0] 106 := rowAt.below (by (repeat (first | ((with_reducible apply rowAt.new); simp; done) | (with_reducible apply rowAt.drew) | (with_reducible apply rowAt.drewN) | (with_reducible apply rowAt.alloc) | (with_reducible apply rowAt.setRow_same) | ((with_reducible apply rowAt.so); (· (first | (simp; done) | (simp; omega) | omega))) | (with_reducible apply rowAt.set10) | (with_reducible apply rowAt.set8) | (with_reducible apply rowAt.set4) | (with_reducible apply rowAt.set2) | (with_reducible apply rowAt.set) | ((with_reducible apply rowAt.co); (· (first | (simp; done) | (simp; omega) | omega))) | assumption))) hb2 (by simp; try omega)
  have hb2' : Below w.heap.size w w2 := (show Below w.heap.size w _ from by (repeat (first | (with_reducible exact Below.refl _ _) | (with_reducible apply Below.drew) | (with_reducible apply bl_drewN) | ((with_reducible apply bl_alloc); (· (first | (simp; done) | (simp; omega) | omega))) | ((with_reducible apply bl_row); (· (first | (simp; done) | (simp; omega) | omega))) | ((with_reducible apply bl_cell); (· (first | (simp; done) | (simp; omega) | omega))) | assumption))).trans (hb2.mono (by simp; try omega))
  clear hr1 hs1 ht1 hz1 hb1' hb2
  have hz0 : w.heap.size < w2.heap.size := hr2.lt
  have hz1 : w.heap.size + 1 < w2.heap.size := hs2.lt
  have hz2 : w.heap.size + 1 + 1 < w2.heap.size := ht2.lt
  have i0 : w2.cell? ⟨w.heap.size, 0, none⟩ = some (.int .u32 r0) := hr2.cell 0
  have i1 : w2.cell? ⟨w.heap.size, 1, none⟩ = some (.int .u32 r1) := hr2.cell 1
  have i2 : w2.cell? ⟨w.heap.size, 2, none⟩ = some (.int .u32 r2) := hr2.cell 2
  have i3 : w2.cell? ⟨w.heap.size, 3, none⟩ = some (.int .u32 r3) := hr2.cell 3
  have i4 : w2.cell? ⟨w.heap.size, 4, none⟩ = some (.int .u32 r4) := hr2.cell 4
  have i5 : w2.cell? ⟨w.heap.size, 5, none⟩ = some (.int .u32 r5) := hr2.cell 5
  have i6 : w2.cell? ⟨w.heap.size, 6, none⟩ = some (.int .u32 r6) := hr2.cell 6
  have i7 : w2.cell? ⟨w.heap.size, 7, none⟩ = some (.int .u32 r7) := hr2.cell 7
  have i8 : w2.cell? ⟨w.heap.size, 8, none⟩ = some (.int .u32 pc) := hr2.cell 8
  have i9 : w2.cell? ⟨w.heap.size, 9, none⟩ = some (.int .i64 1) := hr2.cell 9
  have s0 : w2.cell? ⟨w.heap.size + 1, 0, none⟩ = some (.int .u32 0) := hs2.cell 0
  have s1 : w2.cell? ⟨w.heap.size + 1, 1, none⟩ = some (.int .u32 0) := hs2.cell 1
  have s2 : w2.cell? ⟨w.heap.size + 1, 2, none⟩ = some (.int .u32 0) := hs2.cell 2
  have s3 : w2.cell? ⟨w.heap.size + 1, 3, none⟩ = some (.int .u32 0) := hs2.cell 3
  have s4 : w2.cell? ⟨w.heap.size + 1, 4, none⟩ = some (.int .u32 0) := hs2.cell 4
  have s5 : w2.cell? ⟨w.heap.size + 1, 5, none⟩ = some (.int .u32 0) := hs2.cell 5
  have s6 : w2.cell? ⟨w.heap.size + 1, 6, none⟩ = some (.int .u32 0) := hs2.cell 6
  have s7 : w2.cell? ⟨w.heap.size + 1, 7, none⟩ = some (.int .u32 0) := hs2.cell 7
  have s8 : w2.cell? ⟨w.heap.size + 1, 8, none⟩ = some (.int .u32 0) := hs2.cell 8
  have s9 : w2.cell? ⟨w.heap.size + 1, 9, none⟩ = some (.int .i64 0) := hs2.cell 9
  have t0 : w2.cell? ⟨w.heap.size + 1 + 1, 0, none⟩ = some (.int .i64 0) := ht2.cell 0
  have t1 : w2.cell? ⟨w.heap.size + 1 + 1, 1, none⟩ = some (.int .u32 0) := ht2.cell 1
  have fs0 : w2.frozen? ⟨w.heap.size + 1, 0, none⟩ = false := hs2.frozen 0
  have fs1 : w2.frozen? ⟨w.heap.size + 1, 1, none⟩ = false := hs2.frozen 1
  have fs2 : w2.frozen? ⟨w.heap.size + 1, 2, none⟩ = false := hs2.frozen 2
  have fs3 : w2.frozen? ⟨w.heap.size + 1, 3, none⟩ = false := hs2.frozen 3
  have fs4 : w2.frozen? ⟨w.heap.size + 1, 4, none⟩ = false := hs2.frozen 4
  have fs5 : w2.frozen? ⟨w.heap.size + 1, 5, none⟩ = false := hs2.frozen 5
  have fs6 : w2.frozen? ⟨w.heap.size + 1, 6, none⟩ = false := hs2.frozen 6
  have fs7 : w2.frozen? ⟨w.heap.size + 1, 7, none⟩ = false := hs2.frozen 7
  have fs8 : w2.frozen? ⟨w.heap.size + 1, 8, none⟩ = false := hs2.frozen 8
  have fs9 : w2.frozen? ⟨w.heap.size + 1, 9, none⟩ = false := hs2.frozen 9
  have ft0 : w2.frozen? ⟨w.heap.size + 1 + 1, 0, none⟩ = false := ht2.frozen 0
  have ft1 : w2.frozen? ⟨w.heap.size + 1 + 1, 1, none⟩ = false := ht2.frozen 1
  have HR2 := H.kept (Below.block hb2')
  have hgb2 : w.grownBy w2 (some g) := gb_new hb2'
  rcases h13 with h13 | rfl
  all_goals
    go_wp2_with fail
    rw [show (pc + 4) % 4294967296 = Pl.m32 (pc + 4) from rfl, hR2]
    refine (HO.out _).mono ?_
    rintro e w3 ⟨rfl, hb3⟩
    have hs3 : rowAt w3 (w.heap.size + 1) zeros10 104 := rowAt.below (by (repeat (first | ((with_reducible apply rowAt.new); simp; done) | (with_reducible apply rowAt.drew) | (with_reducible apply rowAt.drewN) | (with_reducible apply rowAt.alloc) | (with_reducible apply rowAt.setRow_same) | ((with_reducible apply rowAt.so); (· (first | (simp; done) | (simp; omega) | omega))) | (with_reducible apply rowAt.set10) | (with_reducible apply rowAt.set8) | (with_reducible apply rowAt.set4) | (with_reducible apply rowAt.set2) | (with_reducible apply rowAt.set) | ((with_reducible apply rowAt.co); (· (first | (simp; done) | (simp; omega) | omega))) | assumption))) hb3 (by simp; try omega)
    have ht3 : rowAt w3 (w.heap.size + 1 + 1) #[.int .i64 0, .int .u32 0] 106 := rowAt.below (by (repeat (first | ((with_reducible apply rowAt.new); simp; done) | (with_reducible apply rowAt.drew) | (with_reducible apply rowAt.drewN) | (with_reducible apply rowAt.alloc) | (with_reducible apply rowAt.setRow_same) | ((with_reducible apply rowAt.so); (· (first | (simp; done) | (simp; omega) | omega))) | (with_reducible apply rowAt.set10) | (with_reducible apply rowAt.set8) | (with_reducible apply rowAt.set4) | (with_reducible apply rowAt.set2) | (with_reducible apply rowAt.set) | ((with_reducible apply rowAt.co); (· (first | (simp; done) | (simp; omega) | omega))) | assumption))) hb3 (by simp; try omega)
    have hb4 : Below w.heap.size w w3 := (show Below w.heap.size w _ from by (repeat (first | (with_reducible exact Below.refl _ _) | (with_reducible apply Below.drew) | (with_reducible apply bl_drewN) | ((with_reducible apply bl_alloc); (· (first | (simp; done) | (simp; omega) | omega))) | ((with_reducible apply bl_row); (· (first | (simp; done) | (simp; omega) | omega))) | ((with_reducible apply bl_cell); (· (first | (simp; done) | (simp; omega) | omega))) | assumption))).trans (hb3.mono (by simp; try omega))
    have hgb3 : w.grownBy w3 (some g) := gb_new hb4
    have hz9 : w.heap.size < w3.heap.size := by have := hs3.lt; omega
    have HR3 : Room w3 m g wv dv xs D := H.kept (Below.block hb4)
    have gsz := hR'
    clear i0 i1 i2 i3 i4 i5 i6 i7 i8 i9 s0 s1 s2 s3 s4 s5 s6 s7 s8 s9 fs0 fs1 fs2 fs3 fs4 fs5 fs6 fs7 fs8 fs9 t0 t1 ft0 ft1
    go_wp2_with (first | (apply load_row (hgd := rfl) (ty := 104) (ho := rfl) (hx := rfl) (hu := Tryz.underlying104) (hd := rfl); (· (repeat (first | ((with_reducible apply rowAt.new); simp; done) | (with_reducible apply rowAt.drew) | (with_reducible apply rowAt.drewN) | (with_reducible apply rowAt.alloc) | (with_reducible apply rowAt.setRow_same) | ((with_reducible apply rowAt.so); (· (first | (simp; done) | (simp; omega) | omega))) | (with_reducible apply rowAt.set10) | (with_reducible apply rowAt.set8) | (with_reducible apply rowAt.set4) | (with_reducible apply rowAt.set2) | (with_reducible apply rowAt.set) | ((with_reducible apply rowAt.co); (· (first | (simp; done) | (simp; omega) | omega))) | assumption))); (· (first | exact sizeTrap | exact sizeIns | (rw [sizeRegs]; simp [regs_sz, sr_len, gsz]; done)))) | (apply store_row (hgd := rfl) (ty := 104) (ho := rfl) (hx := rfl) (hy := rfl); (· (repeat (first | ((with_reducible apply rowAt.new); simp; done) | (with_reducible apply rowAt.drew) | (with_reducible apply rowAt.drewN) | (with_reducible apply rowAt.alloc) | (with_reducible apply rowAt.setRow_same) | ((with_reducible apply rowAt.so); (· (first | (simp; done) | (simp; omega) | omega))) | (with_reducible apply rowAt.set10) | (with_reducible apply rowAt.set8) | (with_reducible apply rowAt.set4) | (with_reducible apply rowAt.set2) | (with_reducible apply rowAt.set) | ((with_reducible apply rowAt.co); (· (first | (simp; done) | (simp; omega) | omega))) | assumption))); (· (first | exact sizeTrap | exact sizeIns | (rw [sizeRegs]; simp [regs_sz, sr_len, gsz]; done))); (· (first | (simp [regs_sz, sr_len, gsz]; done) | rfl)); (· (first | exact regs_one _ _ | (simp [Value.oneCell']; done)))) | (apply store_row (hgd := rfl) (ty := 106) (x := .tmp 5) (ho := rfl) (hx := rfl) (hy := rfl); (· (repeat (first | ((with_reducible apply rowAt.new); simp; done) | (with_reducible apply rowAt.drew) | (with_reducible apply rowAt.drewN) | (with_reducible apply rowAt.alloc) | (with_reducible apply rowAt.setRow_same) | ((with_reducible apply rowAt.so); (· (first | (simp; done) | (simp; omega) | omega))) | (with_reducible apply rowAt.set10) | (with_reducible apply rowAt.set8) | (with_reducible apply rowAt.set4) | (with_reducible apply rowAt.set2) | (with_reducible apply rowAt.set) | ((with_reducible apply rowAt.co); (· (first | (simp; done) | (simp; omega) | omega))) | assumption))); (· (first | exact sizeTrap | exact sizeIns | (rw [sizeRegs]; simp [regs_sz, sr_len, gsz]; done))); (· rfl); (· (simp [Value.oneCell']; done))))
    refine step_end (t := 104) (t2 := 106) (cs := regs R' pc') (cs2 := #[.int .i64 0, .int .u32 0]) rfl rfl ?_ (regs_size hR') ?_ rfl rfl ⟨rfl, ?_, ?_⟩
    · (repeat (first | ((with_reducible apply rowAt.new); simp; done) | (with_reducible apply rowAt.drew) | (with_reducible apply rowAt.drewN) | (with_reducible apply rowAt.alloc) | (with_reducible apply rowAt.setRow_same) | ((with_reducible apply rowAt.so); (· (first | (simp; done) | (simp; omega) | omega))) | (with_reducible apply rowAt.set10) | (with_reducible apply rowAt.set8) | (with_reducible apply rowAt.set4) | (with_reducible apply rowAt.set2) | (with_reducible apply rowAt.set) | ((with_reducible apply rowAt.co); (· (first | (simp; done) | (simp; omega) | omega))) | assumption))
    · (repeat (first | ((with_reducible apply rowAt.new); simp; done) | (with_reducible apply rowAt.drew) | (with_reducible apply rowAt.drewN) | (with_reducible apply rowAt.alloc) | (with_reducible apply rowAt.setRow_same) | ((with_reducible apply rowAt.so); (· (first | (simp; done) | (simp; omega) | omega))) | (with_reducible apply rowAt.set10) | (with_reducible apply rowAt.set8) | (with_reducible apply rowAt.set4) | (with_reducible apply rowAt.set2) | (with_reducible apply rowAt.set) | ((with_reducible apply rowAt.co); (· (first | (simp; done) | (simp; omega) | omega))) | assumption))
    · exact H.kept2 HR3 (Below.block (B := w.heap.size) (by (repeat (first | (with_reducible exact Below.refl _ _) | (with_reducible apply Below.drew) | (with_reducible apply bl_drewN) | ((with_reducible apply bl_alloc); (· (first | (simp; done) | (simp; omega) | omega))) | ((with_reducible apply bl_row); (· (first | (simp; done) | (simp; omega) | omega))) | ((with_reducible apply bl_cell); (· (first | (simp; done) | (simp; omega) | omega))) | assumption))))
    · (repeat (first | (with_reducible exact gb_refl _ _) | (with_reducible apply gb_drew) | (with_reducible apply gb_drewN) | (with_reducible apply gb_alloc) | ((with_reducible apply gb_cell); (· (first | exact .inl rfl | (right; (first | (simp; done) | (simp; omega) | omega))))) | ((with_reducible apply gb_row); (· (first | exact .inl rfl | (right; (first | (simp; done) | (simp; omega) | omega))))) | assumption))

set_option maxHeartbeats 1600000 in
set_option maxRecDepth 100000 in
theorem step_sys (hop : op = 24)
    (HO : Hid (∀ W, Calls Tryz.prog 89 #[.agg (regs R (Pl.m32 (pc + 4))), insV ⟨24, a, b, c⟩] W fun e w' => e = .returned (.tuple #[.agg (regs R (Pl.m32 (pc + 4))), .agg #[.int .i64 1, .int .u32 0]]) ∧ Below W.heap.size W w')) :
    Calls Tryz.prog 64 #[.agg (regs R pc), busV m] w (StepTrap w g) := by
  subst hop
  obtain ⟨r0, r1, r2, r3, r4, r5, r6, r7, hRe⟩ := eight hR.1
  have hR1 : regs R pc = #[.int .u32 r0, .int .u32 r1, .int .u32 r2, .int .u32 r3, .int .u32 r4, .int .u32 r5, .int .u32 r6, .int .u32 r7, .int .u32 pc, .int .i64 1] := by rw [hRe]; rfl
  have hR2 : #[.int .u32 r0, .int .u32 r1, .int .u32 r2, .int .u32 r3, .int .u32 r4, .int .u32 r5, .int .u32 r6, .int .u32 r7, .int .u32 (Pl.m32 (pc + 4)), .int .i64 1] = regs R (Pl.m32 (pc + 4)) := by rw [hRe]; rfl
  clear hRe
  rw [hR1]
  have HG := H.kept (Below.block (B := w.heap.size) (w' := ((w.alloc (Obj.cells #[.int .u32 r0, .int .u32 r1, .int .u32 r2, .int .u32 r3, .int .u32 r4, .int .u32 r5, .int .u32 r6, .int .u32 r7, .int .u32 pc, .int .i64 1] 104)).alloc (Obj.cells zeros10 104)).alloc (Obj.cells #[.int .i64 0, .int .u32 0] 106)) (by (repeat (first | (with_reducible exact Below.refl _ _) | (with_reducible apply Below.drew) | (with_reducible apply bl_drewN) | ((with_reducible apply bl_alloc); (· (first | (simp; done) | (simp; omega) | omega))) | ((with_reducible apply bl_row); (· (first | (simp; done) | (simp; omega) | omega))) | ((with_reducible apply bl_cell); (· (first | (simp; done) | (simp; omega) | omega))) | assumption))))
  go_enter Tryz.func64, Tryz.ntmps64
  go_wp2_with fail
  refine (HF.out _ HG).mono ?_
  rintro e w1 ⟨rfl, hb1⟩
  have hr1 : rowAt w1 w.heap.size #[.int .u32 r0, .int .u32 r1, .int .u32 r2, .int .u32 r3, .int .u32 r4, .int .u32 r5, .int .u32 r6, .int .u32 r7, .int .u32 pc, .int .i64 1] 104 := rowAt.below (by (repeat (first | ((with_reducible apply rowAt.new); simp; done) | (with_reducible apply rowAt.drew) | (with_reducible apply rowAt.drewN) | (with_reducible apply rowAt.alloc) | (with_reducible apply rowAt.setRow_same) | ((with_reducible apply rowAt.so); (· (first | (simp; done) | (simp; omega) | omega))) | (with_reducible apply rowAt.set10) | (with_reducible apply rowAt.set8) | (with_reducible apply rowAt.set4) | (with_reducible apply rowAt.set2) | (with_reducible apply rowAt.set) | ((with_reducible apply rowAt.co); (· (first | (simp; done) | (simp; omega) | omega))) | assumption))) hb1 (by simp; try omega)
  have hs1 : rowAt w1 (w.heap.size + 1) zeros10 104 := rowAt.below (by (repeat (first | ((with_reducible apply rowAt.new); simp; done) | (with_reducible apply rowAt.drew) | (with_reducible apply rowAt.drewN) | (with_reducible apply rowAt.alloc) | (with_reducible apply rowAt.setRow_same) | ((with_reducible apply rowAt.so); (· (first | (simp; done) | (simp; omega) | omega))) | (with_reducible apply rowAt.set10) | (with_reducible apply rowAt.set8) | (with_reducible apply rowAt.set4) | (with_reducible apply rowAt.set2) | (with_reducible apply rowAt.set) | ((with_reducible apply rowAt.co); (· (first | (simp; done) | (simp; omega) | omega))) | assumption))) hb1 (by simp; try omega)
  have ht1 : rowAt w1 (w.heap.size + 1 + 1) #[.int .i64 0, .int .u32 0] 106 := rowAt.below (by (repeat (first | ((with_reducible apply rowAt.new); simp; done) | (with_reducible apply rowAt.drew) | (with_reducible apply rowAt.drewN) | (with_reducible apply rowAt.alloc) | (with_reducible apply rowAt.setRow_same) | ((with_reducible apply rowAt.so); (· (first | (simp; done) | (simp; omega) | omega))) | (with_reducible apply rowAt.set10) | (with_reducible apply rowAt.set8) | (with_reducible apply rowAt.set4) | (with_reducible apply rowAt.set2) | (with_reducible apply rowAt.set) | ((with_reducible apply rowAt.co); (· (first | (simp; done) | (simp; omega) | omega))) | assumption))) hb1 (by simp; try omega)
  have hz1 : w.heap.size + 1 + 1 < w1.heap.size := ht1.lt
  have hb1' : Below w.heap.size w w1 := (show Below w.heap.size w _ from by (repeat (first | (with_reducible exact Below.refl _ _) | (with_reducible apply Below.drew) | (with_reducible apply bl_drewN) | ((with_reducible apply bl_alloc); (· (first | (simp; done) | (simp; omega) | omega))) | ((with_reducible apply bl_row); (· (first | (simp; done) | (simp; omega) | omega))) | ((with_reducible apply bl_cell); (· (first | (simp; done) | (simp; omega) | omega))) | assumption))).trans (hb1.mono (by simp; try omega))
  clear hb1 HG
  go_wp2_with fail
  refine (HDe.out _).mono ?_
  rintro e w2 ⟨rfl, hb2⟩
  have hr2 : rowAt w2 w.heap.size #[.int .u32 r0, .int .u32 r1, .int .u32 r2, .int .u32 r3, .int .u32 r4, .int .u32 r5, .int .u32 r6, .int .u32 r7, .int .u32 pc, .int .i64 1] 104 := rowAt.below (by (repeat (first | ((with_reducible apply rowAt.new); simp; done) | (with_reducible apply rowAt.drew) | (with_reducible apply rowAt.drewN) | (with_reducible apply rowAt.alloc) | (with_reducible apply rowAt.setRow_same) | ((with_reducible apply rowAt.so); (· (first | (simp; done) | (simp; omega) | omega))) | (with_reducible apply rowAt.set10) | (with_reducible apply rowAt.set8) | (with_reducible apply rowAt.set4) | (with_reducible apply rowAt.set2) | (with_reducible apply rowAt.set) | ((with_reducible apply rowAt.co); (· (first | (simp; done) | (simp; omega) | omega))) | assumption))) hb2 (by simp; try omega)
  have hs2 : rowAt w2 (w.heap.size + 1) zeros10 104 := rowAt.below (by (repeat (first | ((with_reducible apply rowAt.new); simp; done) | (with_reducible apply rowAt.drew) | (with_reducible apply rowAt.drewN) | (with_reducible apply rowAt.alloc) | (with_reducible apply rowAt.setRow_same) | ((with_reducible apply rowAt.so); (· (first | (simp; done) | (simp; omega) | omega))) | (with_reducible apply rowAt.set10) | (with_reducible apply rowAt.set8) | (with_reducible apply rowAt.set4) | (with_reducible apply rowAt.set2) | (with_reducible apply rowAt.set) | ((with_reducible apply rowAt.co); (· (first | (simp; done) | (simp; omega) | omega))) | assumption))) hb2 (by simp; try omega)
  have ht2 : rowAt w2 (w.heap.size + 1 + 1) #[.int .i64 0, .int .u32 0] 106 := rowAt.below (by (repeat (first | ((with_reducible apply rowAt.new); simp; done) | (with_reducible apply rowAt.drew) | (with_reducible apply rowAt.drewN) | (with_reducible apply rowAt.alloc) | (with_reducible apply rowAt.setRow_same) | ((with_reducible apply rowAt.so); (· (first | (simp; done) | (simp; omega) | omega))) | (with_reducible apply rowAt.set10) | (with_reducible apply rowAt.set8) | (with_reducible apply rowAt.set4) | (with_reducible apply rowAt.set2) | (with_reducible apply rowAt.set) | ((with_reducible apply rowAt.co); (· (first | (simp; done) | (simp; omega) | omega))) | assumption))) hb2 (by simp; try omega)
  have hb2' : Below w.heap.size w w2 := (show Below w.heap.size w _ from by (repeat (first | (with_reducible exact Below.refl _ _) | (with_reducible apply Below.drew) | (with_reducible apply bl_drewN) | ((with_reducible apply bl_alloc); (· (first | (simp; done) | (simp; omega) | omega))) | ((with_reducible apply bl_row); (· (first | (simp; done) | (simp; omega) | omega))) | ((with_reducible apply bl_cell); (· (first | (simp; done) | (simp; omega) | omega))) | assumption))).trans (hb2.mono (by simp; try omega))
  clear hr1 hs1 ht1 hz1 hb1' hb2
  have hz0 : w.heap.size < w2.heap.size := hr2.lt
  have hz1 : w.heap.size + 1 < w2.heap.size := hs2.lt
  have hz2 : w.heap.size + 1 + 1 < w2.heap.size := ht2.lt
  have i0 : w2.cell? ⟨w.heap.size, 0, none⟩ = some (.int .u32 r0) := hr2.cell 0
  have i1 : w2.cell? ⟨w.heap.size, 1, none⟩ = some (.int .u32 r1) := hr2.cell 1
  have i2 : w2.cell? ⟨w.heap.size, 2, none⟩ = some (.int .u32 r2) := hr2.cell 2
  have i3 : w2.cell? ⟨w.heap.size, 3, none⟩ = some (.int .u32 r3) := hr2.cell 3
  have i4 : w2.cell? ⟨w.heap.size, 4, none⟩ = some (.int .u32 r4) := hr2.cell 4
  have i5 : w2.cell? ⟨w.heap.size, 5, none⟩ = some (.int .u32 r5) := hr2.cell 5
  have i6 : w2.cell? ⟨w.heap.size, 6, none⟩ = some (.int .u32 r6) := hr2.cell 6
  have i7 : w2.cell? ⟨w.heap.size, 7, none⟩ = some (.int .u32 r7) := hr2.cell 7
  have i8 : w2.cell? ⟨w.heap.size, 8, none⟩ = some (.int .u32 pc) := hr2.cell 8
  have i9 : w2.cell? ⟨w.heap.size, 9, none⟩ = some (.int .i64 1) := hr2.cell 9
  have s0 : w2.cell? ⟨w.heap.size + 1, 0, none⟩ = some (.int .u32 0) := hs2.cell 0
  have s1 : w2.cell? ⟨w.heap.size + 1, 1, none⟩ = some (.int .u32 0) := hs2.cell 1
  have s2 : w2.cell? ⟨w.heap.size + 1, 2, none⟩ = some (.int .u32 0) := hs2.cell 2
  have s3 : w2.cell? ⟨w.heap.size + 1, 3, none⟩ = some (.int .u32 0) := hs2.cell 3
  have s4 : w2.cell? ⟨w.heap.size + 1, 4, none⟩ = some (.int .u32 0) := hs2.cell 4
  have s5 : w2.cell? ⟨w.heap.size + 1, 5, none⟩ = some (.int .u32 0) := hs2.cell 5
  have s6 : w2.cell? ⟨w.heap.size + 1, 6, none⟩ = some (.int .u32 0) := hs2.cell 6
  have s7 : w2.cell? ⟨w.heap.size + 1, 7, none⟩ = some (.int .u32 0) := hs2.cell 7
  have s8 : w2.cell? ⟨w.heap.size + 1, 8, none⟩ = some (.int .u32 0) := hs2.cell 8
  have s9 : w2.cell? ⟨w.heap.size + 1, 9, none⟩ = some (.int .i64 0) := hs2.cell 9
  have t0 : w2.cell? ⟨w.heap.size + 1 + 1, 0, none⟩ = some (.int .i64 0) := ht2.cell 0
  have t1 : w2.cell? ⟨w.heap.size + 1 + 1, 1, none⟩ = some (.int .u32 0) := ht2.cell 1
  have fs0 : w2.frozen? ⟨w.heap.size + 1, 0, none⟩ = false := hs2.frozen 0
  have fs1 : w2.frozen? ⟨w.heap.size + 1, 1, none⟩ = false := hs2.frozen 1
  have fs2 : w2.frozen? ⟨w.heap.size + 1, 2, none⟩ = false := hs2.frozen 2
  have fs3 : w2.frozen? ⟨w.heap.size + 1, 3, none⟩ = false := hs2.frozen 3
  have fs4 : w2.frozen? ⟨w.heap.size + 1, 4, none⟩ = false := hs2.frozen 4
  have fs5 : w2.frozen? ⟨w.heap.size + 1, 5, none⟩ = false := hs2.frozen 5
  have fs6 : w2.frozen? ⟨w.heap.size + 1, 6, none⟩ = false := hs2.frozen 6
  have fs7 : w2.frozen? ⟨w.heap.size + 1, 7, none⟩ = false := hs2.frozen 7
  have fs8 : w2.frozen? ⟨w.heap.size + 1, 8, none⟩ = false := hs2.frozen 8
  have fs9 : w2.frozen? ⟨w.heap.size + 1, 9, none⟩ = false := hs2.frozen 9
  have ft0 : w2.frozen? ⟨w.heap.size + 1 + 1, 0, none⟩ = false := ht2.frozen 0
  have ft1 : w2.frozen? ⟨w.heap.size + 1 + 1, 1, none⟩ = false := ht2.frozen 1
  go_wp2_with fail
  rw [show (pc + 4) % 4294967296 = Pl.m32 (pc + 4) from rfl, hR2]
  refine (HO.out _).mono ?_
  rintro e w3 ⟨rfl, hb3⟩
  all_goals
    have hs3 : rowAt w3 (w.heap.size + 1) zeros10 104 := rowAt.below (by (repeat (first | ((with_reducible apply rowAt.new); simp; done) | (with_reducible apply rowAt.drew) | (with_reducible apply rowAt.drewN) | (with_reducible apply rowAt.alloc) | (with_reducible apply rowAt.setRow_same) | ((with_reducible apply rowAt.so); (· (first | (simp; done) | (simp; omega) | omega))) | (with_reducible apply rowAt.set10) | (with_reducible apply rowAt.set8) | (with_reducible apply rowAt.set4) | (with_reducible apply rowAt.set2) | (with_reducible apply rowAt.set) | ((with_reducible apply rowAt.co); (· (first | (simp; done) | (simp; omega) | omega))) | assumption))) hb3 (by simp; try omega)
    have ht3 : rowAt w3 (w.heap.size + 1 + 1) #[.int .i64 0, .int .u32 0] 106 := rowAt.below (by (repeat (first | ((with_reducible apply rowAt.new); simp; done) | (with_reducible apply rowAt.drew) | (with_reducible apply rowAt.drewN) | (with_reducible apply rowAt.alloc) | (with_reducible apply rowAt.setRow_same) | ((with_reducible apply rowAt.so); (· (first | (simp; done) | (simp; omega) | omega))) | (with_reducible apply rowAt.set10) | (with_reducible apply rowAt.set8) | (with_reducible apply rowAt.set4) | (with_reducible apply rowAt.set2) | (with_reducible apply rowAt.set) | ((with_reducible apply rowAt.co); (· (first | (simp; done) | (simp; omega) | omega))) | assumption))) hb3 (by simp; try omega)
    have hb4 : Below w.heap.size w w3 := (show Below w.heap.size w _ from by (repeat (first | (with_reducible exact Below.refl _ _) | (with_reducible apply Below.drew) | (with_reducible apply bl_drewN) | ((with_reducible apply bl_alloc); (· (first | (simp; done) | (simp; omega) | omega))) | ((with_reducible apply bl_row); (· (first | (simp; done) | (simp; omega) | omega))) | ((with_reducible apply bl_cell); (· (first | (simp; done) | (simp; omega) | omega))) | assumption))).trans (hb3.mono (by simp; try omega))
    have hgb3 : w.grownBy w3 (some g) := gb_new hb4
    have hz9 : w.heap.size < w3.heap.size := by have := hs3.lt; omega
    have gsz := hR.1
    clear i0 i1 i2 i3 i4 i5 i6 i7 i8 i9 s0 s1 s2 s3 s4 s5 s6 s7 s8 s9 fs0 fs1 fs2 fs3 fs4 fs5 fs6 fs7 fs8 fs9 t0 t1 ft0 ft1
    go_wp2_with (first | (apply load_row (hgd := rfl) (ty := 104) (ho := rfl) (hx := rfl) (hu := Tryz.underlying104) (hd := rfl); (· (repeat (first | ((with_reducible apply rowAt.new); simp; done) | (with_reducible apply rowAt.drew) | (with_reducible apply rowAt.drewN) | (with_reducible apply rowAt.alloc) | (with_reducible apply rowAt.setRow_same) | ((with_reducible apply rowAt.so); (· (first | (simp; done) | (simp; omega) | omega))) | (with_reducible apply rowAt.set10) | (with_reducible apply rowAt.set8) | (with_reducible apply rowAt.set4) | (with_reducible apply rowAt.set2) | (with_reducible apply rowAt.set) | ((with_reducible apply rowAt.co); (· (first | (simp; done) | (simp; omega) | omega))) | assumption))); (· (first | exact sizeTrap | exact sizeIns | (rw [sizeRegs]; simp [regs_sz, sr_len, gsz]; done)))) | (apply store_row (hgd := rfl) (ty := 104) (ho := rfl) (hx := rfl) (hy := rfl); (· (repeat (first | ((with_reducible apply rowAt.new); simp; done) | (with_reducible apply rowAt.drew) | (with_reducible apply rowAt.drewN) | (with_reducible apply rowAt.alloc) | (with_reducible apply rowAt.setRow_same) | ((with_reducible apply rowAt.so); (· (first | (simp; done) | (simp; omega) | omega))) | (with_reducible apply rowAt.set10) | (with_reducible apply rowAt.set8) | (with_reducible apply rowAt.set4) | (with_reducible apply rowAt.set2) | (with_reducible apply rowAt.set) | ((with_reducible apply rowAt.co); (· (first | (simp; done) | (simp; omega) | omega))) | assumption))); (· (first | exact sizeTrap | exact sizeIns | (rw [sizeRegs]; simp [regs_sz, sr_len, gsz]; done))); (· (first | (simp [regs_sz, sr_len, gsz]; done) | rfl)); (· (first | exact regs_one _ _ | (simp [Value.oneCell']; done)))) | (apply store_row (hgd := rfl) (ty := 106) (x := .tmp 5) (ho := rfl) (hx := rfl) (hy := rfl); (· (repeat (first | ((with_reducible apply rowAt.new); simp; done) | (with_reducible apply rowAt.drew) | (with_reducible apply rowAt.drewN) | (with_reducible apply rowAt.alloc) | (with_reducible apply rowAt.setRow_same) | ((with_reducible apply rowAt.so); (· (first | (simp; done) | (simp; omega) | omega))) | (with_reducible apply rowAt.set10) | (with_reducible apply rowAt.set8) | (with_reducible apply rowAt.set4) | (with_reducible apply rowAt.set2) | (with_reducible apply rowAt.set) | ((with_reducible apply rowAt.co); (· (first | (simp; done) | (simp; omega) | omega))) | assumption))); (· (first | exact sizeTrap | exact sizeIns | (rw [sizeRegs]; simp [regs_sz, sr_len, gsz]; done))); (· rfl); (· (simp [Value.oneCell']; done))))
    refine step_end (t := 104) (t2 := 106) (cs := regs R (Pl.m32 (pc + 4))) (cs2 := #[.int .i64 1, .int .u32 0]) rfl rfl ?_ (regs_size hR.1) ?_ rfl rfl ⟨⟨R, Pl.m32 (pc + 4), 1, 0, hR.1, by decide, rfl⟩, ?_⟩
    · (repeat (first | ((with_reducible apply rowAt.new); simp; done) | (with_reducible apply rowAt.drew) | (with_reducible apply rowAt.drewN) | (with_reducible apply rowAt.alloc) | (with_reducible apply rowAt.setRow_same) | ((with_reducible apply rowAt.so); (· (first | (simp; done) | (simp; omega) | omega))) | (with_reducible apply rowAt.set10) | (with_reducible apply rowAt.set8) | (with_reducible apply rowAt.set4) | (with_reducible apply rowAt.set2) | (with_reducible apply rowAt.set) | ((with_reducible apply rowAt.co); (· (first | (simp; done) | (simp; omega) | omega))) | assumption))
    · (repeat (first | ((with_reducible apply rowAt.new); simp; done) | (with_reducible apply rowAt.drew) | (with_reducible apply rowAt.drewN) | (with_reducible apply rowAt.alloc) | (with_reducible apply rowAt.setRow_same) | ((with_reducible apply rowAt.so); (· (first | (simp; done) | (simp; omega) | omega))) | (with_reducible apply rowAt.set10) | (with_reducible apply rowAt.set8) | (with_reducible apply rowAt.set4) | (with_reducible apply rowAt.set2) | (with_reducible apply rowAt.set) | ((with_reducible apply rowAt.co); (· (first | (simp; done) | (simp; omega) | omega))) | assumption))
    · (repeat (first | (with_reducible exact gb_refl _ _) | (with_reducible apply gb_drew) | (with_reducible apply gb_drewN) | (with_reducible apply gb_alloc) | ((with_reducible apply gb_cell); (· (first | exact .inl rfl | (right; (first | (simp; done) | (simp; omega) | omega))))) | ((with_reducible apply gb_row); (· (first | exact .inl rfl | (right; (first | (simp; done) | (simp; omega) | omega))))) | assumption))

set_option maxHeartbeats 1600000 in
set_option maxRecDepth 100000 in
theorem step_bad (h : op = 1 ∨ op = 26) : Calls Tryz.prog 64 #[.agg (regs R pc), busV m] w (StepTrap w g) := by
  obtain ⟨r0, r1, r2, r3, r4, r5, r6, r7, hRe⟩ := eight hR.1
  have hR1 : regs R pc = #[.int .u32 r0, .int .u32 r1, .int .u32 r2, .int .u32 r3, .int .u32 r4, .int .u32 r5, .int .u32 r6, .int .u32 r7, .int .u32 pc, .int .i64 1] := by rw [hRe]; rfl
  have hR2 : #[.int .u32 r0, .int .u32 r1, .int .u32 r2, .int .u32 r3, .int .u32 r4, .int .u32 r5, .int .u32 r6, .int .u32 r7, .int .u32 (Pl.m32 (pc + 4)), .int .i64 1] = regs R (Pl.m32 (pc + 4)) := by rw [hRe]; rfl
  clear hRe
  rw [hR1]
  have HG := H.kept (Below.block (B := w.heap.size) (w' := ((w.alloc (Obj.cells #[.int .u32 r0, .int .u32 r1, .int .u32 r2, .int .u32 r3, .int .u32 r4, .int .u32 r5, .int .u32 r6, .int .u32 r7, .int .u32 pc, .int .i64 1] 104)).alloc (Obj.cells zeros10 104)).alloc (Obj.cells #[.int .i64 0, .int .u32 0] 106)) (by (repeat (first | (with_reducible exact Below.refl _ _) | (with_reducible apply Below.drew) | (with_reducible apply bl_drewN) | ((with_reducible apply bl_alloc); (· (first | (simp; done) | (simp; omega) | omega))) | ((with_reducible apply bl_row); (· (first | (simp; done) | (simp; omega) | omega))) | ((with_reducible apply bl_cell); (· (first | (simp; done) | (simp; omega) | omega))) | assumption))))
  go_enter Tryz.func64, Tryz.ntmps64
  go_wp2_with fail
  refine (HF.out _ HG).mono ?_
  rintro e w1 ⟨rfl, hb1⟩
  have hr1 : rowAt w1 w.heap.size #[.int .u32 r0, .int .u32 r1, .int .u32 r2, .int .u32 r3, .int .u32 r4, .int .u32 r5, .int .u32 r6, .int .u32 r7, .int .u32 pc, .int .i64 1] 104 := rowAt.below (by (repeat (first | ((with_reducible apply rowAt.new); simp; done) | (with_reducible apply rowAt.drew) | (with_reducible apply rowAt.drewN) | (with_reducible apply rowAt.alloc) | (with_reducible apply rowAt.setRow_same) | ((with_reducible apply rowAt.so); (· (first | (simp; done) | (simp; omega) | omega))) | (with_reducible apply rowAt.set10) | (with_reducible apply rowAt.set8) | (with_reducible apply rowAt.set4) | (with_reducible apply rowAt.set2) | (with_reducible apply rowAt.set) | ((with_reducible apply rowAt.co); (· (first | (simp; done) | (simp; omega) | omega))) | assumption))) hb1 (by simp; try omega)
  have hs1 : rowAt w1 (w.heap.size + 1) zeros10 104 := rowAt.below (by (repeat (first | ((with_reducible apply rowAt.new); simp; done) | (with_reducible apply rowAt.drew) | (with_reducible apply rowAt.drewN) | (with_reducible apply rowAt.alloc) | (with_reducible apply rowAt.setRow_same) | ((with_reducible apply rowAt.so); (· (first | (simp; done) | (simp; omega) | omega))) | (with_reducible apply rowAt.set10) | (with_reducible apply rowAt.set8) | (with_reducible apply rowAt.set4) | (with_reducible apply rowAt.set2) | (with_reducible apply rowAt.set) | ((with_reducible apply rowAt.co); (· (first | (simp; done) | (simp; omega) | omega))) | assumption))) hb1 (by simp; try omega)
  have ht1 : rowAt w1 (w.heap.size + 1 + 1) #[.int .i64 0, .int .u32 0] 106 := rowAt.below (by (repeat (first | ((with_reducible apply rowAt.new); simp; done) | (with_reducible apply rowAt.drew) | (with_reducible apply rowAt.drewN) | (with_reducible apply rowAt.alloc) | (with_reducible apply rowAt.setRow_same) | ((with_reducible apply rowAt.so); (· (first | (simp; done) | (simp; omega) | omega))) | (with_reducible apply rowAt.set10) | (with_reducible apply rowAt.set8) | (with_reducible apply rowAt.set4) | (with_reducible apply rowAt.set2) | (with_reducible apply rowAt.set) | ((with_reducible apply rowAt.co); (· (first | (simp; done) | (simp; omega) | omega))) | assumption))) hb1 (by simp; try omega)
  have hz1 : w.heap.size + 1 + 1 < w1.heap.size := ht1.lt
  have hb1' : Below w.heap.size w w1 := (show Below w.heap.size w _ from by (repeat (first | (with_reducible exact Below.refl _ _) | (with_reducible apply Below.drew) | (with_reducible apply bl_drewN) | ((with_reducible apply bl_alloc); (· (first | (simp; done) | (simp; omega) | omega))) | ((with_reducible apply bl_row); (· (first | (simp; done) | (simp; omega) | omega))) | ((with_reducible apply bl_cell); (· (first | (simp; done) | (simp; omega) | omega))) | assumption))).trans (hb1.mono (by simp; try omega))
  clear hb1 HG
  go_wp2_with fail
  refine (HDe.out _).mono ?_
  rintro e w2 ⟨rfl, hb2⟩
  have hr2 : rowAt w2 w.heap.size #[.int .u32 r0, .int .u32 r1, .int .u32 r2, .int .u32 r3, .int .u32 r4, .int .u32 r5, .int .u32 r6, .int .u32 r7, .int .u32 pc, .int .i64 1] 104 := rowAt.below (by (repeat (first | ((with_reducible apply rowAt.new); simp; done) | (with_reducible apply rowAt.drew) | (with_reducible apply rowAt.drewN) | (with_reducible apply rowAt.alloc) | (with_reducible apply rowAt.setRow_same) | ((with_reducible apply rowAt.so); (· (first | (simp; done) | (simp; omega) | omega))) | (with_reducible apply rowAt.set10) | (with_reducible apply rowAt.set8) | (with_reducible apply rowAt.set4) | (with_reducible apply rowAt.set2) | (with_reducible apply rowAt.set) | ((with_reducible apply rowAt.co); (· (first | (simp; done) | (simp; omega) | omega))) | assumption))) hb2 (by simp; try omega)
  have hs2 : rowAt w2 (w.heap.size + 1) zeros10 104 := rowAt.below (by (repeat (first | ((with_reducible apply rowAt.new); simp; done) | (with_reducible apply rowAt.drew) | (with_reducible apply rowAt.drewN) | (with_reducible apply rowAt.alloc) | (with_reducible apply rowAt.setRow_same) | ((with_reducible apply rowAt.so); (· (first | (simp; done) | (simp; omega) | omega))) | (with_reducible apply rowAt.set10) | (with_reducible apply rowAt.set8) | (with_reducible apply rowAt.set4) | (with_reducible apply rowAt.set2) | (with_reducible apply rowAt.set) | ((with_reducible apply rowAt.co); (· (first | (simp; done) | (simp; omega) | omega))) | assumption))) hb2 (by simp; try omega)
  have ht2 : rowAt w2 (w.heap.size + 1 + 1) #[.int .i64 0, .int .u32 0] 106 := rowAt.below (by (repeat (first | ((with_reducible apply rowAt.new); simp; done) | (with_reducible apply rowAt.drew) | (with_reducible apply rowAt.drewN) | (with_reducible apply rowAt.alloc) | (with_reducible apply rowAt.setRow_same) | ((with_reducible apply rowAt.so); (· (first | (simp; done) | (simp; omega) | omega))) | (with_reducible apply rowAt.set10) | (with_reducible apply rowAt.set8) | (with_reducible apply rowAt.set4) | (with_reducible apply rowAt.set2) | (with_reducible apply rowAt.set) | ((with_reducible apply rowAt.co); (· (first | (simp; done) | (simp; omega) | omega))) | assumption))) hb2 (by simp; try omega)
  have hb2' : Below w.heap.size w w2 := (show Below w.heap.size w _ from by (repeat (first | (with_reducible exact Below.refl _ _) | (with_reducible apply Below.drew) | (with_reducible apply bl_drewN) | ((with_reducible apply bl_alloc); (· (first | (simp; done) | (simp; omega) | omega))) | ((with_reducible apply bl_row); (· (first | (simp; done) | (simp; omega) | omega))) | ((with_reducible apply bl_cell); (· (first | (simp; done) | (simp; omega) | omega))) | assumption))).trans (hb2.mono (by simp; try omega))
  clear hr1 hs1 ht1 hz1 hb1' hb2
  have hz0 : w.heap.size < w2.heap.size := hr2.lt
  have hz1 : w.heap.size + 1 < w2.heap.size := hs2.lt
  have hz2 : w.heap.size + 1 + 1 < w2.heap.size := ht2.lt
  have i0 : w2.cell? ⟨w.heap.size, 0, none⟩ = some (.int .u32 r0) := hr2.cell 0
  have i1 : w2.cell? ⟨w.heap.size, 1, none⟩ = some (.int .u32 r1) := hr2.cell 1
  have i2 : w2.cell? ⟨w.heap.size, 2, none⟩ = some (.int .u32 r2) := hr2.cell 2
  have i3 : w2.cell? ⟨w.heap.size, 3, none⟩ = some (.int .u32 r3) := hr2.cell 3
  have i4 : w2.cell? ⟨w.heap.size, 4, none⟩ = some (.int .u32 r4) := hr2.cell 4
  have i5 : w2.cell? ⟨w.heap.size, 5, none⟩ = some (.int .u32 r5) := hr2.cell 5
  have i6 : w2.cell? ⟨w.heap.size, 6, none⟩ = some (.int .u32 r6) := hr2.cell 6
  have i7 : w2.cell? ⟨w.heap.size, 7, none⟩ = some (.int .u32 r7) := hr2.cell 7
  have i8 : w2.cell? ⟨w.heap.size, 8, none⟩ = some (.int .u32 pc) := hr2.cell 8
  have i9 : w2.cell? ⟨w.heap.size, 9, none⟩ = some (.int .i64 1) := hr2.cell 9
  have s0 : w2.cell? ⟨w.heap.size + 1, 0, none⟩ = some (.int .u32 0) := hs2.cell 0
  have s1 : w2.cell? ⟨w.heap.size + 1, 1, none⟩ = some (.int .u32 0) := hs2.cell 1
  have s2 : w2.cell? ⟨w.heap.size + 1, 2, none⟩ = some (.int .u32 0) := hs2.cell 2
  have s3 : w2.cell? ⟨w.heap.size + 1, 3, none⟩ = some (.int .u32 0) := hs2.cell 3
  have s4 : w2.cell? ⟨w.heap.size + 1, 4, none⟩ = some (.int .u32 0) := hs2.cell 4
  have s5 : w2.cell? ⟨w.heap.size + 1, 5, none⟩ = some (.int .u32 0) := hs2.cell 5
  have s6 : w2.cell? ⟨w.heap.size + 1, 6, none⟩ = some (.int .u32 0) := hs2.cell 6
  have s7 : w2.cell? ⟨w.heap.size + 1, 7, none⟩ = some (.int .u32 0) := hs2.cell 7
  have s8 : w2.cell? ⟨w.heap.size + 1, 8, none⟩ = some (.int .u32 0) := hs2.cell 8
  have s9 : w2.cell? ⟨w.heap.size + 1, 9, none⟩ = some (.int .i64 0) := hs2.cell 9
  have t0 : w2.cell? ⟨w.heap.size + 1 + 1, 0, none⟩ = some (.int .i64 0) := ht2.cell 0
  have t1 : w2.cell? ⟨w.heap.size + 1 + 1, 1, none⟩ = some (.int .u32 0) := ht2.cell 1
  have fs0 : w2.frozen? ⟨w.heap.size + 1, 0, none⟩ = false := hs2.frozen 0
  have fs1 : w2.frozen? ⟨w.heap.size + 1, 1, none⟩ = false := hs2.frozen 1
  have fs2 : w2.frozen? ⟨w.heap.size + 1, 2, none⟩ = false := hs2.frozen 2
  have fs3 : w2.frozen? ⟨w.heap.size + 1, 3, none⟩ = false := hs2.frozen 3
  have fs4 : w2.frozen? ⟨w.heap.size + 1, 4, none⟩ = false := hs2.frozen 4
  have fs5 : w2.frozen? ⟨w.heap.size + 1, 5, none⟩ = false := hs2.frozen 5
  have fs6 : w2.frozen? ⟨w.heap.size + 1, 6, none⟩ = false := hs2.frozen 6
  have fs7 : w2.frozen? ⟨w.heap.size + 1, 7, none⟩ = false := hs2.frozen 7
  have fs8 : w2.frozen? ⟨w.heap.size + 1, 8, none⟩ = false := hs2.frozen 8
  have fs9 : w2.frozen? ⟨w.heap.size + 1, 9, none⟩ = false := hs2.frozen 9
  have ft0 : w2.frozen? ⟨w.heap.size + 1 + 1, 0, none⟩ = false := ht2.frozen 0
  have ft1 : w2.frozen? ⟨w.heap.size + 1 + 1, 1, none⟩ = false := ht2.frozen 1
  obtain ⟨k, q, hk, hkk, hqq⟩ : ∃ k q : Int, k ≠ 0 ∧ k = 3 ∧ q = 0 := ⟨3, 0, by decide, rfl, rfl⟩
  rcases h with rfl | rfl
  all_goals
    go_wp2_with fail
    rw [← hkk]
    refine step_end (t := 104) (t2 := 106) (cs := #[.int .u32 r0, .int .u32 r1, .int .u32 r2, .int .u32 r3, .int .u32 r4, .int .u32 r5, .int .u32 r6, .int .u32 r7, .int .u32 pc, .int .i64 1]) (cs2 := #[.int .i64 k, .int .u32 0]) rfl rfl ?_ rfl ?_ rfl rfl ⟨⟨[r0, r1, r2, r3, r4, r5, r6, r7], pc, k, 0, rfl, hk, rfl⟩, ?_⟩
    · (repeat (first | ((with_reducible apply rowAt.new); simp; done) | (with_reducible apply rowAt.drew) | (with_reducible apply rowAt.drewN) | (with_reducible apply rowAt.alloc) | (with_reducible apply rowAt.setRow_same) | ((with_reducible apply rowAt.so); (· (first | (simp; done) | (simp; omega) | omega))) | (with_reducible apply rowAt.set10) | (with_reducible apply rowAt.set8) | (with_reducible apply rowAt.set4) | (with_reducible apply rowAt.set2) | (with_reducible apply rowAt.set) | ((with_reducible apply rowAt.co); (· (first | (simp; done) | (simp; omega) | omega))) | assumption))
    · (repeat (first | ((with_reducible apply rowAt.new); simp; done) | (with_reducible apply rowAt.drew) | (with_reducible apply rowAt.drewN) | (with_reducible apply rowAt.alloc) | (with_reducible apply rowAt.setRow_same) | ((with_reducible apply rowAt.so); (· (first | (simp; done) | (simp; omega) | omega))) | (with_reducible apply rowAt.set10) | (with_reducible apply rowAt.set8) | (with_reducible apply rowAt.set4) | (with_reducible apply rowAt.set2) | (with_reducible apply rowAt.set) | ((with_reducible apply rowAt.co); (· (first | (simp; done) | (simp; omega) | omega))) | assumption))
    · exact gb_new (by (repeat (first | (with_reducible exact Below.refl _ _) | (with_reducible apply Below.drew) | (with_reducible apply bl_drewN) | ((with_reducible apply bl_alloc); (· (first | (simp; done) | (simp; omega) | omega))) | ((with_reducible apply bl_row); (· (first | (simp; done) | (simp; omega) | omega))) | ((with_reducible apply bl_cell); (· (first | (simp; done) | (simp; omega) | omega))) | assumption)))
end
end Go.Proofs.YtghjjemnegncpaaGreatDoor
