/- The walk of cpu.memory over the room. -/
import Derived.Test.YtghjjemnegncpaaGreatDoorPut
import Derived.StillTailTactics
set_option linter.unusedSimpArgs false
set_option linter.unusedVariables false
set_option linter.unusedSectionVars false
namespace Go.Proofs.YtghjjemnegncpaaGreatDoor
open Go.RowKit

theorem memory_end {R : Ending → World → Prop} {a : Act} {w : World} {g : Nat} {t : TypeId} {cs : Array Value} (hp : a.tmps.getD 6 undef = .pointer (some ⟨g, 0, none⟩))
    (hg : rowAt w g cs t) (hn : cs.size = 2) (hdf : a.defers = []) (hR : R (.returned (.agg cs)) w) : bodyPost Tryz.prog Tryz.f87 R .ret a w :=
  post_c (p := 6) (ty := 106) rfl Tryz.underlying106 rfl sizeTrap hp hg hn hdf hR

theorem m32_addc (x c : Int) : (x + c % 4294967296) % 4294967296 = Pl.m32 (x + c) := by unfold Pl.m32; omega

/-- What 'memory' comes to where no trap comes. -/
def MemIs (w0 : World) (m g gr : Nat) (wv dv : Value) (xs D R : List Int) (pc : Int) (e : Ending) (w' : World) : Prop :=
  e = .returned noTrap ∧ rowAt w' gr (regs R pc) 104 ∧ Room w' m g wv dv xs D ∧ w0.grownBy w' (some g)
def MemTrap (w0 : World) (g : Nat) (e : Ending) (w' : World) : Prop := Trap1 e ∧ w0.grownBy w' (some g)

section
variable {m g gr : Nat} {wv dv : Value} {xs D0 D R : List Int} {pc a b c : Int} {w0 w : World} (H0 : Room w0 m g wv dv xs D0) (H : Room w m g wv dv xs D) (hw0 : w0.grownBy w (some g)) (hgr : w0.heap.size ≤ gr)
  (hR : Pl.goodR R) (hD : Pl.goodD D) (ha : 0 ≤ a ∧ a < 8) (hb : 0 ≤ b ∧ b < 8) (hc : -32768 ≤ c ∧ c ≤ 32767) (hrow : rowAt w gr (regs R pc) 104)
include H0 H hw0 hgr hR hD ha hb hc hrow

set_option maxHeartbeats 1600000 in
set_option maxRecDepth 100000 in
theorem memory_load (h : Pl.okw D (Pl.m32 (Pl.rg R b + c)) = true) :
    Calls Tryz.prog 87 #[.pointer (some ⟨gr, 0, none⟩), insV ⟨15, a, b, c⟩, busV m] w (MemIs w0 m g gr wv dv xs D (Pl.sr R a (Pl.gw D (Pl.m32 (Pl.rg R b + c)))) pc) := by
  have hg := hrow.lt
  have ca : w.cell? ⟨gr, a.toNat, none⟩ = some (.int .u32 (Pl.rg R a)) := (hrow.cell _).trans (regs_at hR.1 ha.1 ha.2)
  have cb : w.cell? ⟨gr, b.toNat, none⟩ = some (.int .u32 (Pl.rg R b)) := (hrow.cell _).trans (regs_at hR.1 hb.1 hb.2)
  have fa : w.frozen? ⟨gr, a.toNat, none⟩ = false := hrow.frozen _
  have bra := Pl.rg_bd hR ha.1 ha.2
  go_enter Tryz.func87, Tryz.ntmps87
  go_wp2
  go_quiet (fail)
  rw [m32_addc]
  generalize hpe : Pl.m32 (Pl.rg R b + c) = p at *
  have hp : 0 ≤ p ∧ p < 4294967296 := by rw [← hpe]; exact Pl.m32_bd _
  clear hpe
  go_wp2_with fail
  have H1 := H.kept (Below.block (B := w.heap.size) (w' := ((w.alloc (Obj.cells #[.int .i64 15, .int .i64 a, .int .i64 b, .int .i64 c] 31)).alloc (Obj.cells #[.int .i64 0, .int .u32 0] 106)).drewN nq) (by (repeat (first | (with_reducible exact Below.refl _ _) | (with_reducible apply Below.drew) | (with_reducible apply bl_drewN) | ((with_reducible apply bl_alloc); (· (first | (simp; done) | (simp; omega) | omega))) | ((with_reducible apply bl_row); (· (first | (simp; done) | (simp; omega) | omega))) | ((with_reducible apply bl_cell); (· (first | (simp; done) | (simp; omega) | omega))) | assumption))))
  refine (fetchr_ok H1 hp hD h).mono ?_
  rintro e w1 ⟨rfl, hb1⟩
  have hi1 : rowAt w1 w.heap.size #[.int .i64 15, .int .i64 a, .int .i64 b, .int .i64 c] 31 := rowAt.below (by (repeat (first | ((with_reducible apply rowAt.new); simp; done) | (with_reducible apply rowAt.drew) | (with_reducible apply rowAt.drewN) | (with_reducible apply rowAt.alloc) | (with_reducible apply rowAt.setRow_same) | ((with_reducible apply rowAt.so); (· (first | (simp; done) | (simp; omega) | omega))) | (with_reducible apply rowAt.set10) | (with_reducible apply rowAt.set8) | (with_reducible apply rowAt.set4) | (with_reducible apply rowAt.set2) | (with_reducible apply rowAt.set) | ((with_reducible apply rowAt.co); (· (first | (simp; done) | (simp; omega) | omega))) | assumption))) hb1 (by simp; try omega)
  have ht1 : rowAt w1 (w.heap.size + 1) #[.int .i64 0, .int .u32 0] 106 := rowAt.below (by (repeat (first | ((with_reducible apply rowAt.new); simp; done) | (with_reducible apply rowAt.drew) | (with_reducible apply rowAt.drewN) | (with_reducible apply rowAt.alloc) | (with_reducible apply rowAt.setRow_same) | ((with_reducible apply rowAt.so); (· (first | (simp; done) | (simp; omega) | omega))) | (with_reducible apply rowAt.set10) | (with_reducible apply rowAt.set8) | (with_reducible apply rowAt.set4) | (with_reducible apply rowAt.set2) | (with_reducible apply rowAt.set) | ((with_reducible apply rowAt.co); (· (first | (simp; done) | (simp; omega) | omega))) | assumption))) hb1 (by simp; try omega)
  have hr1 : rowAt w1 gr (regs R pc) 104 := rowAt.below (by (repeat (first | ((with_reducible apply rowAt.new); simp; done) | (with_reducible apply rowAt.drew) | (with_reducible apply rowAt.drewN) | (with_reducible apply rowAt.alloc) | (with_reducible apply rowAt.setRow_same) | ((with_reducible apply rowAt.so); (· (first | (simp; done) | (simp; omega) | omega))) | (with_reducible apply rowAt.set10) | (with_reducible apply rowAt.set8) | (with_reducible apply rowAt.set4) | (with_reducible apply rowAt.set2) | (with_reducible apply rowAt.set) | ((with_reducible apply rowAt.co); (· (first | (simp; done) | (simp; omega) | omega))) | assumption))) hb1 (by simp; omega)
  have hz1 : w.heap.size + 1 < w1.heap.size := ht1.lt
  have hz0 : w.heap.size < w1.heap.size := hi1.lt
  have i0 : w1.cell? ⟨w.heap.size, 0, none⟩ = some (.int .i64 15) := hi1.cell 0
  have i1 : w1.cell? ⟨w.heap.size, 1, none⟩ = some (.int .i64 a) := hi1.cell 1
  have i2 : w1.cell? ⟨w.heap.size, 2, none⟩ = some (.int .i64 b) := hi1.cell 2
  have i3 : w1.cell? ⟨w.heap.size, 3, none⟩ = some (.int .i64 c) := hi1.cell 3
  have t0 : w1.cell? ⟨w.heap.size + 1, 0, none⟩ = some (.int .i64 0) := ht1.cell 0
  have t1 : w1.cell? ⟨w.heap.size + 1, 1, none⟩ = some (.int .u32 0) := ht1.cell 1
  have ft0 : w1.frozen? ⟨w.heap.size + 1, 0, none⟩ = false := ht1.frozen 0
  have ft1 : w1.frozen? ⟨w.heap.size + 1, 1, none⟩ = false := ht1.frozen 1
  have ca1 : w1.cell? ⟨gr, a.toNat, none⟩ = some (.int .u32 (Pl.rg R a)) := (hr1.cell _).trans (regs_at hR.1 ha.1 ha.2)
  have fa1 : w1.frozen? ⟨gr, a.toNat, none⟩ = false := hr1.frozen _
  have hg1 : gr < w1.heap.size := hr1.lt
  have hb3 : Below w0.heap.size w w1 := ((show Below w.heap.size w _ from by (repeat (first | (with_reducible exact Below.refl _ _) | (with_reducible apply Below.drew) | (with_reducible apply bl_drewN) | ((with_reducible apply bl_alloc); (· (first | (simp; done) | (simp; omega) | omega))) | ((with_reducible apply bl_row); (· (first | (simp; done) | (simp; omega) | omega))) | ((with_reducible apply bl_cell); (· (first | (simp; done) | (simp; omega) | omega))) | assumption))).trans (hb1.mono (by simp; try omega))).mono hw0.size
  have hs0 := hw0.size
  clear ca cb fa
  go_wp2_with fail
  go_region
  go_wp2_with fail
  refine memory_end (t := 106) (cs := #[.int .i64 0, .int .u32 0]) rfl ?_ rfl rfl ⟨rfl, ?_, ?_, ?_⟩
  · (repeat (first | ((with_reducible apply rowAt.new); simp; done) | (with_reducible apply rowAt.drew) | (with_reducible apply rowAt.drewN) | (with_reducible apply rowAt.alloc) | (with_reducible apply rowAt.setRow_same) | ((with_reducible apply rowAt.so); (· (first | (simp; done) | (simp; omega) | omega))) | (with_reducible apply rowAt.set10) | (with_reducible apply rowAt.set8) | (with_reducible apply rowAt.set4) | (with_reducible apply rowAt.set2) | (with_reducible apply rowAt.set) | ((with_reducible apply rowAt.co); (· (first | (simp; done) | (simp; omega) | omega))) | assumption))
  · first | (rw [← regs_set (pc := pc) hR.1 ha.1 ha.2]; (repeat (first | ((with_reducible apply rowAt.new); simp; done) | (with_reducible apply rowAt.drew) | (with_reducible apply rowAt.drewN) | (with_reducible apply rowAt.alloc) | (with_reducible apply rowAt.setRow_same) | ((with_reducible apply rowAt.so); (· (first | (simp; done) | (simp; omega) | omega))) | (with_reducible apply rowAt.set10) | (with_reducible apply rowAt.set8) | (with_reducible apply rowAt.set4) | (with_reducible apply rowAt.set2) | (with_reducible apply rowAt.set) | ((with_reducible apply rowAt.co); (· (first | (simp; done) | (simp; omega) | omega))) | assumption))) | (repeat (first | ((with_reducible apply rowAt.new); simp; done) | (with_reducible apply rowAt.drew) | (with_reducible apply rowAt.drewN) | (with_reducible apply rowAt.alloc) | (with_reducible apply rowAt.setRow_same) | ((with_reducible apply rowAt.so); (· (first | (simp; done) | (simp; omega) | omega))) | (with_reducible apply rowAt.set10) | (with_reducible apply rowAt.set8) | (with_reducible apply rowAt.set4) | (with_reducible apply rowAt.set2) | (with_reducible apply rowAt.set) | ((with_reducible apply rowAt.co); (· (first | (simp; done) | (simp; omega) | omega))) | assumption))
  · exact H0.kept2 H (Below.block (by (repeat (first | (with_reducible exact Below.refl _ _) | (with_reducible apply Below.drew) | (with_reducible apply bl_drewN) | ((with_reducible apply bl_alloc); (· (first | (simp; done) | (simp; omega) | omega))) | ((with_reducible apply bl_row); (· (first | (simp; done) | (simp; omega) | omega))) | ((with_reducible apply bl_cell); (· (first | (simp; done) | (simp; omega) | omega))) | assumption))))
  · exact gb_below (B := w0.heap.size) (by (repeat (first | (with_reducible exact Below.refl _ _) | (with_reducible apply Below.drew) | (with_reducible apply bl_drewN) | ((with_reducible apply bl_alloc); (· (first | (simp; done) | (simp; omega) | omega))) | ((with_reducible apply bl_row); (· (first | (simp; done) | (simp; omega) | omega))) | ((with_reducible apply bl_cell); (· (first | (simp; done) | (simp; omega) | omega))) | assumption))) (Nat.le_refl _) hw0

set_option maxHeartbeats 1600000 in
set_option maxRecDepth 100000 in
theorem memory_load_no (h : Pl.okw D (Pl.m32 (Pl.rg R b + c)) = false) :
    Calls Tryz.prog 87 #[.pointer (some ⟨gr, 0, none⟩), insV ⟨15, a, b, c⟩, busV m] w (MemTrap w0 g) := by
  have hg := hrow.lt
  have ca : w.cell? ⟨gr, a.toNat, none⟩ = some (.int .u32 (Pl.rg R a)) := (hrow.cell _).trans (regs_at hR.1 ha.1 ha.2)
  have cb : w.cell? ⟨gr, b.toNat, none⟩ = some (.int .u32 (Pl.rg R b)) := (hrow.cell _).trans (regs_at hR.1 hb.1 hb.2)
  have fa : w.frozen? ⟨gr, a.toNat, none⟩ = false := hrow.frozen _
  have bra := Pl.rg_bd hR ha.1 ha.2
  go_enter Tryz.func87, Tryz.ntmps87
  go_wp2
  go_quiet (fail)
  rw [m32_addc]
  generalize hpe : Pl.m32 (Pl.rg R b + c) = p at *
  have hp : 0 ≤ p ∧ p < 4294967296 := by rw [← hpe]; exact Pl.m32_bd _
  clear hpe
  go_wp2_with fail
  have H1 := H.kept (Below.block (B := w.heap.size) (w' := ((w.alloc (Obj.cells #[.int .i64 15, .int .i64 a, .int .i64 b, .int .i64 c] 31)).alloc (Obj.cells #[.int .i64 0, .int .u32 0] 106)).drewN nq) (by (repeat (first | (with_reducible exact Below.refl _ _) | (with_reducible apply Below.drew) | (with_reducible apply bl_drewN) | ((with_reducible apply bl_alloc); (· (first | (simp; done) | (simp; omega) | omega))) | ((with_reducible apply bl_row); (· (first | (simp; done) | (simp; omega) | omega))) | ((with_reducible apply bl_cell); (· (first | (simp; done) | (simp; omega) | omega))) | assumption))))
  refine (fetchr_no H1 hp h).mono ?_
  rintro e w1 ⟨⟨k, q, hk, rfl⟩, hb1⟩
  have hk' : (k == 0) = false := by simpa using hk
  have hi1 : rowAt w1 w.heap.size #[.int .i64 15, .int .i64 a, .int .i64 b, .int .i64 c] 31 := rowAt.below (by (repeat (first | ((with_reducible apply rowAt.new); simp; done) | (with_reducible apply rowAt.drew) | (with_reducible apply rowAt.drewN) | (with_reducible apply rowAt.alloc) | (with_reducible apply rowAt.setRow_same) | ((with_reducible apply rowAt.so); (· (first | (simp; done) | (simp; omega) | omega))) | (with_reducible apply rowAt.set10) | (with_reducible apply rowAt.set8) | (with_reducible apply rowAt.set4) | (with_reducible apply rowAt.set2) | (with_reducible apply rowAt.set) | ((with_reducible apply rowAt.co); (· (first | (simp; done) | (simp; omega) | omega))) | assumption))) hb1 (by simp; try omega)
  have ht1 : rowAt w1 (w.heap.size + 1) #[.int .i64 0, .int .u32 0] 106 := rowAt.below (by (repeat (first | ((with_reducible apply rowAt.new); simp; done) | (with_reducible apply rowAt.drew) | (with_reducible apply rowAt.drewN) | (with_reducible apply rowAt.alloc) | (with_reducible apply rowAt.setRow_same) | ((with_reducible apply rowAt.so); (· (first | (simp; done) | (simp; omega) | omega))) | (with_reducible apply rowAt.set10) | (with_reducible apply rowAt.set8) | (with_reducible apply rowAt.set4) | (with_reducible apply rowAt.set2) | (with_reducible apply rowAt.set) | ((with_reducible apply rowAt.co); (· (first | (simp; done) | (simp; omega) | omega))) | assumption))) hb1 (by simp; try omega)
  have hr1 : rowAt w1 gr (regs R pc) 104 := rowAt.below (by (repeat (first | ((with_reducible apply rowAt.new); simp; done) | (with_reducible apply rowAt.drew) | (with_reducible apply rowAt.drewN) | (with_reducible apply rowAt.alloc) | (with_reducible apply rowAt.setRow_same) | ((with_reducible apply rowAt.so); (· (first | (simp; done) | (simp; omega) | omega))) | (with_reducible apply rowAt.set10) | (with_reducible apply rowAt.set8) | (with_reducible apply rowAt.set4) | (with_reducible apply rowAt.set2) | (with_reducible apply rowAt.set) | ((with_reducible apply rowAt.co); (· (first | (simp; done) | (simp; omega) | omega))) | assumption))) hb1 (by simp; omega)
  have hz1 : w.heap.size + 1 < w1.heap.size := ht1.lt
  have hz0 : w.heap.size < w1.heap.size := hi1.lt
  have i0 : w1.cell? ⟨w.heap.size, 0, none⟩ = some (.int .i64 15) := hi1.cell 0
  have i1 : w1.cell? ⟨w.heap.size, 1, none⟩ = some (.int .i64 a) := hi1.cell 1
  have i2 : w1.cell? ⟨w.heap.size, 2, none⟩ = some (.int .i64 b) := hi1.cell 2
  have i3 : w1.cell? ⟨w.heap.size, 3, none⟩ = some (.int .i64 c) := hi1.cell 3
  have t0 : w1.cell? ⟨w.heap.size + 1, 0, none⟩ = some (.int .i64 0) := ht1.cell 0
  have t1 : w1.cell? ⟨w.heap.size + 1, 1, none⟩ = some (.int .u32 0) := ht1.cell 1
  have ft0 : w1.frozen? ⟨w.heap.size + 1, 0, none⟩ = false := ht1.frozen 0
  have ft1 : w1.frozen? ⟨w.heap.size + 1, 1, none⟩ = false := ht1.frozen 1
  have ca1 : w1.cell? ⟨gr, a.toNat, none⟩ = some (.int .u32 (Pl.rg R a)) := (hr1.cell _).trans (regs_at hR.1 ha.1 ha.2)
  have fa1 : w1.frozen? ⟨gr, a.toNat, none⟩ = false := hr1.frozen _
  have hg1 : gr < w1.heap.size := hr1.lt
  have hb3 : Below w0.heap.size w w1 := ((show Below w.heap.size w _ from by (repeat (first | (with_reducible exact Below.refl _ _) | (with_reducible apply Below.drew) | (with_reducible apply bl_drewN) | ((with_reducible apply bl_alloc); (· (first | (simp; done) | (simp; omega) | omega))) | ((with_reducible apply bl_row); (· (first | (simp; done) | (simp; omega) | omega))) | ((with_reducible apply bl_cell); (· (first | (simp; done) | (simp; omega) | omega))) | assumption))).trans (hb1.mono (by simp; try omega))).mono hw0.size
  have hs0 := hw0.size
  clear ca cb fa
  go_wp2_with fail
  refine memory_end (t := 106) (cs := #[.int .i64 k, .int .u32 q]) rfl ?_ rfl rfl ⟨⟨k, q, hk, rfl⟩, ?_⟩
  · (repeat (first | ((with_reducible apply rowAt.new); simp; done) | (with_reducible apply rowAt.drew) | (with_reducible apply rowAt.drewN) | (with_reducible apply rowAt.alloc) | (with_reducible apply rowAt.setRow_same) | ((with_reducible apply rowAt.so); (· (first | (simp; done) | (simp; omega) | omega))) | (with_reducible apply rowAt.set10) | (with_reducible apply rowAt.set8) | (with_reducible apply rowAt.set4) | (with_reducible apply rowAt.set2) | (with_reducible apply rowAt.set) | ((with_reducible apply rowAt.co); (· (first | (simp; done) | (simp; omega) | omega))) | assumption))
  · exact gb_below (B := w0.heap.size) (by (repeat (first | (with_reducible exact Below.refl _ _) | (with_reducible apply Below.drew) | (with_reducible apply bl_drewN) | ((with_reducible apply bl_alloc); (· (first | (simp; done) | (simp; omega) | omega))) | ((with_reducible apply bl_row); (· (first | (simp; done) | (simp; omega) | omega))) | ((with_reducible apply bl_cell); (· (first | (simp; done) | (simp; omega) | omega))) | assumption))) (Nat.le_refl _) hw0

set_option maxHeartbeats 1600000 in
set_option maxRecDepth 100000 in
theorem memory_loadb (h : Pl.ok1 D (Pl.m32 (Pl.rg R b + c)) = true) :
    Calls Tryz.prog 87 #[.pointer (some ⟨gr, 0, none⟩), insV ⟨16, a, b, c⟩, busV m] w (MemIs w0 m g gr wv dv xs D (Pl.sr R a (Pl.gb D (Pl.m32 (Pl.rg R b + c)))) pc) := by
  have ms := method_load m
  have hg := hrow.lt
  have ca : w.cell? ⟨gr, a.toNat, none⟩ = some (.int .u32 (Pl.rg R a)) := (hrow.cell _).trans (regs_at hR.1 ha.1 ha.2)
  have cb : w.cell? ⟨gr, b.toNat, none⟩ = some (.int .u32 (Pl.rg R b)) := (hrow.cell _).trans (regs_at hR.1 hb.1 hb.2)
  have fa : w.frozen? ⟨gr, a.toNat, none⟩ = false := hrow.frozen _
  have bra := Pl.rg_bd hR ha.1 ha.2
  go_enter Tryz.func87, Tryz.ntmps87
  go_wp2
  go_quiet (fail)
  rw [m32_addc]
  generalize hpe : Pl.m32 (Pl.rg R b + c) = p at *
  have hp : 0 ≤ p ∧ p < 4294967296 := by rw [← hpe]; exact Pl.m32_bd _
  clear hpe
  go_wp2_with fail
  have H1 := H.kept (Below.block (B := w.heap.size) (w' := ((w.alloc (Obj.cells #[.int .i64 16, .int .i64 a, .int .i64 b, .int .i64 c] 31)).alloc (Obj.cells #[.int .i64 0, .int .u32 0] 106)).drewN nq) (by (repeat (first | (with_reducible exact Below.refl _ _) | (with_reducible apply Below.drew) | (with_reducible apply bl_drewN) | ((with_reducible apply bl_alloc); (· (first | (simp; done) | (simp; omega) | omega))) | ((with_reducible apply bl_row); (· (first | (simp; done) | (simp; omega) | omega))) | ((with_reducible apply bl_cell); (· (first | (simp; done) | (simp; omega) | omega))) | assumption))))
  refine (Load_read H1 hp h).mono ?_
  rintro e w1 ⟨rfl, rfl⟩
  have bgb := Pl.gb_bd hD p
  have hs0 := hw0.size
  go_wp2_with fail
  go_outline
  go_region
  go_wp2_with fail
  refine memory_end (t := 106) (cs := #[.int .i64 0, .int .u32 0]) rfl ?_ rfl rfl ⟨rfl, ?_, ?_, ?_⟩
  · (repeat (first | ((with_reducible apply rowAt.new); simp; done) | (with_reducible apply rowAt.drew) | (with_reducible apply rowAt.drewN) | (with_reducible apply rowAt.alloc) | (with_reducible apply rowAt.setRow_same) | ((with_reducible apply rowAt.so); (· (first | (simp; done) | (simp; omega) | omega))) | (with_reducible apply rowAt.set10) | (with_reducible apply rowAt.set8) | (with_reducible apply rowAt.set4) | (with_reducible apply rowAt.set2) | (with_reducible apply rowAt.set) | ((with_reducible apply rowAt.co); (· (first | (simp; done) | (simp; omega) | omega))) | assumption))
  · first | (rw [← regs_set (pc := pc) hR.1 ha.1 ha.2]; (repeat (first | ((with_reducible apply rowAt.new); simp; done) | (with_reducible apply rowAt.drew) | (with_reducible apply rowAt.drewN) | (with_reducible apply rowAt.alloc) | (with_reducible apply rowAt.setRow_same) | ((with_reducible apply rowAt.so); (· (first | (simp; done) | (simp; omega) | omega))) | (with_reducible apply rowAt.set10) | (with_reducible apply rowAt.set8) | (with_reducible apply rowAt.set4) | (with_reducible apply rowAt.set2) | (with_reducible apply rowAt.set) | ((with_reducible apply rowAt.co); (· (first | (simp; done) | (simp; omega) | omega))) | assumption))) | (repeat (first | ((with_reducible apply rowAt.new); simp; done) | (with_reducible apply rowAt.drew) | (with_reducible apply rowAt.drewN) | (with_reducible apply rowAt.alloc) | (with_reducible apply rowAt.setRow_same) | ((with_reducible apply rowAt.so); (· (first | (simp; done) | (simp; omega) | omega))) | (with_reducible apply rowAt.set10) | (with_reducible apply rowAt.set8) | (with_reducible apply rowAt.set4) | (with_reducible apply rowAt.set2) | (with_reducible apply rowAt.set) | ((with_reducible apply rowAt.co); (· (first | (simp; done) | (simp; omega) | omega))) | assumption))
  · exact H0.kept2 H (Below.block (by (repeat (first | (with_reducible exact Below.refl _ _) | (with_reducible apply Below.drew) | (with_reducible apply bl_drewN) | ((with_reducible apply bl_alloc); (· (first | (simp; done) | (simp; omega) | omega))) | ((with_reducible apply bl_row); (· (first | (simp; done) | (simp; omega) | omega))) | ((with_reducible apply bl_cell); (· (first | (simp; done) | (simp; omega) | omega))) | assumption))))
  · exact gb_below (B := w0.heap.size) (by (repeat (first | (with_reducible exact Below.refl _ _) | (with_reducible apply Below.drew) | (with_reducible apply bl_drewN) | ((with_reducible apply bl_alloc); (· (first | (simp; done) | (simp; omega) | omega))) | ((with_reducible apply bl_row); (· (first | (simp; done) | (simp; omega) | omega))) | ((with_reducible apply bl_cell); (· (first | (simp; done) | (simp; omega) | omega))) | assumption))) (Nat.le_refl _) hw0

set_option maxHeartbeats 1600000 in
set_option maxRecDepth 100000 in
theorem memory_loadb_no (h : Pl.ok1 D (Pl.m32 (Pl.rg R b + c)) = false) :
    Calls Tryz.prog 87 #[.pointer (some ⟨gr, 0, none⟩), insV ⟨16, a, b, c⟩, busV m] w (MemTrap w0 g) := by
  have ms := method_load m
  have hg := hrow.lt
  have ca : w.cell? ⟨gr, a.toNat, none⟩ = some (.int .u32 (Pl.rg R a)) := (hrow.cell _).trans (regs_at hR.1 ha.1 ha.2)
  have cb : w.cell? ⟨gr, b.toNat, none⟩ = some (.int .u32 (Pl.rg R b)) := (hrow.cell _).trans (regs_at hR.1 hb.1 hb.2)
  have fa : w.frozen? ⟨gr, a.toNat, none⟩ = false := hrow.frozen _
  have bra := Pl.rg_bd hR ha.1 ha.2
  go_enter Tryz.func87, Tryz.ntmps87
  go_wp2
  go_quiet (fail)
  rw [m32_addc]
  generalize hpe : Pl.m32 (Pl.rg R b + c) = p at *
  have hp : 0 ≤ p ∧ p < 4294967296 := by rw [← hpe]; exact Pl.m32_bd _
  clear hpe
  go_wp2_with fail
  have H1 := H.kept (Below.block (B := w.heap.size) (w' := ((w.alloc (Obj.cells #[.int .i64 16, .int .i64 a, .int .i64 b, .int .i64 c] 31)).alloc (Obj.cells #[.int .i64 0, .int .u32 0] 106)).drewN nq) (by (repeat (first | (with_reducible exact Below.refl _ _) | (with_reducible apply Below.drew) | (with_reducible apply bl_drewN) | ((with_reducible apply bl_alloc); (· (first | (simp; done) | (simp; omega) | omega))) | ((with_reducible apply bl_row); (· (first | (simp; done) | (simp; omega) | omega))) | ((with_reducible apply bl_cell); (· (first | (simp; done) | (simp; omega) | omega))) | assumption))))
  refine (Load_read_no H1 hp h).mono ?_
  rintro e w1 ⟨rfl, rfl⟩
  have hs0 := hw0.size
  go_wp2_with fail
  refine memory_end (t := 106) (cs := #[.int .i64 2, .int .u32 p]) rfl ?_ rfl rfl ⟨⟨2, p, by decide, rfl⟩, ?_⟩
  · (repeat (first | ((with_reducible apply rowAt.new); simp; done) | (with_reducible apply rowAt.drew) | (with_reducible apply rowAt.drewN) | (with_reducible apply rowAt.alloc) | (with_reducible apply rowAt.setRow_same) | ((with_reducible apply rowAt.so); (· (first | (simp; done) | (simp; omega) | omega))) | (with_reducible apply rowAt.set10) | (with_reducible apply rowAt.set8) | (with_reducible apply rowAt.set4) | (with_reducible apply rowAt.set2) | (with_reducible apply rowAt.set) | ((with_reducible apply rowAt.co); (· (first | (simp; done) | (simp; omega) | omega))) | assumption))
  · exact gb_below (B := w0.heap.size) (by (repeat (first | (with_reducible exact Below.refl _ _) | (with_reducible apply Below.drew) | (with_reducible apply bl_drewN) | ((with_reducible apply bl_alloc); (· (first | (simp; done) | (simp; omega) | omega))) | ((with_reducible apply bl_row); (· (first | (simp; done) | (simp; omega) | omega))) | ((with_reducible apply bl_cell); (· (first | (simp; done) | (simp; omega) | omega))) | assumption))) (Nat.le_refl _) hw0

set_option maxHeartbeats 1600000 in
set_option maxRecDepth 100000 in
theorem memory_store (h : Pl.okw D (Pl.m32 (Pl.rg R b + c)) = true) :
    Calls Tryz.prog 87 #[.pointer (some ⟨gr, 0, none⟩), insV ⟨17, a, b, c⟩, busV m] w (MemIs w0 m g gr wv dv xs (Pl.pw D (Pl.m32 (Pl.rg R b + c)) (Pl.rg R a)) R pc) := by
  have hg := hrow.lt
  have ca : w.cell? ⟨gr, a.toNat, none⟩ = some (.int .u32 (Pl.rg R a)) := (hrow.cell _).trans (regs_at hR.1 ha.1 ha.2)
  have cb : w.cell? ⟨gr, b.toNat, none⟩ = some (.int .u32 (Pl.rg R b)) := (hrow.cell _).trans (regs_at hR.1 hb.1 hb.2)
  have fa : w.frozen? ⟨gr, a.toNat, none⟩ = false := hrow.frozen _
  have bra := Pl.rg_bd hR ha.1 ha.2
  go_enter Tryz.func87, Tryz.ntmps87
  go_wp2
  go_quiet (fail)
  rw [m32_addc]
  generalize hpe : Pl.m32 (Pl.rg R b + c) = p at *
  have hp : 0 ≤ p ∧ p < 4294967296 := by rw [← hpe]; exact Pl.m32_bd _
  clear hpe
  go_wp2_with fail
  refine wp_region_still_tail 9 (by kernel_rfl) (by kernel_rfl) ?_
  simp only [List.take_succ_cons, List.take_zero, List.drop_succ_cons, List.drop_zero, World.drew_eq, World.drew_drewN]
  repeat still_step
  refine wpStill_nil ?_
  go_wp2_with fail
  have H1 := H.kept (Below.block (B := w.heap.size) (w' := ((w.alloc (Obj.cells #[.int .i64 17, .int .i64 a, .int .i64 b, .int .i64 c] 31)).alloc (Obj.cells #[.int .i64 0, .int .u32 0] 106)).drewN (nq + 1)) (by (repeat (first | (with_reducible exact Below.refl _ _) | (with_reducible apply Below.drew) | (with_reducible apply bl_drewN) | ((with_reducible apply bl_alloc); (· (first | (simp; done) | (simp; omega) | omega))) | ((with_reducible apply bl_row); (· (first | (simp; done) | (simp; omega) | omega))) | ((with_reducible apply bl_cell); (· (first | (simp; done) | (simp; omega) | omega))) | assumption))))
  refine (put_ok H1 hp bra h).mono ?_
  rintro e w1 ⟨rfl, hr2, hg2⟩
  have hgl : g < w0.heap.size := H0.gl
  have hs0 := hw0.size
  have hi1 : rowAt w1 w.heap.size #[.int .i64 17, .int .i64 a, .int .i64 b, .int .i64 c] 31 := rowAt.grown (by (repeat (first | ((with_reducible apply rowAt.new); simp; done) | (with_reducible apply rowAt.drew) | (with_reducible apply rowAt.drewN) | (with_reducible apply rowAt.alloc) | (with_reducible apply rowAt.setRow_same) | ((with_reducible apply rowAt.so); (· (first | (simp; done) | (simp; omega) | omega))) | (with_reducible apply rowAt.set10) | (with_reducible apply rowAt.set8) | (with_reducible apply rowAt.set4) | (with_reducible apply rowAt.set2) | (with_reducible apply rowAt.set) | ((with_reducible apply rowAt.co); (· (first | (simp; done) | (simp; omega) | omega))) | assumption))) hg2 (fun e => by have := Option.some.inj e; omega)
  have ht1 : rowAt w1 (w.heap.size + 1) #[.int .i64 0, .int .u32 0] 106 := rowAt.grown (by (repeat (first | ((with_reducible apply rowAt.new); simp; done) | (with_reducible apply rowAt.drew) | (with_reducible apply rowAt.drewN) | (with_reducible apply rowAt.alloc) | (with_reducible apply rowAt.setRow_same) | ((with_reducible apply rowAt.so); (· (first | (simp; done) | (simp; omega) | omega))) | (with_reducible apply rowAt.set10) | (with_reducible apply rowAt.set8) | (with_reducible apply rowAt.set4) | (with_reducible apply rowAt.set2) | (with_reducible apply rowAt.set) | ((with_reducible apply rowAt.co); (· (first | (simp; done) | (simp; omega) | omega))) | assumption))) hg2 (fun e => by have := Option.some.inj e; omega)
  have hr1 : rowAt w1 gr (regs R pc) 104 := rowAt.grown (by (repeat (first | ((with_reducible apply rowAt.new); simp; done) | (with_reducible apply rowAt.drew) | (with_reducible apply rowAt.drewN) | (with_reducible apply rowAt.alloc) | (with_reducible apply rowAt.setRow_same) | ((with_reducible apply rowAt.so); (· (first | (simp; done) | (simp; omega) | omega))) | (with_reducible apply rowAt.set10) | (with_reducible apply rowAt.set8) | (with_reducible apply rowAt.set4) | (with_reducible apply rowAt.set2) | (with_reducible apply rowAt.set) | ((with_reducible apply rowAt.co); (· (first | (simp; done) | (simp; omega) | omega))) | assumption))) hg2 (fun e => by have := Option.some.inj e; omega)
  have hz1 : w.heap.size + 1 < w1.heap.size := ht1.lt
  have hz0 : w.heap.size < w1.heap.size := hi1.lt
  have i0 : w1.cell? ⟨w.heap.size, 0, none⟩ = some (.int .i64 17) := hi1.cell 0
  have i1 : w1.cell? ⟨w.heap.size, 1, none⟩ = some (.int .i64 a) := hi1.cell 1
  have i2 : w1.cell? ⟨w.heap.size, 2, none⟩ = some (.int .i64 b) := hi1.cell 2
  have i3 : w1.cell? ⟨w.heap.size, 3, none⟩ = some (.int .i64 c) := hi1.cell 3
  have t0 : w1.cell? ⟨w.heap.size + 1, 0, none⟩ = some (.int .i64 0) := ht1.cell 0
  have t1 : w1.cell? ⟨w.heap.size + 1, 1, none⟩ = some (.int .u32 0) := ht1.cell 1
  have ft0 : w1.frozen? ⟨w.heap.size + 1, 0, none⟩ = false := ht1.frozen 0
  have ft1 : w1.frozen? ⟨w.heap.size + 1, 1, none⟩ = false := ht1.frozen 1
  have ca1 : w1.cell? ⟨gr, a.toNat, none⟩ = some (.int .u32 (Pl.rg R a)) := (hr1.cell _).trans (regs_at hR.1 ha.1 ha.2)
  have fa1 : w1.frozen? ⟨gr, a.toNat, none⟩ = false := hr1.frozen _
  have hg1 : gr < w1.heap.size := hr1.lt
  have hgb1 : w0.grownBy w1 (some g) := gb_trans hg2 (by (repeat (first | (with_reducible exact gb_refl _ _) | (with_reducible apply gb_drew) | (with_reducible apply gb_drewN) | (with_reducible apply gb_alloc) | ((with_reducible apply gb_cell); (· (first | exact .inl rfl | (right; (first | (simp; done) | (simp; omega) | omega))))) | ((with_reducible apply gb_row); (· (first | exact .inl rfl | (right; (first | (simp; done) | (simp; omega) | omega))))) | assumption)))
  clear ca cb fa
  go_wp2_with fail
  refine memory_end (t := 106) (cs := #[.int .i64 0, .int .u32 0]) rfl ?_ rfl rfl ⟨rfl, ?_, ?_, ?_⟩
  · (repeat (first | ((with_reducible apply rowAt.new); simp; done) | (with_reducible apply rowAt.drew) | (with_reducible apply rowAt.drewN) | (with_reducible apply rowAt.alloc) | (with_reducible apply rowAt.setRow_same) | ((with_reducible apply rowAt.so); (· (first | (simp; done) | (simp; omega) | omega))) | (with_reducible apply rowAt.set10) | (with_reducible apply rowAt.set8) | (with_reducible apply rowAt.set4) | (with_reducible apply rowAt.set2) | (with_reducible apply rowAt.set) | ((with_reducible apply rowAt.co); (· (first | (simp; done) | (simp; omega) | omega))) | assumption))
  · first | (rw [← regs_set (pc := pc) hR.1 ha.1 ha.2]; (repeat (first | ((with_reducible apply rowAt.new); simp; done) | (with_reducible apply rowAt.drew) | (with_reducible apply rowAt.drewN) | (with_reducible apply rowAt.alloc) | (with_reducible apply rowAt.setRow_same) | ((with_reducible apply rowAt.so); (· (first | (simp; done) | (simp; omega) | omega))) | (with_reducible apply rowAt.set10) | (with_reducible apply rowAt.set8) | (with_reducible apply rowAt.set4) | (with_reducible apply rowAt.set2) | (with_reducible apply rowAt.set) | ((with_reducible apply rowAt.co); (· (first | (simp; done) | (simp; omega) | omega))) | assumption))) | (repeat (first | ((with_reducible apply rowAt.new); simp; done) | (with_reducible apply rowAt.drew) | (with_reducible apply rowAt.drewN) | (with_reducible apply rowAt.alloc) | (with_reducible apply rowAt.setRow_same) | ((with_reducible apply rowAt.so); (· (first | (simp; done) | (simp; omega) | omega))) | (with_reducible apply rowAt.set10) | (with_reducible apply rowAt.set8) | (with_reducible apply rowAt.set4) | (with_reducible apply rowAt.set2) | (with_reducible apply rowAt.set) | ((with_reducible apply rowAt.co); (· (first | (simp; done) | (simp; omega) | omega))) | assumption))
  · exact H0.kept2 hr2 (Below.block (B := w0.heap.size) (by (repeat (first | (with_reducible exact Below.refl _ _) | (with_reducible apply Below.drew) | (with_reducible apply bl_drewN) | ((with_reducible apply bl_alloc); (· (first | (simp; done) | (simp; omega) | omega))) | ((with_reducible apply bl_row); (· (first | (simp; done) | (simp; omega) | omega))) | ((with_reducible apply bl_cell); (· (first | (simp; done) | (simp; omega) | omega))) | assumption))))
  · (repeat (first | (with_reducible exact gb_refl _ _) | (with_reducible apply gb_drew) | (with_reducible apply gb_drewN) | (with_reducible apply gb_alloc) | ((with_reducible apply gb_cell); (· (first | exact .inl rfl | (right; (first | (simp; done) | (simp; omega) | omega))))) | ((with_reducible apply gb_row); (· (first | exact .inl rfl | (right; (first | (simp; done) | (simp; omega) | omega))))) | assumption))

set_option maxHeartbeats 1600000 in
set_option maxRecDepth 100000 in
theorem memory_store_no (h : Pl.okw D (Pl.m32 (Pl.rg R b + c)) = false) :
    Calls Tryz.prog 87 #[.pointer (some ⟨gr, 0, none⟩), insV ⟨17, a, b, c⟩, busV m] w (MemTrap w0 g) := by
  have hg := hrow.lt
  have ca : w.cell? ⟨gr, a.toNat, none⟩ = some (.int .u32 (Pl.rg R a)) := (hrow.cell _).trans (regs_at hR.1 ha.1 ha.2)
  have cb : w.cell? ⟨gr, b.toNat, none⟩ = some (.int .u32 (Pl.rg R b)) := (hrow.cell _).trans (regs_at hR.1 hb.1 hb.2)
  have fa : w.frozen? ⟨gr, a.toNat, none⟩ = false := hrow.frozen _
  have bra := Pl.rg_bd hR ha.1 ha.2
  go_enter Tryz.func87, Tryz.ntmps87
  go_wp2
  go_quiet (fail)
  rw [m32_addc]
  generalize hpe : Pl.m32 (Pl.rg R b + c) = p at *
  have hp : 0 ≤ p ∧ p < 4294967296 := by rw [← hpe]; exact Pl.m32_bd _
  clear hpe
  go_wp2_with fail
  refine wp_region_still_tail 9 (by kernel_rfl) (by kernel_rfl) ?_
  simp only [List.take_succ_cons, List.take_zero, List.drop_succ_cons, List.drop_zero, World.drew_eq, World.drew_drewN]
  repeat still_step
  refine wpStill_nil ?_
  go_wp2_with fail
  have H1 := H.kept (Below.block (B := w.heap.size) (w' := ((w.alloc (Obj.cells #[.int .i64 17, .int .i64 a, .int .i64 b, .int .i64 c] 31)).alloc (Obj.cells #[.int .i64 0, .int .u32 0] 106)).drewN (nq + 1)) (by (repeat (first | (with_reducible exact Below.refl _ _) | (with_reducible apply Below.drew) | (with_reducible apply bl_drewN) | ((with_reducible apply bl_alloc); (· (first | (simp; done) | (simp; omega) | omega))) | ((with_reducible apply bl_row); (· (first | (simp; done) | (simp; omega) | omega))) | ((with_reducible apply bl_cell); (· (first | (simp; done) | (simp; omega) | omega))) | assumption))))
  refine (put_no H1 hp bra h).mono ?_
  rintro e w1 ⟨⟨k, q, hk, rfl⟩, hg2⟩
  have hgl : g < w0.heap.size := H0.gl
  have hs0 := hw0.size
  have hi1 : rowAt w1 w.heap.size #[.int .i64 17, .int .i64 a, .int .i64 b, .int .i64 c] 31 := rowAt.grown (by (repeat (first | ((with_reducible apply rowAt.new); simp; done) | (with_reducible apply rowAt.drew) | (with_reducible apply rowAt.drewN) | (with_reducible apply rowAt.alloc) | (with_reducible apply rowAt.setRow_same) | ((with_reducible apply rowAt.so); (· (first | (simp; done) | (simp; omega) | omega))) | (with_reducible apply rowAt.set10) | (with_reducible apply rowAt.set8) | (with_reducible apply rowAt.set4) | (with_reducible apply rowAt.set2) | (with_reducible apply rowAt.set) | ((with_reducible apply rowAt.co); (· (first | (simp; done) | (simp; omega) | omega))) | assumption))) hg2 (fun e => by have := Option.some.inj e; omega)
  have ht1 : rowAt w1 (w.heap.size + 1) #[.int .i64 0, .int .u32 0] 106 := rowAt.grown (by (repeat (first | ((with_reducible apply rowAt.new); simp; done) | (with_reducible apply rowAt.drew) | (with_reducible apply rowAt.drewN) | (with_reducible apply rowAt.alloc) | (with_reducible apply rowAt.setRow_same) | ((with_reducible apply rowAt.so); (· (first | (simp; done) | (simp; omega) | omega))) | (with_reducible apply rowAt.set10) | (with_reducible apply rowAt.set8) | (with_reducible apply rowAt.set4) | (with_reducible apply rowAt.set2) | (with_reducible apply rowAt.set) | ((with_reducible apply rowAt.co); (· (first | (simp; done) | (simp; omega) | omega))) | assumption))) hg2 (fun e => by have := Option.some.inj e; omega)
  have hr1 : rowAt w1 gr (regs R pc) 104 := rowAt.grown (by (repeat (first | ((with_reducible apply rowAt.new); simp; done) | (with_reducible apply rowAt.drew) | (with_reducible apply rowAt.drewN) | (with_reducible apply rowAt.alloc) | (with_reducible apply rowAt.setRow_same) | ((with_reducible apply rowAt.so); (· (first | (simp; done) | (simp; omega) | omega))) | (with_reducible apply rowAt.set10) | (with_reducible apply rowAt.set8) | (with_reducible apply rowAt.set4) | (with_reducible apply rowAt.set2) | (with_reducible apply rowAt.set) | ((with_reducible apply rowAt.co); (· (first | (simp; done) | (simp; omega) | omega))) | assumption))) hg2 (fun e => by have := Option.some.inj e; omega)
  have hz1 : w.heap.size + 1 < w1.heap.size := ht1.lt
  have hz0 : w.heap.size < w1.heap.size := hi1.lt
  have i0 : w1.cell? ⟨w.heap.size, 0, none⟩ = some (.int .i64 17) := hi1.cell 0
  have i1 : w1.cell? ⟨w.heap.size, 1, none⟩ = some (.int .i64 a) := hi1.cell 1
  have i2 : w1.cell? ⟨w.heap.size, 2, none⟩ = some (.int .i64 b) := hi1.cell 2
  have i3 : w1.cell? ⟨w.heap.size, 3, none⟩ = some (.int .i64 c) := hi1.cell 3
  have t0 : w1.cell? ⟨w.heap.size + 1, 0, none⟩ = some (.int .i64 0) := ht1.cell 0
  have t1 : w1.cell? ⟨w.heap.size + 1, 1, none⟩ = some (.int .u32 0) := ht1.cell 1
  have ft0 : w1.frozen? ⟨w.heap.size + 1, 0, none⟩ = false := ht1.frozen 0
  have ft1 : w1.frozen? ⟨w.heap.size + 1, 1, none⟩ = false := ht1.frozen 1
  have ca1 : w1.cell? ⟨gr, a.toNat, none⟩ = some (.int .u32 (Pl.rg R a)) := (hr1.cell _).trans (regs_at hR.1 ha.1 ha.2)
  have fa1 : w1.frozen? ⟨gr, a.toNat, none⟩ = false := hr1.frozen _
  have hg1 : gr < w1.heap.size := hr1.lt
  have hgb1 : w0.grownBy w1 (some g) := gb_trans hg2 (by (repeat (first | (with_reducible exact gb_refl _ _) | (with_reducible apply gb_drew) | (with_reducible apply gb_drewN) | (with_reducible apply gb_alloc) | ((with_reducible apply gb_cell); (· (first | exact .inl rfl | (right; (first | (simp; done) | (simp; omega) | omega))))) | ((with_reducible apply gb_row); (· (first | exact .inl rfl | (right; (first | (simp; done) | (simp; omega) | omega))))) | assumption)))
  clear ca cb fa
  go_wp2_with fail
  refine memory_end (t := 106) (cs := #[.int .i64 k, .int .u32 q]) rfl ?_ rfl rfl ⟨⟨k, q, hk, rfl⟩, ?_⟩
  · (repeat (first | ((with_reducible apply rowAt.new); simp; done) | (with_reducible apply rowAt.drew) | (with_reducible apply rowAt.drewN) | (with_reducible apply rowAt.alloc) | (with_reducible apply rowAt.setRow_same) | ((with_reducible apply rowAt.so); (· (first | (simp; done) | (simp; omega) | omega))) | (with_reducible apply rowAt.set10) | (with_reducible apply rowAt.set8) | (with_reducible apply rowAt.set4) | (with_reducible apply rowAt.set2) | (with_reducible apply rowAt.set) | ((with_reducible apply rowAt.co); (· (first | (simp; done) | (simp; omega) | omega))) | assumption))
  · (repeat (first | (with_reducible exact gb_refl _ _) | (with_reducible apply gb_drew) | (with_reducible apply gb_drewN) | (with_reducible apply gb_alloc) | ((with_reducible apply gb_cell); (· (first | exact .inl rfl | (right; (first | (simp; done) | (simp; omega) | omega))))) | ((with_reducible apply gb_row); (· (first | exact .inl rfl | (right; (first | (simp; done) | (simp; omega) | omega))))) | assumption))

set_option maxHeartbeats 1600000 in
set_option maxRecDepth 100000 in
theorem memory_storeb (h : Pl.ok1 D (Pl.m32 (Pl.rg R b + c)) = true) :
    Calls Tryz.prog 87 #[.pointer (some ⟨gr, 0, none⟩), insV ⟨18, a, b, c⟩, busV m] w (MemIs w0 m g gr wv dv xs (Pl.pb D (Pl.m32 (Pl.rg R b + c)) (Pl.rg R a)) R pc) := by
  have ms := method_store m
  have ma := ahead_store m
  have hg := hrow.lt
  have ca : w.cell? ⟨gr, a.toNat, none⟩ = some (.int .u32 (Pl.rg R a)) := (hrow.cell _).trans (regs_at hR.1 ha.1 ha.2)
  have cb : w.cell? ⟨gr, b.toNat, none⟩ = some (.int .u32 (Pl.rg R b)) := (hrow.cell _).trans (regs_at hR.1 hb.1 hb.2)
  have fa : w.frozen? ⟨gr, a.toNat, none⟩ = false := hrow.frozen _
  have bra := Pl.rg_bd hR ha.1 ha.2
  go_enter Tryz.func87, Tryz.ntmps87
  go_wp2
  go_quiet (fail)
  rw [m32_addc]
  generalize hpe : Pl.m32 (Pl.rg R b + c) = p at *
  have hp : 0 ≤ p ∧ p < 4294967296 := by rw [← hpe]; exact Pl.m32_bd _
  clear hpe
  go_wp2_with fail
  refine wp_region_still_tail 13 (by kernel_rfl) (by kernel_rfl) ?_
  simp only [List.take_succ_cons, List.take_zero, List.drop_succ_cons, List.drop_zero, World.drew_eq, World.drew_drewN]
  repeat still_step
  refine wpStill_nil ?_
  go_wp2_with fail
  have H1 := H.kept (Below.block (B := w.heap.size) (w' := ((w.alloc (Obj.cells #[.int .i64 18, .int .i64 a, .int .i64 b, .int .i64 c] 31)).alloc (Obj.cells #[.int .i64 0, .int .u32 0] 106)).drewN (nq + 1)) (by (repeat (first | (with_reducible exact Below.refl _ _) | (with_reducible apply Below.drew) | (with_reducible apply bl_drewN) | ((with_reducible apply bl_alloc); (· (first | (simp; done) | (simp; omega) | omega))) | ((with_reducible apply bl_row); (· (first | (simp; done) | (simp; omega) | omega))) | ((with_reducible apply bl_cell); (· (first | (simp; done) | (simp; omega) | omega))) | assumption))))
  have h' := h
  simp only [Pl.ok1, Bool.and_eq_true, decide_eq_true_eq] at h'
  refine (Store_ok H1 hp (Pl.rg R a % 256) (by omega) h).mono ?_
  rintro e w1 ⟨rfl, hr2, hg2⟩
  rw [pb_mod] at hr2
  have hgl : g < w0.heap.size := H0.gl
  have hs0 := hw0.size
  have hi1 : rowAt w1 w.heap.size #[.int .i64 18, .int .i64 a, .int .i64 b, .int .i64 c] 31 := rowAt.grown (by (repeat (first | ((with_reducible apply rowAt.new); simp; done) | (with_reducible apply rowAt.drew) | (with_reducible apply rowAt.drewN) | (with_reducible apply rowAt.alloc) | (with_reducible apply rowAt.setRow_same) | ((with_reducible apply rowAt.so); (· (first | (simp; done) | (simp; omega) | omega))) | (with_reducible apply rowAt.set10) | (with_reducible apply rowAt.set8) | (with_reducible apply rowAt.set4) | (with_reducible apply rowAt.set2) | (with_reducible apply rowAt.set) | ((with_reducible apply rowAt.co); (· (first | (simp; done) | (simp; omega) | omega))) | assumption))) hg2 (fun e => by have := Option.some.inj e; omega)
  have ht1 : rowAt w1 (w.heap.size + 1) #[.int .i64 0, .int .u32 0] 106 := rowAt.grown (by (repeat (first | ((with_reducible apply rowAt.new); simp; done) | (with_reducible apply rowAt.drew) | (with_reducible apply rowAt.drewN) | (with_reducible apply rowAt.alloc) | (with_reducible apply rowAt.setRow_same) | ((with_reducible apply rowAt.so); (· (first | (simp; done) | (simp; omega) | omega))) | (with_reducible apply rowAt.set10) | (with_reducible apply rowAt.set8) | (with_reducible apply rowAt.set4) | (with_reducible apply rowAt.set2) | (with_reducible apply rowAt.set) | ((with_reducible apply rowAt.co); (· (first | (simp; done) | (simp; omega) | omega))) | assumption))) hg2 (fun e => by have := Option.some.inj e; omega)
  have hr1 : rowAt w1 gr (regs R pc) 104 := rowAt.grown (by (repeat (first | ((with_reducible apply rowAt.new); simp; done) | (with_reducible apply rowAt.drew) | (with_reducible apply rowAt.drewN) | (with_reducible apply rowAt.alloc) | (with_reducible apply rowAt.setRow_same) | ((with_reducible apply rowAt.so); (· (first | (simp; done) | (simp; omega) | omega))) | (with_reducible apply rowAt.set10) | (with_reducible apply rowAt.set8) | (with_reducible apply rowAt.set4) | (with_reducible apply rowAt.set2) | (with_reducible apply rowAt.set) | ((with_reducible apply rowAt.co); (· (first | (simp; done) | (simp; omega) | omega))) | assumption))) hg2 (fun e => by have := Option.some.inj e; omega)
  have hz1 : w.heap.size + 1 < w1.heap.size := ht1.lt
  have hz0 : w.heap.size < w1.heap.size := hi1.lt
  have i0 : w1.cell? ⟨w.heap.size, 0, none⟩ = some (.int .i64 18) := hi1.cell 0
  have i1 : w1.cell? ⟨w.heap.size, 1, none⟩ = some (.int .i64 a) := hi1.cell 1
  have i2 : w1.cell? ⟨w.heap.size, 2, none⟩ = some (.int .i64 b) := hi1.cell 2
  have i3 : w1.cell? ⟨w.heap.size, 3, none⟩ = some (.int .i64 c) := hi1.cell 3
  have t0 : w1.cell? ⟨w.heap.size + 1, 0, none⟩ = some (.int .i64 0) := ht1.cell 0
  have t1 : w1.cell? ⟨w.heap.size + 1, 1, none⟩ = some (.int .u32 0) := ht1.cell 1
  have ft0 : w1.frozen? ⟨w.heap.size + 1, 0, none⟩ = false := ht1.frozen 0
  have ft1 : w1.frozen? ⟨w.heap.size + 1, 1, none⟩ = false := ht1.frozen 1
  have ca1 : w1.cell? ⟨gr, a.toNat, none⟩ = some (.int .u32 (Pl.rg R a)) := (hr1.cell _).trans (regs_at hR.1 ha.1 ha.2)
  have fa1 : w1.frozen? ⟨gr, a.toNat, none⟩ = false := hr1.frozen _
  have hg1 : gr < w1.heap.size := hr1.lt
  have hgb1 : w0.grownBy w1 (some g) := gb_trans hg2 (by (repeat (first | (with_reducible exact gb_refl _ _) | (with_reducible apply gb_drew) | (with_reducible apply gb_drewN) | (with_reducible apply gb_alloc) | ((with_reducible apply gb_cell); (· (first | exact .inl rfl | (right; (first | (simp; done) | (simp; omega) | omega))))) | ((with_reducible apply gb_row); (· (first | exact .inl rfl | (right; (first | (simp; done) | (simp; omega) | omega))))) | assumption)))
  clear ca cb fa
  go_wp2_with fail
  refine memory_end (t := 106) (cs := #[.int .i64 0, .int .u32 0]) rfl ?_ rfl rfl ⟨rfl, ?_, ?_, ?_⟩
  · (repeat (first | ((with_reducible apply rowAt.new); simp; done) | (with_reducible apply rowAt.drew) | (with_reducible apply rowAt.drewN) | (with_reducible apply rowAt.alloc) | (with_reducible apply rowAt.setRow_same) | ((with_reducible apply rowAt.so); (· (first | (simp; done) | (simp; omega) | omega))) | (with_reducible apply rowAt.set10) | (with_reducible apply rowAt.set8) | (with_reducible apply rowAt.set4) | (with_reducible apply rowAt.set2) | (with_reducible apply rowAt.set) | ((with_reducible apply rowAt.co); (· (first | (simp; done) | (simp; omega) | omega))) | assumption))
  · first | (rw [← regs_set (pc := pc) hR.1 ha.1 ha.2]; (repeat (first | ((with_reducible apply rowAt.new); simp; done) | (with_reducible apply rowAt.drew) | (with_reducible apply rowAt.drewN) | (with_reducible apply rowAt.alloc) | (with_reducible apply rowAt.setRow_same) | ((with_reducible apply rowAt.so); (· (first | (simp; done) | (simp; omega) | omega))) | (with_reducible apply rowAt.set10) | (with_reducible apply rowAt.set8) | (with_reducible apply rowAt.set4) | (with_reducible apply rowAt.set2) | (with_reducible apply rowAt.set) | ((with_reducible apply rowAt.co); (· (first | (simp; done) | (simp; omega) | omega))) | assumption))) | (repeat (first | ((with_reducible apply rowAt.new); simp; done) | (with_reducible apply rowAt.drew) | (with_reducible apply rowAt.drewN) | (with_reducible apply rowAt.alloc) | (with_reducible apply rowAt.setRow_same) | ((with_reducible apply rowAt.so); (· (first | (simp; done) | (simp; omega) | omega))) | (with_reducible apply rowAt.set10) | (with_reducible apply rowAt.set8) | (with_reducible apply rowAt.set4) | (with_reducible apply rowAt.set2) | (with_reducible apply rowAt.set) | ((with_reducible apply rowAt.co); (· (first | (simp; done) | (simp; omega) | omega))) | assumption))
  · exact H0.kept2 hr2 (Below.block (B := w0.heap.size) (by (repeat (first | (with_reducible exact Below.refl _ _) | (with_reducible apply Below.drew) | (with_reducible apply bl_drewN) | ((with_reducible apply bl_alloc); (· (first | (simp; done) | (simp; omega) | omega))) | ((with_reducible apply bl_row); (· (first | (simp; done) | (simp; omega) | omega))) | ((with_reducible apply bl_cell); (· (first | (simp; done) | (simp; omega) | omega))) | assumption))))
  · (repeat (first | (with_reducible exact gb_refl _ _) | (with_reducible apply gb_drew) | (with_reducible apply gb_drewN) | (with_reducible apply gb_alloc) | ((with_reducible apply gb_cell); (· (first | exact .inl rfl | (right; (first | (simp; done) | (simp; omega) | omega))))) | ((with_reducible apply gb_row); (· (first | exact .inl rfl | (right; (first | (simp; done) | (simp; omega) | omega))))) | assumption))

set_option maxHeartbeats 1600000 in
set_option maxRecDepth 100000 in
theorem memory_storeb_no (h : Pl.ok1 D (Pl.m32 (Pl.rg R b + c)) = false) :
    Calls Tryz.prog 87 #[.pointer (some ⟨gr, 0, none⟩), insV ⟨18, a, b, c⟩, busV m] w (MemTrap w0 g) := by
  have ms := method_store m
  have ma := ahead_store m
  have hg := hrow.lt
  have ca : w.cell? ⟨gr, a.toNat, none⟩ = some (.int .u32 (Pl.rg R a)) := (hrow.cell _).trans (regs_at hR.1 ha.1 ha.2)
  have cb : w.cell? ⟨gr, b.toNat, none⟩ = some (.int .u32 (Pl.rg R b)) := (hrow.cell _).trans (regs_at hR.1 hb.1 hb.2)
  have fa : w.frozen? ⟨gr, a.toNat, none⟩ = false := hrow.frozen _
  have bra := Pl.rg_bd hR ha.1 ha.2
  go_enter Tryz.func87, Tryz.ntmps87
  go_wp2
  go_quiet (fail)
  rw [m32_addc]
  generalize hpe : Pl.m32 (Pl.rg R b + c) = p at *
  have hp : 0 ≤ p ∧ p < 4294967296 := by rw [← hpe]; exact Pl.m32_bd _
  clear hpe
  go_wp2_with fail
  refine wp_region_still_tail 13 (by kernel_rfl) (by kernel_rfl) ?_
  simp only [List.take_succ_cons, List.take_zero, List.drop_succ_cons, List.drop_zero, World.drew_eq, World.drew_drewN]
  repeat still_step
  refine wpStill_nil ?_
  go_wp2_with fail
  have H1 := H.kept (Below.block (B := w.heap.size) (w' := ((w.alloc (Obj.cells #[.int .i64 18, .int .i64 a, .int .i64 b, .int .i64 c] 31)).alloc (Obj.cells #[.int .i64 0, .int .u32 0] 106)).drewN (nq + 1)) (by (repeat (first | (with_reducible exact Below.refl _ _) | (with_reducible apply Below.drew) | (with_reducible apply bl_drewN) | ((with_reducible apply bl_alloc); (· (first | (simp; done) | (simp; omega) | omega))) | ((with_reducible apply bl_row); (· (first | (simp; done) | (simp; omega) | omega))) | ((with_reducible apply bl_cell); (· (first | (simp; done) | (simp; omega) | omega))) | assumption))))
  refine (Store_no H1 hp (Pl.rg R a % 256) (by omega) h).mono ?_
  rintro e w1 ⟨rfl, rfl⟩
  have hs0 := hw0.size
  go_wp2_with fail
  refine memory_end (t := 106) (cs := #[.int .i64 2, .int .u32 p]) rfl ?_ rfl rfl ⟨⟨2, p, by decide, rfl⟩, ?_⟩
  · (repeat (first | ((with_reducible apply rowAt.new); simp; done) | (with_reducible apply rowAt.drew) | (with_reducible apply rowAt.drewN) | (with_reducible apply rowAt.alloc) | (with_reducible apply rowAt.setRow_same) | ((with_reducible apply rowAt.so); (· (first | (simp; done) | (simp; omega) | omega))) | (with_reducible apply rowAt.set10) | (with_reducible apply rowAt.set8) | (with_reducible apply rowAt.set4) | (with_reducible apply rowAt.set2) | (with_reducible apply rowAt.set) | ((with_reducible apply rowAt.co); (· (first | (simp; done) | (simp; omega) | omega))) | assumption))
  · (repeat (first | (with_reducible exact gb_refl _ _) | (with_reducible apply gb_drew) | (with_reducible apply gb_drewN) | (with_reducible apply gb_alloc) | ((with_reducible apply gb_cell); (· (first | exact .inl rfl | (right; (first | (simp; done) | (simp; omega) | omega))))) | ((with_reducible apply gb_row); (· (first | exact .inl rfl | (right; (first | (simp; done) | (simp; omega) | omega))))) | assumption))

set_option maxHeartbeats 1600000 in
set_option maxRecDepth 100000 in
theorem memory_swap_no (h : Pl.okw D (Pl.m32 (Pl.rg R b + c)) = false) :
    Calls Tryz.prog 87 #[.pointer (some ⟨gr, 0, none⟩), insV ⟨25, a, b, c⟩, busV m] w (MemTrap w0 g) := by
  have hg := hrow.lt
  have ca : w.cell? ⟨gr, a.toNat, none⟩ = some (.int .u32 (Pl.rg R a)) := (hrow.cell _).trans (regs_at hR.1 ha.1 ha.2)
  have cb : w.cell? ⟨gr, b.toNat, none⟩ = some (.int .u32 (Pl.rg R b)) := (hrow.cell _).trans (regs_at hR.1 hb.1 hb.2)
  have fa : w.frozen? ⟨gr, a.toNat, none⟩ = false := hrow.frozen _
  have bra := Pl.rg_bd hR ha.1 ha.2
  go_enter Tryz.func87, Tryz.ntmps87
  go_wp2
  go_quiet (fail)
  rw [m32_addc]
  generalize hpe : Pl.m32 (Pl.rg R b + c) = p at *
  have hp : 0 ≤ p ∧ p < 4294967296 := by rw [← hpe]; exact Pl.m32_bd _
  clear hpe
  go_wp2_with fail
  have H1 := H.kept (Below.block (B := w.heap.size) (w' := ((w.alloc (Obj.cells #[.int .i64 25, .int .i64 a, .int .i64 b, .int .i64 c] 31)).alloc (Obj.cells #[.int .i64 0, .int .u32 0] 106)).drewN nq) (by (repeat (first | (with_reducible exact Below.refl _ _) | (with_reducible apply Below.drew) | (with_reducible apply bl_drewN) | ((with_reducible apply bl_alloc); (· (first | (simp; done) | (simp; omega) | omega))) | ((with_reducible apply bl_row); (· (first | (simp; done) | (simp; omega) | omega))) | ((with_reducible apply bl_cell); (· (first | (simp; done) | (simp; omega) | omega))) | assumption))))
  refine (fetchr_no H1 hp h).mono ?_
  rintro e w1 ⟨⟨k, q, hk, rfl⟩, hb1⟩
  have hk' : (k == 0) = false := by simpa using hk
  have hi1 : rowAt w1 w.heap.size #[.int .i64 25, .int .i64 a, .int .i64 b, .int .i64 c] 31 := rowAt.below (by (repeat (first | ((with_reducible apply rowAt.new); simp; done) | (with_reducible apply rowAt.drew) | (with_reducible apply rowAt.drewN) | (with_reducible apply rowAt.alloc) | (with_reducible apply rowAt.setRow_same) | ((with_reducible apply rowAt.so); (· (first | (simp; done) | (simp; omega) | omega))) | (with_reducible apply rowAt.set10) | (with_reducible apply rowAt.set8) | (with_reducible apply rowAt.set4) | (with_reducible apply rowAt.set2) | (with_reducible apply rowAt.set) | ((with_reducible apply rowAt.co); (· (first | (simp; done) | (simp; omega) | omega))) | assumption))) hb1 (by simp; try omega)
  have ht1 : rowAt w1 (w.heap.size + 1) #[.int .i64 0, .int .u32 0] 106 := rowAt.below (by (repeat (first | ((with_reducible apply rowAt.new); simp; done) | (with_reducible apply rowAt.drew) | (with_reducible apply rowAt.drewN) | (with_reducible apply rowAt.alloc) | (with_reducible apply rowAt.setRow_same) | ((with_reducible apply rowAt.so); (· (first | (simp; done) | (simp; omega) | omega))) | (with_reducible apply rowAt.set10) | (with_reducible apply rowAt.set8) | (with_reducible apply rowAt.set4) | (with_reducible apply rowAt.set2) | (with_reducible apply rowAt.set) | ((with_reducible apply rowAt.co); (· (first | (simp; done) | (simp; omega) | omega))) | assumption))) hb1 (by simp; try omega)
  have hr1 : rowAt w1 gr (regs R pc) 104 := rowAt.below (by (repeat (first | ((with_reducible apply rowAt.new); simp; done) | (with_reducible apply rowAt.drew) | (with_reducible apply rowAt.drewN) | (with_reducible apply rowAt.alloc) | (with_reducible apply rowAt.setRow_same) | ((with_reducible apply rowAt.so); (· (first | (simp; done) | (simp; omega) | omega))) | (with_reducible apply rowAt.set10) | (with_reducible apply rowAt.set8) | (with_reducible apply rowAt.set4) | (with_reducible apply rowAt.set2) | (with_reducible apply rowAt.set) | ((with_reducible apply rowAt.co); (· (first | (simp; done) | (simp; omega) | omega))) | assumption))) hb1 (by simp; omega)
  have hz1 : w.heap.size + 1 < w1.heap.size := ht1.lt
  have hz0 : w.heap.size < w1.heap.size := hi1.lt
  have i0 : w1.cell? ⟨w.heap.size, 0, none⟩ = some (.int .i64 25) := hi1.cell 0
  have i1 : w1.cell? ⟨w.heap.size, 1, none⟩ = some (.int .i64 a) := hi1.cell 1
  have i2 : w1.cell? ⟨w.heap.size, 2, none⟩ = some (.int .i64 b) := hi1.cell 2
  have i3 : w1.cell? ⟨w.heap.size, 3, none⟩ = some (.int .i64 c) := hi1.cell 3
  have t0 : w1.cell? ⟨w.heap.size + 1, 0, none⟩ = some (.int .i64 0) := ht1.cell 0
  have t1 : w1.cell? ⟨w.heap.size + 1, 1, none⟩ = some (.int .u32 0) := ht1.cell 1
  have ft0 : w1.frozen? ⟨w.heap.size + 1, 0, none⟩ = false := ht1.frozen 0
  have ft1 : w1.frozen? ⟨w.heap.size + 1, 1, none⟩ = false := ht1.frozen 1
  have ca1 : w1.cell? ⟨gr, a.toNat, none⟩ = some (.int .u32 (Pl.rg R a)) := (hr1.cell _).trans (regs_at hR.1 ha.1 ha.2)
  have fa1 : w1.frozen? ⟨gr, a.toNat, none⟩ = false := hr1.frozen _
  have hg1 : gr < w1.heap.size := hr1.lt
  have hb3 : Below w0.heap.size w w1 := ((show Below w.heap.size w _ from by (repeat (first | (with_reducible exact Below.refl _ _) | (with_reducible apply Below.drew) | (with_reducible apply bl_drewN) | ((with_reducible apply bl_alloc); (· (first | (simp; done) | (simp; omega) | omega))) | ((with_reducible apply bl_row); (· (first | (simp; done) | (simp; omega) | omega))) | ((with_reducible apply bl_cell); (· (first | (simp; done) | (simp; omega) | omega))) | assumption))).trans (hb1.mono (by simp; try omega))).mono hw0.size
  have hs0 := hw0.size
  clear ca cb fa
  go_wp2_with fail
  refine memory_end (t := 106) (cs := #[.int .i64 k, .int .u32 q]) rfl ?_ rfl rfl ⟨⟨k, q, hk, rfl⟩, ?_⟩
  · (repeat (first | ((with_reducible apply rowAt.new); simp; done) | (with_reducible apply rowAt.drew) | (with_reducible apply rowAt.drewN) | (with_reducible apply rowAt.alloc) | (with_reducible apply rowAt.setRow_same) | ((with_reducible apply rowAt.so); (· (first | (simp; done) | (simp; omega) | omega))) | (with_reducible apply rowAt.set10) | (with_reducible apply rowAt.set8) | (with_reducible apply rowAt.set4) | (with_reducible apply rowAt.set2) | (with_reducible apply rowAt.set) | ((with_reducible apply rowAt.co); (· (first | (simp; done) | (simp; omega) | omega))) | assumption))
  · exact gb_below (B := w0.heap.size) (by (repeat (first | (with_reducible exact Below.refl _ _) | (with_reducible apply Below.drew) | (with_reducible apply bl_drewN) | ((with_reducible apply bl_alloc); (· (first | (simp; done) | (simp; omega) | omega))) | ((with_reducible apply bl_row); (· (first | (simp; done) | (simp; omega) | omega))) | ((with_reducible apply bl_cell); (· (first | (simp; done) | (simp; omega) | omega))) | assumption))) (Nat.le_refl _) hw0

set_option maxHeartbeats 1600000 in
set_option maxRecDepth 100000 in
theorem memory_swap (h : Pl.okw D (Pl.m32 (Pl.rg R b + c)) = true) :
    Calls Tryz.prog 87 #[.pointer (some ⟨gr, 0, none⟩), insV ⟨25, a, b, c⟩, busV m] w
      (MemIs w0 m g gr wv dv xs (Pl.pw D (Pl.m32 (Pl.rg R b + c)) (Pl.rg R a)) (Pl.sr R a (Pl.gw D (Pl.m32 (Pl.rg R b + c)))) pc) := by
  have hg := hrow.lt
  have ca : w.cell? ⟨gr, a.toNat, none⟩ = some (.int .u32 (Pl.rg R a)) := (hrow.cell _).trans (regs_at hR.1 ha.1 ha.2)
  have cb : w.cell? ⟨gr, b.toNat, none⟩ = some (.int .u32 (Pl.rg R b)) := (hrow.cell _).trans (regs_at hR.1 hb.1 hb.2)
  have fa : w.frozen? ⟨gr, a.toNat, none⟩ = false := hrow.frozen _
  have bra := Pl.rg_bd hR ha.1 ha.2
  go_enter Tryz.func87, Tryz.ntmps87
  go_wp2
  go_quiet (fail)
  rw [m32_addc]
  generalize hpe : Pl.m32 (Pl.rg R b + c) = p at *
  have hp : 0 ≤ p ∧ p < 4294967296 := by rw [← hpe]; exact Pl.m32_bd _
  clear hpe
  go_wp2_with fail
  have H1 := H.kept (Below.block (B := w.heap.size) (w' := ((w.alloc (Obj.cells #[.int .i64 25, .int .i64 a, .int .i64 b, .int .i64 c] 31)).alloc (Obj.cells #[.int .i64 0, .int .u32 0] 106)).drewN nq) (by (repeat (first | (with_reducible exact Below.refl _ _) | (with_reducible apply Below.drew) | (with_reducible apply bl_drewN) | ((with_reducible apply bl_alloc); (· (first | (simp; done) | (simp; omega) | omega))) | ((with_reducible apply bl_row); (· (first | (simp; done) | (simp; omega) | omega))) | ((with_reducible apply bl_cell); (· (first | (simp; done) | (simp; omega) | omega))) | assumption))))
  refine (fetchr_ok H1 hp hD h).mono ?_
  rintro e w1 ⟨rfl, hb1⟩
  have hi1 : rowAt w1 w.heap.size #[.int .i64 25, .int .i64 a, .int .i64 b, .int .i64 c] 31 := rowAt.below (by (repeat (first | ((with_reducible apply rowAt.new); simp; done) | (with_reducible apply rowAt.drew) | (with_reducible apply rowAt.drewN) | (with_reducible apply rowAt.alloc) | (with_reducible apply rowAt.setRow_same) | ((with_reducible apply rowAt.so); (· (first | (simp; done) | (simp; omega) | omega))) | (with_reducible apply rowAt.set10) | (with_reducible apply rowAt.set8) | (with_reducible apply rowAt.set4) | (with_reducible apply rowAt.set2) | (with_reducible apply rowAt.set) | ((with_reducible apply rowAt.co); (· (first | (simp; done) | (simp; omega) | omega))) | assumption))) hb1 (by simp; try omega)
  have ht1 : rowAt w1 (w.heap.size + 1) #[.int .i64 0, .int .u32 0] 106 := rowAt.below (by (repeat (first | ((with_reducible apply rowAt.new); simp; done) | (with_reducible apply rowAt.drew) | (with_reducible apply rowAt.drewN) | (with_reducible apply rowAt.alloc) | (with_reducible apply rowAt.setRow_same) | ((with_reducible apply rowAt.so); (· (first | (simp; done) | (simp; omega) | omega))) | (with_reducible apply rowAt.set10) | (with_reducible apply rowAt.set8) | (with_reducible apply rowAt.set4) | (with_reducible apply rowAt.set2) | (with_reducible apply rowAt.set) | ((with_reducible apply rowAt.co); (· (first | (simp; done) | (simp; omega) | omega))) | assumption))) hb1 (by simp; try omega)
  have hr1 : rowAt w1 gr (regs R pc) 104 := rowAt.below (by (repeat (first | ((with_reducible apply rowAt.new); simp; done) | (with_reducible apply rowAt.drew) | (with_reducible apply rowAt.drewN) | (with_reducible apply rowAt.alloc) | (with_reducible apply rowAt.setRow_same) | ((with_reducible apply rowAt.so); (· (first | (simp; done) | (simp; omega) | omega))) | (with_reducible apply rowAt.set10) | (with_reducible apply rowAt.set8) | (with_reducible apply rowAt.set4) | (with_reducible apply rowAt.set2) | (with_reducible apply rowAt.set) | ((with_reducible apply rowAt.co); (· (first | (simp; done) | (simp; omega) | omega))) | assumption))) hb1 (by simp; omega)
  have hz1 : w.heap.size + 1 < w1.heap.size := ht1.lt
  have hz0 : w.heap.size < w1.heap.size := hi1.lt
  have i0 : w1.cell? ⟨w.heap.size, 0, none⟩ = some (.int .i64 25) := hi1.cell 0
  have i1 : w1.cell? ⟨w.heap.size, 1, none⟩ = some (.int .i64 a) := hi1.cell 1
  have i2 : w1.cell? ⟨w.heap.size, 2, none⟩ = some (.int .i64 b) := hi1.cell 2
  have i3 : w1.cell? ⟨w.heap.size, 3, none⟩ = some (.int .i64 c) := hi1.cell 3
  have t0 : w1.cell? ⟨w.heap.size + 1, 0, none⟩ = some (.int .i64 0) := ht1.cell 0
  have t1 : w1.cell? ⟨w.heap.size + 1, 1, none⟩ = some (.int .u32 0) := ht1.cell 1
  have ft0 : w1.frozen? ⟨w.heap.size + 1, 0, none⟩ = false := ht1.frozen 0
  have ft1 : w1.frozen? ⟨w.heap.size + 1, 1, none⟩ = false := ht1.frozen 1
  have ca1 : w1.cell? ⟨gr, a.toNat, none⟩ = some (.int .u32 (Pl.rg R a)) := (hr1.cell _).trans (regs_at hR.1 ha.1 ha.2)
  have fa1 : w1.frozen? ⟨gr, a.toNat, none⟩ = false := hr1.frozen _
  have hg1 : gr < w1.heap.size := hr1.lt
  have hb3 : Below w0.heap.size w w1 := ((show Below w.heap.size w _ from by (repeat (first | (with_reducible exact Below.refl _ _) | (with_reducible apply Below.drew) | (with_reducible apply bl_drewN) | ((with_reducible apply bl_alloc); (· (first | (simp; done) | (simp; omega) | omega))) | ((with_reducible apply bl_row); (· (first | (simp; done) | (simp; omega) | omega))) | ((with_reducible apply bl_cell); (· (first | (simp; done) | (simp; omega) | omega))) | assumption))).trans (hb1.mono (by simp; try omega))).mono hw0.size
  have hs0 := hw0.size
  clear ca cb fa
  go_wp2_with fail
  refine wp_region_still_tail 9 (by kernel_rfl) (by kernel_rfl) ?_
  simp only [List.take_succ_cons, List.take_zero, List.drop_succ_cons, List.drop_zero, World.drew_eq, World.drew_drewN]
  repeat still_step
  refine wpStill_nil ?_
  go_wp2_with fail
  have H2 := H.kept (Below.block (B := w.heap.size) (w' := (w1.alloc (Obj.cells #[.int .i64 0, .int .u32 0] 106)).drew) (by
    have hb4 : Below w.heap.size w w1 := (show Below w.heap.size w _ from by (repeat (first | (with_reducible exact Below.refl _ _) | (with_reducible apply Below.drew) | (with_reducible apply bl_drewN) | ((with_reducible apply bl_alloc); (· (first | (simp; done) | (simp; omega) | omega))) | ((with_reducible apply bl_row); (· (first | (simp; done) | (simp; omega) | omega))) | ((with_reducible apply bl_cell); (· (first | (simp; done) | (simp; omega) | omega))) | assumption))).trans (hb1.mono (by simp; try omega))
    (repeat (first | (with_reducible exact Below.refl _ _) | (with_reducible apply Below.drew) | (with_reducible apply bl_drewN) | ((with_reducible apply bl_alloc); (· (first | (simp; done) | (simp; omega) | omega))) | ((with_reducible apply bl_row); (· (first | (simp; done) | (simp; omega) | omega))) | ((with_reducible apply bl_cell); (· (first | (simp; done) | (simp; omega) | omega))) | assumption))))
  refine (put_ok H2 hp bra h).mono ?_
  rintro e w2 ⟨rfl, hr2, hg2⟩
  have hgl : g < w0.heap.size := H0.gl
  have hi2 : rowAt w2 w.heap.size #[.int .i64 25, .int .i64 a, .int .i64 b, .int .i64 c] 31 := rowAt.grown (by (repeat (first | ((with_reducible apply rowAt.new); simp; done) | (with_reducible apply rowAt.drew) | (with_reducible apply rowAt.drewN) | (with_reducible apply rowAt.alloc) | (with_reducible apply rowAt.setRow_same) | ((with_reducible apply rowAt.so); (· (first | (simp; done) | (simp; omega) | omega))) | (with_reducible apply rowAt.set10) | (with_reducible apply rowAt.set8) | (with_reducible apply rowAt.set4) | (with_reducible apply rowAt.set2) | (with_reducible apply rowAt.set) | ((with_reducible apply rowAt.co); (· (first | (simp; done) | (simp; omega) | omega))) | assumption))) hg2 (fun e => by have := Option.some.inj e; omega)
  have ht2 : rowAt w2 (w.heap.size + 1) #[.int .i64 0, .int .u32 0] 106 := rowAt.grown (by (repeat (first | ((with_reducible apply rowAt.new); simp; done) | (with_reducible apply rowAt.drew) | (with_reducible apply rowAt.drewN) | (with_reducible apply rowAt.alloc) | (with_reducible apply rowAt.setRow_same) | ((with_reducible apply rowAt.so); (· (first | (simp; done) | (simp; omega) | omega))) | (with_reducible apply rowAt.set10) | (with_reducible apply rowAt.set8) | (with_reducible apply rowAt.set4) | (with_reducible apply rowAt.set2) | (with_reducible apply rowAt.set) | ((with_reducible apply rowAt.co); (· (first | (simp; done) | (simp; omega) | omega))) | assumption))) hg2 (fun e => by have := Option.some.inj e; omega)
  have hu2 : rowAt w2 w1.heap.size #[.int .i64 0, .int .u32 0] 106 := rowAt.grown (by (repeat (first | ((with_reducible apply rowAt.new); simp; done) | (with_reducible apply rowAt.drew) | (with_reducible apply rowAt.drewN) | (with_reducible apply rowAt.alloc) | (with_reducible apply rowAt.setRow_same) | ((with_reducible apply rowAt.so); (· (first | (simp; done) | (simp; omega) | omega))) | (with_reducible apply rowAt.set10) | (with_reducible apply rowAt.set8) | (with_reducible apply rowAt.set4) | (with_reducible apply rowAt.set2) | (with_reducible apply rowAt.set) | ((with_reducible apply rowAt.co); (· (first | (simp; done) | (simp; omega) | omega))) | assumption))) hg2 (fun e => by have := Option.some.inj e; omega)
  have hr3 : rowAt w2 gr (regs R pc) 104 := rowAt.grown (by (repeat (first | ((with_reducible apply rowAt.new); simp; done) | (with_reducible apply rowAt.drew) | (with_reducible apply rowAt.drewN) | (with_reducible apply rowAt.alloc) | (with_reducible apply rowAt.setRow_same) | ((with_reducible apply rowAt.so); (· (first | (simp; done) | (simp; omega) | omega))) | (with_reducible apply rowAt.set10) | (with_reducible apply rowAt.set8) | (with_reducible apply rowAt.set4) | (with_reducible apply rowAt.set2) | (with_reducible apply rowAt.set) | ((with_reducible apply rowAt.co); (· (first | (simp; done) | (simp; omega) | omega))) | assumption))) hg2 (fun e => by have := Option.some.inj e; omega)
  have hy0 : w.heap.size < w2.heap.size := hi2.lt
  have hy1 : w.heap.size + 1 < w2.heap.size := ht2.lt
  have hy2 : w1.heap.size < w2.heap.size := hu2.lt
  have j0 : w2.cell? ⟨w.heap.size, 0, none⟩ = some (.int .i64 25) := hi2.cell 0
  have j1 : w2.cell? ⟨w.heap.size, 1, none⟩ = some (.int .i64 a) := hi2.cell 1
  have s0 : w2.cell? ⟨w.heap.size + 1, 0, none⟩ = some (.int .i64 0) := ht2.cell 0
  have s1 : w2.cell? ⟨w.heap.size + 1, 1, none⟩ = some (.int .u32 0) := ht2.cell 1
  have fs0 : w2.frozen? ⟨w.heap.size + 1, 0, none⟩ = false := ht2.frozen 0
  have fs1 : w2.frozen? ⟨w.heap.size + 1, 1, none⟩ = false := ht2.frozen 1
  have v0 : w2.cell? ⟨w1.heap.size, 0, none⟩ = some (.int .i64 0) := hu2.cell 0
  have v1 : w2.cell? ⟨w1.heap.size, 1, none⟩ = some (.int .u32 0) := hu2.cell 1
  have fv0 : w2.frozen? ⟨w1.heap.size, 0, none⟩ = false := hu2.frozen 0
  have fv1 : w2.frozen? ⟨w1.heap.size, 1, none⟩ = false := hu2.frozen 1
  have ca2 : w2.cell? ⟨gr, a.toNat, none⟩ = some (.int .u32 (Pl.rg R a)) := (hr3.cell _).trans (regs_at hR.1 ha.1 ha.2)
  have fa2 : w2.frozen? ⟨gr, a.toNat, none⟩ = false := hr3.frozen _
  have hg3 : gr < w2.heap.size := hr3.lt
  have hgb2 : w0.grownBy w2 (some g) := gb_trans hg2 (gb_below (B := w0.heap.size) (by (repeat (first | (with_reducible exact Below.refl _ _) | (with_reducible apply Below.drew) | (with_reducible apply bl_drewN) | ((with_reducible apply bl_alloc); (· (first | (simp; done) | (simp; omega) | omega))) | ((with_reducible apply bl_row); (· (first | (simp; done) | (simp; omega) | omega))) | ((with_reducible apply bl_cell); (· (first | (simp; done) | (simp; omega) | omega))) | assumption))) (Nat.le_refl _) hw0)
  clear i0 i1 i2 i3 t0 t1 ft0 ft1 ca1 fa1
  go_wp2_with fail
  go_region
  go_wp2_with fail
  refine memory_end (t := 106) (cs := #[.int .i64 0, .int .u32 0]) rfl ?_ rfl rfl ⟨rfl, ?_, ?_, ?_⟩
  · (repeat (first | ((with_reducible apply rowAt.new); simp; done) | (with_reducible apply rowAt.drew) | (with_reducible apply rowAt.drewN) | (with_reducible apply rowAt.alloc) | (with_reducible apply rowAt.setRow_same) | ((with_reducible apply rowAt.so); (· (first | (simp; done) | (simp; omega) | omega))) | (with_reducible apply rowAt.set10) | (with_reducible apply rowAt.set8) | (with_reducible apply rowAt.set4) | (with_reducible apply rowAt.set2) | (with_reducible apply rowAt.set) | ((with_reducible apply rowAt.co); (· (first | (simp; done) | (simp; omega) | omega))) | assumption))
  · first | (rw [← regs_set (pc := pc) hR.1 ha.1 ha.2]; (repeat (first | ((with_reducible apply rowAt.new); simp; done) | (with_reducible apply rowAt.drew) | (with_reducible apply rowAt.drewN) | (with_reducible apply rowAt.alloc) | (with_reducible apply rowAt.setRow_same) | ((with_reducible apply rowAt.so); (· (first | (simp; done) | (simp; omega) | omega))) | (with_reducible apply rowAt.set10) | (with_reducible apply rowAt.set8) | (with_reducible apply rowAt.set4) | (with_reducible apply rowAt.set2) | (with_reducible apply rowAt.set) | ((with_reducible apply rowAt.co); (· (first | (simp; done) | (simp; omega) | omega))) | assumption))) | (repeat (first | ((with_reducible apply rowAt.new); simp; done) | (with_reducible apply rowAt.drew) | (with_reducible apply rowAt.drewN) | (with_reducible apply rowAt.alloc) | (with_reducible apply rowAt.setRow_same) | ((with_reducible apply rowAt.so); (· (first | (simp; done) | (simp; omega) | omega))) | (with_reducible apply rowAt.set10) | (with_reducible apply rowAt.set8) | (with_reducible apply rowAt.set4) | (with_reducible apply rowAt.set2) | (with_reducible apply rowAt.set) | ((with_reducible apply rowAt.co); (· (first | (simp; done) | (simp; omega) | omega))) | assumption))
  · exact H0.kept2 hr2 (Below.block (B := w0.heap.size) (by (repeat (first | (with_reducible exact Below.refl _ _) | (with_reducible apply Below.drew) | (with_reducible apply bl_drewN) | ((with_reducible apply bl_alloc); (· (first | (simp; done) | (simp; omega) | omega))) | ((with_reducible apply bl_row); (· (first | (simp; done) | (simp; omega) | omega))) | ((with_reducible apply bl_cell); (· (first | (simp; done) | (simp; omega) | omega))) | assumption))))
  · (repeat (first | (with_reducible exact gb_refl _ _) | (with_reducible apply gb_drew) | (with_reducible apply gb_drewN) | (with_reducible apply gb_alloc) | ((with_reducible apply gb_cell); (· (first | exact .inl rfl | (right; (first | (simp; done) | (simp; omega) | omega))))) | ((with_reducible apply gb_row); (· (first | exact .inl rfl | (right; (first | (simp; done) | (simp; omega) | omega))))) | assumption))
end
end Go.Proofs.YtghjjemnegncpaaGreatDoor
