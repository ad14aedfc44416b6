/- The walks of TopMemoryTwice. -/
import Derived.Test.YtghjjemnegncpaaGreatDoorSameOk
set_option linter.unusedSimpArgs false
set_option linter.unusedVariables false
set_option linter.unusedSectionVars false
set_option linter.unnecessarySimpa false
namespace Go.Proofs.YtghjjemnegncpaaGreatDoor
open Go.RowKit

theorem memop_end {R : Ending → World → Prop} {a : Act} {w : World} {g : Nat} {t : TypeId} {cs : Array Value} (hp : a.tmps.getD 3 undef = .pointer (some ⟨g, 0, none⟩)) (hg : rowAt w g cs t) (hn : cs.size = 4) (hdf : a.defers = []) (hR : R (.returned (.agg cs)) w) :
    bodyPost Tryz.prog Tryz.f23 R .ret a w :=
  post_c (p := 3) (ty := 31) rfl Tryz.underlying31 rfl sizeIns hp hg hn hdf hR

set_option maxHeartbeats 800000 in
set_option maxRecDepth 100000 in
theorem memop_ok (k op a b c : Int) (g : Nat) (w : World) (hr : rowAt w g #[.int .i64 op, .int .i64 a, .int .i64 b, .int .i64 c] 31) :
    Calls Tryz.prog 23 #[.int .i64 k, .pointer (some ⟨g, 0, none⟩)] w fun e w' => e = .returned (.agg #[.int .i64 k, .int .i64 a, .int .i64 b, .int .i64 c]) ∧ Below w.heap.size w w' := by
  have q1 : w.cell? ⟨g, 1, none⟩ = some (.int .i64 a) := hr.cell 1
  have q2 : w.cell? ⟨g, 2, none⟩ = some (.int .i64 b) := hr.cell 2
  have q3 : w.cell? ⟨g, 3, none⟩ = some (.int .i64 c) := hr.cell 3
  have hg := hr.lt
  clear hr
  go_enter Tryz.func23, Tryz.ntmps23
  go_wp2_with fail
  refine memop_end (t := 31) (cs := #[.int .i64 k, .int .i64 a, .int .i64 b, .int .i64 c]) rfl ?_ rfl rfl ⟨rfl, ?_⟩
  · (repeat (first | ((with_reducible apply rowAt.new); simp; done) | (with_reducible apply rowAt.drew) | (with_reducible apply rowAt.drewN) | (with_reducible apply rowAt.alloc) | (with_reducible apply rowAt.setRow_same) | ((with_reducible apply rowAt.so); (· (first | (simp; done) | (simp; omega) | omega))) | (with_reducible apply rowAt.set10) | (with_reducible apply rowAt.set8) | (with_reducible apply rowAt.set4) | (with_reducible apply rowAt.set2) | (with_reducible apply rowAt.set) | ((with_reducible apply rowAt.co); (· (first | (simp; done) | (simp; omega) | omega))) | assumption))
  · (repeat (first | (with_reducible exact Below.refl _ _) | (with_reducible apply Below.drew) | (with_reducible apply bl_drewN) | ((with_reducible apply bl_alloc); (· (first | (simp; done) | (simp; omega) | omega))) | ((with_reducible apply bl_row); (· (first | (simp; done) | (simp; omega) | omega))) | ((with_reducible apply bl_cell); (· (first | (simp; done) | (simp; omega) | omega))) | assumption))

/-- Behind a call that lays new blocks alone: what lay in the block ahead of it. -/
theorem after_box {w w1 : World} {x0 x1 x2 x3 : Value} {t : TypeId} {n : Nat} (h : Below ((w.alloc (.cells #[x0, x1, x2, x3] t)).drewN n).heap.size ((w.alloc (.cells #[x0, x1, x2, x3] t)).drewN n) w1) :
    Below w.heap.size w w1 ∧ w.heap.size < w1.heap.size ∧ w1.cell? ⟨w.heap.size, 0, none⟩ = some x0 ∧ w1.cell? ⟨w.heap.size, 1, none⟩ = some x1 ∧ w1.cell? ⟨w.heap.size, 2, none⟩ = some x2 ∧ w1.cell? ⟨w.heap.size, 3, none⟩ = some x3 := by
  have hb : Below (w.heap.size + 1) (w.alloc (.cells #[x0, x1, x2, x3] t)) w1 := ⟨h.os, h.tape, h.output, by have := h.size; simpa using this, fun k hk => h.block k (by simpa using hk)⟩
  have r0 : rowAt w1 w.heap.size #[x0, x1, x2, x3] t := rowAt.below (by (repeat (first | ((with_reducible apply rowAt.new); simp; done) | (with_reducible apply rowAt.drew) | (with_reducible apply rowAt.drewN) | (with_reducible apply rowAt.alloc) | (with_reducible apply rowAt.setRow_same) | ((with_reducible apply rowAt.so); (· (first | (simp; done) | (simp; omega) | omega))) | (with_reducible apply rowAt.set10) | (with_reducible apply rowAt.set8) | (with_reducible apply rowAt.set4) | (with_reducible apply rowAt.set2) | (with_reducible apply rowAt.set) | ((with_reducible apply rowAt.co); (· (first | (simp; done) | (simp; omega) | omega))) | assumption))) hb (by omega)
  exact ⟨(show Below w.heap.size w _ from by (repeat (first | (with_reducible exact Below.refl _ _) | (with_reducible apply Below.drew) | (with_reducible apply bl_drewN) | ((with_reducible apply bl_alloc); (· (first | (simp; done) | (simp; omega) | omega))) | ((with_reducible apply bl_row); (· (first | (simp; done) | (simp; omega) | omega))) | ((with_reducible apply bl_cell); (· (first | (simp; done) | (simp; omega) | omega))) | assumption))).trans (hb.mono (by omega)), r0.lt, r0.cell 0, r0.cell 1, r0.cell 2, r0.cell 3⟩

set_option maxHeartbeats 6400000 in
set_option maxRecDepth 100000 in
theorem mems_by {w : World} {g : Nat} {how : Int} (hh : i64 how) (hc : w.cell? ⟨g, 0, none⟩ = some (.int .i64 how)) : ByOk w 22 #[.pointer (some ⟨g, 0, none⟩)] (Pl.byMem (pick how 3)) := by
  intro W i hv hf hb
  have hlt := World.block_lt_of_cell? w _ hc
  have hcW := (hb.cell (p := ⟨g, 0, none⟩) hlt).trans hc
  have hg : g < W.heap.size := World.block_lt_of_cell? W _ hcW
  have hp := fun W => wPick_is how 3 W (by decide) (by decide) hh
  rw [show ((3 : Nat) : Int) = 3 from rfl] at hp
  have hp3 : pick how 3 < 3 := Nat.mod_lt _ (by decide)
  have hmf : ∀ (fn : Fn) (first cap : Array Value) (w : World), (Instr.makeFunc fn first cap).run Tryz.prog w = .ok (.func fn first cap) w := fun _ _ _ _ => rfl
  obtain ⟨op, a, b, c⟩ := i
  clear hb hc hlt hv hf hh
  rw [show (#[insV ⟨op, a, b, c⟩] ++ #[Value.pointer (some ⟨g, 0, none⟩)] : Array Value) = #[.agg #[.int .i64 op, .int .i64 a, .int .i64 b, .int .i64 c], .pointer (some ⟨g, 0, none⟩)] from rfl]
  generalize pick how 3 = pk at *
  have HP := Lib.hid hp
  clear hp
  have hk : pk = 0 ∨ pk = 1 ∨ pk = 2 := by omega
  by_cases h17 : op = 17
  · subst h17
    clear hp3
    rcases hk with rfl | rfl | rfl
    · have he : Pl.byMem 0 ⟨17, a, b, c⟩ = some [⟨17, a, b, c⟩, ⟨15, a, b, c⟩] := by simp [Pl.byMem]
      skip
      go_enter Tryz.func22, Tryz.ntmps22
      go_wp2_with (first | (go_at_call 17; refine (HP.out _).mono ?_; rintro e w' ⟨rfl, rfl⟩) | fail)
      go_region_with (first | (go_at_call 23; refine (memop_ok _ 17 a b c _ _ ?_).mono ?_; (· ((repeat (first | ((with_reducible apply rowAt.new); simp; done) | (with_reducible apply rowAt.drew) | (with_reducible apply rowAt.drewN) | (with_reducible apply rowAt.alloc) | (with_reducible apply rowAt.setRow_same) | ((with_reducible apply rowAt.so); (· (first | (simp; done) | (simp; omega) | omega))) | (with_reducible apply rowAt.set10) | (with_reducible apply rowAt.set8) | (with_reducible apply rowAt.set4) | (with_reducible apply rowAt.set2) | (with_reducible apply rowAt.set) | ((with_reducible apply rowAt.co); (· (first | (simp; done) | (simp; omega) | omega))) | assumption)); done)); rintro e w1 ⟨rfl, hb1⟩; obtain ⟨hbw, hlw, j0, j1, j2, j3⟩ := after_box hb1))
      all_goals
        go_wp2
        go_ret
        exact ⟨says_some he rfl (il_new2 (t := 31) (by (repeat (first | ((with_reducible apply rowAt.new); simp; done) | (with_reducible apply rowAt.drew) | (with_reducible apply rowAt.drewN) | (with_reducible apply rowAt.alloc) | (with_reducible apply rowAt.setRow_same) | ((with_reducible apply rowAt.so); (· (first | (simp; done) | (simp; omega) | omega))) | (with_reducible apply rowAt.set10) | (with_reducible apply rowAt.set8) | (with_reducible apply rowAt.set4) | (with_reducible apply rowAt.set2) | (with_reducible apply rowAt.set) | ((with_reducible apply rowAt.co); (· (first | (simp; done) | (simp; omega) | omega))) | assumption)))), by have hb := hbw; have hsz := hb.size; (repeat (first | (with_reducible exact Below.refl _ _) | (with_reducible apply Below.drew) | (with_reducible apply bl_drewN) | ((with_reducible apply bl_alloc); (· (first | (simp; done) | (simp; omega) | omega))) | ((with_reducible apply bl_row); (· (first | (simp; done) | (simp; omega) | omega))) | ((with_reducible apply bl_cell); (· (first | (simp; done) | (simp; omega) | omega))) | assumption))⟩
    · have he : Pl.byMem 1 ⟨17, a, b, c⟩ = some [⟨17, a, b, c⟩, ⟨25, a, b, c⟩] := by simp [Pl.byMem]
      skip
      go_enter Tryz.func22, Tryz.ntmps22
      go_wp2_with (first | (go_at_call 17; refine (HP.out _).mono ?_; rintro e w' ⟨rfl, rfl⟩) | fail)
      go_region_with (first | (go_at_call 23; refine (memop_ok _ 17 a b c _ _ ?_).mono ?_; (· ((repeat (first | ((with_reducible apply rowAt.new); simp; done) | (with_reducible apply rowAt.drew) | (with_reducible apply rowAt.drewN) | (with_reducible apply rowAt.alloc) | (with_reducible apply rowAt.setRow_same) | ((with_reducible apply rowAt.so); (· (first | (simp; done) | (simp; omega) | omega))) | (with_reducible apply rowAt.set10) | (with_reducible apply rowAt.set8) | (with_reducible apply rowAt.set4) | (with_reducible apply rowAt.set2) | (with_reducible apply rowAt.set) | ((with_reducible apply rowAt.co); (· (first | (simp; done) | (simp; omega) | omega))) | assumption)); done)); rintro e w1 ⟨rfl, hb1⟩; obtain ⟨hbw, hlw, j0, j1, j2, j3⟩ := after_box hb1))
      all_goals
        go_wp2
        go_ret
        exact ⟨says_some he rfl (il_new2 (t := 31) (by (repeat (first | ((with_reducible apply rowAt.new); simp; done) | (with_reducible apply rowAt.drew) | (with_reducible apply rowAt.drewN) | (with_reducible apply rowAt.alloc) | (with_reducible apply rowAt.setRow_same) | ((with_reducible apply rowAt.so); (· (first | (simp; done) | (simp; omega) | omega))) | (with_reducible apply rowAt.set10) | (with_reducible apply rowAt.set8) | (with_reducible apply rowAt.set4) | (with_reducible apply rowAt.set2) | (with_reducible apply rowAt.set) | ((with_reducible apply rowAt.co); (· (first | (simp; done) | (simp; omega) | omega))) | assumption)))), by have hb := hbw; have hsz := hb.size; (repeat (first | (with_reducible exact Below.refl _ _) | (with_reducible apply Below.drew) | (with_reducible apply bl_drewN) | ((with_reducible apply bl_alloc); (· (first | (simp; done) | (simp; omega) | omega))) | ((with_reducible apply bl_row); (· (first | (simp; done) | (simp; omega) | omega))) | ((with_reducible apply bl_cell); (· (first | (simp; done) | (simp; omega) | omega))) | assumption))⟩
    · have he : Pl.byMem 2 ⟨17, a, b, c⟩ = some [⟨17, a, b, c⟩, ⟨17, a, b, c⟩] := by simp [Pl.byMem]
      skip
      go_enter Tryz.func22, Tryz.ntmps22
      go_wp2_with (first | (go_at_call 17; refine (HP.out _).mono ?_; rintro e w' ⟨rfl, rfl⟩) | fail)
      go_ret
      exact ⟨says_some he rfl (il_new2 (t := 31) (by (repeat (first | ((with_reducible apply rowAt.new); simp; done) | (with_reducible apply rowAt.drew) | (with_reducible apply rowAt.drewN) | (with_reducible apply rowAt.alloc) | (with_reducible apply rowAt.setRow_same) | ((with_reducible apply rowAt.so); (· (first | (simp; done) | (simp; omega) | omega))) | (with_reducible apply rowAt.set10) | (with_reducible apply rowAt.set8) | (with_reducible apply rowAt.set4) | (with_reducible apply rowAt.set2) | (with_reducible apply rowAt.set) | ((with_reducible apply rowAt.co); (· (first | (simp; done) | (simp; omega) | omega))) | assumption)))), by (repeat (first | (with_reducible exact Below.refl _ _) | (with_reducible apply Below.drew) | (with_reducible apply bl_drewN) | ((with_reducible apply bl_alloc); (· (first | (simp; done) | (simp; omega) | omega))) | ((with_reducible apply bl_row); (· (first | (simp; done) | (simp; omega) | omega))) | ((with_reducible apply bl_cell); (· (first | (simp; done) | (simp; omega) | omega))) | assumption))⟩
  by_cases h18 : op = 18
  · subst h18
    clear hk hp3 h17
    · have he : Pl.byMem pk ⟨18, a, b, c⟩ = some [⟨18, a, b, c⟩, ⟨18, a, b, c⟩] := by simp [Pl.byMem]
      skip
      go_enter Tryz.func22, Tryz.ntmps22
      go_wp2_with (first | (go_at_call 17; refine (HP.out _).mono ?_; rintro e w' ⟨rfl, rfl⟩) | fail)
      go_ret
      exact ⟨says_some he rfl (il_new2 (t := 31) (by (repeat (first | ((with_reducible apply rowAt.new); simp; done) | (with_reducible apply rowAt.drew) | (with_reducible apply rowAt.drewN) | (with_reducible apply rowAt.alloc) | (with_reducible apply rowAt.setRow_same) | ((with_reducible apply rowAt.so); (· (first | (simp; done) | (simp; omega) | omega))) | (with_reducible apply rowAt.set10) | (with_reducible apply rowAt.set8) | (with_reducible apply rowAt.set4) | (with_reducible apply rowAt.set2) | (with_reducible apply rowAt.set) | ((with_reducible apply rowAt.co); (· (first | (simp; done) | (simp; omega) | omega))) | assumption)))), by (repeat (first | (with_reducible exact Below.refl _ _) | (with_reducible apply Below.drew) | (with_reducible apply bl_drewN) | ((with_reducible apply bl_alloc); (· (first | (simp; done) | (simp; omega) | omega))) | ((with_reducible apply bl_row); (· (first | (simp; done) | (simp; omega) | omega))) | ((with_reducible apply bl_cell); (· (first | (simp; done) | (simp; omega) | omega))) | assumption))⟩
  by_cases h15 : op = 15
  · subst h15
    clear hp3 h17 h18
    by_cases hab : a = b
    · subst hab
      clear hk
      · have he : Pl.byMem pk ⟨15, a, a, c⟩ = none := by simp [Pl.byMem]
        go_enter Tryz.func22, Tryz.ntmps22
        go_wp2_with (first | (go_at_call 17; refine (HP.out _).mono ?_; rintro e w' ⟨rfl, rfl⟩) | fail)
        go_ret
        exact ⟨says_none he, by (repeat (first | (with_reducible exact Below.refl _ _) | (with_reducible apply Below.drew) | (with_reducible apply bl_drewN) | ((with_reducible apply bl_alloc); (· (first | (simp; done) | (simp; omega) | omega))) | ((with_reducible apply bl_row); (· (first | (simp; done) | (simp; omega) | omega))) | ((with_reducible apply bl_cell); (· (first | (simp; done) | (simp; omega) | omega))) | assumption))⟩
    · have hne := hab
      have hab' : (a != b) = true := by simpa using hab
      clear hab
      rcases hk with rfl | rfl | rfl
      · have he : Pl.byMem 0 ⟨15, a, b, c⟩ = some [⟨15, a, b, c⟩, ⟨25, a, b, c⟩] := by simp [Pl.byMem, hne]
        clear hne
        go_enter Tryz.func22, Tryz.ntmps22
        go_wp2_with (first | (go_at_call 17; refine (HP.out _).mono ?_; rintro e w' ⟨rfl, rfl⟩) | fail)
        go_region_with (first | (go_at_call 23; refine (memop_ok _ 15 a b c _ _ ?_).mono ?_; (· ((repeat (first | ((with_reducible apply rowAt.new); simp; done) | (with_reducible apply rowAt.drew) | (with_reducible apply rowAt.drewN) | (with_reducible apply rowAt.alloc) | (with_reducible apply rowAt.setRow_same) | ((with_reducible apply rowAt.so); (· (first | (simp; done) | (simp; omega) | omega))) | (with_reducible apply rowAt.set10) | (with_reducible apply rowAt.set8) | (with_reducible apply rowAt.set4) | (with_reducible apply rowAt.set2) | (with_reducible apply rowAt.set) | ((with_reducible apply rowAt.co); (· (first | (simp; done) | (simp; omega) | omega))) | assumption)); done)); rintro e w1 ⟨rfl, hb1⟩; obtain ⟨hbw, hlw, j0, j1, j2, j3⟩ := after_box hb1))
        all_goals
          go_wp2
          go_ret
          exact ⟨says_some he rfl (il_new2 (t := 31) (by (repeat (first | ((with_reducible apply rowAt.new); simp; done) | (with_reducible apply rowAt.drew) | (with_reducible apply rowAt.drewN) | (with_reducible apply rowAt.alloc) | (with_reducible apply rowAt.setRow_same) | ((with_reducible apply rowAt.so); (· (first | (simp; done) | (simp; omega) | omega))) | (with_reducible apply rowAt.set10) | (with_reducible apply rowAt.set8) | (with_reducible apply rowAt.set4) | (with_reducible apply rowAt.set2) | (with_reducible apply rowAt.set) | ((with_reducible apply rowAt.co); (· (first | (simp; done) | (simp; omega) | omega))) | assumption)))), by have hb := hbw; have hsz := hb.size; (repeat (first | (with_reducible exact Below.refl _ _) | (with_reducible apply Below.drew) | (with_reducible apply bl_drewN) | ((with_reducible apply bl_alloc); (· (first | (simp; done) | (simp; omega) | omega))) | ((with_reducible apply bl_row); (· (first | (simp; done) | (simp; omega) | omega))) | ((with_reducible apply bl_cell); (· (first | (simp; done) | (simp; omega) | omega))) | assumption))⟩
      · have he : Pl.byMem 1 ⟨15, a, b, c⟩ = some [⟨15, a, b, c⟩, ⟨17, a, b, c⟩] := by simp [Pl.byMem, hne]
        clear hne
        go_enter Tryz.func22, Tryz.ntmps22
        go_wp2_with (first | (go_at_call 17; refine (HP.out _).mono ?_; rintro e w' ⟨rfl, rfl⟩) | fail)
        go_region_with (first | (go_at_call 23; refine (memop_ok _ 15 a b c _ _ ?_).mono ?_; (· ((repeat (first | ((with_reducible apply rowAt.new); simp; done) | (with_reducible apply rowAt.drew) | (with_reducible apply rowAt.drewN) | (with_reducible apply rowAt.alloc) | (with_reducible apply rowAt.setRow_same) | ((with_reducible apply rowAt.so); (· (first | (simp; done) | (simp; omega) | omega))) | (with_reducible apply rowAt.set10) | (with_reducible apply rowAt.set8) | (with_reducible apply rowAt.set4) | (with_reducible apply rowAt.set2) | (with_reducible apply rowAt.set) | ((with_reducible apply rowAt.co); (· (first | (simp; done) | (simp; omega) | omega))) | assumption)); done)); rintro e w1 ⟨rfl, hb1⟩; obtain ⟨hbw, hlw, j0, j1, j2, j3⟩ := after_box hb1))
        all_goals
          go_wp2
          go_ret
          exact ⟨says_some he rfl (il_new2 (t := 31) (by (repeat (first | ((with_reducible apply rowAt.new); simp; done) | (with_reducible apply rowAt.drew) | (with_reducible apply rowAt.drewN) | (with_reducible apply rowAt.alloc) | (with_reducible apply rowAt.setRow_same) | ((with_reducible apply rowAt.so); (· (first | (simp; done) | (simp; omega) | omega))) | (with_reducible apply rowAt.set10) | (with_reducible apply rowAt.set8) | (with_reducible apply rowAt.set4) | (with_reducible apply rowAt.set2) | (with_reducible apply rowAt.set) | ((with_reducible apply rowAt.co); (· (first | (simp; done) | (simp; omega) | omega))) | assumption)))), by have hb := hbw; have hsz := hb.size; (repeat (first | (with_reducible exact Below.refl _ _) | (with_reducible apply Below.drew) | (with_reducible apply bl_drewN) | ((with_reducible apply bl_alloc); (· (first | (simp; done) | (simp; omega) | omega))) | ((with_reducible apply bl_row); (· (first | (simp; done) | (simp; omega) | omega))) | ((with_reducible apply bl_cell); (· (first | (simp; done) | (simp; omega) | omega))) | assumption))⟩
      · have he : Pl.byMem 2 ⟨15, a, b, c⟩ = some [⟨15, a, b, c⟩, ⟨15, a, b, c⟩] := by simp [Pl.byMem, hne]
        clear hne
        go_enter Tryz.func22, Tryz.ntmps22
        go_wp2_with (first | (go_at_call 17; refine (HP.out _).mono ?_; rintro e w' ⟨rfl, rfl⟩) | fail)
        go_ret
        exact ⟨says_some he rfl (il_new2 (t := 31) (by (repeat (first | ((with_reducible apply rowAt.new); simp; done) | (with_reducible apply rowAt.drew) | (with_reducible apply rowAt.drewN) | (with_reducible apply rowAt.alloc) | (with_reducible apply rowAt.setRow_same) | ((with_reducible apply rowAt.so); (· (first | (simp; done) | (simp; omega) | omega))) | (with_reducible apply rowAt.set10) | (with_reducible apply rowAt.set8) | (with_reducible apply rowAt.set4) | (with_reducible apply rowAt.set2) | (with_reducible apply rowAt.set) | ((with_reducible apply rowAt.co); (· (first | (simp; done) | (simp; omega) | omega))) | assumption)))), by (repeat (first | (with_reducible exact Below.refl _ _) | (with_reducible apply Below.drew) | (with_reducible apply bl_drewN) | ((with_reducible apply bl_alloc); (· (first | (simp; done) | (simp; omega) | omega))) | ((with_reducible apply bl_row); (· (first | (simp; done) | (simp; omega) | omega))) | ((with_reducible apply bl_cell); (· (first | (simp; done) | (simp; omega) | omega))) | assumption))⟩
  by_cases h16 : op = 16
  · subst h16
    clear hk hp3 h17 h18 h15
    by_cases hab : a = b
    · subst hab
      · have he : Pl.byMem pk ⟨16, a, a, c⟩ = none := by simp [Pl.byMem]
        go_enter Tryz.func22, Tryz.ntmps22
        go_wp2_with (first | (go_at_call 17; refine (HP.out _).mono ?_; rintro e w' ⟨rfl, rfl⟩) | fail)
        go_ret
        exact ⟨says_none he, by (repeat (first | (with_reducible exact Below.refl _ _) | (with_reducible apply Below.drew) | (with_reducible apply bl_drewN) | ((with_reducible apply bl_alloc); (· (first | (simp; done) | (simp; omega) | omega))) | ((with_reducible apply bl_row); (· (first | (simp; done) | (simp; omega) | omega))) | ((with_reducible apply bl_cell); (· (first | (simp; done) | (simp; omega) | omega))) | assumption))⟩
    · have hne := hab
      have hab' : (a != b) = true := by simpa using hab
      clear hab
      · have he : Pl.byMem pk ⟨16, a, b, c⟩ = some [⟨16, a, b, c⟩, ⟨16, a, b, c⟩] := by simp [Pl.byMem, hne]
        clear hne
        go_enter Tryz.func22, Tryz.ntmps22
        go_wp2_with (first | (go_at_call 17; refine (HP.out _).mono ?_; rintro e w' ⟨rfl, rfl⟩) | fail)
        go_ret
        exact ⟨says_some he rfl (il_new2 (t := 31) (by (repeat (first | ((with_reducible apply rowAt.new); simp; done) | (with_reducible apply rowAt.drew) | (with_reducible apply rowAt.drewN) | (with_reducible apply rowAt.alloc) | (with_reducible apply rowAt.setRow_same) | ((with_reducible apply rowAt.so); (· (first | (simp; done) | (simp; omega) | omega))) | (with_reducible apply rowAt.set10) | (with_reducible apply rowAt.set8) | (with_reducible apply rowAt.set4) | (with_reducible apply rowAt.set2) | (with_reducible apply rowAt.set) | ((with_reducible apply rowAt.co); (· (first | (simp; done) | (simp; omega) | omega))) | assumption)))), by (repeat (first | (with_reducible exact Below.refl _ _) | (with_reducible apply Below.drew) | (with_reducible apply bl_drewN) | ((with_reducible apply bl_alloc); (· (first | (simp; done) | (simp; omega) | omega))) | ((with_reducible apply bl_row); (· (first | (simp; done) | (simp; omega) | omega))) | ((with_reducible apply bl_cell); (· (first | (simp; done) | (simp; omega) | omega))) | assumption))⟩
  by_cases h25 : op = 25
  · subst h25
    clear hk hp3 h17 h18 h15 h16
    by_cases hab : a = b
    · subst hab
      · have he : Pl.byMem pk ⟨25, a, a, c⟩ = none := by simp [Pl.byMem]
        go_enter Tryz.func22, Tryz.ntmps22
        go_wp2_with (first | (go_at_call 17; refine (HP.out _).mono ?_; rintro e w' ⟨rfl, rfl⟩) | fail)
        go_ret
        exact ⟨says_none he, by (repeat (first | (with_reducible exact Below.refl _ _) | (with_reducible apply Below.drew) | (with_reducible apply bl_drewN) | ((with_reducible apply bl_alloc); (· (first | (simp; done) | (simp; omega) | omega))) | ((with_reducible apply bl_row); (· (first | (simp; done) | (simp; omega) | omega))) | ((with_reducible apply bl_cell); (· (first | (simp; done) | (simp; omega) | omega))) | assumption))⟩
    · have hne := hab
      have hab' : (a != b) = true := by simpa using hab
      clear hab
      · have he : Pl.byMem pk ⟨25, a, b, c⟩ = some [⟨25, a, b, c⟩, ⟨25, a, b, c⟩, ⟨25, a, b, c⟩] := by simp [Pl.byMem, hne]
        clear hne
        go_enter Tryz.func22, Tryz.ntmps22
        go_wp2_with (first | (go_at_call 17; refine (HP.out _).mono ?_; rintro e w' ⟨rfl, rfl⟩) | fail)
        go_ret
        exact ⟨says_some he rfl (il_new3 (t := 31) (by (repeat (first | ((with_reducible apply rowAt.new); simp; done) | (with_reducible apply rowAt.drew) | (with_reducible apply rowAt.drewN) | (with_reducible apply rowAt.alloc) | (with_reducible apply rowAt.setRow_same) | ((with_reducible apply rowAt.so); (· (first | (simp; done) | (simp; omega) | omega))) | (with_reducible apply rowAt.set10) | (with_reducible apply rowAt.set8) | (with_reducible apply rowAt.set4) | (with_reducible apply rowAt.set2) | (with_reducible apply rowAt.set) | ((with_reducible apply rowAt.co); (· (first | (simp; done) | (simp; omega) | omega))) | assumption)))), by (repeat (first | (with_reducible exact Below.refl _ _) | (with_reducible apply Below.drew) | (with_reducible apply bl_drewN) | ((with_reducible apply bl_alloc); (· (first | (simp; done) | (simp; omega) | omega))) | ((with_reducible apply bl_row); (· (first | (simp; done) | (simp; omega) | omega))) | ((with_reducible apply bl_cell); (· (first | (simp; done) | (simp; omega) | omega))) | assumption))⟩
  have e17 : (op == 17) = false := by simpa using h17
  have e18 : (op == 18) = false := by simpa using h18
  have e15 : (op == 15) = false := by simpa using h15
  have e16 : (op == 16) = false := by simpa using h16
  have e25 : (op == 25) = false := by simpa using h25
  have he : Pl.byMem pk ⟨op, a, b, c⟩ = none := by simp [Pl.byMem, h17, h18, h15, h16, h25]
  clear h17 h18 h15 h16 h25 hk hp3
  go_enter Tryz.func22, Tryz.ntmps22
  go_wp2
  go_ret
  exact ⟨says_none he, by (repeat (first | (with_reducible exact Below.refl _ _) | (with_reducible apply Below.drew) | (with_reducible apply bl_drewN) | ((with_reducible apply bl_alloc); (· (first | (simp; done) | (simp; omega) | omega))) | ((with_reducible apply bl_row); (· (first | (simp; done) | (simp; omega) | omega))) | ((with_reducible apply bl_cell); (· (first | (simp; done) | (simp; omega) | omega))) | assumption))⟩

theorem ent_mems (args : Array Value) (W : World) : (callFunc 22 args).run Tryz.prog W = .ok (.enter 22 args) W := enters Tryz.func22 (by kernel_rfl) rfl args W
theorem mems_law (how : Nat) (i : Pl.Ins) (m : List Pl.Ins) (hv : Pl.valid i) (h : Pl.byMem how i = some m) : Pl.OkPut i m ∧ m ≠ [] := by
  refine ⟨Pl.mem_ok hv h, fun e => ?_⟩
  subst e
  unfold Pl.byMem at h
  rcases Pl.ite_case h with ⟨_, h⟩ | ⟨_, h⟩
  · cases h
  rcases Pl.ite_case h with ⟨_, h⟩ | ⟨_, h⟩
  · cases h
  rcases Pl.ite_case h with ⟨_, h⟩ | ⟨_, h⟩
  · cases h
  rcases Pl.ite_case h with ⟨_, h⟩ | ⟨_, h⟩
  · cases h
  rcases Pl.ite_case h with ⟨_, h⟩ | ⟨_, h⟩
  · cases h
  rcases Pl.ite_case h with ⟨_, h⟩ | ⟨_, h⟩
  · cases h
  · cases h

set_option maxHeartbeats 3200000 in
set_option maxRecDepth 100000 in
theorem mems_ok {w : World} {lv dv : Value} {ws : List Pl.Ins} {R D : List Int} {which how : Int} (G : Given w lv dv ws R D) (hwh : i64 which) (hh : i64 how) :
    Calls Tryz.prog 7 #[lv, .agg (arr R), dv, .int .i64 which, .int .i64 how] w fun e w' => e = .returned (.bool true) ∧ Below w.heap.size w w' := by
  have HG := Lib.hid G
  obtain ⟨r0, r1, r2, r3, r4, r5, r6, r7, hRe⟩ := eight G.regs.1
  subst hRe
  have hmf : ∀ (fn : Fn) (first cap : Array Value) (w : World), (Instr.makeFunc fn first cap).run Tryz.prog w = .ok (.func fn first cap) w := fun _ _ _ _ => rfl
  rw [arr8]
  clear G
  go_enter Tryz.func7, Tryz.ntmps7
  go_wp2_with fail
  go_region_with (first | (go_at_call 18; refine (wPut_ok _ _ _ _).mono ?_; rintro e w1 ⟨gb, gw, rfl, hby, hwc, hb1⟩; obtain ⟨hbw, hlw, hcx, c0, c1, c2, c3, c4, c5, c6, c7⟩ := after_put hb1) | (go_at_call 13; refine (put_same_ok (ws := ws) (R := [r0, r1, r2, r3, r4, r5, r6, r7]) (D := D) (HG.out.kept hbw) hby hwc hwh ent_mems (mems_by hh hcx) (mems_law _)).mono ?_; rintro e w2 ⟨rfl, hb2⟩))
  all_goals
    go_wp2
    go_ret
    exact ⟨rfl, hbw.trans (hb2.mono hbw.size)⟩
end Go.Proofs.YtghjjemnegncpaaGreatDoor
