/- The walks of TopMovesWritten. -/
import Derived.Test.YtghjjemnegncpaaGreatDoorSameOk
set_option linter.unusedSimpArgs false
set_option linter.unusedVariables false
set_option linter.unusedSectionVars false
set_option linter.unnecessarySimpa false
namespace Go.Proofs.YtghjjemnegncpaaGreatDoor
open Go.RowKit

set_option maxHeartbeats 3200000 in
set_option maxRecDepth 100000 in
theorem moves_by {w : World} {g : Nat} {bits : Bool} (hc : w.cell? ⟨g, 0, none⟩ = some (.bool bits)) : ByOk w 19 #[.pointer (some ⟨g, 0, none⟩)] (Pl.byMoves bits) := by
  intro W i hv hf hb
  have hlt := World.block_lt_of_cell? w _ hc
  have hcW := (hb.cell (p := ⟨g, 0, none⟩) hlt).trans hc
  have hg : g < W.heap.size := World.block_lt_of_cell? W _ hcW
  obtain ⟨op, a, b, c⟩ := i
  clear hb hc hlt hv hf
  rw [show (#[insV ⟨op, a, b, c⟩] ++ #[Value.pointer (some ⟨g, 0, none⟩)] : Array Value) = #[.agg #[.int .i64 op, .int .i64 a, .int .i64 b, .int .i64 c], .pointer (some ⟨g, 0, none⟩)] from rfl]
  by_cases h4 : op = 4
  · subst h4
    by_cases hab : a = b
    · subst hab
      have he : Pl.byMoves bits ⟨4, a, a, c⟩ = some [⟨14, a, a, 0⟩] := by simp [Pl.byMoves]
      cases bits
      all_goals
        go_enter Tryz.func19, Tryz.ntmps19
        go_wp2
        go_ret
        exact ⟨says_some he rfl (il_new1 (t := 31) (by (repeat (first | ((with_reducible apply rowAt.new); simp; done) | (with_reducible apply rowAt.drew) | (with_reducible apply rowAt.drewN) | (with_reducible apply rowAt.alloc) | (with_reducible apply rowAt.setRow_same) | ((with_reducible apply rowAt.so); (· (first | (simp; done) | (simp; omega) | omega))) | (with_reducible apply rowAt.set10) | (with_reducible apply rowAt.set8) | (with_reducible apply rowAt.set4) | (with_reducible apply rowAt.set2) | (with_reducible apply rowAt.set) | ((with_reducible apply rowAt.co); (· (first | (simp; done) | (simp; omega) | omega))) | assumption)))), by (repeat (first | (with_reducible exact Below.refl _ _) | (with_reducible apply Below.drew) | (with_reducible apply bl_drewN) | ((with_reducible apply bl_alloc); (· (first | (simp; done) | (simp; omega) | omega))) | ((with_reducible apply bl_row); (· (first | (simp; done) | (simp; omega) | omega))) | ((with_reducible apply bl_cell); (· (first | (simp; done) | (simp; omega) | omega))) | assumption))⟩
    · have hne : (a != b) = true := by simpa using hab
      cases bits
      · have he : Pl.byMoves false ⟨4, a, b, c⟩ = some [⟨14, a, b, 0⟩] := by simp [Pl.byMoves]
        clear hab
        go_enter Tryz.func19, Tryz.ntmps19
        go_wp2
        go_ret
        exact ⟨says_some he rfl (il_new1 (t := 31) (by (repeat (first | ((with_reducible apply rowAt.new); simp; done) | (with_reducible apply rowAt.drew) | (with_reducible apply rowAt.drewN) | (with_reducible apply rowAt.alloc) | (with_reducible apply rowAt.setRow_same) | ((with_reducible apply rowAt.so); (· (first | (simp; done) | (simp; omega) | omega))) | (with_reducible apply rowAt.set10) | (with_reducible apply rowAt.set8) | (with_reducible apply rowAt.set4) | (with_reducible apply rowAt.set2) | (with_reducible apply rowAt.set) | ((with_reducible apply rowAt.co); (· (first | (simp; done) | (simp; omega) | omega))) | assumption)))), by (repeat (first | (with_reducible exact Below.refl _ _) | (with_reducible apply Below.drew) | (with_reducible apply bl_drewN) | ((with_reducible apply bl_alloc); (· (first | (simp; done) | (simp; omega) | omega))) | ((with_reducible apply bl_row); (· (first | (simp; done) | (simp; omega) | omega))) | ((with_reducible apply bl_cell); (· (first | (simp; done) | (simp; omega) | omega))) | assumption))⟩
      · have he : Pl.byMoves true ⟨4, a, b, c⟩ = some [⟨9, a, b, 0⟩, ⟨10, a, b, 0⟩] := by simp [Pl.byMoves, hab]
        clear hab
        go_enter Tryz.func19, Tryz.ntmps19
        go_wp2
        go_ret
        exact ⟨says_some he rfl (il_new2 (t := 31) (by (repeat (first | ((with_reducible apply rowAt.new); simp; done) | (with_reducible apply rowAt.drew) | (with_reducible apply rowAt.drewN) | (with_reducible apply rowAt.alloc) | (with_reducible apply rowAt.setRow_same) | ((with_reducible apply rowAt.so); (· (first | (simp; done) | (simp; omega) | omega))) | (with_reducible apply rowAt.set10) | (with_reducible apply rowAt.set8) | (with_reducible apply rowAt.set4) | (with_reducible apply rowAt.set2) | (with_reducible apply rowAt.set) | ((with_reducible apply rowAt.co); (· (first | (simp; done) | (simp; omega) | omega))) | assumption)))), by (repeat (first | (with_reducible exact Below.refl _ _) | (with_reducible apply Below.drew) | (with_reducible apply bl_drewN) | ((with_reducible apply bl_alloc); (· (first | (simp; done) | (simp; omega) | omega))) | ((with_reducible apply bl_row); (· (first | (simp; done) | (simp; omega) | omega))) | ((with_reducible apply bl_cell); (· (first | (simp; done) | (simp; omega) | omega))) | assumption))⟩
  · have h4' : (op == 4) = false := by simpa using h4
    by_cases h14 : op = 14
    · subst h14
      by_cases hab : a = b
      · subst hab
        have he : Pl.byMoves bits ⟨14, a, a, c⟩ = none := by simp [Pl.byMoves]
        clear h4
        go_enter Tryz.func19, Tryz.ntmps19
        go_wp2
        go_ret
        exact ⟨says_none he, by (repeat (first | (with_reducible exact Below.refl _ _) | (with_reducible apply Below.drew) | (with_reducible apply bl_drewN) | ((with_reducible apply bl_alloc); (· (first | (simp; done) | (simp; omega) | omega))) | ((with_reducible apply bl_row); (· (first | (simp; done) | (simp; omega) | omega))) | ((with_reducible apply bl_cell); (· (first | (simp; done) | (simp; omega) | omega))) | assumption))⟩
      · have hne : (a != b) = true := by simpa using hab
        have he : Pl.byMoves bits ⟨14, a, b, c⟩ = some [⟨4, a, b, 0⟩, ⟨14, a, a, c⟩] := by simp [Pl.byMoves, hab]
        clear hab h4
        go_enter Tryz.func19, Tryz.ntmps19
        go_wp2
        go_ret
        exact ⟨says_some he rfl (il_new2 (t := 31) (by (repeat (first | ((with_reducible apply rowAt.new); simp; done) | (with_reducible apply rowAt.drew) | (with_reducible apply rowAt.drewN) | (with_reducible apply rowAt.alloc) | (with_reducible apply rowAt.setRow_same) | ((with_reducible apply rowAt.so); (· (first | (simp; done) | (simp; omega) | omega))) | (with_reducible apply rowAt.set10) | (with_reducible apply rowAt.set8) | (with_reducible apply rowAt.set4) | (with_reducible apply rowAt.set2) | (with_reducible apply rowAt.set) | ((with_reducible apply rowAt.co); (· (first | (simp; done) | (simp; omega) | omega))) | assumption)))), by (repeat (first | (with_reducible exact Below.refl _ _) | (with_reducible apply Below.drew) | (with_reducible apply bl_drewN) | ((with_reducible apply bl_alloc); (· (first | (simp; done) | (simp; omega) | omega))) | ((with_reducible apply bl_row); (· (first | (simp; done) | (simp; omega) | omega))) | ((with_reducible apply bl_cell); (· (first | (simp; done) | (simp; omega) | omega))) | assumption))⟩
    · have h14' : (op == 14) = false := by simpa using h14
      have he : Pl.byMoves bits ⟨op, a, b, c⟩ = none := by simp [Pl.byMoves, h4, h14]
      clear h4 h14
      go_enter Tryz.func19, Tryz.ntmps19
      go_wp2
      go_ret
      exact ⟨says_none he, by (repeat (first | (with_reducible exact Below.refl _ _) | (with_reducible apply Below.drew) | (with_reducible apply bl_drewN) | ((with_reducible apply bl_alloc); (· (first | (simp; done) | (simp; omega) | omega))) | ((with_reducible apply bl_row); (· (first | (simp; done) | (simp; omega) | omega))) | ((with_reducible apply bl_cell); (· (first | (simp; done) | (simp; omega) | omega))) | assumption))⟩

theorem ent_moves (args : Array Value) (W : World) : (callFunc 19 args).run Tryz.prog W = .ok (.enter 19 args) W := enters Tryz.func19 (by kernel_rfl) rfl args W
theorem moves_law (bits : Bool) (i : Pl.Ins) (m : List Pl.Ins) (hv : Pl.valid i) (h : Pl.byMoves bits i = some m) : Pl.OkPut i m ∧ m ≠ [] := by
  refine ⟨Pl.moves_ok hv h, fun e => ?_⟩
  subst e
  unfold Pl.byMoves at h
  rcases Pl.ite_case h with ⟨_, h⟩ | ⟨_, h⟩
  · cases h
  rcases Pl.ite_case h with ⟨_, h⟩ | ⟨_, h⟩
  · cases h
  rcases Pl.ite_case h with ⟨_, h⟩ | ⟨_, h⟩
  · cases h
  · cases h

set_option maxHeartbeats 3200000 in
set_option maxRecDepth 100000 in
theorem moves_ok {w : World} {lv dv : Value} {ws : List Pl.Ins} {R D : List Int} {which : Int} {bits : Bool} (G : Given w lv dv ws R D) (hwh : i64 which) :
    Calls Tryz.prog 4 #[lv, .agg (arr R), dv, .int .i64 which, .bool bits] w fun e w' => e = .returned (.bool true) ∧ Below w.heap.size w w' := by
  have HG := Lib.hid G
  obtain ⟨r0, r1, r2, r3, r4, r5, r6, r7, hRe⟩ := eight G.regs.1
  subst hRe
  have hmf : ∀ (fn : Fn) (first cap : Array Value) (w : World), (Instr.makeFunc fn first cap).run Tryz.prog w = .ok (.func fn first cap) w := fun _ _ _ _ => rfl
  rw [arr8]
  clear G
  go_enter Tryz.func4, Tryz.ntmps4
  go_wp2_with fail
  go_region_with (first | (go_at_call 18; refine (wPut_ok _ _ _ _).mono ?_; rintro e w1 ⟨gb, gw, rfl, hby, hwc, hb1⟩; obtain ⟨hbw, hlw, hcx, c0, c1, c2, c3, c4, c5, c6, c7⟩ := after_put hb1) | (go_at_call 13; refine (put_same_ok (ws := ws) (R := [r0, r1, r2, r3, r4, r5, r6, r7]) (D := D) (HG.out.kept hbw) hby hwc hwh ent_moves (moves_by hcx) (moves_law bits)).mono ?_; rintro e w2 ⟨rfl, hb2⟩))
  all_goals
    go_wp2
    go_ret
    exact ⟨rfl, hbw.trans (hb2.mono hbw.size)⟩
end Go.Proofs.YtghjjemnegncpaaGreatDoor
