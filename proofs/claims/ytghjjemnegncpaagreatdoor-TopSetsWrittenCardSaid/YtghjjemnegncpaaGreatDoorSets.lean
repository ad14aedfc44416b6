/- The walks of TopSetsWritten. -/
import Derived.Test.YtghjjemnegncpaaGreatDoorSameOk
set_option linter.unusedSimpArgs false
set_option linter.unusedVariables false
set_option linter.unusedSectionVars false
set_option linter.unnecessarySimpa false
namespace Go.Proofs.YtghjjemnegncpaaGreatDoor
open Go.RowKit

set_option maxHeartbeats 3200000 in
set_option maxRecDepth 100000 in
theorem sets_by {w : World} {g : Nat} {how : Int} (hh : i64 how) (hc : w.cell? ⟨g, 0, none⟩ = some (.int .i64 how)) : ByOk w 20 #[.pointer (some ⟨g, 0, none⟩)] (Pl.bySets (pick how 3)) := by
  intro W i hv hf hb
  have hlt := World.block_lt_of_cell? w _ hc
  have hcW := (hb.cell (p := ⟨g, 0, none⟩) hlt).trans hc
  have hg : g < W.heap.size := World.block_lt_of_cell? W _ hcW
  have hp := fun W => wPick_is how 3 W (by decide) (by decide) hh
  rw [show ((3 : Nat) : Int) = 3 from rfl] at hp
  have hp3 : pick how 3 < 3 := Nat.mod_lt _ (by decide)
  obtain ⟨op, a, b, c⟩ := i
  clear hb hc hlt hv hf hh
  rw [show (#[insV ⟨op, a, b, c⟩] ++ #[Value.pointer (some ⟨g, 0, none⟩)] : Array Value) = #[.agg #[.int .i64 op, .int .i64 a, .int .i64 b, .int .i64 c], .pointer (some ⟨g, 0, none⟩)] from rfl]
  generalize pick how 3 = pk at *
  have HP := Lib.hid hp
  clear hp
  by_cases h2 : op = 2
  · subst h2
    have hk : pk = 0 ∨ pk = 1 ∨ pk = 2 := by omega
    clear hp3
    rcases hk with rfl | rfl | rfl
    · have he : Pl.bySets 0 ⟨2, a, b, c⟩ = some [⟨6, a, a, 0⟩, ⟨14, a, a, c⟩] := by simp [Pl.bySets]
      go_enter Tryz.func20, Tryz.ntmps20
      go_wp2_with (go_at_call 17; refine (HP.out _).mono ?_; rintro e w' ⟨rfl, rfl⟩)
      go_ret
      exact ⟨says_some he rfl (il_new2 (t := 31) (by (repeat (first | ((with_reducible apply rowAt.new); simp; done) | (with_reducible apply rowAt.drew) | (with_reducible apply rowAt.drewN) | (with_reducible apply rowAt.alloc) | (with_reducible apply rowAt.setRow_same) | ((with_reducible apply rowAt.so); (· (first | (simp; done) | (simp; omega) | omega))) | (with_reducible apply rowAt.set10) | (with_reducible apply rowAt.set8) | (with_reducible apply rowAt.set4) | (with_reducible apply rowAt.set2) | (with_reducible apply rowAt.set) | ((with_reducible apply rowAt.co); (· (first | (simp; done) | (simp; omega) | omega))) | assumption)))), by (repeat (first | (with_reducible exact Below.refl _ _) | (with_reducible apply Below.drew) | (with_reducible apply bl_drewN) | ((with_reducible apply bl_alloc); (· (first | (simp; done) | (simp; omega) | omega))) | ((with_reducible apply bl_row); (· (first | (simp; done) | (simp; omega) | omega))) | ((with_reducible apply bl_cell); (· (first | (simp; done) | (simp; omega) | omega))) | assumption))⟩
    · have he : Pl.bySets 1 ⟨2, a, b, c⟩ = some [⟨11, a, a, 0⟩, ⟨14, a, a, c⟩] := by simp [Pl.bySets]
      go_enter Tryz.func20, Tryz.ntmps20
      go_wp2_with (go_at_call 17; refine (HP.out _).mono ?_; rintro e w' ⟨rfl, rfl⟩)
      go_ret
      exact ⟨says_some he rfl (il_new2 (t := 31) (by (repeat (first | ((with_reducible apply rowAt.new); simp; done) | (with_reducible apply rowAt.drew) | (with_reducible apply rowAt.drewN) | (with_reducible apply rowAt.alloc) | (with_reducible apply rowAt.setRow_same) | ((with_reducible apply rowAt.so); (· (first | (simp; done) | (simp; omega) | omega))) | (with_reducible apply rowAt.set10) | (with_reducible apply rowAt.set8) | (with_reducible apply rowAt.set4) | (with_reducible apply rowAt.set2) | (with_reducible apply rowAt.set) | ((with_reducible apply rowAt.co); (· (first | (simp; done) | (simp; omega) | omega))) | assumption)))), by (repeat (first | (with_reducible exact Below.refl _ _) | (with_reducible apply Below.drew) | (with_reducible apply bl_drewN) | ((with_reducible apply bl_alloc); (· (first | (simp; done) | (simp; omega) | omega))) | ((with_reducible apply bl_row); (· (first | (simp; done) | (simp; omega) | omega))) | ((with_reducible apply bl_cell); (· (first | (simp; done) | (simp; omega) | omega))) | assumption))⟩
    · by_cases hc0 : c < 0
      · have he : Pl.bySets 2 ⟨2, a, b, c⟩ = some [⟨2, a, 0, -1⟩, ⟨3, a, 0, c⟩] := by simp [Pl.bySets, hc0]
        go_enter Tryz.func20, Tryz.ntmps20
        go_wp2_with (go_at_call 17; refine (HP.out _).mono ?_; rintro e w' ⟨rfl, rfl⟩)
        go_ret
        exact ⟨says_some he rfl (il_new2 (t := 31) (by (repeat (first | ((with_reducible apply rowAt.new); simp; done) | (with_reducible apply rowAt.drew) | (with_reducible apply rowAt.drewN) | (with_reducible apply rowAt.alloc) | (with_reducible apply rowAt.setRow_same) | ((with_reducible apply rowAt.so); (· (first | (simp; done) | (simp; omega) | omega))) | (with_reducible apply rowAt.set10) | (with_reducible apply rowAt.set8) | (with_reducible apply rowAt.set4) | (with_reducible apply rowAt.set2) | (with_reducible apply rowAt.set) | ((with_reducible apply rowAt.co); (· (first | (simp; done) | (simp; omega) | omega))) | assumption)))), by (repeat (first | (with_reducible exact Below.refl _ _) | (with_reducible apply Below.drew) | (with_reducible apply bl_drewN) | ((with_reducible apply bl_alloc); (· (first | (simp; done) | (simp; omega) | omega))) | ((with_reducible apply bl_row); (· (first | (simp; done) | (simp; omega) | omega))) | ((with_reducible apply bl_cell); (· (first | (simp; done) | (simp; omega) | omega))) | assumption))⟩
      · have he : Pl.bySets 2 ⟨2, a, b, c⟩ = some [⟨2, a, 0, 0⟩, ⟨3, a, 0, c⟩] := by simp [Pl.bySets, hc0]
        go_enter Tryz.func20, Tryz.ntmps20
        go_wp2_with (go_at_call 17; refine (HP.out _).mono ?_; rintro e w' ⟨rfl, rfl⟩)
        go_ret
        exact ⟨says_some he rfl (il_new2 (t := 31) (by (repeat (first | ((with_reducible apply rowAt.new); simp; done) | (with_reducible apply rowAt.drew) | (with_reducible apply rowAt.drewN) | (with_reducible apply rowAt.alloc) | (with_reducible apply rowAt.setRow_same) | ((with_reducible apply rowAt.so); (· (first | (simp; done) | (simp; omega) | omega))) | (with_reducible apply rowAt.set10) | (with_reducible apply rowAt.set8) | (with_reducible apply rowAt.set4) | (with_reducible apply rowAt.set2) | (with_reducible apply rowAt.set) | ((with_reducible apply rowAt.co); (· (first | (simp; done) | (simp; omega) | omega))) | assumption)))), by (repeat (first | (with_reducible exact Below.refl _ _) | (with_reducible apply Below.drew) | (with_reducible apply bl_drewN) | ((with_reducible apply bl_alloc); (· (first | (simp; done) | (simp; omega) | omega))) | ((with_reducible apply bl_row); (· (first | (simp; done) | (simp; omega) | omega))) | ((with_reducible apply bl_cell); (· (first | (simp; done) | (simp; omega) | omega))) | assumption))⟩
  · have h2' : (op != 2) = true := by simpa using h2
    have he : Pl.bySets pk ⟨op, a, b, c⟩ = none := by simp [Pl.bySets, h2]
    clear h2
    go_enter Tryz.func20, Tryz.ntmps20
    go_wp2
    go_ret
    exact ⟨says_none he, by (repeat (first | (with_reducible exact Below.refl _ _) | (with_reducible apply Below.drew) | (with_reducible apply bl_drewN) | ((with_reducible apply bl_alloc); (· (first | (simp; done) | (simp; omega) | omega))) | ((with_reducible apply bl_row); (· (first | (simp; done) | (simp; omega) | omega))) | ((with_reducible apply bl_cell); (· (first | (simp; done) | (simp; omega) | omega))) | assumption))⟩

theorem ent_sets (args : Array Value) (W : World) : (callFunc 20 args).run Tryz.prog W = .ok (.enter 20 args) W := enters Tryz.func20 (by kernel_rfl) rfl args W
theorem sets_law (how : Nat) (i : Pl.Ins) (m : List Pl.Ins) (hv : Pl.valid i) (h : Pl.bySets how i = some m) : Pl.OkPut i m ∧ m ≠ [] := by
  refine ⟨Pl.sets_ok hv h, fun e => ?_⟩
  subst e
  unfold Pl.bySets at h
  rcases Pl.ite_case h with ⟨_, h⟩ | ⟨_, h⟩
  · simp only [Option.some.injEq] at h
    rcases Pl.ite_case h with ⟨_, h⟩ | ⟨_, h⟩
    · cases h
    rcases Pl.ite_case h with ⟨_, h⟩ | ⟨_, h⟩
    · cases h
    · cases h
  · cases h

set_option maxHeartbeats 3200000 in
set_option maxRecDepth 100000 in
theorem sets_ok {w : World} {lv dv : Value} {ws : List Pl.Ins} {R D : List Int} {which how : Int} (G : Given w lv dv ws R D) (hwh : i64 which) (hh : i64 how) :
    Calls Tryz.prog 5 #[lv, .agg (arr R), dv, .int .i64 which, .int .i64 how] w fun e w' => e = .returned (.bool true) ∧ Below w.heap.size w w' := by
  have HG := Lib.hid G
  obtain ⟨r0, r1, r2, r3, r4, r5, r6, r7, hRe⟩ := eight G.regs.1
  subst hRe
  have hmf : ∀ (fn : Fn) (first cap : Array Value) (w : World), (Instr.makeFunc fn first cap).run Tryz.prog w = .ok (.func fn first cap) w := fun _ _ _ _ => rfl
  rw [arr8]
  clear G
  go_enter Tryz.func5, Tryz.ntmps5
  go_wp2_with fail
  go_region_with (first | (go_at_call 18; refine (wPut_ok _ _ _ _).mono ?_; rintro e w1 ⟨gb, gw, rfl, hby, hwc, hb1⟩; obtain ⟨hbw, hlw, hcx, c0, c1, c2, c3, c4, c5, c6, c7⟩ := after_put hb1) | (go_at_call 13; refine (put_same_ok (ws := ws) (R := [r0, r1, r2, r3, r4, r5, r6, r7]) (D := D) (HG.out.kept hbw) hby hwc hwh ent_sets (sets_by hh hcx) (sets_law _)).mono ?_; rintro e w2 ⟨rfl, hb2⟩))
  all_goals
    go_wp2
    go_ret
    exact ⟨rfl, hbw.trans (hb2.mono hbw.size)⟩
end Go.Proofs.YtghjjemnegncpaaGreatDoor
