/- The walks of TopSumsParted. -/
import Derived.Test.YtghjjemnegncpaaGreatDoorSameOk
set_option linter.unusedSimpArgs false
set_option linter.unusedVariables false
set_option linter.unusedSectionVars false
set_option linter.unnecessarySimpa false
namespace Go.Proofs.YtghjjemnegncpaaGreatDoor
open Go.RowKit

/-- Some of a number, by any number. -/
def kf (cut c : Int) : Int := if c < 0 then -((pick cut ((-c).toNat + 1) : Nat) : Int) else ((pick cut (c.toNat + 1) : Nat) : Int)
theorem kf_part (cut c : Int) : Pl.part (kf cut c) c := by
  unfold kf Pl.part
  split
  · have : pick cut ((-c).toNat + 1) < (-c).toNat + 1 := Nat.mod_lt _ (by omega)
    omega
  · have : pick cut (c.toNat + 1) < c.toNat + 1 := Nat.mod_lt _ (by omega)
    omega

set_option maxHeartbeats 3200000 in
set_option maxRecDepth 100000 in
theorem sums_by {w : World} {g : Nat} {cut : Int} (hh : i64 cut) (hc : w.cell? ⟨g, 0, none⟩ = some (.int .i64 cut)) : ByOk w 21 #[.pointer (some ⟨g, 0, none⟩)] (Pl.bySums (kf cut)) := by
  intro W i hv hf hb
  have hlt := World.block_lt_of_cell? w _ hc
  have hcW := (hb.cell (p := ⟨g, 0, none⟩) hlt).trans hc
  have hg : g < W.heap.size := World.block_lt_of_cell? W _ hcW
  have hcb : -32768 ≤ i.c ∧ i.c ≤ 32767 := ⟨hv.2.2.2.2.2.2.1, hv.2.2.2.2.2.2.2.1⟩
  obtain ⟨op, a, b, c⟩ := i
  dsimp only at hcb
  have hp := fun (n : Nat) (hn : n ≤ 32768) W => wPick_is cut (n + 1) W (by omega) (by omega) hh
  clear hb hc hlt hv hf hh
  rw [show (#[insV ⟨op, a, b, c⟩] ++ #[Value.pointer (some ⟨g, 0, none⟩)] : Array Value) = #[.agg #[.int .i64 op, .int .i64 a, .int .i64 b, .int .i64 c], .pointer (some ⟨g, 0, none⟩)] from rfl]
  by_cases ho : op = 14 ∨ op = 2
  · by_cases hc0 : c < 0
    · obtain ⟨n, hn⟩ : ∃ n : Nat, c = -(n : Int) := ⟨(-c).toNat, by omega⟩
      subst hn
      have hpn := hp n (by omega)
      have hpl : pick cut (n + 1) < n + 1 := Nat.mod_lt _ (by omega)
      have hk : kf cut (-(n : Int)) = -((pick cut (n + 1) : Nat) : Int) := by
        unfold kf
        rw [if_pos hc0, show (-(-(n : Int))).toNat = n by omega]
      rw [show ((n + 1 : Nat) : Int) = max (-(n : Int)) n + 1 by omega] at hpn
      generalize pick cut (n + 1) = k at *
      have HP := Lib.hid hpn
      clear hp hpn
      rcases ho with rfl | rfl
      · have he : Pl.bySums (kf cut) ⟨14, a, b, -(n : Int)⟩ = some [⟨14, a, b, -(k : Int)⟩, ⟨14, a, a, -(n : Int) + (k : Int)⟩] := by simp [Pl.bySums, hk]
        clear hk
        go_enter Tryz.func21, Tryz.ntmps21
        go_wp2_with (go_at_call 17; refine (HP.out _).mono ?_; rintro e w' ⟨rfl, rfl⟩)
        go_ret
        exact ⟨says_some he rfl (il_new2 (t := 31) (by (repeat (first | ((with_reducible apply rowAt.new); simp; done) | (with_reducible apply rowAt.drew) | (with_reducible apply rowAt.drewN) | (with_reducible apply rowAt.alloc) | (with_reducible apply rowAt.setRow_same) | ((with_reducible apply rowAt.so); (· (first | (simp; done) | (simp; omega) | omega))) | (with_reducible apply rowAt.set10) | (with_reducible apply rowAt.set8) | (with_reducible apply rowAt.set4) | (with_reducible apply rowAt.set2) | (with_reducible apply rowAt.set) | ((with_reducible apply rowAt.co); (· (first | (simp; done) | (simp; omega) | omega))) | assumption)))), by (repeat (first | (with_reducible exact Below.refl _ _) | (with_reducible apply Below.drew) | (with_reducible apply bl_drewN) | ((with_reducible apply bl_alloc); (· (first | (simp; done) | (simp; omega) | omega))) | ((with_reducible apply bl_row); (· (first | (simp; done) | (simp; omega) | omega))) | ((with_reducible apply bl_cell); (· (first | (simp; done) | (simp; omega) | omega))) | assumption))⟩
      · have he : Pl.bySums (kf cut) ⟨2, a, b, -(n : Int)⟩ = some [⟨2, a, b, -(k : Int)⟩, ⟨14, a, a, -(n : Int) + (k : Int)⟩] := by simp [Pl.bySums, hk]
        clear hk
        go_enter Tryz.func21, Tryz.ntmps21
        go_wp2_with (go_at_call 17; refine (HP.out _).mono ?_; rintro e w' ⟨rfl, rfl⟩)
        go_ret
        exact ⟨says_some he rfl (il_new2 (t := 31) (by (repeat (first | ((with_reducible apply rowAt.new); simp; done) | (with_reducible apply rowAt.drew) | (with_reducible apply rowAt.drewN) | (with_reducible apply rowAt.alloc) | (with_reducible apply rowAt.setRow_same) | ((with_reducible apply rowAt.so); (· (first | (simp; done) | (simp; omega) | omega))) | (with_reducible apply rowAt.set10) | (with_reducible apply rowAt.set8) | (with_reducible apply rowAt.set4) | (with_reducible apply rowAt.set2) | (with_reducible apply rowAt.set) | ((with_reducible apply rowAt.co); (· (first | (simp; done) | (simp; omega) | omega))) | assumption)))), by (repeat (first | (with_reducible exact Below.refl _ _) | (with_reducible apply Below.drew) | (with_reducible apply bl_drewN) | ((with_reducible apply bl_alloc); (· (first | (simp; done) | (simp; omega) | omega))) | ((with_reducible apply bl_row); (· (first | (simp; done) | (simp; omega) | omega))) | ((with_reducible apply bl_cell); (· (first | (simp; done) | (simp; omega) | omega))) | assumption))⟩
    · obtain ⟨n, hn⟩ : ∃ n : Nat, c = (n : Int) := ⟨c.toNat, by omega⟩
      subst hn
      have hpn := hp n (by omega)
      have hpl : pick cut (n + 1) < n + 1 := Nat.mod_lt _ (by omega)
      have hk : kf cut (n : Int) = ((pick cut (n + 1) : Nat) : Int) := by
        unfold kf
        rw [if_neg hc0, show ((n : Int)).toNat = n by omega]
      rw [show ((n + 1 : Nat) : Int) = max (n : Int) (-(n : Int)) + 1 by omega] at hpn
      generalize pick cut (n + 1) = k at *
      have HP := Lib.hid hpn
      clear hp hpn
      rcases ho with rfl | rfl
      · have he : Pl.bySums (kf cut) ⟨14, a, b, (n : Int)⟩ = some [⟨14, a, b, (k : Int)⟩, ⟨14, a, a, (n : Int) - (k : Int)⟩] := by simp [Pl.bySums, hk]
        clear hk
        go_enter Tryz.func21, Tryz.ntmps21
        go_wp2_with (go_at_call 17; refine (HP.out _).mono ?_; rintro e w' ⟨rfl, rfl⟩)
        go_ret
        exact ⟨says_some he rfl (il_new2 (t := 31) (by (repeat (first | ((with_reducible apply rowAt.new); simp; done) | (with_reducible apply rowAt.drew) | (with_reducible apply rowAt.drewN) | (with_reducible apply rowAt.alloc) | (with_reducible apply rowAt.setRow_same) | ((with_reducible apply rowAt.so); (· (first | (simp; done) | (simp; omega) | omega))) | (with_reducible apply rowAt.set10) | (with_reducible apply rowAt.set8) | (with_reducible apply rowAt.set4) | (with_reducible apply rowAt.set2) | (with_reducible apply rowAt.set) | ((with_reducible apply rowAt.co); (· (first | (simp; done) | (simp; omega) | omega))) | assumption)))), by (repeat (first | (with_reducible exact Below.refl _ _) | (with_reducible apply Below.drew) | (with_reducible apply bl_drewN) | ((with_reducible apply bl_alloc); (· (first | (simp; done) | (simp; omega) | omega))) | ((with_reducible apply bl_row); (· (first | (simp; done) | (simp; omega) | omega))) | ((with_reducible apply bl_cell); (· (first | (simp; done) | (simp; omega) | omega))) | assumption))⟩
      · have he : Pl.bySums (kf cut) ⟨2, a, b, (n : Int)⟩ = some [⟨2, a, b, (k : Int)⟩, ⟨14, a, a, (n : Int) - (k : Int)⟩] := by simp [Pl.bySums, hk]
        clear hk
        go_enter Tryz.func21, Tryz.ntmps21
        go_wp2_with (go_at_call 17; refine (HP.out _).mono ?_; rintro e w' ⟨rfl, rfl⟩)
        go_ret
        exact ⟨says_some he rfl (il_new2 (t := 31) (by (repeat (first | ((with_reducible apply rowAt.new); simp; done) | (with_reducible apply rowAt.drew) | (with_reducible apply rowAt.drewN) | (with_reducible apply rowAt.alloc) | (with_reducible apply rowAt.setRow_same) | ((with_reducible apply rowAt.so); (· (first | (simp; done) | (simp; omega) | omega))) | (with_reducible apply rowAt.set10) | (with_reducible apply rowAt.set8) | (with_reducible apply rowAt.set4) | (with_reducible apply rowAt.set2) | (with_reducible apply rowAt.set) | ((with_reducible apply rowAt.co); (· (first | (simp; done) | (simp; omega) | omega))) | assumption)))), by (repeat (first | (with_reducible exact Below.refl _ _) | (with_reducible apply Below.drew) | (with_reducible apply bl_drewN) | ((with_reducible apply bl_alloc); (· (first | (simp; done) | (simp; omega) | omega))) | ((with_reducible apply bl_row); (· (first | (simp; done) | (simp; omega) | omega))) | ((with_reducible apply bl_cell); (· (first | (simp; done) | (simp; omega) | omega))) | assumption))⟩
  · have h14 : (op != 14) = true := by simp; omega
    have h2 : (op != 2) = true := by simp; omega
    have he : Pl.bySums (kf cut) ⟨op, a, b, c⟩ = none := by simp [Pl.bySums, ho]
    clear ho hp
    go_enter Tryz.func21, Tryz.ntmps21
    go_wp2
    go_ret
    exact ⟨says_none he, by (repeat (first | (with_reducible exact Below.refl _ _) | (with_reducible apply Below.drew) | (with_reducible apply bl_drewN) | ((with_reducible apply bl_alloc); (· (first | (simp; done) | (simp; omega) | omega))) | ((with_reducible apply bl_row); (· (first | (simp; done) | (simp; omega) | omega))) | ((with_reducible apply bl_cell); (· (first | (simp; done) | (simp; omega) | omega))) | assumption))⟩

theorem ent_sums (args : Array Value) (W : World) : (callFunc 21 args).run Tryz.prog W = .ok (.enter 21 args) W := enters Tryz.func21 (by kernel_rfl) rfl args W
theorem sums_law (cut : Int) (i : Pl.Ins) (m : List Pl.Ins) (hv : Pl.valid i) (h : Pl.bySums (kf cut) i = some m) : Pl.OkPut i m ∧ m ≠ [] := by
  refine ⟨Pl.sums_ok (fun c _ => kf_part cut c) hv h, fun e => ?_⟩
  subst e
  unfold Pl.bySums at h
  rcases Pl.ite_case h with ⟨_, h⟩ | ⟨_, h⟩
  · cases h
  · cases h

set_option maxHeartbeats 3200000 in
set_option maxRecDepth 100000 in
theorem sums_ok {w : World} {lv dv : Value} {ws : List Pl.Ins} {R D : List Int} {which how : Int} (G : Given w lv dv ws R D) (hwh : i64 which) (hh : i64 how) :
    Calls Tryz.prog 6 #[lv, .agg (arr R), dv, .int .i64 which, .int .i64 how] w fun e w' => e = .returned (.bool true) ∧ Below w.heap.size w w' := by
  have HG := Lib.hid G
  obtain ⟨r0, r1, r2, r3, r4, r5, r6, r7, hRe⟩ := eight G.regs.1
  subst hRe
  have hmf : ∀ (fn : Fn) (first cap : Array Value) (w : World), (Instr.makeFunc fn first cap).run Tryz.prog w = .ok (.func fn first cap) w := fun _ _ _ _ => rfl
  rw [arr8]
  clear G
  go_enter Tryz.func6, Tryz.ntmps6
  go_wp2_with fail
  go_region_with (first | (go_at_call 18; refine (wPut_ok _ _ _ _).mono ?_; rintro e w1 ⟨gb, gw, rfl, hby, hwc, hb1⟩; obtain ⟨hbw, hlw, hcx, c0, c1, c2, c3, c4, c5, c6, c7⟩ := after_put hb1) | (go_at_call 13; refine (put_same_ok (ws := ws) (R := [r0, r1, r2, r3, r4, r5, r6, r7]) (D := D) (HG.out.kept hbw) hby hwc hwh ent_sums (sums_by hh hcx) (sums_law _)).mono ?_; rintro e w2 ⟨rfl, hb2⟩))
  all_goals
    go_wp2
    go_ret
    exact ⟨rfl, hbw.trans (hb2.mono hbw.size)⟩
end Go.Proofs.YtghjjemnegncpaaGreatDoor
