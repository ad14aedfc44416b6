/- The walks of TopJunkSkipped. -/
import Derived.Test.YtghjjemnegncpaaGreatDoorSameOk
set_option linter.unusedSimpArgs false
set_option linter.unusedVariables false
set_option linter.unusedSectionVars false
set_option linter.unnecessarySimpa false
namespace Go.Proofs.YtghjjemnegncpaaGreatDoor
open Go.RowKit

theorem part_of {W : World} {g j : Nat} {v : Value} {l : List Pl.Ins} (hc : W.cell? ⟨g, j, none⟩ = some v) (hil : Il W v l) : ∃ a c, W.cell? ⟨g, j, none⟩ = some (.slice a l.length c) ∧ Il W (.slice a l.length c) l := by
  have h := hil
  obtain ⟨a, c, rfl, _⟩ := h
  exact ⟨a, c, hc, hil⟩

theorem parts4 {W : World} {g : Nat} {t : TypeId} {v1 v2 v3 v4 : Value} {l1 l2 l3 l4 : List Pl.Ins} (hrow : rowAt W g #[v1, v2, v3, v4] t) (h1 : Il W v1 l1) (h2 : Il W v2 l2) (h3 : Il W v3 l3) (h4 : Il W v4 l4) : Parts W g [l1, l2, l3, l4] := by
  intro k l hk
  match k, hk with
  | 0, hk => simp at hk; subst hk; exact part_of (hrow.cell 0) h1
  | 1, hk => simp at hk; subst hk; exact part_of (hrow.cell 1) h2
  | 2, hk => simp at hk; subst hk; exact part_of (hrow.cell 2) h3
  | 3, hk => simp at hk; subst hk; exact part_of (hrow.cell 3) h4
  | k + 4, hk => simp at hk

set_option maxRecDepth 100000 in
/-- Four slices, of which the second is new, one behind the other. -/
theorem concat4 {W : World} {v1 v3 v4 : Value} {l1 l3 l4 : List Pl.Ins} (c : Int) (n : Nat) (h1 : Il W v1 l1) (h3 : Il W v3 l3) (h4 : Il W v4 l4) (hl : l1.length + (1 + (l3.length + l4.length)) ≤ 1000) :
    Calls Tryz.prog 26 #[.slice (some ⟨W.heap.size + 1, 0, none⟩) 4 4] (((W.alloc (.cells #[.int .i64 19, .int .i64 0, .int .i64 0, .int .i64 c] 31)).alloc (.cells #[v1, .slice (some ⟨W.heap.size, 0, none⟩) 1 1, v3, v4] 22)).drewN n) fun e w' =>
      ∃ v', e = .returned v' ∧ w'.ownsRow W.heap.size 31 4 v' (l1 ++ ([(⟨19, 0, 0, c⟩ : Pl.Ins)] ++ (l3 ++ l4))).length (icells (l1 ++ ([(⟨19, 0, 0, c⟩ : Pl.Ins)] ++ (l3 ++ l4)))) ∧ Below W.heap.size W w' := by
  have hr1 : rowAt (((W.alloc (.cells #[.int .i64 19, .int .i64 0, .int .i64 0, .int .i64 c] 31)).alloc (.cells #[v1, .slice (some ⟨W.heap.size, 0, none⟩) 1 1, v3, v4] 22)).drewN n) W.heap.size #[.int .i64 19, .int .i64 0, .int .i64 0, .int .i64 c] 31 := by (repeat (first | ((with_reducible apply rowAt.new); simp; done) | (with_reducible apply rowAt.drew) | (with_reducible apply rowAt.drewN) | (with_reducible apply rowAt.alloc) | (with_reducible apply rowAt.setRow_same) | ((with_reducible apply rowAt.so); (· (first | (simp; done) | (simp; omega) | omega))) | (with_reducible apply rowAt.set10) | (with_reducible apply rowAt.set8) | (with_reducible apply rowAt.set4) | (with_reducible apply rowAt.set2) | (with_reducible apply rowAt.set) | ((with_reducible apply rowAt.co); (· (first | (simp; done) | (simp; omega) | omega))) | assumption))
  have hr2 : rowAt (((W.alloc (.cells #[.int .i64 19, .int .i64 0, .int .i64 0, .int .i64 c] 31)).alloc (.cells #[v1, .slice (some ⟨W.heap.size, 0, none⟩) 1 1, v3, v4] 22)).drewN n) (W.heap.size + 1) #[v1, .slice (some ⟨W.heap.size, 0, none⟩) 1 1, v3, v4] 22 := by (repeat (first | ((with_reducible apply rowAt.new); simp; done) | (with_reducible apply rowAt.drew) | (with_reducible apply rowAt.drewN) | (with_reducible apply rowAt.alloc) | (with_reducible apply rowAt.setRow_same) | ((with_reducible apply rowAt.so); (· (first | (simp; done) | (simp; omega) | omega))) | (with_reducible apply rowAt.set10) | (with_reducible apply rowAt.set8) | (with_reducible apply rowAt.set4) | (with_reducible apply rowAt.set2) | (with_reducible apply rowAt.set) | ((with_reducible apply rowAt.co); (· (first | (simp; done) | (simp; omega) | omega))) | assumption))
  have hb0 : Below W.heap.size W (((W.alloc (.cells #[.int .i64 19, .int .i64 0, .int .i64 0, .int .i64 c] 31)).alloc (.cells #[v1, .slice (some ⟨W.heap.size, 0, none⟩) 1 1, v3, v4] 22)).drewN n) := by (repeat (first | (with_reducible exact Below.refl _ _) | (with_reducible apply Below.drew) | (with_reducible apply bl_drewN) | ((with_reducible apply bl_alloc); (· (first | (simp; done) | (simp; omega) | omega))) | ((with_reducible apply bl_row); (· (first | (simp; done) | (simp; omega) | omega))) | ((with_reducible apply bl_cell); (· (first | (simp; done) | (simp; omega) | omega))) | assumption))
  have hk := Below.block hb0
  have hp := parts4 hr2 (h1.kept hk) (il_new1 (i := ⟨19, 0, 0, c⟩) hr1) (h3.kept hk) (h4.kept hk)
  generalize (((W.alloc (.cells #[.int .i64 19, .int .i64 0, .int .i64 0, .int .i64 c] 31)).alloc (.cells #[v1, .slice (some ⟨W.heap.size, 0, none⟩) 1 1, v3, v4] 22)).drewN n) = W2 at *
  have hf : [l1, [(⟨19, 0, 0, c⟩ : Pl.Ins)], l3, l4].flatten = l1 ++ ([⟨19, 0, 0, c⟩] ++ (l3 ++ l4)) := by simp
  have h := Concat_ok (W.heap.size + 1) 4 4 _ _ rfl hp (by rw [hf]; simp; omega) (by decide)
  rw [hf] at h
  refine h.mono ?_
  rintro e w' ⟨v', rfl, ho, hb'⟩
  exact ⟨v', rfl, owns_base ho hb0.size, hb0.trans (hb'.mono hb0.size)⟩

theorem ent_junk (args : Array Value) (W : World) : (callFunc 25 args).run Tryz.prog W = .ok (.enter 25 args) W := enters Tryz.func25 (by kernel_rfl) rfl args W

set_option maxHeartbeats 3200000 in
set_option maxRecDepth 100000 in
theorem junk_change {w : World} {ws js : List Pl.Ins} {ga gj : Nat} {at_ : Int} {ja : Option Addr} {jc : Nat} (hi64 : i64 at_) (hca : w.cell? ⟨ga, 0, none⟩ = some (.int .i64 at_)) (hcj : w.cell? ⟨gj, 0, none⟩ = some (.slice ja js.length jc))
    (hil : Il w (.slice ja js.length jc) js) (hjv : ∀ j ∈ js, Pl.valid j) (hjl : js.length ≤ 20) :
    ChangeOk w ws 25 #[.pointer (some ⟨ga, 0, none⟩), .pointer (some ⟨gj, 0, none⟩)] := by
  intro hv h60 hf W B v hB hBW hbel hown
  have halt := World.block_lt_of_cell? w _ hca
  have hjlt := World.block_lt_of_cell? w _ hcj
  dsimp only at halt hjlt
  have qa := (hbel.cell (p := ⟨ga, 0, none⟩) halt).trans hca
  have qj := (hbel.cell (p := ⟨gj, 0, none⟩) hjlt).trans hcj
  have hgaW : ga < W.heap.size := by omega
  have hgjW : gj < W.heap.size := by omega
  have hilW := owns_il hown
  have hjW := hil.kept (Below.block hbel)
  obtain ⟨va, vc, rfl⟩ := owns_form hown
  have hcap := owns_cap4 hown
  have hpk := fun W => wPick_is at_ (ws.length + 1) W (by omega) (by omega) hi64
  have hpl : pick at_ (ws.length + 1) < ws.length + 1 := Nat.mod_lt _ (by omega)
  rw [show ((ws.length + 1 : Nat) : Int) = (ws.length : Int) + 1 by omega] at hpk
  generalize pick at_ (ws.length + 1) = k at *
  have hih := il_head hilW (k := k) (by omega)
  have hit := il_tail hilW (k := k) (by omega) hcap
  have hsh := fun W => slice_headI va ws.length vc k (by omega) W
  have hst := fun W => slice_tailI va ws.length vc k (by omega) hcap W
  generalize (if vc = 0 then va else va.map (·.add 0)) = vh at hih hsh
  generalize (if vc = k then va else va.map (·.add (k * 4))) = vt at hit hst
  have HP := Lib.hid hpk
  have hall : ∀ j ∈ ws.take k ++ ws.drop k, Pl.valid j := by rw [List.take_append_drop]; exact hv
  have hallf : ∀ j ∈ ws.take k ++ ws.drop k, Pl.flat j := by rw [List.take_append_drop]; exact hf
  have HS := Lib.hid (Pl.junk_same hall hallf (by rw [List.take_append_drop]; exact h60) hjv hjl)
  have HC := Lib.hid fun (c : Int) (n : Nat) => concat4 (W := W) c n hih hjW hit (by simp; omega)
  clear hbel hown hilW hjW hil hca hcj hih hit hpk hall hallf hv hf hjv halt hjlt
  rw [show (#[Value.slice va ws.length vc] ++ #[Value.pointer (some ⟨ga, 0, none⟩), Value.pointer (some ⟨gj, 0, none⟩)] : Array Value) = #[.slice va ws.length vc, .pointer (some ⟨ga, 0, none⟩), .pointer (some ⟨gj, 0, none⟩)] from rfl]
  have hwr : IntKind.i64.wrap (4 * IntKind.i64.wrap ((js.length : Int) + 1)) = 4 * ((js.length : Int) + 1) := by
    rw [show IntKind.i64.wrap ((js.length : Int) + 1) = (js.length : Int) + 1 by rw [IntKind.wrap_i64]; omega, IntKind.wrap_i64]
    omega
  go_enter Tryz.func25, Tryz.ntmps25
  go_wp2_with fail
  refine (HP.out _).mono ?_
  rintro e w' ⟨rfl, rfl⟩
  go_wp2_with fail
  go_region_with (first | (go_at_call 26; refine (HC.out _ _).mono ?_; rintro e w2 ⟨v', rfl, hown', hb2⟩))
  all_goals
    go_wp2_with fail
    go_ret
    have hS := HS.out
    rw [List.take_append_drop] at hS
    exact ⟨.inr ⟨_, _, rfl, by simp, owns_il hown', hS⟩, hb2.mono hBW⟩

/-- Behind a call that lays new blocks alone: what lay in the three blocks ahead of it. -/
theorem after_three {w w1 : World} {x y v0 v1 v2 v3 v4 v5 v6 v7 : Value} {t tx ty : TypeId} (h : Below (((w.alloc (.cells #[v0, v1, v2, v3, v4, v5, v6, v7] t)).alloc (.cells #[x] tx)).alloc (.cells #[y] ty)).heap.size (((w.alloc (.cells #[v0, v1, v2, v3, v4, v5, v6, v7] t)).alloc (.cells #[x] tx)).alloc (.cells #[y] ty)) w1) :
    Below w.heap.size w w1 ∧ w.heap.size + 2 < w1.heap.size ∧ w1.cell? ⟨w.heap.size + 1, 0, none⟩ = some x ∧ w1.cell? ⟨w.heap.size + 2, 0, none⟩ = some y ∧ w1.cell? ⟨w.heap.size, 0, none⟩ = some v0 ∧ w1.cell? ⟨w.heap.size, 1, none⟩ = some v1 ∧ w1.cell? ⟨w.heap.size, 2, none⟩ = some v2 ∧ w1.cell? ⟨w.heap.size, 3, none⟩ = some v3 ∧
    w1.cell? ⟨w.heap.size, 4, none⟩ = some v4 ∧ w1.cell? ⟨w.heap.size, 5, none⟩ = some v5 ∧ w1.cell? ⟨w.heap.size, 6, none⟩ = some v6 ∧ w1.cell? ⟨w.heap.size, 7, none⟩ = some v7 := by
  have hb : Below (w.heap.size + 1 + 1 + 1) (((w.alloc (.cells #[v0, v1, v2, v3, v4, v5, v6, v7] t)).alloc (.cells #[x] tx)).alloc (.cells #[y] ty)) w1 := ⟨h.os, h.tape, h.output, by have := h.size; simpa using this, fun k hk => h.block k (by simpa using hk)⟩
  have r0 : rowAt w1 w.heap.size #[v0, v1, v2, v3, v4, v5, v6, v7] t := rowAt.below (by (repeat (first | ((with_reducible apply rowAt.new); simp; done) | (with_reducible apply rowAt.drew) | (with_reducible apply rowAt.drewN) | (with_reducible apply rowAt.alloc) | (with_reducible apply rowAt.setRow_same) | ((with_reducible apply rowAt.so); (· (first | (simp; done) | (simp; omega) | omega))) | (with_reducible apply rowAt.set10) | (with_reducible apply rowAt.set8) | (with_reducible apply rowAt.set4) | (with_reducible apply rowAt.set2) | (with_reducible apply rowAt.set) | ((with_reducible apply rowAt.co); (· (first | (simp; done) | (simp; omega) | omega))) | assumption))) hb (by omega)
  have r1 : rowAt w1 (w.heap.size + 1) #[x] tx := rowAt.below (by (repeat (first | ((with_reducible apply rowAt.new); simp; done) | (with_reducible apply rowAt.drew) | (with_reducible apply rowAt.drewN) | (with_reducible apply rowAt.alloc) | (with_reducible apply rowAt.setRow_same) | ((with_reducible apply rowAt.so); (· (first | (simp; done) | (simp; omega) | omega))) | (with_reducible apply rowAt.set10) | (with_reducible apply rowAt.set8) | (with_reducible apply rowAt.set4) | (with_reducible apply rowAt.set2) | (with_reducible apply rowAt.set) | ((with_reducible apply rowAt.co); (· (first | (simp; done) | (simp; omega) | omega))) | assumption))) hb (by omega)
  have r2 : rowAt w1 (w.heap.size + 2) #[y] ty := rowAt.below (by (repeat (first | ((with_reducible apply rowAt.new); simp; done) | (with_reducible apply rowAt.drew) | (with_reducible apply rowAt.drewN) | (with_reducible apply rowAt.alloc) | (with_reducible apply rowAt.setRow_same) | ((with_reducible apply rowAt.so); (· (first | (simp; done) | (simp; omega) | omega))) | (with_reducible apply rowAt.set10) | (with_reducible apply rowAt.set8) | (with_reducible apply rowAt.set4) | (with_reducible apply rowAt.set2) | (with_reducible apply rowAt.set) | ((with_reducible apply rowAt.co); (· (first | (simp; done) | (simp; omega) | omega))) | assumption))) hb (by omega)
  exact ⟨(show Below w.heap.size w _ from by (repeat (first | (with_reducible exact Below.refl _ _) | (with_reducible apply Below.drew) | (with_reducible apply bl_drewN) | ((with_reducible apply bl_alloc); (· (first | (simp; done) | (simp; omega) | omega))) | ((with_reducible apply bl_row); (· (first | (simp; done) | (simp; omega) | omega))) | ((with_reducible apply bl_cell); (· (first | (simp; done) | (simp; omega) | omega))) | assumption))).trans (hb.mono (by omega)), r2.lt, r1.cell 0, r2.cell 0, r0.cell 0, r0.cell 1, r0.cell 2, r0.cell 3, r0.cell 4, r0.cell 5, r0.cell 6, r0.cell 7⟩

set_option maxHeartbeats 3200000 in
set_option maxRecDepth 100000 in
theorem junk_ok {w : World} {lv dv jv : Value} {ws js : List Pl.Ins} {R D : List Int} {at_ : Int} (G : Given w lv dv ws R D) (hat : i64 at_) (hjil : Il w jv js) (hjlen : js.length ≤ 4398046511104) (hjop : ∀ i ∈ js, i64 i.op) :
    Calls Tryz.prog 8 #[lv, .agg (arr R), dv, .int .i64 at_, jv] w fun e w' => e = .returned (.bool true) ∧ Below w.heap.size w w' := by
  have HG := Lib.hid G
  obtain ⟨r0, r1, r2, r3, r4, r5, r6, r7, hRe⟩ := eight G.regs.1
  subst hRe
  have hmf : ∀ (fn : Fn) (first cap : Array Value) (w : World), (Instr.makeFunc fn first cap).run Tryz.prog w = .ok (.func fn first cap) w := fun _ _ _ _ => rfl
  rw [arr8]
  clear G
  obtain ⟨ja, jc, rfl⟩ : ∃ a c, jv = .slice a js.length c := by
    obtain ⟨a, c, h, _⟩ := hjil
    exact ⟨a, c, h⟩
  have HJ := Lib.hid hjil
  have HO := Lib.hid hjop
  clear hjil hjop
  have hb0 : Below w.heap.size w (((w.alloc (.cells #[.int .u32 r0, .int .u32 r1, .int .u32 r2, .int .u32 r3, .int .u32 r4, .int .u32 r5, .int .u32 r6, .int .u32 r7] 24)).alloc (.cells #[.int .i64 at_] 3)).alloc (.cells #[.slice ja js.length jc] 22)) := by (repeat (first | (with_reducible exact Below.refl _ _) | (with_reducible apply Below.drew) | (with_reducible apply bl_drewN) | ((with_reducible apply bl_alloc); (· (first | (simp; done) | (simp; omega) | omega))) | ((with_reducible apply bl_row); (· (first | (simp; done) | (simp; omega) | omega))) | ((with_reducible apply bl_cell); (· (first | (simp; done) | (simp; omega) | omega))) | assumption))
  by_cases hv : ∀ i ∈ js, Pl.valid i
  · have HW := Lib.hid (wWords_ok (HJ.out.kept (Below.block hb0)) hjlen hv)
    have HV := Lib.hid hv
    clear hb0 hv
    go_enter Tryz.func8, Tryz.ntmps8
    go_wp2_with fail
    refine HW.out.mono ?_
    rintro e w1 ⟨v1, rfl, -, hb1⟩
    obtain ⟨hbw, hlw, hcx, hcy, c0, c1, c2, c3, c4, c5, c6, c7⟩ := after_three hb1
    have HB := Lib.hid hbw
    clear hb1 HW hbw
    by_cases h20 : 20 < js.length
    · go_wp2_with fail
      go_ret
      exact ⟨rfl, HB.out⟩
    · go_wp2_with fail
      refine (same_ok (ws := ws) (R := [r0, r1, r2, r3, r4, r5, r6, r7]) (D := D) (HG.out.kept HB.out) (junk_change hat hcx hcy (HJ.out.kept (Below.block HB.out)) HV.out (by omega)) ent_junk).mono ?_
      rintro e w2 ⟨rfl, hb2⟩
      go_wp2
      go_ret
      exact ⟨rfl, HB.out.trans (hb2.mono HB.out.size)⟩
  · have HW := Lib.hid (wWords_no (HJ.out.kept (Below.block hb0)) hjlen hv HO.out)
    clear hb0 hv
    go_enter Tryz.func8, Tryz.ntmps8
    go_wp2_with fail
    refine HW.out.mono ?_
    rintro e w1 ⟨rfl, hb1⟩
    obtain ⟨hbw, hlw, hcx, hcy, c0, c1, c2, c3, c4, c5, c6, c7⟩ := after_three hb1
    have HB := Lib.hid hbw
    clear hb1 HW hbw
    go_wp2_with fail
    go_ret
    exact ⟨rfl, HB.out⟩
end Go.Proofs.YtghjjemnegncpaaGreatDoor
