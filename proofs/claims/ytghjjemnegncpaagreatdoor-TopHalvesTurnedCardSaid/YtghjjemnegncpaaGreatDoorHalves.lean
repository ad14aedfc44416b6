/- The walks of TopHalvesTurned. -/
import Derived.Test.YtghjjemnegncpaaGreatDoorJunk
set_option linter.unusedSimpArgs false
set_option linter.unusedVariables false
set_option linter.unusedSectionVars false
set_option linter.unnecessarySimpa false
namespace Go.Proofs.YtghjjemnegncpaaGreatDoor
open Go.RowKit

theorem parts5 {W : World} {g : Nat} {t : TypeId} {v1 v2 v3 v4 v5 : Value} {l1 l2 l3 l4 l5 : List Pl.Ins} (hrow : rowAt W g #[v1, v2, v3, v4, v5] t) (h1 : Il W v1 l1) (h2 : Il W v2 l2) (h3 : Il W v3 l3) (h4 : Il W v4 l4) (h5 : Il W v5 l5) : Parts W g [l1, l2, l3, l4, l5] := by
  intro k l hk
  match k, hk with
  | 0, hk => simp at hk; subst hk; exact part_of (hrow.cell 0) h1
  | 1, hk => simp at hk; subst hk; exact part_of (hrow.cell 1) h2
  | 2, hk => simp at hk; subst hk; exact part_of (hrow.cell 2) h3
  | 3, hk => simp at hk; subst hk; exact part_of (hrow.cell 3) h4
  | 4, hk => simp at hk; subst hk; exact part_of (hrow.cell 4) h5
  | k + 5, hk => simp at hk

set_option maxRecDepth 100000 in
theorem concat5 {W : World} {v1 v2 v3 v4 v5 : Value} {l1 l2 l3 l4 l5 : List Pl.Ins} (h1 : Il W v1 l1) (h2 : Il W v2 l2) (h3 : Il W v3 l3) (h4 : Il W v4 l4) (h5 : Il W v5 l5) (hl : l1.length + (l2.length + (l3.length + (l4.length + l5.length))) ≤ 1000) :
    Calls Tryz.prog 26 #[.slice (some ⟨W.heap.size, 0, none⟩) 5 5] (W.alloc (.cells #[v1, v2, v3, v4, v5] 22)) fun e w' =>
      ∃ v', e = .returned v' ∧ w'.ownsRow W.heap.size 31 4 v' (l1 ++ (l2 ++ (l3 ++ (l4 ++ l5)))).length (icells (l1 ++ (l2 ++ (l3 ++ (l4 ++ l5))))) ∧ Below W.heap.size W w' := by
  have hk : ∀ k, k < W.heap.size → (W.alloc (.cells #[v1, v2, v3, v4, v5] 22)).heap[k]? = W.heap[k]? := fun k hk => Below.heap_alloc _ _ k hk
  have hp := parts5 (t := 22) (rowAt.new W #[v1, v2, v3, v4, v5] _ rfl) (h1.kept hk) (h2.kept hk) (h3.kept hk) (h4.kept hk) (h5.kept hk)
  have hf : [l1, l2, l3, l4, l5].flatten = l1 ++ (l2 ++ (l3 ++ (l4 ++ l5))) := by simp
  have h := Concat_ok W.heap.size 5 5 _ _ rfl hp (by rw [hf]; simp; omega) (by decide)
  rw [hf] at h
  refine h.mono ?_
  rintro e w' ⟨v', rfl, ho, hb'⟩
  exact ⟨v', rfl, owns_base ho (by simp), (show Below W.heap.size W _ from by (repeat (first | (with_reducible exact Below.refl _ _) | (with_reducible apply Below.drew) | (with_reducible apply bl_drewN) | ((with_reducible apply bl_alloc); (· (first | (simp; done) | (simp; omega) | omega))) | ((with_reducible apply bl_row); (· (first | (simp; done) | (simp; omega) | omega))) | ((with_reducible apply bl_cell); (· (first | (simp; done) | (simp; omega) | omega))) | assumption))).trans (hb'.mono (by simp))⟩

set_option maxRecDepth 100000 in
theorem jump_is (n : Int) (W : World) (h1 : -1000 ≤ n) (h2 : n ≤ 1000) : Calls Tryz.prog 28 #[.int .i64 n] W fun e w' =>
    ∃ g, e = .returned (.slice (some ⟨g, 0, none⟩) 1 1) ∧ Il w' (.slice (some ⟨g, 0, none⟩) 1 1) [⟨19, 0, 0, 4 * n⟩] ∧ Below W.heap.size W w' := by
  go_enter Tryz.func28, Tryz.ntmps28
  go_wp2
  go_ret
  exact ⟨_, rfl, il_new1 (t := 31) (i := ⟨19, 0, 0, 4 * n⟩) (by (repeat (first | ((with_reducible apply rowAt.new); simp; done) | (with_reducible apply rowAt.drew) | (with_reducible apply rowAt.drewN) | (with_reducible apply rowAt.alloc) | (with_reducible apply rowAt.setRow_same) | ((with_reducible apply rowAt.so); (· (first | (simp; done) | (simp; omega) | omega))) | (with_reducible apply rowAt.set10) | (with_reducible apply rowAt.set8) | (with_reducible apply rowAt.set4) | (with_reducible apply rowAt.set2) | (with_reducible apply rowAt.set) | ((with_reducible apply rowAt.co); (· (first | (simp; done) | (simp; omega) | omega))) | assumption))), by (repeat (first | (with_reducible exact Below.refl _ _) | (with_reducible apply Below.drew) | (with_reducible apply bl_drewN) | ((with_reducible apply bl_alloc); (· (first | (simp; done) | (simp; omega) | omega))) | ((with_reducible apply bl_row); (· (first | (simp; done) | (simp; omega) | omega))) | ((with_reducible apply bl_cell); (· (first | (simp; done) | (simp; omega) | omega))) | assumption))⟩

theorem ent_halves (args : Array Value) (W : World) : (callFunc 27 args).run Tryz.prog W = .ok (.enter 27 args) W := enters Tryz.func27 (by kernel_rfl) rfl args W

set_option maxHeartbeats 3200000 in
set_option maxRecDepth 100000 in
theorem halves_change {w : World} {ws : List Pl.Ins} {ga : Nat} {at_ : Int} (hi64 : i64 at_) (hca : w.cell? ⟨ga, 0, none⟩ = some (.int .i64 at_)) :
    ChangeOk w ws 27 #[.pointer (some ⟨ga, 0, none⟩)] := by
  intro hv h60 hf W B v hB hBW hbel hown
  have halt := World.block_lt_of_cell? w _ hca
  dsimp only at halt
  have qa := (hbel.cell (p := ⟨ga, 0, none⟩) halt).trans hca
  have hgaW : ga < W.heap.size := by omega
  have hilW := owns_il hown
  obtain ⟨va, vc, rfl⟩ := owns_form hown
  have hcap := owns_cap4 hown
  have hpk := fun W => wPick_is at_ (ws.length + 1) W (by omega) (by omega) hi64
  have hpl : pick at_ (ws.length + 1) < ws.length + 1 := Nat.mod_lt _ (by omega)
  rw [show ((ws.length + 1 : Nat) : Int) = (ws.length : Int) + 1 by omega] at hpk
  generalize pick at_ (ws.length + 1) = k at *
  have hih := il_head hilW (k := k) (by omega)
  have hit := il_tail hilW (k := k) (by omega) hcap
  have hsh := fun W => slice_headI va ws.length vc k (by omega) W
  have hst := fun W => slice_tailI va ws.length vc k (by omega) hcap W
  generalize (if vc = 0 then va else va.map (·.add 0)) = vh at hih hsh
  generalize (if vc = k then va else va.map (·.add (k * 4))) = vt at hit hst
  have HP := Lib.hid hpk
  have hall : ∀ j ∈ ws.take k ++ ws.drop k, Pl.valid j := by rw [List.take_append_drop]; exact hv
  have hallf : ∀ j ∈ ws.take k ++ ws.drop k, Pl.flat j := by rw [List.take_append_drop]; exact hf
  have HS := Lib.hid (Pl.halves_same hall hallf (by rw [List.take_append_drop]; exact h60))
  have HA := Lib.hid hih
  have HT := Lib.hid hit
  have hlk : (ws.take k).length = k := by simp; omega
  have hld : (ws.drop k).length = ws.length - k := by simp
  obtain ⟨m, hm⟩ : ∃ m, ws.length - k = m := ⟨_, rfl⟩
  have hm60 : m ≤ 60 := by omega
  have hk60 : k ≤ 60 := by omega
  have hkl : k ≤ ws.length := by omega
  rw [hm] at hst hld
  have HM := Lib.hid hm
  have HLK := Lib.hid hlk
  have HLD := Lib.hid hld
  clear hbel hown hilW hca hih hit hpk hall hallf hv hf halt hlk hld hm
  rw [show (#[Value.slice va ws.length vc] ++ #[Value.pointer (some ⟨ga, 0, none⟩)] : Array Value) = #[.slice va ws.length vc, .pointer (some ⟨ga, 0, none⟩)] from rfl]
  go_enter Tryz.func27, Tryz.ntmps27
  go_wp2_with fail
  refine (HP.out _).mono ?_
  rintro e w' ⟨rfl, rfl⟩
  go_wp2_with fail
  go_quiet (fail)
  go_wp2_with fail
  refine (jump_is _ _ ?_ ?_).mono ?_
  · omega
  · omega
  rintro e w1 ⟨g1, rfl, hi1, hb1⟩
  have HI1 := Lib.hid hi1
  have HB1 := Lib.hid hb1
  clear hi1 hb1
  go_wp2_with fail
  refine (jump_is _ _ ?_ ?_).mono ?_
  · omega
  · omega
  rintro e w2 ⟨g2, rfl, hi2, hb2⟩
  have HI2 := Lib.hid hi2
  have HB2 := Lib.hid hb2
  clear hi2 hb2
  go_wp2_with fail
  refine (jump_is _ _ ?_ ?_).mono ?_
  · omega
  · omega
  rintro e w3 ⟨g3, rfl, hi3, hb3⟩
  have hbW1 : Below W.heap.size W w1 := (show Below W.heap.size W _ from by (repeat (first | (with_reducible exact Below.refl _ _) | (with_reducible apply Below.drew) | (with_reducible apply bl_drewN) | ((with_reducible apply bl_alloc); (· (first | (simp; done) | (simp; omega) | omega))) | ((with_reducible apply bl_row); (· (first | (simp; done) | (simp; omega) | omega))) | ((with_reducible apply bl_cell); (· (first | (simp; done) | (simp; omega) | omega))) | assumption))).trans (HB1.out.mono (by simp))
  have hbW2 : Below W.heap.size W w2 := hbW1.trans (HB2.out.mono hbW1.size)
  have hbW3 : Below W.heap.size W w3 := hbW2.trans (hb3.mono hbW2.size)
  have hA := HA.out.kept (Below.block hbW3)
  have hT := HT.out.kept (Below.block hbW3)
  have hI1 := (HI1.out.kept (Below.block HB2.out)).kept (Below.block hb3)
  have hI2 := HI2.out.kept (Below.block hb3)
  rw [HM.out] at hT
  have HCC := Lib.hid (concat5 hI1 hT hI2 hA hi3 (by have := HLK.out; have := HLD.out; simp only [List.length_cons, List.length_nil]; omega))
  have HB3 := Lib.hid hbW3
  clear hi3 hb3 hbW1 hbW2 hbW3 hA hT hI1 hI2 HI1 HI2 HB1 HB2 HA HT
  go_wp2_with fail
  refine HCC.out.mono ?_
  rintro e w4 ⟨v', rfl, hown', hb4⟩
  have HOW := Lib.hid hown'
  have HB4 := Lib.hid (HB3.out.trans (hb4.mono HB3.out.size))
  clear hown' hb4 HCC HB3
  go_wp2_with fail
  go_ret
  have hS := HS.out
  rw [List.take_append_drop, HLK.out, HLD.out] at hS
  refine ⟨.inr ⟨_, _, rfl, by simp, owns_il HOW.out, ?_⟩, HB4.out.mono hBW⟩
  first | exact hS | skip

set_option maxHeartbeats 3200000 in
set_option maxRecDepth 100000 in
theorem halves_ok {w : World} {lv dv : Value} {ws : List Pl.Ins} {R D : List Int} {at_ : Int} (G : Given w lv dv ws R D) (hat : i64 at_) :
    Calls Tryz.prog 9 #[lv, .agg (arr R), dv, .int .i64 at_] w fun e w' => e = .returned (.bool true) ∧ Below w.heap.size w w' := by
  have HG := Lib.hid G
  obtain ⟨r0, r1, r2, r3, r4, r5, r6, r7, hRe⟩ := eight G.regs.1
  subst hRe
  have hmf : ∀ (fn : Fn) (first cap : Array Value) (w : World), (Instr.makeFunc fn first cap).run Tryz.prog w = .ok (.func fn first cap) w := fun _ _ _ _ => rfl
  rw [arr8]
  clear G
  have hcx : ((w.alloc (.cells #[.int .u32 r0, .int .u32 r1, .int .u32 r2, .int .u32 r3, .int .u32 r4, .int .u32 r5, .int .u32 r6, .int .u32 r7] 24)).alloc (.cells #[.int .i64 at_] 3)).cell? ⟨w.heap.size + 1, 0, none⟩ = some (.int .i64 at_) := by simp
  have hb0 : Below w.heap.size w ((w.alloc (.cells #[.int .u32 r0, .int .u32 r1, .int .u32 r2, .int .u32 r3, .int .u32 r4, .int .u32 r5, .int .u32 r6, .int .u32 r7] 24)).alloc (.cells #[.int .i64 at_] 3)) := by (repeat (first | (with_reducible exact Below.refl _ _) | (with_reducible apply Below.drew) | (with_reducible apply bl_drewN) | ((with_reducible apply bl_alloc); (· (first | (simp; done) | (simp; omega) | omega))) | ((with_reducible apply bl_row); (· (first | (simp; done) | (simp; omega) | omega))) | ((with_reducible apply bl_cell); (· (first | (simp; done) | (simp; omega) | omega))) | assumption))
  have HS := Lib.hid (same_ok (ws := ws) (R := [r0, r1, r2, r3, r4, r5, r6, r7]) (D := D) (HG.out.kept hb0) (halves_change hat hcx) ent_halves)
  have HB := Lib.hid hb0
  clear hcx hb0
  go_enter Tryz.func9, Tryz.ntmps9
  go_wp2_with fail
  refine HS.out.mono ?_
  rintro e w2 ⟨rfl, hb2⟩
  go_wp2
  go_ret
  exact ⟨rfl, HB.out.trans (hb2.mono HB.out.size)⟩
end Go.Proofs.YtghjjemnegncpaaGreatDoor
