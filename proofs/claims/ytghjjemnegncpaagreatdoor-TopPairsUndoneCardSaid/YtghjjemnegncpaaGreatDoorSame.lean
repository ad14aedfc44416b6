/- The walk of wSame: the easy ways. -/
import Derived.Test.YtghjjemnegncpaaGreatDoorGiven
import Derived.Test.YtghjjemnegncpaaGreatDoorEqualW
import Derived.Test.YtghjjemnegncpaaGreatDoorArrEq
import Derived.Test.YtghjjemnegncpaaGreatDoorLaws3
set_option linter.unusedSimpArgs false
set_option linter.unusedVariables false
set_option linter.unusedSectionVars false
set_option linter.unnecessarySimpa false
namespace Go.Proofs.YtghjjemnegncpaaGreatDoor
open Go.RowKit

/-- What a change comes to: nothing, or a program with the same end. -/
def ChangeIs (ws : List Pl.Ins) (e : Ending) (w' : World) : Prop :=
  e = .returned (.slice none 0 0) ∨ ∃ v more, e = .returned v ∧ more ≠ [] ∧ Il w' v more ∧ Pl.Same ws more

/-- A change that serves: at a slice of its own that holds the program. -/
def ChangeOk (w : World) (ws : List Pl.Ins) (k : FuncId) (caps : Array Value) : Prop :=
  (∀ i ∈ ws, Pl.valid i) → ws.length ≤ 60 → (∀ i ∈ ws, Pl.flat i) → ∀ (W : World) (B : Nat) (v : Value), w.heap.size ≤ B → B ≤ W.heap.size → Below w.heap.size w W → W.ownsRow B 31 4 v ws.length (icells ws) →
    Calls Tryz.prog k (#[v] ++ caps) W fun e w' => ChangeIs ws e w' ∧ Below B W w'

/-- A function with a body is entered. -/
theorem enters {f : FuncId} {fn : Func} {c : Code} (hf : Tryz.prog.funcs[f]? = some fn) (hname : (fn.name == "runtime.NumGoroutine") = false) (hb : fn.body = some c) (args : Array Value) (w : World) :
    (callFunc f args).run Tryz.prog w = .ok (.enter f args) w := by
  have h1 : fn.name ≠ "runtime.NumGoroutine" := by simpa using hname
  simp [callFunc, hf, h1, hb]

section
variable {w : World} {lv dv : Value} {ws : List Pl.Ins} {R D : List Int} {k : FuncId} {caps : Array Value} (G : Given w lv dv ws R D)
include G

set_option maxHeartbeats 1600000 in
set_option maxRecDepth 100000 in
theorem same_bad (hv : ¬ ∀ i ∈ ws, Pl.valid i) : Calls Tryz.prog 13 #[lv, .agg (arr R), dv, .func (.func k) #[] caps] w fun e w' => e = .returned (.bool true) ∧ Below w.heap.size w w' := by
  have HG := Lib.hid G
  have hlen := G.len
  have hdlen := G.dlen
  obtain ⟨la, lc, hlv⟩ : ∃ a c, lv = .slice a ws.length c := by
    obtain ⟨a, c, h, _⟩ := G.list
    exact ⟨a, c, h⟩
  obtain ⟨da, dc, hdv⟩ : ∃ a c, dv = .slice a D.length c := by
    obtain ⟨a, c, h, _⟩ := G.data
    exact ⟨a, c, h⟩
  obtain ⟨r0, r1, r2, r3, r4, r5, r6, r7, hRe⟩ := eight G.regs.1
  have hgr := G.regs
  subst hlv hdv hRe
  rw [arr8]
  clear G hgr
  go_enter Tryz.func13, Tryz.ntmps13
  go_wp2_with fail
  refine (wAwake_ok (HG.out.env.kept (fun k hk => Below.heap_alloc _ _ k hk))).mono ?_
  rintro e w1 ⟨rfl, hb1⟩
  have hr1 : rowAt w1 w.heap.size #[.int .u32 r0, .int .u32 r1, .int .u32 r2, .int .u32 r3, .int .u32 r4, .int .u32 r5, .int .u32 r6, .int .u32 r7] 24 := rowAt.below (by (repeat (first | ((with_reducible apply rowAt.new); simp; done) | (with_reducible apply rowAt.drew) | (with_reducible apply rowAt.drewN) | (with_reducible apply rowAt.alloc) | (with_reducible apply rowAt.setRow_same) | ((with_reducible apply rowAt.so); (· (first | (simp; done) | (simp; omega) | omega))) | (with_reducible apply rowAt.set10) | (with_reducible apply rowAt.set8) | (with_reducible apply rowAt.set4) | (with_reducible apply rowAt.set2) | (with_reducible apply rowAt.set) | ((with_reducible apply rowAt.co); (· (first | (simp; done) | (simp; omega) | omega))) | assumption))) hb1 (by simp)
  have hb1' : Below w.heap.size w w1 := (show Below w.heap.size w _ from by (repeat (first | (with_reducible exact Below.refl _ _) | (with_reducible apply Below.drew) | (with_reducible apply bl_drewN) | ((with_reducible apply bl_alloc); (· (first | (simp; done) | (simp; omega) | omega))) | ((with_reducible apply bl_row); (· (first | (simp; done) | (simp; omega) | omega))) | ((with_reducible apply bl_cell); (· (first | (simp; done) | (simp; omega) | omega))) | assumption))).trans (hb1.mono (by simp))
  have HB2 := Lib.hid hb1'
  clear hb1 hb1'
  go_wp2_with fail
  refine (wWords_no ((HG.out.list.kept (Below.block HB2.out))) HG.out.len hv HG.out.ops).mono ?_
  rintro e w3 ⟨rfl, hb3⟩
  have HB3 := Lib.hid (HB2.out.trans (hb3.mono HB2.out.size))
  clear hb3 HB2
  go_wp2
  go_ret
  exact ⟨rfl, HB3.out⟩

set_option maxHeartbeats 1600000 in
set_option maxRecDepth 100000 in
theorem same_big (hv : ∀ i ∈ ws, Pl.valid i) (hb60 : 60 < ws.length) : Calls Tryz.prog 13 #[lv, .agg (arr R), dv, .func (.func k) #[] caps] w fun e w' => e = .returned (.bool true) ∧ Below w.heap.size w w' := by
  have HG := Lib.hid G
  have hlen := G.len
  have hdlen := G.dlen
  obtain ⟨la, lc, hlv⟩ : ∃ a c, lv = .slice a ws.length c := by
    obtain ⟨a, c, h, _⟩ := G.list
    exact ⟨a, c, h⟩
  obtain ⟨da, dc, hdv⟩ : ∃ a c, dv = .slice a D.length c := by
    obtain ⟨a, c, h, _⟩ := G.data
    exact ⟨a, c, h⟩
  obtain ⟨r0, r1, r2, r3, r4, r5, r6, r7, hRe⟩ := eight G.regs.1
  have hgr := G.regs
  subst hlv hdv hRe
  rw [arr8]
  clear G hgr
  go_enter Tryz.func13, Tryz.ntmps13
  go_wp2_with fail
  refine (wAwake_ok (HG.out.env.kept (fun k hk => Below.heap_alloc _ _ k hk))).mono ?_
  rintro e w1 ⟨rfl, hb1⟩
  have hr1 : rowAt w1 w.heap.size #[.int .u32 r0, .int .u32 r1, .int .u32 r2, .int .u32 r3, .int .u32 r4, .int .u32 r5, .int .u32 r6, .int .u32 r7] 24 := rowAt.below (by (repeat (first | ((with_reducible apply rowAt.new); simp; done) | (with_reducible apply rowAt.drew) | (with_reducible apply rowAt.drewN) | (with_reducible apply rowAt.alloc) | (with_reducible apply rowAt.setRow_same) | ((with_reducible apply rowAt.so); (· (first | (simp; done) | (simp; omega) | omega))) | (with_reducible apply rowAt.set10) | (with_reducible apply rowAt.set8) | (with_reducible apply rowAt.set4) | (with_reducible apply rowAt.set2) | (with_reducible apply rowAt.set) | ((with_reducible apply rowAt.co); (· (first | (simp; done) | (simp; omega) | omega))) | assumption))) hb1 (by simp)
  have hb1' : Below w.heap.size w w1 := (show Below w.heap.size w _ from by (repeat (first | (with_reducible exact Below.refl _ _) | (with_reducible apply Below.drew) | (with_reducible apply bl_drewN) | ((with_reducible apply bl_alloc); (· (first | (simp; done) | (simp; omega) | omega))) | ((with_reducible apply bl_row); (· (first | (simp; done) | (simp; omega) | omega))) | ((with_reducible apply bl_cell); (· (first | (simp; done) | (simp; omega) | omega))) | assumption))).trans (hb1.mono (by simp))
  have HB2 := Lib.hid hb1'
  clear hb1 hb1'
  go_wp2_with fail
  refine (wWords_ok ((HG.out.list.kept (Below.block HB2.out))) HG.out.len hv).mono ?_
  rintro e w3 ⟨v3, rfl, hown3, hb3⟩
  have hb3' := HB2.out.trans (hb3.mono HB2.out.size)
  have HB3 := Lib.hid hb3'
  have hr3 : rowAt w3 w.heap.size #[.int .u32 r0, .int .u32 r1, .int .u32 r2, .int .u32 r3, .int .u32 r4, .int .u32 r5, .int .u32 r6, .int .u32 r7] 24 := rowAt.below hr1 hb3 hr1.lt
  have hbB := HB2.out.size
  have hown3' := owns_base hown3 (B' := w.heap.size) hbB
  obtain ⟨va, vc, hv3⟩ := owns_form hown3'
  have HO3 := Lib.hid hown3'
  subst hv3
  clear hb3 hb3' HB2 hr1 hown3 hown3' hbB
  go_wp2
  go_ret
  exact ⟨rfl, HB3.out⟩

set_option maxHeartbeats 1600000 in
set_option maxRecDepth 100000 in
theorem same_big2 (hv : ∀ i ∈ ws, Pl.valid i) (hb60 : ¬ 60 < ws.length) (hbig : 4096 < D.length) : Calls Tryz.prog 13 #[lv, .agg (arr R), dv, .func (.func k) #[] caps] w fun e w' => e = .returned (.bool true) ∧ Below w.heap.size w w' := by
  have HG := Lib.hid G
  have hlen := G.len
  have hdlen := G.dlen
  obtain ⟨la, lc, hlv⟩ : ∃ a c, lv = .slice a ws.length c := by
    obtain ⟨a, c, h, _⟩ := G.list
    exact ⟨a, c, h⟩
  obtain ⟨da, dc, hdv⟩ : ∃ a c, dv = .slice a D.length c := by
    obtain ⟨a, c, h, _⟩ := G.data
    exact ⟨a, c, h⟩
  obtain ⟨r0, r1, r2, r3, r4, r5, r6, r7, hRe⟩ := eight G.regs.1
  have hgr := G.regs
  subst hlv hdv hRe
  rw [arr8]
  clear G hgr
  go_enter Tryz.func13, Tryz.ntmps13
  go_wp2_with fail
  refine (wAwake_ok (HG.out.env.kept (fun k hk => Below.heap_alloc _ _ k hk))).mono ?_
  rintro e w1 ⟨rfl, hb1⟩
  have hr1 : rowAt w1 w.heap.size #[.int .u32 r0, .int .u32 r1, .int .u32 r2, .int .u32 r3, .int .u32 r4, .int .u32 r5, .int .u32 r6, .int .u32 r7] 24 := rowAt.below (by (repeat (first | ((with_reducible apply rowAt.new); simp; done) | (with_reducible apply rowAt.drew) | (with_reducible apply rowAt.drewN) | (with_reducible apply rowAt.alloc) | (with_reducible apply rowAt.setRow_same) | ((with_reducible apply rowAt.so); (· (first | (simp; done) | (simp; omega) | omega))) | (with_reducible apply rowAt.set10) | (with_reducible apply rowAt.set8) | (with_reducible apply rowAt.set4) | (with_reducible apply rowAt.set2) | (with_reducible apply rowAt.set) | ((with_reducible apply rowAt.co); (· (first | (simp; done) | (simp; omega) | omega))) | assumption))) hb1 (by simp)
  have hb1' : Below w.heap.size w w1 := (show Below w.heap.size w _ from by (repeat (first | (with_reducible exact Below.refl _ _) | (with_reducible apply Below.drew) | (with_reducible apply bl_drewN) | ((with_reducible apply bl_alloc); (· (first | (simp; done) | (simp; omega) | omega))) | ((with_reducible apply bl_row); (· (first | (simp; done) | (simp; omega) | omega))) | ((with_reducible apply bl_cell); (· (first | (simp; done) | (simp; omega) | omega))) | assumption))).trans (hb1.mono (by simp))
  have HB2 := Lib.hid hb1'
  clear hb1 hb1'
  go_wp2_with fail
  refine (wWords_ok ((HG.out.list.kept (Below.block HB2.out))) HG.out.len hv).mono ?_
  rintro e w3 ⟨v3, rfl, hown3, hb3⟩
  have hb3' := HB2.out.trans (hb3.mono HB2.out.size)
  have HB3 := Lib.hid hb3'
  have hr3 : rowAt w3 w.heap.size #[.int .u32 r0, .int .u32 r1, .int .u32 r2, .int .u32 r3, .int .u32 r4, .int .u32 r5, .int .u32 r6, .int .u32 r7] 24 := rowAt.below hr1 hb3 hr1.lt
  have hbB := HB2.out.size
  have hown3' := owns_base hown3 (B' := w.heap.size) hbB
  obtain ⟨va, vc, hv3⟩ := owns_form hown3'
  have HO3 := Lib.hid hown3'
  subst hv3
  clear hb3 hb3' HB2 hr1 hown3 hown3' hbB
  go_wp2
  go_ret
  exact ⟨rfl, HB3.out⟩

set_option maxHeartbeats 1600000 in
set_option maxRecDepth 100000 in
theorem same_odd (hv : ∀ i ∈ ws, Pl.valid i) (h60 : ws.length ≤ 60) (hd : D.length ≤ 4096) (hf : ¬ ∀ i ∈ ws, Pl.flat i) : Calls Tryz.prog 13 #[lv, .agg (arr R), dv, .func (.func k) #[] caps] w fun e w' => e = .returned (.bool true) ∧ Below w.heap.size w w' := by
  obtain ⟨j, hj, hjf, hjn⟩ := first_not Pl.flat ws hf
  have HJ := Lib.hid hjf
  clear hf hjf
  have HG := Lib.hid G
  have hlen := G.len
  have hdlen := G.dlen
  obtain ⟨la, lc, hlv⟩ : ∃ a c, lv = .slice a ws.length c := by
    obtain ⟨a, c, h, _⟩ := G.list
    exact ⟨a, c, h⟩
  obtain ⟨da, dc, hdv⟩ : ∃ a c, dv = .slice a D.length c := by
    obtain ⟨a, c, h, _⟩ := G.data
    exact ⟨a, c, h⟩
  obtain ⟨r0, r1, r2, r3, r4, r5, r6, r7, hRe⟩ := eight G.regs.1
  have hgr := G.regs
  subst hlv hdv hRe
  rw [arr8]
  clear G hgr
  go_enter Tryz.func13, Tryz.ntmps13
  go_wp2_with fail
  refine (wAwake_ok (HG.out.env.kept (fun k hk => Below.heap_alloc _ _ k hk))).mono ?_
  rintro e w1 ⟨rfl, hb1⟩
  have hr1 : rowAt w1 w.heap.size #[.int .u32 r0, .int .u32 r1, .int .u32 r2, .int .u32 r3, .int .u32 r4, .int .u32 r5, .int .u32 r6, .int .u32 r7] 24 := rowAt.below (by (repeat (first | ((with_reducible apply rowAt.new); simp; done) | (with_reducible apply rowAt.drew) | (with_reducible apply rowAt.drewN) | (with_reducible apply rowAt.alloc) | (with_reducible apply rowAt.setRow_same) | ((with_reducible apply rowAt.so); (· (first | (simp; done) | (simp; omega) | omega))) | (with_reducible apply rowAt.set10) | (with_reducible apply rowAt.set8) | (with_reducible apply rowAt.set4) | (with_reducible apply rowAt.set2) | (with_reducible apply rowAt.set) | ((with_reducible apply rowAt.co); (· (first | (simp; done) | (simp; omega) | omega))) | assumption))) hb1 (by simp)
  have hb1' : Below w.heap.size w w1 := (show Below w.heap.size w _ from by (repeat (first | (with_reducible exact Below.refl _ _) | (with_reducible apply Below.drew) | (with_reducible apply bl_drewN) | ((with_reducible apply bl_alloc); (· (first | (simp; done) | (simp; omega) | omega))) | ((with_reducible apply bl_row); (· (first | (simp; done) | (simp; omega) | omega))) | ((with_reducible apply bl_cell); (· (first | (simp; done) | (simp; omega) | omega))) | assumption))).trans (hb1.mono (by simp))
  have HB2 := Lib.hid hb1'
  clear hb1 hb1'
  go_wp2_with fail
  refine (wWords_ok ((HG.out.list.kept (Below.block HB2.out))) HG.out.len hv).mono ?_
  rintro e w3 ⟨v3, rfl, hown3, hb3⟩
  have hb3' := HB2.out.trans (hb3.mono HB2.out.size)
  have HB3 := Lib.hid hb3'
  have hr3 : rowAt w3 w.heap.size #[.int .u32 r0, .int .u32 r1, .int .u32 r2, .int .u32 r3, .int .u32 r4, .int .u32 r5, .int .u32 r6, .int .u32 r7] 24 := rowAt.below hr1 hb3 hr1.lt
  have hbB := HB2.out.size
  have hown3' := owns_base hown3 (B' := w.heap.size) hbB
  obtain ⟨va, vc, hv3⟩ := owns_form hown3'
  have HO3 := Lib.hid hown3'
  subst hv3
  clear hb3 hb3' HB2 hr1 hown3 hown3' hbB
  go_wp2_with fail
  have HK := Lib.hid (il_at (HG.out.list.kept (Below.block HB3.out)))
  go_loopw [47] (fun t wr => ∃ k : Nat, k ≤ j ∧ t = .int .i64 k ∧ Below w3.heap.size w3 wr) (fun t _ => ws.length - (intOf t).toNat)
  case atStart => exact ⟨0, Nat.zero_le _, rfl, Below.refl _ _⟩
  case round =>
    obtain ⟨k, hk, rfl, hbel⟩ := hrel
    have hlt : k < ws.length := by omega
    obtain ⟨i, hik, hie⟩ : ∃ i, ws[k]? = some i ∧ ws[k] = i := ⟨ws[k], by simp [hlt], rfl⟩
    obtain ⟨b, off, rfl, h0, h1, h2, h3⟩ := HK.out k i hik
    have q0 := (hbel.cell (p := ⟨b, off + k * 4, none⟩) (World.block_lt_of_cell? w3 _ h0)).trans h0
    have q1 := (hbel.cell (p := ⟨b, off + k * 4 + 1, none⟩) (World.block_lt_of_cell? w3 _ h1)).trans h1
    have q2 := (hbel.cell (p := ⟨b, off + k * 4 + 2, none⟩) (World.block_lt_of_cell? w3 _ h2)).trans h2
    have q3 := (hbel.cell (p := ⟨b, off + k * 4 + 3, none⟩) (World.block_lt_of_cell? w3 _ h3)).trans h3
    have HBl := Lib.hid hbel
    clear hbel h0 h1 h2 h3
    by_cases hkj : k < j
    · obtain ⟨f1, f2⟩ := HJ.out k i hkj hik
      clear hik hie hjn
      have hs3 := HBl.out.size
      rcases f2 with f2 | f2
      · go_wp2
        have hb := HBl.out
        exact ⟨⟨k + 1, by omega, by go_num, by (repeat (first | (with_reducible exact Below.refl _ _) | (with_reducible apply Below.drew) | (with_reducible apply bl_drewN) | ((with_reducible apply bl_alloc); (· (first | (simp; done) | (simp; omega) | omega))) | ((with_reducible apply bl_row); (· (first | (simp; done) | (simp; omega) | omega))) | ((with_reducible apply bl_cell); (· (first | (simp; done) | (simp; omega) | omega))) | assumption))⟩, by simp [intOf]; omega⟩
      · rw [f2] at q0
        go_wp2
        have hb := HBl.out
        exact ⟨⟨k + 1, by omega, by go_num, by (repeat (first | (with_reducible exact Below.refl _ _) | (with_reducible apply Below.drew) | (with_reducible apply bl_drewN) | ((with_reducible apply bl_alloc); (· (first | (simp; done) | (simp; omega) | omega))) | ((with_reducible apply bl_row); (· (first | (simp; done) | (simp; omega) | omega))) | ((with_reducible apply bl_cell); (· (first | (simp; done) | (simp; omega) | omega))) | assumption))⟩, by simp [intOf]; omega⟩
    · obtain rfl : k = j := by omega
      rw [hie] at hjn
      clear hik hie
      unfold Pl.flat at hjn
      have hs3 := HBl.out.size
      have hsB := HB3.out.size
      by_cases h2 : i.op < 2
      · clear hjn
        go_wp2
        have hb := HB3.out.trans (HBl.out.mono hsB)
        go_ret
        exact ⟨rfl, by (repeat (first | (with_reducible exact Below.refl _ _) | (with_reducible apply Below.drew) | (with_reducible apply bl_drewN) | ((with_reducible apply bl_alloc); (· (first | (simp; done) | (simp; omega) | omega))) | ((with_reducible apply bl_row); (· (first | (simp; done) | (simp; omega) | omega))) | ((with_reducible apply bl_cell); (· (first | (simp; done) | (simp; omega) | omega))) | assumption))⟩
      · have h18 : 18 < i.op := by omega
        have h25 : (i.op != 25) = true := by simp; omega
        clear hjn
        go_wp2
        have hb := HB3.out.trans (HBl.out.mono hsB)
        go_ret
        exact ⟨rfl, by (repeat (first | (with_reducible exact Below.refl _ _) | (with_reducible apply Below.drew) | (with_reducible apply bl_drewN) | ((with_reducible apply bl_alloc); (· (first | (simp; done) | (simp; omega) | omega))) | ((with_reducible apply bl_row); (· (first | (simp; done) | (simp; omega) | omega))) | ((with_reducible apply bl_cell); (· (first | (simp; done) | (simp; omega) | omega))) | assumption))⟩
end
end Go.Proofs.YtghjjemnegncpaaGreatDoor
