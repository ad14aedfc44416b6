/- The walk of TopCodesJoined: the long way. -/
import Derived.Test.YtghjjemnegncpaaDoorJoined
import Derived.Test.YtghjjemnegncpaaDoorArrEq
set_option linter.unusedSimpArgs false
set_option linter.unusedVariables false
set_option linter.unusedSectionVars false
set_option linter.unnecessarySimpa false
namespace Go.Proofs.YtghjjemnegncpaaDoor
open Go.RowKit

section
variable {w : World} {lv dv : Value} {ws : List Pl.Ins} {R D : List Int} {at_ : Int} (G : Given w lv dv ws R D) (hat : i64 at_)
include G hat

set_option maxHeartbeats 20000000 in
set_option maxRecDepth 100000 in
theorem joined_main (hv : ∀ i ∈ ws, Pl.valid i) (h60 : ws.length ≤ 60) (hd : D.length ≤ 4096) (hf : ∀ i ∈ ws, Pl.flat i) : Calls Tryd.prog 3 #[lv, .agg (arr R), dv, .int .i64 at_] w fun e w' => e = .returned (.bool true) ∧ Below w.heap.size w w' := by
  have HF := Lib.hid hf
  have HV := Lib.hid hv
  have hgd : Pl.goodD D := ⟨hd, G.bytes⟩
  have hst := Pl.run_straight ws hf (by omega) R D
  have hrn := fun (W : World) (v : Value) (h1 : Wd W v (ws.map Pl.encW)) (h2 : Bd W dv D) (h3 : ∀ a n c, v = .slice (some a) n c → a.block < W.heap.size) => wRun_is hv h1 h2 G.regs hgd (by omega) h3
  have HST := Lib.hid hst
  have HRN := Lib.hid hrn
  have HGD := Lib.hid hgd
  clear hf hst hrn hgd
  have HG := Lib.hid G
  have hlen := G.len
  have hdlen := G.dlen
  obtain ⟨la, lc, hlv⟩ : ∃ a c, lv = .slice a ws.length c := by
    obtain ⟨a, c, h, _⟩ := G.list
    exact ⟨a, c, h⟩
  obtain ⟨da, dc, hdv⟩ : ∃ a c, dv = .slice a D.length c := by
    obtain ⟨a, c, h, _⟩ := G.data
    exact ⟨a, c, h⟩
  obtain ⟨r0, r1, r2, r3, r4, r5, r6, r7, hRe⟩ := eight G.regs.1
  have hgr := G.regs
  subst hlv hdv hRe
  rw [arr8]
  have HP := Lib.hid fun W => wPick_is at_ (ws.length + 1) W (by omega) (by omega) hat
  clear G hat hgr
  go_enter Tryd.func3, Tryd.ntmps3
  go_wp2_with fail
  refine (wAwake_ok (HG.out.env.kept (fun k hk => Below.heap_alloc _ _ k hk))).mono ?_
  rintro e w1 ⟨rfl, hb1⟩
  have hr1 : rowAt w1 w.heap.size #[.int .u32 r0, .int .u32 r1, .int .u32 r2, .int .u32 r3, .int .u32 r4, .int .u32 r5, .int .u32 r6, .int .u32 r7] 24 := rowAt.below (by (repeat (first | ((with_reducible apply rowAt.new); simp; done) | (with_reducible apply rowAt.drew) | (with_reducible apply rowAt.drewN) | (with_reducible apply rowAt.alloc) | (with_reducible apply rowAt.setRow_same) | ((with_reducible apply rowAt.so); (· (first | (simp; done) | (simp; omega) | omega))) | (with_reducible apply rowAt.set10) | (with_reducible apply rowAt.set8) | (with_reducible apply rowAt.set4) | (with_reducible apply rowAt.set2) | (with_reducible apply rowAt.set) | ((with_reducible apply rowAt.co); (· (first | (simp; done) | (simp; omega) | omega))) | assumption))) hb1 (by simp)
  have hb1' : Below w.heap.size w w1 := (show Below w.heap.size w _ from by (repeat (first | (with_reducible exact Below.refl _ _) | (with_reducible apply Below.drew) | (with_reducible apply bl_drewN) | ((with_reducible apply bl_alloc); (· (first | (simp; done) | (simp; omega) | omega))) | ((with_reducible apply bl_row); (· (first | (simp; done) | (simp; omega) | omega))) | ((with_reducible apply bl_cell); (· (first | (simp; done) | (simp; omega) | omega))) | assumption))).trans (hb1.mono (by simp))
  have HB1 := Lib.hid hb1'
  clear hb1 hb1'
  go_wp2_with fail
  refine (HP.out _).mono ?_
  rintro e w2 ⟨rfl, rfl⟩
  have HB2 := HB1
  generalize hpk : pick at_ (ws.length + 1) = pk at *
  have hpl : pk ≤ ws.length := by
    have := Nat.mod_lt (at_ % 18446744073709551616).toNat (show 0 < ws.length + 1 by omega)
    unfold pick at hpk
    omega
  clear HP HB1 hpk
  go_wp2_with fail
  refine (wWords_ok ((HG.out.list.kept (Below.block HB2.out))) HG.out.len hv).mono ?_
  rintro e w3 ⟨v3, rfl, hown3, hb3⟩
  have hb3' := HB2.out.trans (hb3.mono HB2.out.size)
  have HB3 := Lib.hid hb3'
  have hr3 : rowAt w3 w.heap.size #[.int .u32 r0, .int .u32 r1, .int .u32 r2, .int .u32 r3, .int .u32 r4, .int .u32 r5, .int .u32 r6, .int .u32 r7] 24 := rowAt.below hr1 hb3 hr1.lt
  have hbB := HB2.out.size
  have hown3' := owns_base hown3 (B' := w.heap.size) hbB
  obtain ⟨va, vc, hv3⟩ := owns_form hown3'
  have HO3 := Lib.hid hown3'
  subst hv3
  clear hb3 hb3' HB2 hr1 hown3 hown3' hbB
  clear hv
  rw [arr8] at HRN
  go_wp2_with fail
  have HK := Lib.hid (il_at (HG.out.list.kept (Below.block HB3.out)))
  go_loopw [47] (fun t wr => ∃ k : Nat, k ≤ ws.length ∧ t = .int .i64 k ∧ Below w3.heap.size w3 wr) (fun t _ => ws.length - (intOf t).toNat)
  case atStart => exact ⟨0, Nat.zero_le _, rfl, Below.refl _ _⟩
  case round =>
    obtain ⟨k, hk, rfl, hbel⟩ := hrel
    by_cases hlt : k < ws.length
    · obtain ⟨i, hik⟩ : ∃ i, ws[k]? = some i := ⟨ws[k], by simp [hlt]⟩
      obtain ⟨b, off, rfl, h0, h1, h2, h3⟩ := HK.out k i hik
      have q0 := (hbel.cell (p := ⟨b, off + k * 4, none⟩) (World.block_lt_of_cell? w3 _ h0)).trans h0
      have q1 := (hbel.cell (p := ⟨b, off + k * 4 + 1, none⟩) (World.block_lt_of_cell? w3 _ h1)).trans h1
      have q2 := (hbel.cell (p := ⟨b, off + k * 4 + 2, none⟩) (World.block_lt_of_cell? w3 _ h2)).trans h2
      have q3 := (hbel.cell (p := ⟨b, off + k * 4 + 3, none⟩) (World.block_lt_of_cell? w3 _ h3)).trans h3
      have HBl := Lib.hid hbel
      obtain ⟨f1, f2⟩ := HF.out i (List.mem_of_getElem? hik)
      clear hbel h0 h1 h2 h3 hik
      have hs3 := HBl.out.size
      rcases f2 with f2 | f2
      · go_wp2
        have hb := HBl.out
        exact ⟨⟨k + 1, by omega, by go_num, by (repeat (first | (with_reducible exact Below.refl _ _) | (with_reducible apply Below.drew) | (with_reducible apply bl_drewN) | ((with_reducible apply bl_alloc); (· (first | (simp; done) | (simp; omega) | omega))) | ((with_reducible apply bl_row); (· (first | (simp; done) | (simp; omega) | omega))) | ((with_reducible apply bl_cell); (· (first | (simp; done) | (simp; omega) | omega))) | assumption))⟩, by simp [intOf]; omega⟩
      · rw [f2] at q0
        go_wp2
        have hb := HBl.out
        exact ⟨⟨k + 1, by omega, by go_num, by (repeat (first | (with_reducible exact Below.refl _ _) | (with_reducible apply Below.drew) | (with_reducible apply bl_drewN) | ((with_reducible apply bl_alloc); (· (first | (simp; done) | (simp; omega) | omega))) | ((with_reducible apply bl_row); (· (first | (simp; done) | (simp; omega) | omega))) | ((with_reducible apply bl_cell); (· (first | (simp; done) | (simp; omega) | omega))) | assumption))⟩, by simp [intOf]; omega⟩
    · obtain rfl : k = ws.length := by omega
      have hr4 : rowAt wr w.heap.size #[.int .u32 r0, .int .u32 r1, .int .u32 r2, .int .u32 r3, .int .u32 r4, .int .u32 r5, .int .u32 r6, .int .u32 r7] 24 := rowAt.below hr3 hbel hr3.lt
      have hz4 : w.heap.size < wr.heap.size := hr4.lt
      have HBl := Lib.hid hbel
      clear hbel HK
      have x0 : wr.cell? ⟨w.heap.size, 0, none⟩ = some (.int .u32 r0) := hr4.cell 0
      have x1 : wr.cell? ⟨w.heap.size, 1, none⟩ = some (.int .u32 r1) := hr4.cell 1
      have x2 : wr.cell? ⟨w.heap.size, 2, none⟩ = some (.int .u32 r2) := hr4.cell 2
      have x3 : wr.cell? ⟨w.heap.size, 3, none⟩ = some (.int .u32 r3) := hr4.cell 3
      have x4 : wr.cell? ⟨w.heap.size, 4, none⟩ = some (.int .u32 r4) := hr4.cell 4
      have x5 : wr.cell? ⟨w.heap.size, 5, none⟩ = some (.int .u32 r5) := hr4.cell 5
      have x6 : wr.cell? ⟨w.heap.size, 6, none⟩ = some (.int .u32 r6) := hr4.cell 6
      have x7 : wr.cell? ⟨w.heap.size, 7, none⟩ = some (.int .u32 r7) := hr4.cell 7
      have HO4 := Lib.hid (owns_kept HO3.out (Below.block HBl.out))
      go_wp2_with fail
      refine (HRN.out _ _ (owns_wd HO4.out) (HG.out.data.kept (Below.block (HB3.out.trans (HBl.out.mono HB3.out.size)))) (owns_blk HO4.out)).mono ?_
      rintro e w5 ⟨hri, hb5⟩
      obtain ⟨R1, dv1, rfl, hR1, hx1⟩ := hri.any HV.out HG.out.regs HGD.out
      obtain ⟨s0, s1, s2, s3, s4, s5, s6, s7, rfl⟩ := eight hR1
      rw [arr8]
      have hcap := owns_cap HO3.out
      have hsl := fun W => slice_head va ws.length vc pk (by omega) W
      have hwh := wd_head (k := pk) (owns_wd HO4.out) (by simp; omega)
      have hbh : ∀ a n c, Value.slice (if vc = 0 then va else va.map (·.add 0)) pk vc = .slice (some a) n c → a.block < wr.heap.size := by
        intro a n c h
        have hb := owns_blk HO4.out
        simp only [Value.slice.injEq] at h
        obtain ⟨h, -, -⟩ := h
        split at h
        · exact hb a _ _ (by rw [h])
        · cases va with
          | none => cases h
          | some ad => cases h; rw [add_blk]; exact hb ad _ _ rfl
      rw [← List.map_take] at hwh
      generalize (if vc = 0 then va else va.map (·.add 0)) = vh at hsl hwh hbh
      have hr5 : rowAt w5 w.heap.size #[.int .u32 r0, .int .u32 r1, .int .u32 r2, .int .u32 r3, .int .u32 r4, .int .u32 r5, .int .u32 r6, .int .u32 r7] 24 := rowAt.below hr4 hb5 hz4
      have hz5 : w.heap.size < w5.heap.size := hr5.lt
      have y0 : w5.cell? ⟨w.heap.size, 0, none⟩ = some (.int .u32 r0) := hr5.cell 0
      have y1 : w5.cell? ⟨w.heap.size, 1, none⟩ = some (.int .u32 r1) := hr5.cell 1
      have y2 : w5.cell? ⟨w.heap.size, 2, none⟩ = some (.int .u32 r2) := hr5.cell 2
      have y3 : w5.cell? ⟨w.heap.size, 3, none⟩ = some (.int .u32 r3) := hr5.cell 3
      have y4 : w5.cell? ⟨w.heap.size, 4, none⟩ = some (.int .u32 r4) := hr5.cell 4
      have y5 : w5.cell? ⟨w.heap.size, 5, none⟩ = some (.int .u32 r5) := hr5.cell 5
      have y6 : w5.cell? ⟨w.heap.size, 6, none⟩ = some (.int .u32 r6) := hr5.cell 6
      have y7 : w5.cell? ⟨w.heap.size, 7, none⟩ = some (.int .u32 r7) := hr5.cell 7
      have hrn2 : ∀ W : World, Below w5.heap.size w5 W →
          Calls Tryd.prog 8 #[.slice vh pk vc, .agg #[.int .u32 r0, .int .u32 r1, .int .u32 r2, .int .u32 r3, .int .u32 r4, .int .u32 r5, .int .u32 r6, .int .u32 r7], .slice da D.length dc] W fun e w' =>
            RunIs8 (ws.take pk) [r0, r1, r2, r3, r4, r5, r6, r7] D e w' ∧ Below W.heap.size W w' := fun W hB => by
        have hW := Below.block hB
        have hWs := hB.size
        have h1 : ∀ k, k < wr.heap.size → W.heap[k]? = wr.heap[k]? := fun k hk => (hW k (by have := hb5.size; omega)).trans (hb5.block k hk)
        have h2 : ∀ k, k < w.heap.size → W.heap[k]? = w.heap[k]? := fun k hk => (h1 k (by omega)).trans ((HB3.out.trans (HBl.out.mono HB3.out.size)).block k hk)
        have := wRun_is (w := W) (R := [r0, r1, r2, r3, r4, r5, r6, r7]) (fun i hi => HV.out i (List.mem_of_mem_take hi)) (hwh.kept h1) (HG.out.data.kept h2) HG.out.regs HGD.out (by simp; omega) (fun a n c h => by have := hbh a n c h; have := hb5.size; omega)
        rw [arr8] at this
        exact this.mono fun e w' h => ⟨h.1.any8 (fun i hi => HV.out i (List.mem_of_mem_take hi)) HG.out.regs HGD.out, h.2⟩
      have hAW : Pl.ln ws ([r0, r1, r2, r3, r4, r5, r6, r7], D) = (Pl.ln (ws.take pk) ([r0, r1, r2, r3, r4, r5, r6, r7], D)).bind (Pl.ln (ws.drop pk)) := by
        rw [← Pl.ln_app, List.take_append_drop]
      have hA := Pl.run_straight (ws.take pk) (fun i hi => HF.out i (List.mem_of_mem_take hi)) (by simp; omega) [r0, r1, r2, r3, r4, r5, r6, r7] D
      unfold RunIs8 at hrn2
      rw [hA] at hrn2
      rw [HST.out] at hx1 ⊢
      cases hAx : Pl.ln (ws.take pk) ([r0, r1, r2, r3, r4, r5, r6, r7], D) with
      | none =>
        rw [hAx] at hrn2 hAW
        rw [show Pl.ln ws ([r0, r1, r2, r3, r4, r5, r6, r7], D) = none from hAW] at hx1 ⊢
        simp only [Option.isSome_none] at hrn2 ⊢
        have HR2 := Lib.hid hrn2
        have HB5 := Lib.hid (HB3.out.trans ((HBl.out.trans (hb5.mono HBl.out.size)).mono HB3.out.size))
        clear hrn2 hx1 hb5 hwh hbh hri HRN x0 x1 x2 x3 x4 x5 x6 x7 hr4 HO4 HO3 HBl HB3 hr3 hA hAx hAW
        go_wp2_with fail
        go_region_with (first | (go_at_call 8; refine (HR2.out _ ?_).mono ?_; (· (repeat (first | (with_reducible exact Below.refl _ _) | (with_reducible apply Below.drew) | (with_reducible apply bl_drewN) | ((with_reducible apply bl_alloc); (· (first | (simp; done) | (simp; omega) | omega))) | ((with_reducible apply bl_row); (· (first | (simp; done) | (simp; omega) | omega))) | ((with_reducible apply bl_cell); (· (first | (simp; done) | (simp; omega) | omega))) | assumption))); rintro e w6 ⟨⟨t0, t1, t2, t3, t4, t5, t6, t7, dv2, rfl, hx2⟩, hb6⟩; (first | (refine of_row8 (g := w5.heap.size + 1) (t := 24) hb6 ?_ ?_ ?_; (· ((repeat (first | ((with_reducible apply rowAt.new); simp; done) | (with_reducible apply rowAt.drew) | (with_reducible apply rowAt.drewN) | (with_reducible apply rowAt.alloc) | (with_reducible apply rowAt.setRow_same) | ((with_reducible apply rowAt.so); (· (first | (simp; done) | (simp; omega) | omega))) | (with_reducible apply rowAt.set10) | (with_reducible apply rowAt.set8) | (with_reducible apply rowAt.set4) | (with_reducible apply rowAt.set2) | (with_reducible apply rowAt.set) | ((with_reducible apply rowAt.co); (· (first | (simp; done) | (simp; omega) | omega))) | assumption)); done)); (· (simp; done)); intro hl6 hf6 d0 d1 d2 d3 d4 d5 d6 d7 hrow7) | skip)))
        all_goals
          go_wp2
          go_ret
          refine ⟨rfl, ?_⟩
          have hb := HB5.out
          have hsz := hb.size
          have hsz6 := hb6.size
          have hb7 : Below w.heap.size w w6 := (show Below w.heap.size w _ from by (repeat (first | (with_reducible exact Below.refl _ _) | (with_reducible apply Below.drew) | (with_reducible apply bl_drewN) | ((with_reducible apply bl_alloc); (· (first | (simp; done) | (simp; omega) | omega))) | ((with_reducible apply bl_row); (· (first | (simp; done) | (simp; omega) | omega))) | ((with_reducible apply bl_cell); (· (first | (simp; done) | (simp; omega) | omega))) | assumption))).trans (hb6.mono (by simp; omega))
          have hsz7 := hb7.size
          (repeat (first | (with_reducible exact Below.refl _ _) | (with_reducible apply Below.drew) | (with_reducible apply bl_drewN) | ((with_reducible apply bl_alloc); (· (first | (simp; done) | (simp; omega) | omega))) | ((with_reducible apply bl_row); (· (first | (simp; done) | (simp; omega) | omega))) | ((with_reducible apply bl_cell); (· (first | (simp; done) | (simp; omega) | omega))) | assumption))
      | some x =>
        obtain ⟨Rx, Dx⟩ := x
        rw [hAx] at hrn2 hAW
        simp only [Option.isSome_some, Option.bind_some] at hrn2 hAW
        have hr14 : rowAt (w5.alloc (Obj.cells #[.int .u32 s0, .int .u32 s1, .int .u32 s2, .int .u32 s3, .int .u32 s4, .int .u32 s5, .int .u32 s6, .int .u32 s7] 24)) w5.heap.size #[.int .u32 s0, .int .u32 s1, .int .u32 s2, .int .u32 s3, .int .u32 s4, .int .u32 s5, .int .u32 s6, .int .u32 s7] 24 := rowAt.new _ _ _ rfl
        have htl := fun W => slice_tail va ws.length vc pk (by omega) hcap W
        have hwt := wd_tail (k := pk) (owns_wd (owns_kept HO4.out (Below.block hb5))) (by simp; omega) (by simp; omega)
        have hbt : ∀ a n c, Value.slice (if vc = pk then va else va.map (·.add pk)) (ws.length - pk) (vc - pk) = .slice (some a) n c → a.block < wr.heap.size := by
          intro a n c h
          have hb := owns_blk HO4.out
          simp only [Value.slice.injEq] at h
          obtain ⟨h, -, -⟩ := h
          split at h
          · exact hb a _ _ (by rw [h])
          · cases va with
            | none => cases h
            | some ad => cases h; rw [add_blk]; exact hb ad _ _ rfl
        rw [← List.map_drop] at hwt
        generalize (if vc = pk then va else va.map (·.add pk)) = vt at htl hwt hbt
        have hA2 := Pl.run_straight (ws.drop pk) (fun i hi => HF.out i (List.mem_of_mem_drop hi)) (by simp; omega) Rx Dx
        have hrn3 : ∀ (W : World) (v : Value), (∀ k, k < w5.heap.size → W.heap[k]? = w5.heap[k]?) → w5.heap.size ≤ W.heap.size → Bd W v Dx → Pl.goodR Rx → Pl.goodD Dx →
            Calls Tryd.prog 8 #[.slice vt (ws.length - pk) (vc - pk), .agg (arr Rx), v] W fun e w' => RunIs8 (ws.drop pk) Rx Dx e w' ∧ Below W.heap.size W w' := fun W v hW hWs hB hg1 hg2 => by
          have := wRun_is (w := W) (R := Rx) (fun i hi => HV.out i (List.mem_of_mem_drop hi)) (hwt.kept hW) hB hg1 hg2 (by simp; omega) (fun a n c h => by have := hbt a n c h; have := hb5.size; omega)
          exact this.mono fun e w' h => ⟨h.1.any8 (fun i hi => HV.out i (List.mem_of_mem_drop hi)) hg1 hg2, h.2⟩
        unfold RunIs8 at hrn3
        rw [hA2, ← hAW] at hrn3
        clear hAW
        generalize Pl.ln ws ([r0, r1, r2, r3, r4, r5, r6, r7], D) = ol at hx1 hrn3 ⊢
        have HR2 := Lib.hid hrn2
        have HR3 := Lib.hid hrn3
        have HX1 := Lib.hid hx1
        have HB5 := Lib.hid (HB3.out.trans ((HBl.out.trans (hb5.mono HBl.out.size)).mono HB3.out.size))
        clear hrn2 hrn3 hx1 hb5 hwh hbh hri HRN x0 x1 x2 x3 x4 x5 x6 x7 hr4 HO4 HO3 HBl HB3 hr3 hA hA2 hAx hwt hbt
        go_wp2_with fail
        go_region_with (first | (go_at_call 8; refine (HR2.out _ ?_).mono ?_; (· (repeat (first | (with_reducible exact Below.refl _ _) | (with_reducible apply Below.drew) | (with_reducible apply bl_drewN) | ((with_reducible apply bl_alloc); (· (first | (simp; done) | (simp; omega) | omega))) | ((with_reducible apply bl_row); (· (first | (simp; done) | (simp; omega) | omega))) | ((with_reducible apply bl_cell); (· (first | (simp; done) | (simp; omega) | omega))) | assumption))); rintro e w6 ⟨⟨t0, t1, t2, t3, t4, t5, t6, t7, dv2, rfl, hx2⟩, hb6⟩; (first | (refine of_row8 (g := w5.heap.size + 1) (t := 24) hb6 ?_ ?_ ?_; (· ((repeat (first | ((with_reducible apply rowAt.new); simp; done) | (with_reducible apply rowAt.drew) | (with_reducible apply rowAt.drewN) | (with_reducible apply rowAt.alloc) | (with_reducible apply rowAt.setRow_same) | ((with_reducible apply rowAt.so); (· (first | (simp; done) | (simp; omega) | omega))) | (with_reducible apply rowAt.set10) | (with_reducible apply rowAt.set8) | (with_reducible apply rowAt.set4) | (with_reducible apply rowAt.set2) | (with_reducible apply rowAt.set) | ((with_reducible apply rowAt.co); (· (first | (simp; done) | (simp; omega) | omega))) | assumption)); done)); (· (simp; done)); intro hl6 hf6 d0 d1 d2 d3 d4 d5 d6 d7 hrow7) | skip)))
        all_goals go_wp2_with fail
        · skip
          have hx6 := hx2 (Rx, Dx) rfl
          have hs6 : rowAt w6 w5.heap.size #[.int .u32 s0, .int .u32 s1, .int .u32 s2, .int .u32 s3, .int .u32 s4, .int .u32 s5, .int .u32 s6, .int .u32 s7] 24 := rowAt.below (by (repeat (first | ((with_reducible apply rowAt.new); simp; done) | (with_reducible apply rowAt.drew) | (with_reducible apply rowAt.drewN) | (with_reducible apply rowAt.alloc) | (with_reducible apply rowAt.setRow_same) | ((with_reducible apply rowAt.so); (· (first | (simp; done) | (simp; omega) | omega))) | (with_reducible apply rowAt.set10) | (with_reducible apply rowAt.set8) | (with_reducible apply rowAt.set4) | (with_reducible apply rowAt.set2) | (with_reducible apply rowAt.set) | ((with_reducible apply rowAt.co); (· (first | (simp; done) | (simp; omega) | omega))) | assumption))) hb6 (by simp; try omega)
          have hb67 : Below w5.heap.size w5 w6 := (show Below w5.heap.size w5 _ from by (repeat (first | (with_reducible exact Below.refl _ _) | (with_reducible apply Below.drew) | (with_reducible apply bl_drewN) | ((with_reducible apply bl_alloc); (· (first | (simp; done) | (simp; omega) | omega))) | ((with_reducible apply bl_row); (· (first | (simp; done) | (simp; omega) | omega))) | ((with_reducible apply bl_cell); (· (first | (simp; done) | (simp; omega) | omega))) | assumption))).trans (hb6.mono (by simp; try omega))
          have hsz67 := hb67.size
          have F1 : rowAt (w6.alloc (Obj.cells #[.int .u32 t0, .int .u32 t1, .int .u32 t2, .int .u32 t3, .int .u32 t4, .int .u32 t5, .int .u32 t6, .int .u32 t7] 24)) w6.heap.size #[.int .u32 t0, .int .u32 t1, .int .u32 t2, .int .u32 t3, .int .u32 t4, .int .u32 t5, .int .u32 t6, .int .u32 t7] 24 := rowAt.new _ _ _ rfl
          have F2 : rowAt (w6.alloc (Obj.cells #[.int .u32 t0, .int .u32 t1, .int .u32 t2, .int .u32 t3, .int .u32 t4, .int .u32 t5, .int .u32 t6, .int .u32 t7] 24)) w5.heap.size #[.int .u32 s0, .int .u32 s1, .int .u32 s2, .int .u32 s3, .int .u32 s4, .int .u32 s5, .int .u32 s6, .int .u32 s7] 24 := hs6.alloc _
          have F3 : Below w5.heap.size w5 (w6.alloc (Obj.cells #[.int .u32 t0, .int .u32 t1, .int .u32 t2, .int .u32 t3, .int .u32 t4, .int .u32 t5, .int .u32 t6, .int .u32 t7] 24)) := by (repeat (first | (with_reducible exact Below.refl _ _) | (with_reducible apply Below.drew) | (with_reducible apply bl_drewN) | ((with_reducible apply bl_alloc); (· (first | (simp; done) | (simp; omega) | omega))) | ((with_reducible apply bl_row); (· (first | (simp; done) | (simp; omega) | omega))) | ((with_reducible apply bl_cell); (· (first | (simp; done) | (simp; omega) | omega))) | assumption))
          have F4 : Bd (w6.alloc (Obj.cells #[.int .u32 t0, .int .u32 t1, .int .u32 t2, .int .u32 t3, .int .u32 t4, .int .u32 t5, .int .u32 t6, .int .u32 t7] 24)) dv2 Dx := hx6.2.1.kept fun k hk => Below.heap_alloc _ _ k hk
          have hg17 : w5.heap.size < w6.heap.size := hs6.lt
          clear hb6 hx2 hs6 hb67
          generalize w6.alloc (Obj.cells #[.int .u32 t0, .int .u32 t1, .int .u32 t2, .int .u32 t3, .int .u32 t4, .int .u32 t5, .int .u32 t6, .int .u32 t7] 24) = w7 at *
          generalize w6.heap.size = g17 at *
          obtain ⟨hte, -, hgR, hgD, hDl⟩ := hx6
          dsimp only at hte hgR hgD hDl
          subst hte
          have hF3s := F3.size
          have HF3 := Lib.hid F3
          have HF4 := Lib.hid F4
          have hg17l := F1.lt
          have hg14l := F2.lt
          have a0 : w7.cell? ⟨g17, 0, none⟩ = some (.int .u32 t0) := F1.cell 0
          have a1 : w7.cell? ⟨g17, 1, none⟩ = some (.int .u32 t1) := F1.cell 1
          have a2 : w7.cell? ⟨g17, 2, none⟩ = some (.int .u32 t2) := F1.cell 2
          have a3 : w7.cell? ⟨g17, 3, none⟩ = some (.int .u32 t3) := F1.cell 3
          have a4 : w7.cell? ⟨g17, 4, none⟩ = some (.int .u32 t4) := F1.cell 4
          have a5 : w7.cell? ⟨g17, 5, none⟩ = some (.int .u32 t5) := F1.cell 5
          have a6 : w7.cell? ⟨g17, 6, none⟩ = some (.int .u32 t6) := F1.cell 6
          have a7 : w7.cell? ⟨g17, 7, none⟩ = some (.int .u32 t7) := F1.cell 7
          have hr3' := fun (W : World) (h1 : Below w7.heap.size w7 W) => HR3.out W dv2 (fun k hk => (Below.block h1 k (by omega)).trans (Below.block F3 k hk)) (by have := h1.size; omega) (F4.kept (Below.block h1)) hgR hgD
          rw [arr8] at hr3'
          have HR3' := Lib.hid hr3'
          clear F3 F4 hr3' HR3
          have hsz5 := HB5.out.size
          have hsz7 := hF3s
          go_wp2_with fail
          cases ol with
          | none =>
            go_region_with (first | (go_at_call 8; refine (HR3'.out _ ?_).mono ?_; (· (repeat (first | (with_reducible exact Below.refl _ _) | (with_reducible apply Below.drew) | (with_reducible apply bl_drewN) | ((with_reducible apply bl_alloc); (· (first | (simp; done) | (simp; omega) | omega))) | ((with_reducible apply bl_row); (· (first | (simp; done) | (simp; omega) | omega))) | ((with_reducible apply bl_cell); (· (first | (simp; done) | (simp; omega) | omega))) | assumption))); rintro e w8 ⟨⟨q0, q1, q2, q3, q4, q5, q6, q7, dv3, rfl, hx3⟩, hb8⟩; refine of_row8n (w := w7) ?_ hb8 F1 ?_; (· (repeat (first | (with_reducible exact Below.refl _ _) | (with_reducible apply Below.drew) | (with_reducible apply bl_drewN) | ((with_reducible apply bl_alloc); (· (first | (simp; done) | (simp; omega) | omega))) | ((with_reducible apply bl_row); (· (first | (simp; done) | (simp; omega) | omega))) | ((with_reducible apply bl_cell); (· (first | (simp; done) | (simp; omega) | omega))) | assumption))); intro hrow8 hl8 hf8 d0 d1 d2 d3 d4 d5 d6 d7 hB8))
            all_goals
              go_wp2_with fail
              go_ret
              refine ⟨rfl, ?_⟩
              have hb := (HB5.out.trans (HF3.out.mono hsz5)).trans (hB8.mono (by omega))
              (repeat (first | (with_reducible exact Below.refl _ _) | (with_reducible apply Below.drew) | (with_reducible apply bl_drewN) | ((with_reducible apply bl_alloc); (· (first | (simp; done) | (simp; omega) | omega))) | ((with_reducible apply bl_row); (· (first | (simp; done) | (simp; omega) | omega))) | ((with_reducible apply bl_cell); (· (first | (simp; done) | (simp; omega) | omega))) | assumption))
          | some x =>
            obtain ⟨hs, hbd1, -, hgd1, hdl1⟩ := HX1.out x rfl
            have HS := Lib.hid hs
            have HBd1 := Lib.hid hbd1
            clear hs hbd1 HX1
            go_region_with (first | (go_at_call 8; refine (HR3'.out _ ?_).mono ?_; (· (repeat (first | (with_reducible exact Below.refl _ _) | (with_reducible apply Below.drew) | (with_reducible apply bl_drewN) | ((with_reducible apply bl_alloc); (· (first | (simp; done) | (simp; omega) | omega))) | ((with_reducible apply bl_row); (· (first | (simp; done) | (simp; omega) | omega))) | ((with_reducible apply bl_cell); (· (first | (simp; done) | (simp; omega) | omega))) | assumption))); rintro e w8 ⟨⟨q0, q1, q2, q3, q4, q5, q6, q7, dv3, rfl, hx3⟩, hb8⟩; refine of_row8n (w := w7) ?_ hb8 F1 ?_; (· (repeat (first | (with_reducible exact Below.refl _ _) | (with_reducible apply Below.drew) | (with_reducible apply bl_drewN) | ((with_reducible apply bl_alloc); (· (first | (simp; done) | (simp; omega) | omega))) | ((with_reducible apply bl_row); (· (first | (simp; done) | (simp; omega) | omega))) | ((with_reducible apply bl_cell); (· (first | (simp; done) | (simp; omega) | omega))) | assumption))); intro hrow8 hl8 hf8 d0 d1 d2 d3 d4 d5 d6 d7 hB8))
            all_goals
              obtain ⟨hq, hbd3, -⟩ := hx3 x rfl
              have hqs := hq.trans HS.out.symm
              simp only [List.cons.injEq, and_true] at hqs
              obtain ⟨rfl, rfl, rfl, rfl, rfl, rfl, rfl, rfl⟩ := hqs
              have hxl : x.2.length ≤ 4096 := hgd1.1
              have hne : w5.heap.size ≠ g17 := by omega
              have G14 := (row8f hB8 F2).1
              have K17 : rowAt ((((((((w8.setCell ⟨g17, 0, none⟩ (.int .u32 q0)).setCell ⟨g17, 1, none⟩ (.int .u32 q1)).setCell ⟨g17, 2, none⟩ (.int .u32 q2)).setCell ⟨g17, 3, none⟩ (.int .u32 q3)).setCell ⟨g17, 4, none⟩ (.int .u32 q4)).setCell ⟨g17, 5, none⟩ (.int .u32 q5)).setCell ⟨g17, 6, none⟩ (.int .u32 q6)).setCell ⟨g17, 7, none⟩ (.int .u32 q7)) g17 #[.int .u32 q0, .int .u32 q1, .int .u32 q2, .int .u32 q3, .int .u32 q4, .int .u32 q5, .int .u32 q6, .int .u32 q7] 24 := rowAt.set8 _ _ _ _ _ _ _ _ hrow8
              have K14 : rowAt ((((((((w8.setCell ⟨g17, 0, none⟩ (.int .u32 q0)).setCell ⟨g17, 1, none⟩ (.int .u32 q1)).setCell ⟨g17, 2, none⟩ (.int .u32 q2)).setCell ⟨g17, 3, none⟩ (.int .u32 q3)).setCell ⟨g17, 4, none⟩ (.int .u32 q4)).setCell ⟨g17, 5, none⟩ (.int .u32 q5)).setCell ⟨g17, 6, none⟩ (.int .u32 q6)).setCell ⟨g17, 7, none⟩ (.int .u32 q7)) w5.heap.size #[.int .u32 q0, .int .u32 q1, .int .u32 q2, .int .u32 q3, .int .u32 q4, .int .u32 q5, .int .u32 q6, .int .u32 q7] 24 := (((((((G14.other (a := ⟨g17, 0, none⟩) hne _).other (a := ⟨g17, 1, none⟩) hne _).other (a := ⟨g17, 2, none⟩) hne _).other (a := ⟨g17, 3, none⟩) hne _).other (a := ⟨g17, 4, none⟩) hne _).other (a := ⟨g17, 5, none⟩) hne _).other (a := ⟨g17, 6, none⟩) hne _).other (a := ⟨g17, 7, none⟩) hne _
              have K3 : Bd ((((((((w8.setCell ⟨g17, 0, none⟩ (.int .u32 q0)).setCell ⟨g17, 1, none⟩ (.int .u32 q1)).setCell ⟨g17, 2, none⟩ (.int .u32 q2)).setCell ⟨g17, 3, none⟩ (.int .u32 q3)).setCell ⟨g17, 4, none⟩ (.int .u32 q4)).setCell ⟨g17, 5, none⟩ (.int .u32 q5)).setCell ⟨g17, 6, none⟩ (.int .u32 q6)).setCell ⟨g17, 7, none⟩ (.int .u32 q7)) dv3 x.2 := hbd3.off hrow8 (by intro j z; match j with | 0 => simp | 1 => simp | 2 => simp | 3 => simp | 4 => simp | 5 => simp | 6 => simp | 7 => simp | j + 8 => simp) fun k hk hne => by
                show kp k w8 _
                (repeat (first | (with_reducible exact kp_refl _ _) | (with_reducible apply kp_drew) | (with_reducible apply kp_drewN) | ((with_reducible apply kp_alloc); (· (first | (simp; done) | (simp; omega) | omega))) | ((with_reducible apply kp_cell); (· (first | (simp; done) | (simp; omega) | omega))) | ((with_reducible apply kp_row); (· (first | (simp; done) | (simp; omega) | omega))) | assumption))
              have hb58 : Below w5.heap.size w5 w8 := HF3.out.trans (hB8.mono hsz7)
              have hb59 : Below w5.heap.size w5 ((((((((w8.setCell ⟨g17, 0, none⟩ (.int .u32 q0)).setCell ⟨g17, 1, none⟩ (.int .u32 q1)).setCell ⟨g17, 2, none⟩ (.int .u32 q2)).setCell ⟨g17, 3, none⟩ (.int .u32 q3)).setCell ⟨g17, 4, none⟩ (.int .u32 q4)).setCell ⟨g17, 5, none⟩ (.int .u32 q5)).setCell ⟨g17, 6, none⟩ (.int .u32 q6)).setCell ⟨g17, 7, none⟩ (.int .u32 q7)) := by (repeat (first | (with_reducible exact Below.refl _ _) | (with_reducible apply Below.drew) | (with_reducible apply bl_drewN) | ((with_reducible apply bl_alloc); (· (first | (simp; done) | (simp; omega) | omega))) | ((with_reducible apply bl_row); (· (first | (simp; done) | (simp; omega) | omega))) | ((with_reducible apply bl_cell); (· (first | (simp; done) | (simp; omega) | omega))) | assumption))
              have K1 : Bd ((((((((w8.setCell ⟨g17, 0, none⟩ (.int .u32 q0)).setCell ⟨g17, 1, none⟩ (.int .u32 q1)).setCell ⟨g17, 2, none⟩ (.int .u32 q2)).setCell ⟨g17, 3, none⟩ (.int .u32 q3)).setCell ⟨g17, 4, none⟩ (.int .u32 q4)).setCell ⟨g17, 5, none⟩ (.int .u32 q5)).setCell ⟨g17, 6, none⟩ (.int .u32 q6)).setCell ⟨g17, 7, none⟩ (.int .u32 q7)) dv1 x.2 := HBd1.out.kept (Below.block hb59)
              have hb9 : Below w.heap.size w ((((((((w8.setCell ⟨g17, 0, none⟩ (.int .u32 q0)).setCell ⟨g17, 1, none⟩ (.int .u32 q1)).setCell ⟨g17, 2, none⟩ (.int .u32 q2)).setCell ⟨g17, 3, none⟩ (.int .u32 q3)).setCell ⟨g17, 4, none⟩ (.int .u32 q4)).setCell ⟨g17, 5, none⟩ (.int .u32 q5)).setCell ⟨g17, 6, none⟩ (.int .u32 q6)).setCell ⟨g17, 7, none⟩ (.int .u32 q7)) := HB5.out.trans (hb59.mono hsz5)
              clear hb58 hb59 G14 hq hbd3 hx3 hb8 hrow8 hl8 hf8 d0 d1 d2 d3 d4 d5 d6 d7 hB8 F1 F2 a0 a1 a2 a3 a4 a5 a6 a7
              generalize ((((((((w8.setCell ⟨g17, 0, none⟩ (.int .u32 q0)).setCell ⟨g17, 1, none⟩ (.int .u32 q1)).setCell ⟨g17, 2, none⟩ (.int .u32 q2)).setCell ⟨g17, 3, none⟩ (.int .u32 q3)).setCell ⟨g17, 4, none⟩ (.int .u32 q4)).setCell ⟨g17, 5, none⟩ (.int .u32 q5)).setCell ⟨g17, 6, none⟩ (.int .u32 q6)).setCell ⟨g17, 7, none⟩ (.int .u32 q7)) = w9 at *
              have hl17 := K17.lt
              have hl14 := K14.lt
              have e0 : w9.cell? ⟨g17, 0, none⟩ = some (.int .u32 q0) := K17.cell 0
              have e1 : w9.cell? ⟨g17, 1, none⟩ = some (.int .u32 q1) := K17.cell 1
              have e2 : w9.cell? ⟨g17, 2, none⟩ = some (.int .u32 q2) := K17.cell 2
              have e3 : w9.cell? ⟨g17, 3, none⟩ = some (.int .u32 q3) := K17.cell 3
              have e4 : w9.cell? ⟨g17, 4, none⟩ = some (.int .u32 q4) := K17.cell 4
              have e5 : w9.cell? ⟨g17, 5, none⟩ = some (.int .u32 q5) := K17.cell 5
              have e6 : w9.cell? ⟨g17, 6, none⟩ = some (.int .u32 q6) := K17.cell 6
              have e7 : w9.cell? ⟨g17, 7, none⟩ = some (.int .u32 q7) := K17.cell 7
              have f0 : w9.cell? ⟨w5.heap.size, 0, none⟩ = some (.int .u32 q0) := K14.cell 0
              have f1 : w9.cell? ⟨w5.heap.size, 1, none⟩ = some (.int .u32 q1) := K14.cell 1
              have f2 : w9.cell? ⟨w5.heap.size, 2, none⟩ = some (.int .u32 q2) := K14.cell 2
              have f3 : w9.cell? ⟨w5.heap.size, 3, none⟩ = some (.int .u32 q3) := K14.cell 3
              have f4 : w9.cell? ⟨w5.heap.size, 4, none⟩ = some (.int .u32 q4) := K14.cell 4
              have f5 : w9.cell? ⟨w5.heap.size, 5, none⟩ = some (.int .u32 q5) := K14.cell 5
              have f6 : w9.cell? ⟨w5.heap.size, 6, none⟩ = some (.int .u32 q6) := K14.cell 6
              have f7 : w9.cell? ⟨w5.heap.size, 7, none⟩ = some (.int .u32 q7) := K14.cell 7
              have heq := fun W => equal_regs_same W q0 q1 q2 q3 q4 q5 q6 q7
              have heb := Equal_bytes K3 K1 (by omega) (by omega)
              rw [show decide (x.2 = x.2) = true by simp] at heb
              have HE := Lib.hid heb
              have HB9 := Lib.hid hb9
              clear K1 K3 K14 K17 heb hb9
              go_wp2_with fail
              refine HE.out.mono ?_
              rintro e w10 ⟨rfl, hb10⟩
              go_wp2_with fail
              go_ret
              exact ⟨rfl, HB9.out.trans (hb10.mono HB9.out.size)⟩
        · skip
          have hx6 := hx2 (Rx, Dx) rfl
          have hs6 : rowAt w6 w5.heap.size #[.int .u32 s0, .int .u32 s1, .int .u32 s2, .int .u32 s3, .int .u32 s4, .int .u32 s5, .int .u32 s6, .int .u32 s7] 24 := rowAt.below (by (repeat (first | ((with_reducible apply rowAt.new); simp; done) | (with_reducible apply rowAt.drew) | (with_reducible apply rowAt.drewN) | (with_reducible apply rowAt.alloc) | (with_reducible apply rowAt.setRow_same) | ((with_reducible apply rowAt.so); (· (first | (simp; done) | (simp; omega) | omega))) | (with_reducible apply rowAt.set10) | (with_reducible apply rowAt.set8) | (with_reducible apply rowAt.set4) | (with_reducible apply rowAt.set2) | (with_reducible apply rowAt.set) | ((with_reducible apply rowAt.co); (· (first | (simp; done) | (simp; omega) | omega))) | assumption))) hb6 (by simp; try omega)
          have hb67 : Below w5.heap.size w5 w6 := (show Below w5.heap.size w5 _ from by (repeat (first | (with_reducible exact Below.refl _ _) | (with_reducible apply Below.drew) | (with_reducible apply bl_drewN) | ((with_reducible apply bl_alloc); (· (first | (simp; done) | (simp; omega) | omega))) | ((with_reducible apply bl_row); (· (first | (simp; done) | (simp; omega) | omega))) | ((with_reducible apply bl_cell); (· (first | (simp; done) | (simp; omega) | omega))) | assumption))).trans (hb6.mono (by simp; try omega))
          have hsz67 := hb67.size
          have F1 : rowAt ((((((((w6.setCell ⟨w5.heap.size + 1, 0, none⟩ (.int .u32 t0)).setCell ⟨w5.heap.size + 1, 1, none⟩ (.int .u32 t1)).setCell ⟨w5.heap.size + 1, 2, none⟩ (.int .u32 t2)).setCell ⟨w5.heap.size + 1, 3, none⟩ (.int .u32 t3)).setCell ⟨w5.heap.size + 1, 4, none⟩ (.int .u32 t4)).setCell ⟨w5.heap.size + 1, 5, none⟩ (.int .u32 t5)).setCell ⟨w5.heap.size + 1, 6, none⟩ (.int .u32 t6)).setCell ⟨w5.heap.size + 1, 7, none⟩ (.int .u32 t7)) (w5.heap.size + 1) #[.int .u32 t0, .int .u32 t1, .int .u32 t2, .int .u32 t3, .int .u32 t4, .int .u32 t5, .int .u32 t6, .int .u32 t7] 24 := rowAt.set8 _ _ _ _ _ _ _ _ hrow7
          have hne : w5.heap.size ≠ w5.heap.size + 1 := by omega
          have F2 : rowAt ((((((((w6.setCell ⟨w5.heap.size + 1, 0, none⟩ (.int .u32 t0)).setCell ⟨w5.heap.size + 1, 1, none⟩ (.int .u32 t1)).setCell ⟨w5.heap.size + 1, 2, none⟩ (.int .u32 t2)).setCell ⟨w5.heap.size + 1, 3, none⟩ (.int .u32 t3)).setCell ⟨w5.heap.size + 1, 4, none⟩ (.int .u32 t4)).setCell ⟨w5.heap.size + 1, 5, none⟩ (.int .u32 t5)).setCell ⟨w5.heap.size + 1, 6, none⟩ (.int .u32 t6)).setCell ⟨w5.heap.size + 1, 7, none⟩ (.int .u32 t7)) w5.heap.size #[.int .u32 s0, .int .u32 s1, .int .u32 s2, .int .u32 s3, .int .u32 s4, .int .u32 s5, .int .u32 s6, .int .u32 s7] 24 := (((((((hs6.other (a := ⟨w5.heap.size + 1, 0, none⟩) hne _).other (a := ⟨w5.heap.size + 1, 1, none⟩) hne _).other (a := ⟨w5.heap.size + 1, 2, none⟩) hne _).other (a := ⟨w5.heap.size + 1, 3, none⟩) hne _).other (a := ⟨w5.heap.size + 1, 4, none⟩) hne _).other (a := ⟨w5.heap.size + 1, 5, none⟩) hne _).other (a := ⟨w5.heap.size + 1, 6, none⟩) hne _).other (a := ⟨w5.heap.size + 1, 7, none⟩) hne _
          have F3 : Below w5.heap.size w5 ((((((((w6.setCell ⟨w5.heap.size + 1, 0, none⟩ (.int .u32 t0)).setCell ⟨w5.heap.size + 1, 1, none⟩ (.int .u32 t1)).setCell ⟨w5.heap.size + 1, 2, none⟩ (.int .u32 t2)).setCell ⟨w5.heap.size + 1, 3, none⟩ (.int .u32 t3)).setCell ⟨w5.heap.size + 1, 4, none⟩ (.int .u32 t4)).setCell ⟨w5.heap.size + 1, 5, none⟩ (.int .u32 t5)).setCell ⟨w5.heap.size + 1, 6, none⟩ (.int .u32 t6)).setCell ⟨w5.heap.size + 1, 7, none⟩ (.int .u32 t7)) := by (repeat (first | (with_reducible exact Below.refl _ _) | (with_reducible apply Below.drew) | (with_reducible apply bl_drewN) | ((with_reducible apply bl_alloc); (· (first | (simp; done) | (simp; omega) | omega))) | ((with_reducible apply bl_row); (· (first | (simp; done) | (simp; omega) | omega))) | ((with_reducible apply bl_cell); (· (first | (simp; done) | (simp; omega) | omega))) | assumption))
          have F4 : Bd ((((((((w6.setCell ⟨w5.heap.size + 1, 0, none⟩ (.int .u32 t0)).setCell ⟨w5.heap.size + 1, 1, none⟩ (.int .u32 t1)).setCell ⟨w5.heap.size + 1, 2, none⟩ (.int .u32 t2)).setCell ⟨w5.heap.size + 1, 3, none⟩ (.int .u32 t3)).setCell ⟨w5.heap.size + 1, 4, none⟩ (.int .u32 t4)).setCell ⟨w5.heap.size + 1, 5, none⟩ (.int .u32 t5)).setCell ⟨w5.heap.size + 1, 6, none⟩ (.int .u32 t6)).setCell ⟨w5.heap.size + 1, 7, none⟩ (.int .u32 t7)) dv2 Dx := hx6.2.1.off hrow7 (by intro j z; match j with | 0 => simp | 1 => simp | 2 => simp | 3 => simp | 4 => simp | 5 => simp | 6 => simp | 7 => simp | j + 8 => simp) fun k hk hne => by
            show kp k w6 _
            (repeat (first | (with_reducible exact kp_refl _ _) | (with_reducible apply kp_drew) | (with_reducible apply kp_drewN) | ((with_reducible apply kp_alloc); (· (first | (simp; done) | (simp; omega) | omega))) | ((with_reducible apply kp_cell); (· (first | (simp; done) | (simp; omega) | omega))) | ((with_reducible apply kp_row); (· (first | (simp; done) | (simp; omega) | omega))) | assumption))
          have hg17 : w5.heap.size < w5.heap.size + 1 := by omega
          clear hb6 hx2 hs6 hb67 d0 d1 d2 d3 d4 d5 d6 d7 hrow7 hf6 hl6
          generalize ((((((((w6.setCell ⟨w5.heap.size + 1, 0, none⟩ (.int .u32 t0)).setCell ⟨w5.heap.size + 1, 1, none⟩ (.int .u32 t1)).setCell ⟨w5.heap.size + 1, 2, none⟩ (.int .u32 t2)).setCell ⟨w5.heap.size + 1, 3, none⟩ (.int .u32 t3)).setCell ⟨w5.heap.size + 1, 4, none⟩ (.int .u32 t4)).setCell ⟨w5.heap.size + 1, 5, none⟩ (.int .u32 t5)).setCell ⟨w5.heap.size + 1, 6, none⟩ (.int .u32 t6)).setCell ⟨w5.heap.size + 1, 7, none⟩ (.int .u32 t7)) = w7 at *
          generalize w5.heap.size + 1 = g17 at *
          obtain ⟨hte, -, hgR, hgD, hDl⟩ := hx6
          dsimp only at hte hgR hgD hDl
          subst hte
          have hF3s := F3.size
          have HF3 := Lib.hid F3
          have HF4 := Lib.hid F4
          have hg17l := F1.lt
          have hg14l := F2.lt
          have a0 : w7.cell? ⟨g17, 0, none⟩ = some (.int .u32 t0) := F1.cell 0
          have a1 : w7.cell? ⟨g17, 1, none⟩ = some (.int .u32 t1) := F1.cell 1
          have a2 : w7.cell? ⟨g17, 2, none⟩ = some (.int .u32 t2) := F1.cell 2
          have a3 : w7.cell? ⟨g17, 3, none⟩ = some (.int .u32 t3) := F1.cell 3
          have a4 : w7.cell? ⟨g17, 4, none⟩ = some (.int .u32 t4) := F1.cell 4
          have a5 : w7.cell? ⟨g17, 5, none⟩ = some (.int .u32 t5) := F1.cell 5
          have a6 : w7.cell? ⟨g17, 6, none⟩ = some (.int .u32 t6) := F1.cell 6
          have a7 : w7.cell? ⟨g17, 7, none⟩ = some (.int .u32 t7) := F1.cell 7
          have hr3' := fun (W : World) (h1 : Below w7.heap.size w7 W) => HR3.out W dv2 (fun k hk => (Below.block h1 k (by omega)).trans (Below.block F3 k hk)) (by have := h1.size; omega) (F4.kept (Below.block h1)) hgR hgD
          rw [arr8] at hr3'
          have HR3' := Lib.hid hr3'
          clear F3 F4 hr3' HR3
          have hsz5 := HB5.out.size
          have hsz7 := hF3s
          go_wp2_with fail
          cases ol with
          | none =>
            go_region_with (first | (go_at_call 8; refine (HR3'.out _ ?_).mono ?_; (· (repeat (first | (with_reducible exact Below.refl _ _) | (with_reducible apply Below.drew) | (with_reducible apply bl_drewN) | ((with_reducible apply bl_alloc); (· (first | (simp; done) | (simp; omega) | omega))) | ((with_reducible apply bl_row); (· (first | (simp; done) | (simp; omega) | omega))) | ((with_reducible apply bl_cell); (· (first | (simp; done) | (simp; omega) | omega))) | assumption))); rintro e w8 ⟨⟨q0, q1, q2, q3, q4, q5, q6, q7, dv3, rfl, hx3⟩, hb8⟩; refine of_row8n (w := w7) ?_ hb8 F1 ?_; (· (repeat (first | (with_reducible exact Below.refl _ _) | (with_reducible apply Below.drew) | (with_reducible apply bl_drewN) | ((with_reducible apply bl_alloc); (· (first | (simp; done) | (simp; omega) | omega))) | ((with_reducible apply bl_row); (· (first | (simp; done) | (simp; omega) | omega))) | ((with_reducible apply bl_cell); (· (first | (simp; done) | (simp; omega) | omega))) | assumption))); intro hrow8 hl8 hf8 d0 d1 d2 d3 d4 d5 d6 d7 hB8))
            all_goals
              go_wp2_with fail
              go_ret
              refine ⟨rfl, ?_⟩
              have hb := (HB5.out.trans (HF3.out.mono hsz5)).trans (hB8.mono (by omega))
              (repeat (first | (with_reducible exact Below.refl _ _) | (with_reducible apply Below.drew) | (with_reducible apply bl_drewN) | ((with_reducible apply bl_alloc); (· (first | (simp; done) | (simp; omega) | omega))) | ((with_reducible apply bl_row); (· (first | (simp; done) | (simp; omega) | omega))) | ((with_reducible apply bl_cell); (· (first | (simp; done) | (simp; omega) | omega))) | assumption))
          | some x =>
            obtain ⟨hs, hbd1, -, hgd1, hdl1⟩ := HX1.out x rfl
            have HS := Lib.hid hs
            have HBd1 := Lib.hid hbd1
            clear hs hbd1 HX1
            go_region_with (first | (go_at_call 8; refine (HR3'.out _ ?_).mono ?_; (· (repeat (first | (with_reducible exact Below.refl _ _) | (with_reducible apply Below.drew) | (with_reducible apply bl_drewN) | ((with_reducible apply bl_alloc); (· (first | (simp; done) | (simp; omega) | omega))) | ((with_reducible apply bl_row); (· (first | (simp; done) | (simp; omega) | omega))) | ((with_reducible apply bl_cell); (· (first | (simp; done) | (simp; omega) | omega))) | assumption))); rintro e w8 ⟨⟨q0, q1, q2, q3, q4, q5, q6, q7, dv3, rfl, hx3⟩, hb8⟩; refine of_row8n (w := w7) ?_ hb8 F1 ?_; (· (repeat (first | (with_reducible exact Below.refl _ _) | (with_reducible apply Below.drew) | (with_reducible apply bl_drewN) | ((with_reducible apply bl_alloc); (· (first | (simp; done) | (simp; omega) | omega))) | ((with_reducible apply bl_row); (· (first | (simp; done) | (simp; omega) | omega))) | ((with_reducible apply bl_cell); (· (first | (simp; done) | (simp; omega) | omega))) | assumption))); intro hrow8 hl8 hf8 d0 d1 d2 d3 d4 d5 d6 d7 hB8))
            all_goals
              obtain ⟨hq, hbd3, -⟩ := hx3 x rfl
              have hqs := hq.trans HS.out.symm
              simp only [List.cons.injEq, and_true] at hqs
              obtain ⟨rfl, rfl, rfl, rfl, rfl, rfl, rfl, rfl⟩ := hqs
              have hxl : x.2.length ≤ 4096 := hgd1.1
              have hne : w5.heap.size ≠ g17 := by omega
              have G14 := (row8f hB8 F2).1
              have K17 : rowAt ((((((((w8.setCell ⟨g17, 0, none⟩ (.int .u32 q0)).setCell ⟨g17, 1, none⟩ (.int .u32 q1)).setCell ⟨g17, 2, none⟩ (.int .u32 q2)).setCell ⟨g17, 3, none⟩ (.int .u32 q3)).setCell ⟨g17, 4, none⟩ (.int .u32 q4)).setCell ⟨g17, 5, none⟩ (.int .u32 q5)).setCell ⟨g17, 6, none⟩ (.int .u32 q6)).setCell ⟨g17, 7, none⟩ (.int .u32 q7)) g17 #[.int .u32 q0, .int .u32 q1, .int .u32 q2, .int .u32 q3, .int .u32 q4, .int .u32 q5, .int .u32 q6, .int .u32 q7] 24 := rowAt.set8 _ _ _ _ _ _ _ _ hrow8
              have K14 : rowAt ((((((((w8.setCell ⟨g17, 0, none⟩ (.int .u32 q0)).setCell ⟨g17, 1, none⟩ (.int .u32 q1)).setCell ⟨g17, 2, none⟩ (.int .u32 q2)).setCell ⟨g17, 3, none⟩ (.int .u32 q3)).setCell ⟨g17, 4, none⟩ (.int .u32 q4)).setCell ⟨g17, 5, none⟩ (.int .u32 q5)).setCell ⟨g17, 6, none⟩ (.int .u32 q6)).setCell ⟨g17, 7, none⟩ (.int .u32 q7)) w5.heap.size #[.int .u32 q0, .int .u32 q1, .int .u32 q2, .int .u32 q3, .int .u32 q4, .int .u32 q5, .int .u32 q6, .int .u32 q7] 24 := (((((((G14.other (a := ⟨g17, 0, none⟩) hne _).other (a := ⟨g17, 1, none⟩) hne _).other (a := ⟨g17, 2, none⟩) hne _).other (a := ⟨g17, 3, none⟩) hne _).other (a := ⟨g17, 4, none⟩) hne _).other (a := ⟨g17, 5, none⟩) hne _).other (a := ⟨g17, 6, none⟩) hne _).other (a := ⟨g17, 7, none⟩) hne _
              have K3 : Bd ((((((((w8.setCell ⟨g17, 0, none⟩ (.int .u32 q0)).setCell ⟨g17, 1, none⟩ (.int .u32 q1)).setCell ⟨g17, 2, none⟩ (.int .u32 q2)).setCell ⟨g17, 3, none⟩ (.int .u32 q3)).setCell ⟨g17, 4, none⟩ (.int .u32 q4)).setCell ⟨g17, 5, none⟩ (.int .u32 q5)).setCell ⟨g17, 6, none⟩ (.int .u32 q6)).setCell ⟨g17, 7, none⟩ (.int .u32 q7)) dv3 x.2 := hbd3.off hrow8 (by intro j z; match j with | 0 => simp | 1 => simp | 2 => simp | 3 => simp | 4 => simp | 5 => simp | 6 => simp | 7 => simp | j + 8 => simp) fun k hk hne => by
                show kp k w8 _
                (repeat (first | (with_reducible exact kp_refl _ _) | (with_reducible apply kp_drew) | (with_reducible apply kp_drewN) | ((with_reducible apply kp_alloc); (· (first | (simp; done) | (simp; omega) | omega))) | ((with_reducible apply kp_cell); (· (first | (simp; done) | (simp; omega) | omega))) | ((with_reducible apply kp_row); (· (first | (simp; done) | (simp; omega) | omega))) | assumption))
              have hb58 : Below w5.heap.size w5 w8 := HF3.out.trans (hB8.mono hsz7)
              have hb59 : Below w5.heap.size w5 ((((((((w8.setCell ⟨g17, 0, none⟩ (.int .u32 q0)).setCell ⟨g17, 1, none⟩ (.int .u32 q1)).setCell ⟨g17, 2, none⟩ (.int .u32 q2)).setCell ⟨g17, 3, none⟩ (.int .u32 q3)).setCell ⟨g17, 4, none⟩ (.int .u32 q4)).setCell ⟨g17, 5, none⟩ (.int .u32 q5)).setCell ⟨g17, 6, none⟩ (.int .u32 q6)).setCell ⟨g17, 7, none⟩ (.int .u32 q7)) := by (repeat (first | (with_reducible exact Below.refl _ _) | (with_reducible apply Below.drew) | (with_reducible apply bl_drewN) | ((with_reducible apply bl_alloc); (· (first | (simp; done) | (simp; omega) | omega))) | ((with_reducible apply bl_row); (· (first | (simp; done) | (simp; omega) | omega))) | ((with_reducible apply bl_cell); (· (first | (simp; done) | (simp; omega) | omega))) | assumption))
              have K1 : Bd ((((((((w8.setCell ⟨g17, 0, none⟩ (.int .u32 q0)).setCell ⟨g17, 1, none⟩ (.int .u32 q1)).setCell ⟨g17, 2, none⟩ (.int .u32 q2)).setCell ⟨g17, 3, none⟩ (.int .u32 q3)).setCell ⟨g17, 4, none⟩ (.int .u32 q4)).setCell ⟨g17, 5, none⟩ (.int .u32 q5)).setCell ⟨g17, 6, none⟩ (.int .u32 q6)).setCell ⟨g17, 7, none⟩ (.int .u32 q7)) dv1 x.2 := HBd1.out.kept (Below.block hb59)
              have hb9 : Below w.heap.size w ((((((((w8.setCell ⟨g17, 0, none⟩ (.int .u32 q0)).setCell ⟨g17, 1, none⟩ (.int .u32 q1)).setCell ⟨g17, 2, none⟩ (.int .u32 q2)).setCell ⟨g17, 3, none⟩ (.int .u32 q3)).setCell ⟨g17, 4, none⟩ (.int .u32 q4)).setCell ⟨g17, 5, none⟩ (.int .u32 q5)).setCell ⟨g17, 6, none⟩ (.int .u32 q6)).setCell ⟨g17, 7, none⟩ (.int .u32 q7)) := HB5.out.trans (hb59.mono hsz5)
              clear hb58 hb59 G14 hq hbd3 hx3 hb8 hrow8 hl8 hf8 d0 d1 d2 d3 d4 d5 d6 d7 hB8 F1 F2 a0 a1 a2 a3 a4 a5 a6 a7
              generalize ((((((((w8.setCell ⟨g17, 0, none⟩ (.int .u32 q0)).setCell ⟨g17, 1, none⟩ (.int .u32 q1)).setCell ⟨g17, 2, none⟩ (.int .u32 q2)).setCell ⟨g17, 3, none⟩ (.int .u32 q3)).setCell ⟨g17, 4, none⟩ (.int .u32 q4)).setCell ⟨g17, 5, none⟩ (.int .u32 q5)).setCell ⟨g17, 6, none⟩ (.int .u32 q6)).setCell ⟨g17, 7, none⟩ (.int .u32 q7)) = w9 at *
              have hl17 := K17.lt
              have hl14 := K14.lt
              have e0 : w9.cell? ⟨g17, 0, none⟩ = some (.int .u32 q0) := K17.cell 0
              have e1 : w9.cell? ⟨g17, 1, none⟩ = some (.int .u32 q1) := K17.cell 1
              have e2 : w9.cell? ⟨g17, 2, none⟩ = some (.int .u32 q2) := K17.cell 2
              have e3 : w9.cell? ⟨g17, 3, none⟩ = some (.int .u32 q3) := K17.cell 3
              have e4 : w9.cell? ⟨g17, 4, none⟩ = some (.int .u32 q4) := K17.cell 4
              have e5 : w9.cell? ⟨g17, 5, none⟩ = some (.int .u32 q5) := K17.cell 5
              have e6 : w9.cell? ⟨g17, 6, none⟩ = some (.int .u32 q6) := K17.cell 6
              have e7 : w9.cell? ⟨g17, 7, none⟩ = some (.int .u32 q7) := K17.cell 7
              have f0 : w9.cell? ⟨w5.heap.size, 0, none⟩ = some (.int .u32 q0) := K14.cell 0
              have f1 : w9.cell? ⟨w5.heap.size, 1, none⟩ = some (.int .u32 q1) := K14.cell 1
              have f2 : w9.cell? ⟨w5.heap.size, 2, none⟩ = some (.int .u32 q2) := K14.cell 2
              have f3 : w9.cell? ⟨w5.heap.size, 3, none⟩ = some (.int .u32 q3) := K14.cell 3
              have f4 : w9.cell? ⟨w5.heap.size, 4, none⟩ = some (.int .u32 q4) := K14.cell 4
              have f5 : w9.cell? ⟨w5.heap.size, 5, none⟩ = some (.int .u32 q5) := K14.cell 5
              have f6 : w9.cell? ⟨w5.heap.size, 6, none⟩ = some (.int .u32 q6) := K14.cell 6
              have f7 : w9.cell? ⟨w5.heap.size, 7, none⟩ = some (.int .u32 q7) := K14.cell 7
              have heq := fun W => equal_regs_same W q0 q1 q2 q3 q4 q5 q6 q7
              have heb := Equal_bytes K3 K1 (by omega) (by omega)
              rw [show decide (x.2 = x.2) = true by simp] at heb
              have HE := Lib.hid heb
              have HB9 := Lib.hid hb9
              clear K1 K3 K14 K17 heb hb9
              go_wp2_with fail
              refine HE.out.mono ?_
              rintro e w10 ⟨rfl, hb10⟩
              go_wp2_with fail
              go_ret
              exact ⟨rfl, HB9.out.trans (hb10.mono HB9.out.size)⟩
        · skip
          have hx6 := hx2 (Rx, Dx) rfl
          have hs6 : rowAt w6 w5.heap.size #[.int .u32 s0, .int .u32 s1, .int .u32 s2, .int .u32 s3, .int .u32 s4, .int .u32 s5, .int .u32 s6, .int .u32 s7] 24 := rowAt.below (by (repeat (first | ((with_reducible apply rowAt.new); simp; done) | (with_reducible apply rowAt.drew) | (with_reducible apply rowAt.drewN) | (with_reducible apply rowAt.alloc) | (with_reducible apply rowAt.setRow_same) | ((with_reducible apply rowAt.so); (· (first | (simp; done) | (simp; omega) | omega))) | (with_reducible apply rowAt.set10) | (with_reducible apply rowAt.set8) | (with_reducible apply rowAt.set4) | (with_reducible apply rowAt.set2) | (with_reducible apply rowAt.set) | ((with_reducible apply rowAt.co); (· (first | (simp; done) | (simp; omega) | omega))) | assumption))) hb6 (by simp; try omega)
          have hb67 : Below w5.heap.size w5 w6 := (show Below w5.heap.size w5 _ from by (repeat (first | (with_reducible exact Below.refl _ _) | (with_reducible apply Below.drew) | (with_reducible apply bl_drewN) | ((with_reducible apply bl_alloc); (· (first | (simp; done) | (simp; omega) | omega))) | ((with_reducible apply bl_row); (· (first | (simp; done) | (simp; omega) | omega))) | ((with_reducible apply bl_cell); (· (first | (simp; done) | (simp; omega) | omega))) | assumption))).trans (hb6.mono (by simp; try omega))
          have hsz67 := hb67.size
          have F1 : rowAt ((((((((w6.setCell ⟨w5.heap.size + 1, 0, none⟩ (.int .u32 t0)).setCell ⟨w5.heap.size + 1, 1, none⟩ (.int .u32 t1)).setCell ⟨w5.heap.size + 1, 2, none⟩ (.int .u32 t2)).setCell ⟨w5.heap.size + 1, 3, none⟩ (.int .u32 t3)).setCell ⟨w5.heap.size + 1, 4, none⟩ (.int .u32 t4)).setCell ⟨w5.heap.size + 1, 5, none⟩ (.int .u32 t5)).setCell ⟨w5.heap.size + 1, 6, none⟩ (.int .u32 t6)).setCell ⟨w5.heap.size + 1, 7, none⟩ (.int .u32 t7)) (w5.heap.size + 1) #[.int .u32 t0, .int .u32 t1, .int .u32 t2, .int .u32 t3, .int .u32 t4, .int .u32 t5, .int .u32 t6, .int .u32 t7] 24 := rowAt.set8 _ _ _ _ _ _ _ _ hrow7
          have hne : w5.heap.size ≠ w5.heap.size + 1 := by omega
          have F2 : rowAt ((((((((w6.setCell ⟨w5.heap.size + 1, 0, none⟩ (.int .u32 t0)).setCell ⟨w5.heap.size + 1, 1, none⟩ (.int .u32 t1)).setCell ⟨w5.heap.size + 1, 2, none⟩ (.int .u32 t2)).setCell ⟨w5.heap.size + 1, 3, none⟩ (.int .u32 t3)).setCell ⟨w5.heap.size + 1, 4, none⟩ (.int .u32 t4)).setCell ⟨w5.heap.size + 1, 5, none⟩ (.int .u32 t5)).setCell ⟨w5.heap.size + 1, 6, none⟩ (.int .u32 t6)).setCell ⟨w5.heap.size + 1, 7, none⟩ (.int .u32 t7)) w5.heap.size #[.int .u32 s0, .int .u32 s1, .int .u32 s2, .int .u32 s3, .int .u32 s4, .int .u32 s5, .int .u32 s6, .int .u32 s7] 24 := (((((((hs6.other (a := ⟨w5.heap.size + 1, 0, none⟩) hne _).other (a := ⟨w5.heap.size + 1, 1, none⟩) hne _).other (a := ⟨w5.heap.size + 1, 2, none⟩) hne _).other (a := ⟨w5.heap.size + 1, 3, none⟩) hne _).other (a := ⟨w5.heap.size + 1, 4, none⟩) hne _).other (a := ⟨w5.heap.size + 1, 5, none⟩) hne _).other (a := ⟨w5.heap.size + 1, 6, none⟩) hne _).other (a := ⟨w5.heap.size + 1, 7, none⟩) hne _
          have F3 : Below w5.heap.size w5 ((((((((w6.setCell ⟨w5.heap.size + 1, 0, none⟩ (.int .u32 t0)).setCell ⟨w5.heap.size + 1, 1, none⟩ (.int .u32 t1)).setCell ⟨w5.heap.size + 1, 2, none⟩ (.int .u32 t2)).setCell ⟨w5.heap.size + 1, 3, none⟩ (.int .u32 t3)).setCell ⟨w5.heap.size + 1, 4, none⟩ (.int .u32 t4)).setCell ⟨w5.heap.size + 1, 5, none⟩ (.int .u32 t5)).setCell ⟨w5.heap.size + 1, 6, none⟩ (.int .u32 t6)).setCell ⟨w5.heap.size + 1, 7, none⟩ (.int .u32 t7)) := by (repeat (first | (with_reducible exact Below.refl _ _) | (with_reducible apply Below.drew) | (with_reducible apply bl_drewN) | ((with_reducible apply bl_alloc); (· (first | (simp; done) | (simp; omega) | omega))) | ((with_reducible apply bl_row); (· (first | (simp; done) | (simp; omega) | omega))) | ((with_reducible apply bl_cell); (· (first | (simp; done) | (simp; omega) | omega))) | assumption))
          have F4 : Bd ((((((((w6.setCell ⟨w5.heap.size + 1, 0, none⟩ (.int .u32 t0)).setCell ⟨w5.heap.size + 1, 1, none⟩ (.int .u32 t1)).setCell ⟨w5.heap.size + 1, 2, none⟩ (.int .u32 t2)).setCell ⟨w5.heap.size + 1, 3, none⟩ (.int .u32 t3)).setCell ⟨w5.heap.size + 1, 4, none⟩ (.int .u32 t4)).setCell ⟨w5.heap.size + 1, 5, none⟩ (.int .u32 t5)).setCell ⟨w5.heap.size + 1, 6, none⟩ (.int .u32 t6)).setCell ⟨w5.heap.size + 1, 7, none⟩ (.int .u32 t7)) dv2 Dx := hx6.2.1.off hrow7 (by intro j z; match j with | 0 => simp | 1 => simp | 2 => simp | 3 => simp | 4 => simp | 5 => simp | 6 => simp | 7 => simp | j + 8 => simp) fun k hk hne => by
            show kp k w6 _
            (repeat (first | (with_reducible exact kp_refl _ _) | (with_reducible apply kp_drew) | (with_reducible apply kp_drewN) | ((with_reducible apply kp_alloc); (· (first | (simp; done) | (simp; omega) | omega))) | ((with_reducible apply kp_cell); (· (first | (simp; done) | (simp; omega) | omega))) | ((with_reducible apply kp_row); (· (first | (simp; done) | (simp; omega) | omega))) | assumption))
          have hg17 : w5.heap.size < w5.heap.size + 1 := by omega
          clear hb6 hx2 hs6 hb67 d0 d1 d2 d3 d4 d5 d6 d7 hrow7 hf6 hl6
          generalize ((((((((w6.setCell ⟨w5.heap.size + 1, 0, none⟩ (.int .u32 t0)).setCell ⟨w5.heap.size + 1, 1, none⟩ (.int .u32 t1)).setCell ⟨w5.heap.size + 1, 2, none⟩ (.int .u32 t2)).setCell ⟨w5.heap.size + 1, 3, none⟩ (.int .u32 t3)).setCell ⟨w5.heap.size + 1, 4, none⟩ (.int .u32 t4)).setCell ⟨w5.heap.size + 1, 5, none⟩ (.int .u32 t5)).setCell ⟨w5.heap.size + 1, 6, none⟩ (.int .u32 t6)).setCell ⟨w5.heap.size + 1, 7, none⟩ (.int .u32 t7)) = w7 at *
          generalize w5.heap.size + 1 = g17 at *
          obtain ⟨hte, -, hgR, hgD, hDl⟩ := hx6
          dsimp only at hte hgR hgD hDl
          subst hte
          have hF3s := F3.size
          have HF3 := Lib.hid F3
          have HF4 := Lib.hid F4
          have hg17l := F1.lt
          have hg14l := F2.lt
          have a0 : w7.cell? ⟨g17, 0, none⟩ = some (.int .u32 t0) := F1.cell 0
          have a1 : w7.cell? ⟨g17, 1, none⟩ = some (.int .u32 t1) := F1.cell 1
          have a2 : w7.cell? ⟨g17, 2, none⟩ = some (.int .u32 t2) := F1.cell 2
          have a3 : w7.cell? ⟨g17, 3, none⟩ = some (.int .u32 t3) := F1.cell 3
          have a4 : w7.cell? ⟨g17, 4, none⟩ = some (.int .u32 t4) := F1.cell 4
          have a5 : w7.cell? ⟨g17, 5, none⟩ = some (.int .u32 t5) := F1.cell 5
          have a6 : w7.cell? ⟨g17, 6, none⟩ = some (.int .u32 t6) := F1.cell 6
          have a7 : w7.cell? ⟨g17, 7, none⟩ = some (.int .u32 t7) := F1.cell 7
          have hr3' := fun (W : World) (h1 : Below w7.heap.size w7 W) => HR3.out W dv2 (fun k hk => (Below.block h1 k (by omega)).trans (Below.block F3 k hk)) (by have := h1.size; omega) (F4.kept (Below.block h1)) hgR hgD
          rw [arr8] at hr3'
          have HR3' := Lib.hid hr3'
          clear F3 F4 hr3' HR3
          have hsz5 := HB5.out.size
          have hsz7 := hF3s
          go_wp2_with fail
          cases ol with
          | none =>
            go_region_with (first | (go_at_call 8; refine (HR3'.out _ ?_).mono ?_; (· (repeat (first | (with_reducible exact Below.refl _ _) | (with_reducible apply Below.drew) | (with_reducible apply bl_drewN) | ((with_reducible apply bl_alloc); (· (first | (simp; done) | (simp; omega) | omega))) | ((with_reducible apply bl_row); (· (first | (simp; done) | (simp; omega) | omega))) | ((with_reducible apply bl_cell); (· (first | (simp; done) | (simp; omega) | omega))) | assumption))); rintro e w8 ⟨⟨q0, q1, q2, q3, q4, q5, q6, q7, dv3, rfl, hx3⟩, hb8⟩; refine of_row8n (w := w7) ?_ hb8 F1 ?_; (· (repeat (first | (with_reducible exact Below.refl _ _) | (with_reducible apply Below.drew) | (with_reducible apply bl_drewN) | ((with_reducible apply bl_alloc); (· (first | (simp; done) | (simp; omega) | omega))) | ((with_reducible apply bl_row); (· (first | (simp; done) | (simp; omega) | omega))) | ((with_reducible apply bl_cell); (· (first | (simp; done) | (simp; omega) | omega))) | assumption))); intro hrow8 hl8 hf8 d0 d1 d2 d3 d4 d5 d6 d7 hB8))
            all_goals
              go_wp2_with fail
              go_ret
              refine ⟨rfl, ?_⟩
              have hb := (HB5.out.trans (HF3.out.mono hsz5)).trans (hB8.mono (by omega))
              (repeat (first | (with_reducible exact Below.refl _ _) | (with_reducible apply Below.drew) | (with_reducible apply bl_drewN) | ((with_reducible apply bl_alloc); (· (first | (simp; done) | (simp; omega) | omega))) | ((with_reducible apply bl_row); (· (first | (simp; done) | (simp; omega) | omega))) | ((with_reducible apply bl_cell); (· (first | (simp; done) | (simp; omega) | omega))) | assumption))
          | some x =>
            obtain ⟨hs, hbd1, -, hgd1, hdl1⟩ := HX1.out x rfl
            have HS := Lib.hid hs
            have HBd1 := Lib.hid hbd1
            clear hs hbd1 HX1
            go_region_with (first | (go_at_call 8; refine (HR3'.out _ ?_).mono ?_; (· (repeat (first | (with_reducible exact Below.refl _ _) | (with_reducible apply Below.drew) | (with_reducible apply bl_drewN) | ((with_reducible apply bl_alloc); (· (first | (simp; done) | (simp; omega) | omega))) | ((with_reducible apply bl_row); (· (first | (simp; done) | (simp; omega) | omega))) | ((with_reducible apply bl_cell); (· (first | (simp; done) | (simp; omega) | omega))) | assumption))); rintro e w8 ⟨⟨q0, q1, q2, q3, q4, q5, q6, q7, dv3, rfl, hx3⟩, hb8⟩; refine of_row8n (w := w7) ?_ hb8 F1 ?_; (· (repeat (first | (with_reducible exact Below.refl _ _) | (with_reducible apply Below.drew) | (with_reducible apply bl_drewN) | ((with_reducible apply bl_alloc); (· (first | (simp; done) | (simp; omega) | omega))) | ((with_reducible apply bl_row); (· (first | (simp; done) | (simp; omega) | omega))) | ((with_reducible apply bl_cell); (· (first | (simp; done) | (simp; omega) | omega))) | assumption))); intro hrow8 hl8 hf8 d0 d1 d2 d3 d4 d5 d6 d7 hB8))
            all_goals
              obtain ⟨hq, hbd3, -⟩ := hx3 x rfl
              have hqs := hq.trans HS.out.symm
              simp only [List.cons.injEq, and_true] at hqs
              obtain ⟨rfl, rfl, rfl, rfl, rfl, rfl, rfl, rfl⟩ := hqs
              have hxl : x.2.length ≤ 4096 := hgd1.1
              have hne : w5.heap.size ≠ g17 := by omega
              have G14 := (row8f hB8 F2).1
              have K17 : rowAt ((((((((w8.setCell ⟨g17, 0, none⟩ (.int .u32 q0)).setCell ⟨g17, 1, none⟩ (.int .u32 q1)).setCell ⟨g17, 2, none⟩ (.int .u32 q2)).setCell ⟨g17, 3, none⟩ (.int .u32 q3)).setCell ⟨g17, 4, none⟩ (.int .u32 q4)).setCell ⟨g17, 5, none⟩ (.int .u32 q5)).setCell ⟨g17, 6, none⟩ (.int .u32 q6)).setCell ⟨g17, 7, none⟩ (.int .u32 q7)) g17 #[.int .u32 q0, .int .u32 q1, .int .u32 q2, .int .u32 q3, .int .u32 q4, .int .u32 q5, .int .u32 q6, .int .u32 q7] 24 := rowAt.set8 _ _ _ _ _ _ _ _ hrow8
              have K14 : rowAt ((((((((w8.setCell ⟨g17, 0, none⟩ (.int .u32 q0)).setCell ⟨g17, 1, none⟩ (.int .u32 q1)).setCell ⟨g17, 2, none⟩ (.int .u32 q2)).setCell ⟨g17, 3, none⟩ (.int .u32 q3)).setCell ⟨g17, 4, none⟩ (.int .u32 q4)).setCell ⟨g17, 5, none⟩ (.int .u32 q5)).setCell ⟨g17, 6, none⟩ (.int .u32 q6)).setCell ⟨g17, 7, none⟩ (.int .u32 q7)) w5.heap.size #[.int .u32 q0, .int .u32 q1, .int .u32 q2, .int .u32 q3, .int .u32 q4, .int .u32 q5, .int .u32 q6, .int .u32 q7] 24 := (((((((G14.other (a := ⟨g17, 0, none⟩) hne _).other (a := ⟨g17, 1, none⟩) hne _).other (a := ⟨g17, 2, none⟩) hne _).other (a := ⟨g17, 3, none⟩) hne _).other (a := ⟨g17, 4, none⟩) hne _).other (a := ⟨g17, 5, none⟩) hne _).other (a := ⟨g17, 6, none⟩) hne _).other (a := ⟨g17, 7, none⟩) hne _
              have K3 : Bd ((((((((w8.setCell ⟨g17, 0, none⟩ (.int .u32 q0)).setCell ⟨g17, 1, none⟩ (.int .u32 q1)).setCell ⟨g17, 2, none⟩ (.int .u32 q2)).setCell ⟨g17, 3, none⟩ (.int .u32 q3)).setCell ⟨g17, 4, none⟩ (.int .u32 q4)).setCell ⟨g17, 5, none⟩ (.int .u32 q5)).setCell ⟨g17, 6, none⟩ (.int .u32 q6)).setCell ⟨g17, 7, none⟩ (.int .u32 q7)) dv3 x.2 := hbd3.off hrow8 (by intro j z; match j with | 0 => simp | 1 => simp | 2 => simp | 3 => simp | 4 => simp | 5 => simp | 6 => simp | 7 => simp | j + 8 => simp) fun k hk hne => by
                show kp k w8 _
                (repeat (first | (with_reducible exact kp_refl _ _) | (with_reducible apply kp_drew) | (with_reducible apply kp_drewN) | ((with_reducible apply kp_alloc); (· (first | (simp; done) | (simp; omega) | omega))) | ((with_reducible apply kp_cell); (· (first | (simp; done) | (simp; omega) | omega))) | ((with_reducible apply kp_row); (· (first | (simp; done) | (simp; omega) | omega))) | assumption))
              have hb58 : Below w5.heap.size w5 w8 := HF3.out.trans (hB8.mono hsz7)
              have hb59 : Below w5.heap.size w5 ((((((((w8.setCell ⟨g17, 0, none⟩ (.int .u32 q0)).setCell ⟨g17, 1, none⟩ (.int .u32 q1)).setCell ⟨g17, 2, none⟩ (.int .u32 q2)).setCell ⟨g17, 3, none⟩ (.int .u32 q3)).setCell ⟨g17, 4, none⟩ (.int .u32 q4)).setCell ⟨g17, 5, none⟩ (.int .u32 q5)).setCell ⟨g17, 6, none⟩ (.int .u32 q6)).setCell ⟨g17, 7, none⟩ (.int .u32 q7)) := by (repeat (first | (with_reducible exact Below.refl _ _) | (with_reducible apply Below.drew) | (with_reducible apply bl_drewN) | ((with_reducible apply bl_alloc); (· (first | (simp; done) | (simp; omega) | omega))) | ((with_reducible apply bl_row); (· (first | (simp; done) | (simp; omega) | omega))) | ((with_reducible apply bl_cell); (· (first | (simp; done) | (simp; omega) | omega))) | assumption))
              have K1 : Bd ((((((((w8.setCell ⟨g17, 0, none⟩ (.int .u32 q0)).setCell ⟨g17, 1, none⟩ (.int .u32 q1)).setCell ⟨g17, 2, none⟩ (.int .u32 q2)).setCell ⟨g17, 3, none⟩ (.int .u32 q3)).setCell ⟨g17, 4, none⟩ (.int .u32 q4)).setCell ⟨g17, 5, none⟩ (.int .u32 q5)).setCell ⟨g17, 6, none⟩ (.int .u32 q6)).setCell ⟨g17, 7, none⟩ (.int .u32 q7)) dv1 x.2 := HBd1.out.kept (Below.block hb59)
              have hb9 : Below w.heap.size w ((((((((w8.setCell ⟨g17, 0, none⟩ (.int .u32 q0)).setCell ⟨g17, 1, none⟩ (.int .u32 q1)).setCell ⟨g17, 2, none⟩ (.int .u32 q2)).setCell ⟨g17, 3, none⟩ (.int .u32 q3)).setCell ⟨g17, 4, none⟩ (.int .u32 q4)).setCell ⟨g17, 5, none⟩ (.int .u32 q5)).setCell ⟨g17, 6, none⟩ (.int .u32 q6)).setCell ⟨g17, 7, none⟩ (.int .u32 q7)) := HB5.out.trans (hb59.mono hsz5)
              clear hb58 hb59 G14 hq hbd3 hx3 hb8 hrow8 hl8 hf8 d0 d1 d2 d3 d4 d5 d6 d7 hB8 F1 F2 a0 a1 a2 a3 a4 a5 a6 a7
              generalize ((((((((w8.setCell ⟨g17, 0, none⟩ (.int .u32 q0)).setCell ⟨g17, 1, none⟩ (.int .u32 q1)).setCell ⟨g17, 2, none⟩ (.int .u32 q2)).setCell ⟨g17, 3, none⟩ (.int .u32 q3)).setCell ⟨g17, 4, none⟩ (.int .u32 q4)).setCell ⟨g17, 5, none⟩ (.int .u32 q5)).setCell ⟨g17, 6, none⟩ (.int .u32 q6)).setCell ⟨g17, 7, none⟩ (.int .u32 q7)) = w9 at *
              have hl17 := K17.lt
              have hl14 := K14.lt
              have e0 : w9.cell? ⟨g17, 0, none⟩ = some (.int .u32 q0) := K17.cell 0
              have e1 : w9.cell? ⟨g17, 1, none⟩ = some (.int .u32 q1) := K17.cell 1
              have e2 : w9.cell? ⟨g17, 2, none⟩ = some (.int .u32 q2) := K17.cell 2
              have e3 : w9.cell? ⟨g17, 3, none⟩ = some (.int .u32 q3) := K17.cell 3
              have e4 : w9.cell? ⟨g17, 4, none⟩ = some (.int .u32 q4) := K17.cell 4
              have e5 : w9.cell? ⟨g17, 5, none⟩ = some (.int .u32 q5) := K17.cell 5
              have e6 : w9.cell? ⟨g17, 6, none⟩ = some (.int .u32 q6) := K17.cell 6
              have e7 : w9.cell? ⟨g17, 7, none⟩ = some (.int .u32 q7) := K17.cell 7
              have f0 : w9.cell? ⟨w5.heap.size, 0, none⟩ = some (.int .u32 q0) := K14.cell 0
              have f1 : w9.cell? ⟨w5.heap.size, 1, none⟩ = some (.int .u32 q1) := K14.cell 1
              have f2 : w9.cell? ⟨w5.heap.size, 2, none⟩ = some (.int .u32 q2) := K14.cell 2
              have f3 : w9.cell? ⟨w5.heap.size, 3, none⟩ = some (.int .u32 q3) := K14.cell 3
              have f4 : w9.cell? ⟨w5.heap.size, 4, none⟩ = some (.int .u32 q4) := K14.cell 4
              have f5 : w9.cell? ⟨w5.heap.size, 5, none⟩ = some (.int .u32 q5) := K14.cell 5
              have f6 : w9.cell? ⟨w5.heap.size, 6, none⟩ = some (.int .u32 q6) := K14.cell 6
              have f7 : w9.cell? ⟨w5.heap.size, 7, none⟩ = some (.int .u32 q7) := K14.cell 7
              have heq := fun W => equal_regs_same W q0 q1 q2 q3 q4 q5 q6 q7
              have heb := Equal_bytes K3 K1 (by omega) (by omega)
              rw [show decide (x.2 = x.2) = true by simp] at heb
              have HE := Lib.hid heb
              have HB9 := Lib.hid hb9
              clear K1 K3 K14 K17 heb hb9
              go_wp2_with fail
              refine HE.out.mono ?_
              rintro e w10 ⟨rfl, hb10⟩
              go_wp2_with fail
              go_ret
              exact ⟨rfl, HB9.out.trans (hb10.mono HB9.out.size)⟩
end
end Go.Proofs.YtghjjemnegncpaaDoor
