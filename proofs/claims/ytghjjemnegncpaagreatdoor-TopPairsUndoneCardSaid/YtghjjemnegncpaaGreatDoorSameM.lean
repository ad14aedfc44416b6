/- The walk of wSame: the long way. -/
import Derived.Test.YtghjjemnegncpaaGreatDoorSame
set_option linter.unusedSimpArgs false
set_option linter.unusedVariables false
set_option linter.unusedSectionVars false
set_option linter.unnecessarySimpa false
namespace Go.Proofs.YtghjjemnegncpaaGreatDoor
open Go.RowKit

/-- The lines of instructions, as cells. -/
def shows (ws : List Pl.Ins) : List Value := ws.map fun i => str (Pl.showL i)
theorem shows_step (ws : List Pl.Ins) (k : Nat) (i : Pl.Ins) (h : ws[k]? = some i) : shows (ws.take k) ++ [str (Pl.showL i)] = shows (ws.take (k + 1)) := by
  rw [List.take_add_one, h]
  simp [shows]
theorem info9 : (Tryz.prog.info? 9).map (fun i => (i.zero, i.size, i.bytes)) = some (some (.string ⟨#[]⟩), 1, 16) := by kernel_rfl
theorem str_one (l : List UInt8) : ∀ u ∈ ([str l] : List Value), u.oneCell' = true := by
  intro u hu
  simp at hu
  subst hu
  rfl

set_option maxRecDepth 100000 in
/-- Join, of the lines of instructions. -/
theorem Join_shown {w : World} {B : Nat} {a : Option Addr} {c : Nat} {more : List Pl.Ins} (hn : 0 < more.length) (hv : ∀ i ∈ more, Pl.valid i) (hl : more.length ≤ 200) (H : w.ownsRow B 9 1 (.slice a more.length c) more.length (shows more)) :
    Calls Tryz.prog 41 #[.slice a more.length c, .string ⟨#[10]⟩] w fun e w' => e = .returned (str (Pl.joinN (more.map Pl.showL))) ∧ Below w.heap.size w w' := by
  have hcap := owns_cap H
  obtain ⟨g, c', hv', hB, hg, hcell⟩ := owns_at H hn
  injection hv' with e1 e2 e3
  subst e1 e3
  have hxs : (more.map fun i => (⟨(Pl.showL i).toArray⟩ : ByteArray)).length = more.length := by simp
  have hm : (more.map fun i => (⟨(Pl.showL i).toArray⟩ : ByteArray)).map (·.data.toList) = more.map Pl.showL := by simp [Function.comp_def]
  have hj : Lib.join ((more.map fun i => (⟨(Pl.showL i).toArray⟩ : ByteArray)).map (·.data.toList)) (⟨#[10]⟩ : ByteArray).data.toList = Pl.joinN (more.map Pl.showL) := by
    rw [hm]
    exact join_joinN _
  have hjl := joinN_len (more.map Pl.showL) (fun l hl => by
    obtain ⟨i, hi, rfl⟩ := List.mem_map.1 hl
    exact showL_len i (hv i hi))
  rw [List.length_map] at hjl
  have h := Tryz.strings_Join g 0 c (more.map fun i => (⟨(Pl.showL i).toArray⟩ : ByteArray)) ⟨#[10]⟩ w (fun j x hx => by
    rw [Nat.zero_add]
    refine hcell j _ ?_
    rw [List.getElem?_map] at hx
    rw [shows, List.getElem?_map]
    cases hk : more[j]? with
    | none => rw [hk] at hx; cases hx
    | some i => rw [hk] at hx; cases hx; rfl) hg (by rw [hxs]; omega) (by rw [hxs]; exact hcap) (by rw [hj]; omega)
  rw [hxs, hj] at h
  exact h

section
variable {w : World} {lv dv : Value} {ws : List Pl.Ins} {R D : List Int} {k : FuncId} {caps : Array Value} (G : Given w lv dv ws R D)
include G

set_option maxHeartbeats 20000000 in
set_option maxRecDepth 100000 in
theorem same_main (hv : ∀ i ∈ ws, Pl.valid i) (h60 : ws.length ≤ 60) (hd : D.length ≤ 4096) (hf : ∀ i ∈ ws, Pl.flat i) (hch : ChangeOk w ws k caps) (hent : ∀ (args : Array Value) (W : World), (callFunc k args).run Tryz.prog W = .ok (.enter k args) W) : Calls Tryz.prog 13 #[lv, .agg (arr R), dv, .func (.func k) #[] caps] w fun e w' => e = .returned (.bool true) ∧ Below w.heap.size w w' := by
  have HF := Lib.hid hf
  have HV := Lib.hid hv
  have HCH := Lib.hid (hch hv h60 hf)
  have hgd : Pl.goodD D := ⟨hd, G.bytes⟩
  have hst := Pl.run_straight ws hf (by omega) R D
  have hrn := fun (W : World) (v : Value) (h1 : Wd W v (ws.map Pl.encW)) (h2 : Bd W dv D) (h3 : ∀ a n c, v = .slice (some a) n c → a.block < W.heap.size) => wRun_is hv h1 h2 G.regs hgd (by omega) h3
  have HST := Lib.hid hst
  have HRN := Lib.hid hrn
  have HGD := Lib.hid hgd
  clear hf hst hrn hgd hch
  have HG := Lib.hid G
  have hlen := G.len
  have hdlen := G.dlen
  obtain ⟨la, lc, hlv⟩ : ∃ a c, lv = .slice a ws.length c := by
    obtain ⟨a, c, h, _⟩ := G.list
    exact ⟨a, c, h⟩
  obtain ⟨da, dc, hdv⟩ : ∃ a c, dv = .slice a D.length c := by
    obtain ⟨a, c, h, _⟩ := G.data
    exact ⟨a, c, h⟩
  obtain ⟨r0, r1, r2, r3, r4, r5, r6, r7, hRe⟩ := eight G.regs.1
  have hgr := G.regs
  subst hlv hdv hRe
  rw [arr8]
  clear G hgr
  go_enter Tryz.func13, Tryz.ntmps13
  go_wp2_with fail
  refine (wAwake_ok (HG.out.env.kept (fun k hk => Below.heap_alloc _ _ k hk))).mono ?_
  rintro e w1 ⟨rfl, hb1⟩
  have hr1 : rowAt w1 w.heap.size #[.int .u32 r0, .int .u32 r1, .int .u32 r2, .int .u32 r3, .int .u32 r4, .int .u32 r5, .int .u32 r6, .int .u32 r7] 24 := rowAt.below (by (repeat (first | ((with_reducible apply rowAt.new); simp; done) | (with_reducible apply rowAt.drew) | (with_reducible apply rowAt.drewN) | (with_reducible apply rowAt.alloc) | (with_reducible apply rowAt.setRow_same) | ((with_reducible apply rowAt.so); (· (first | (simp; done) | (simp; omega) | omega))) | (with_reducible apply rowAt.set10) | (with_reducible apply rowAt.set8) | (with_reducible apply rowAt.set4) | (with_reducible apply rowAt.set2) | (with_reducible apply rowAt.set) | ((with_reducible apply rowAt.co); (· (first | (simp; done) | (simp; omega) | omega))) | assumption))) hb1 (by simp)
  have hb1' : Below w.heap.size w w1 := (show Below w.heap.size w _ from by (repeat (first | (with_reducible exact Below.refl _ _) | (with_reducible apply Below.drew) | (with_reducible apply bl_drewN) | ((with_reducible apply bl_alloc); (· (first | (simp; done) | (simp; omega) | omega))) | ((with_reducible apply bl_row); (· (first | (simp; done) | (simp; omega) | omega))) | ((with_reducible apply bl_cell); (· (first | (simp; done) | (simp; omega) | omega))) | assumption))).trans (hb1.mono (by simp))
  have HB2 := Lib.hid hb1'
  clear hb1 hb1'
  go_wp2_with fail
  refine (wWords_ok ((HG.out.list.kept (Below.block HB2.out))) HG.out.len hv).mono ?_
  rintro e w3 ⟨v3, rfl, hown3, hb3⟩
  have hb3' := HB2.out.trans (hb3.mono HB2.out.size)
  have HB3 := Lib.hid hb3'
  have hr3 : rowAt w3 w.heap.size #[.int .u32 r0, .int .u32 r1, .int .u32 r2, .int .u32 r3, .int .u32 r4, .int .u32 r5, .int .u32 r6, .int .u32 r7] 24 := rowAt.below hr1 hb3 hr1.lt
  have hbB := HB2.out.size
  have hown3' := owns_base hown3 (B' := w.heap.size) hbB
  obtain ⟨va, vc, hv3⟩ := owns_form hown3'
  have HO3 := Lib.hid hown3'
  subst hv3
  clear hb3 hb3' HB2 hr1 hown3 hown3' hbB
  clear hv
  rw [arr8] at HRN
  go_wp2_with fail
  have HK := Lib.hid (il_at (HG.out.list.kept (Below.block HB3.out)))
  go_loopw [47] (fun t wr => ∃ k : Nat, k ≤ ws.length ∧ t = .int .i64 k ∧ Below w3.heap.size w3 wr) (fun t _ => ws.length - (intOf t).toNat)
  case atStart => exact ⟨0, Nat.zero_le _, rfl, Below.refl _ _⟩
  case round =>
    obtain ⟨j, hk, rfl, hbel⟩ := hrel
    by_cases hlt : j < ws.length
    · obtain ⟨i, hik⟩ : ∃ i, ws[j]? = some i := ⟨ws[j], by simp [hlt]⟩
      obtain ⟨b, off, rfl, h0, h1, h2, h3⟩ := HK.out j i hik
      have q0 := (hbel.cell (p := ⟨b, off + j * 4, none⟩) (World.block_lt_of_cell? w3 _ h0)).trans h0
      have q1 := (hbel.cell (p := ⟨b, off + j * 4 + 1, none⟩) (World.block_lt_of_cell? w3 _ h1)).trans h1
      have q2 := (hbel.cell (p := ⟨b, off + j * 4 + 2, none⟩) (World.block_lt_of_cell? w3 _ h2)).trans h2
      have q3 := (hbel.cell (p := ⟨b, off + j * 4 + 3, none⟩) (World.block_lt_of_cell? w3 _ h3)).trans h3
      have HBl := Lib.hid hbel
      obtain ⟨f1, f2⟩ := HF.out i (List.mem_of_getElem? hik)
      clear hbel h0 h1 h2 h3 hik
      have hs3 := HBl.out.size
      rcases f2 with f2 | f2
      · go_wp2
        have hb := HBl.out
        exact ⟨⟨j + 1, by omega, by go_num, by (repeat (first | (with_reducible exact Below.refl _ _) | (with_reducible apply Below.drew) | (with_reducible apply bl_drewN) | ((with_reducible apply bl_alloc); (· (first | (simp; done) | (simp; omega) | omega))) | ((with_reducible apply bl_row); (· (first | (simp; done) | (simp; omega) | omega))) | ((with_reducible apply bl_cell); (· (first | (simp; done) | (simp; omega) | omega))) | assumption))⟩, by simp [intOf]; omega⟩
      · rw [f2] at q0
        go_wp2
        have hb := HBl.out
        exact ⟨⟨j + 1, by omega, by go_num, by (repeat (first | (with_reducible exact Below.refl _ _) | (with_reducible apply Below.drew) | (with_reducible apply bl_drewN) | ((with_reducible apply bl_alloc); (· (first | (simp; done) | (simp; omega) | omega))) | ((with_reducible apply bl_row); (· (first | (simp; done) | (simp; omega) | omega))) | ((with_reducible apply bl_cell); (· (first | (simp; done) | (simp; omega) | omega))) | assumption))⟩, by simp [intOf]; omega⟩
    · obtain rfl : j = ws.length := by omega
      have hr4 : rowAt wr w.heap.size #[.int .u32 r0, .int .u32 r1, .int .u32 r2, .int .u32 r3, .int .u32 r4, .int .u32 r5, .int .u32 r6, .int .u32 r7] 24 := rowAt.below hr3 hbel hr3.lt
      have hz4 : w.heap.size < wr.heap.size := hr4.lt
      have HBl := Lib.hid hbel
      clear hbel HK
      have x0 : wr.cell? ⟨w.heap.size, 0, none⟩ = some (.int .u32 r0) := hr4.cell 0
      have x1 : wr.cell? ⟨w.heap.size, 1, none⟩ = some (.int .u32 r1) := hr4.cell 1
      have x2 : wr.cell? ⟨w.heap.size, 2, none⟩ = some (.int .u32 r2) := hr4.cell 2
      have x3 : wr.cell? ⟨w.heap.size, 3, none⟩ = some (.int .u32 r3) := hr4.cell 3
      have x4 : wr.cell? ⟨w.heap.size, 4, none⟩ = some (.int .u32 r4) := hr4.cell 4
      have x5 : wr.cell? ⟨w.heap.size, 5, none⟩ = some (.int .u32 r5) := hr4.cell 5
      have x6 : wr.cell? ⟨w.heap.size, 6, none⟩ = some (.int .u32 r6) := hr4.cell 6
      have x7 : wr.cell? ⟨w.heap.size, 7, none⟩ = some (.int .u32 r7) := hr4.cell 7
      have HO4 := Lib.hid (owns_kept HO3.out (Below.block HBl.out))
      go_wp2_with fail
      refine (HRN.out _ _ (owns_wd HO4.out) (HG.out.data.kept (Below.block (HB3.out.trans (HBl.out.mono HB3.out.size)))) (owns_blk HO4.out)).mono ?_
      rintro e w5 ⟨hri, hb5⟩
      obtain ⟨R1, dv1, rfl, hR1, hx1⟩ := hri.any HV.out HG.out.regs HGD.out
      obtain ⟨s0, s1, s2, s3, s4, s5, s6, s7, rfl⟩ := eight hR1
      rw [arr8]
      rw [HST.out] at hx1 ⊢
      have hr5 : rowAt w5 w.heap.size #[.int .u32 r0, .int .u32 r1, .int .u32 r2, .int .u32 r3, .int .u32 r4, .int .u32 r5, .int .u32 r6, .int .u32 r7] 24 := rowAt.below hr4 hb5 hz4
      have hb05 := HB3.out.trans ((HBl.out.trans (hb5.mono HBl.out.size)).mono HB3.out.size)
      have HB5 := Lib.hid hb05
      clear hri hb5 hr4 hr3 HO4 HO3 HBl HB3 HRN x0 x1 x2 x3 x4 x5 x6 x7 hb05 hz4
      cases hln : Pl.ln ws ([r0, r1, r2, r3, r4, r5, r6, r7], D) with
      | none =>
        simp only [Option.isSome_none]
        clear hx1 HCH HF HV HST
        go_wp2_with fail
        go_ret
        refine ⟨rfl, ?_⟩
        have hb := HB5.out
        have := hb.size
        (repeat (first | (with_reducible exact Below.refl _ _) | (with_reducible apply Below.drew) | (with_reducible apply bl_drewN) | ((with_reducible apply bl_alloc); (· (first | (simp; done) | (simp; omega) | omega))) | ((with_reducible apply bl_row); (· (first | (simp; done) | (simp; omega) | omega))) | ((with_reducible apply bl_cell); (· (first | (simp; done) | (simp; omega) | omega))) | assumption))
      | some x =>
        obtain ⟨hs, hbd, hgx, hgdx, hdl⟩ := hx1 x hln
        simp only [Option.isSome_some]
        have h13 : rowAt (w5.alloc (Obj.cells #[.int .u32 s0, .int .u32 s1, .int .u32 s2, .int .u32 s3, .int .u32 s4, .int .u32 s5, .int .u32 s6, .int .u32 s7] 24)) w5.heap.size #[.int .u32 s0, .int .u32 s1, .int .u32 s2, .int .u32 s3, .int .u32 s4, .int .u32 s5, .int .u32 s6, .int .u32 s7] 24 := rowAt.new _ _ _ rfl
        have h5 : rowAt (w5.alloc (Obj.cells #[.int .u32 s0, .int .u32 s1, .int .u32 s2, .int .u32 s3, .int .u32 s4, .int .u32 s5, .int .u32 s6, .int .u32 s7] 24)) w.heap.size #[.int .u32 r0, .int .u32 r1, .int .u32 r2, .int .u32 r3, .int .u32 r4, .int .u32 r5, .int .u32 r6, .int .u32 r7] 24 := hr5.alloc _
        have hz5 := HB5.out.size
        have hb6 : Below w.heap.size w (w5.alloc (Obj.cells #[.int .u32 s0, .int .u32 s1, .int .u32 s2, .int .u32 s3, .int .u32 s4, .int .u32 s5, .int .u32 s6, .int .u32 s7] 24)) := by
          have hb := HB5.out
          (repeat (first | (with_reducible exact Below.refl _ _) | (with_reducible apply Below.drew) | (with_reducible apply bl_drewN) | ((with_reducible apply bl_alloc); (· (first | (simp; done) | (simp; omega) | omega))) | ((with_reducible apply bl_row); (· (first | (simp; done) | (simp; omega) | omega))) | ((with_reducible apply bl_cell); (· (first | (simp; done) | (simp; omega) | omega))) | assumption))
        have hd6 : Bd (w5.alloc (Obj.cells #[.int .u32 s0, .int .u32 s1, .int .u32 s2, .int .u32 s3, .int .u32 s4, .int .u32 s5, .int .u32 s6, .int .u32 s7] 24)) dv1 x.2 := hbd.kept fun k hk => Below.heap_alloc _ _ k hk
        have HS := Lib.hid hs
        have HLN := Lib.hid hln
        have HBD := Lib.hid hd6
        clear hs hbd hx1 hr5 hln hd6
        go_wp2_with fail
        generalize w5.alloc (Obj.cells #[.int .u32 s0, .int .u32 s1, .int .u32 s2, .int .u32 s3, .int .u32 s4, .int .u32 s5, .int .u32 s6, .int .u32 s7] 24) = w6 at *
        generalize w5.heap.size = g13 at *
        refine (Clone_ins ws _ w6 (HG.out.list.kept (Below.block hb6)) (by omega)).mono ?_
        rintro e w7 ⟨v7, rfl, hown7, hb7⟩
        have hb7' := hb6.trans (hb7.mono hb6.size)
        have HO7 := Lib.hid hown7
        have HB7 := Lib.hid hb7
        have HB07 := Lib.hid hb7'
        clear hown7 hb7 hb7'
        go_wp2_with fail
        refine (HCH.out w7 w6.heap.size v7 hb6.size HB7.out.size HB07.out HO7.out).mono ?_
        rintro e w8 ⟨hch, hb8⟩
        have hb68 : Below w6.heap.size w6 w8 := HB7.out.trans hb8
        have hb08 : Below w.heap.size w w8 := hb6.trans (hb68.mono hb6.size)
        have k5 := rowAt.below h5 hb68 h5.lt
        have k13 := rowAt.below h13 hb68 h13.lt
        have kd := HBD.out.kept (Below.block hb68)
        have hl5 := k5.lt
        have hl13 := k13.lt
        have HB08 := Lib.hid hb08
        have HKD := Lib.hid kd
        clear hb8 hb68 hb08 kd HBD h5 h13 HB7 HB07 HO7 hb6 HCH
        rcases hch with rfl | ⟨v, more, rfl, hne, him, hsame⟩
        · have he := fun W => run_eql_nil W 22 31 none 0 0 Tryz.underlying22
          simp only [Option.isNone_none] at he
          go_wp2_with fail
          go_ret
          exact ⟨rfl, HB08.out⟩
        · obtain ⟨ad, mc, hv⟩ : ∃ ad c, v = .slice (some ad) more.length c := by
            obtain ⟨a, c, h, _, hk⟩ := him
            cases more with
            | nil => exact absurd rfl hne
            | cons i l =>
              obtain ⟨b, off, ha, _⟩ := hk 0 i rfl
              exact ⟨_, c, by rw [h, ha]⟩
          subst hv
          have he := fun W => run_eql_nil W 22 31 (some ad) more.length mc Tryz.underlying22
          simp only [Option.isNone_some] at he
          have hml := hsame.2.1
          have HSM := Lib.hid hsame
          clear hsame
          go_wp2_with fail
          refine (wWords_ok him (by omega) HSM.out.1).mono ?_
          rintro e w9 ⟨v9, rfl, hown9, hb9⟩
          obtain ⟨va9, vc9, hv9⟩ := owns_form hown9
          subst hv9
          have HO9 := Lib.hid hown9
          have m5 := rowAt.below k5 hb9 hl5
          have m13 := rowAt.below k13 hb9 hl13
          have HMD := Lib.hid (HKD.out.kept (Below.block hb9))
          have HB9 := Lib.hid (HB08.out.trans (hb9.mono HB08.out.size))
          have hl59 := m5.lt
          have hl139 := m13.lt
          clear hown9 hb9 k5 k13 HKD HB08 him he
          go_wp2_with fail
          have HW := Lib.hid (owns_wd HO9.out)
          obtain ⟨i9, hi9, hz90, hz91, hz92⟩ := info_parts info9
          have hn9 : 0 < more.length := by
            cases more with
            | nil => exact absurd rfl hne
            | cons i l => simp
          go_loopw [90, 17] (fun t v wr => ∃ j : Nat, j ≤ more.length ∧ t = .int .i64 j ∧ wr.ownsRow w9.heap.size 9 1 v j (shows (more.take j)) ∧ Below w9.heap.size w9 wr) (fun t _ _ => more.length - (intOf t).toNat)
          case atStart => exact ⟨0, Nat.zero_le _, rfl, World.ownsRow_nil _ _ _ _, Below.refl _ _⟩
          case round =>
            obtain ⟨j, hj, rfl, hown, hbel⟩ := hrel
            by_cases hlt : j < more.length
            · obtain ⟨i, hik⟩ : ∃ i, more[j]? = some i := ⟨more[j], by simp [hlt]⟩
              have hvi := HSM.out.1 i (List.mem_of_getElem? hik)
              obtain ⟨a9, c9, hv9, hk9⟩ := HW.out
              obtain ⟨b9, hb9a, r9⟩ := hk9 j (by simpa using hlt)
              have hgd : (more.map Pl.encW).getD j 0 = Pl.encW i := by simp [List.getD_eq_getElem?_getD, hik]
              rw [hgd] at r9
              injection hv9 with e1 e2 e3
              clear e2 e3
              subst hb9a e1
              have hls := showL_len i hvi
              have r9' := (hbel.cell (p := b9.add j) (World.block_lt_of_cell? w9 _ r9)).trans r9
              have HSh := Lib.hid (Show_ok i wr hvi (HG.out.env.kept (Below.block (HB9.out.trans (hbel.mono HB9.out.size)))))
              have HO := Lib.hid hown
              have HBl := Lib.hid hbel
              clear hown hbel r9 hk9 hgd hvi
              go_wp2_with fail
              refine HSh.out.mono ?_
              rintro e w10 ⟨rfl, hb10⟩
              have hO1 : (w10.alloc (.cells #[str (Pl.showL i)] 9)).ownsRow w9.heap.size 9 1 u17 j (shows (more.take j)) := owns_kept HO.out fun k hk => (Below.heap_alloc _ _ _ (by have := hb10.size; omega)).trans (hb10.block k hk)
              have hs1 := hb10.size
              have hsB := HBl.out.size
              have hb2 : Below w9.heap.size w9 (w10.alloc (.cells #[str (Pl.showL i)] 9)) := (HBl.out.trans (hb10.mono hsB)).alloc (by omega) _
              have HO1 := Lib.hid hO1
              have HB1 := Lib.hid hb2
              clear hO1 hb2 hb10 HO HBl r9'
              go_wp2_with (first | (at_builtin; refine wpList_append_own _ rfl _ _ 65 rfl w9.heap.size 9 i9 (.string ⟨#[]⟩) 1 16 Tryz.underlying65 hi9 hz90 hz91 hz92 rfl (by decide) _ j _ rfl HO1.out ⟨w10.heap.size, 0, none⟩ 1 1 [str (Pl.showL i)] rfl rfl (one_cell _ _ _) (str_one _) (by unfold maxLen; omega) (by omega) (by simp; omega) ?_))
              intro v' w11 hown hgrow _
              have hb := HB1.out.trans (below_own HO1.out hgrow (by simp; omega))
              have HO2 := Lib.hid (shows_step more j i hik ▸ hown)
              have HB2 := Lib.hid hb
              clear hown hgrow hb HO1 HB1 HSh hik
              go_wp2_with fail
              exact ⟨⟨j + 1, by omega, by go_num, HO2.out, HB2.out⟩, by simp [intOf]; omega⟩
            · obtain rfl : j = more.length := by omega
              rw [List.take_length] at hown
              obtain ⟨la9, lc9, rfl⟩ := owns_form hown
              have HJ := Lib.hid (Join_shown hn9 HSM.out.1 hml hown)
              have n5 := rowAt.below m5 hbel hl59
              have n13 := rowAt.below m13 hbel hl139
              have hlr5 := n5.lt
              have hlr13 := n13.lt
              have HND := Lib.hid (HMD.out.kept (Below.block hbel))
              have HNO := Lib.hid (owns_kept HO9.out (Below.block hbel))
              have HNB := Lib.hid (HB9.out.trans (hbel.mono HB9.out.size))
              clear hown hbel m5 m13 HMD HO9 HB9 hl59 hl139
              go_wp2_with fail
              refine HJ.out.mono ?_
              rintro e w10 ⟨rfl, hb10⟩
              have p5 := rowAt.below n5 hb10 hlr5
              have p13 := rowAt.below n13 hb10 hlr13
              have hlp5 := p5.lt
              have hlp13 := p13.lt
              have HPD := Lib.hid (HND.out.kept (Below.block hb10))
              have HPO := Lib.hid (owns_kept HNO.out (Below.block hb10))
              have HPB := Lib.hid (HNB.out.trans (hb10.mono HNB.out.size))
              have HRs := Lib.hid fun h1 h2 => Read_shown (w := w10) (ws := more) (HG.out.env.kept (Below.block HPB.out)) hne HSM.out.1 h1 h2
              clear hb10 n5 n13 hlr5 hlr13 HND HNO HNB HJ HW hi9 hz90 hz91 hz92
              generalize hjs : Pl.joinN (more.map Pl.showL) = js at *
              clear hjs
              have hgo : (js.length ≤ 2000 ∧ more.length ≤ 128) ∨ (js.length ≤ 2000 ∧ 128 < more.length) ∨ 2000 < js.length := by omega
              rcases hgo with ⟨hj1, hj2⟩ | ⟨hj1, hj2⟩ | hj1
              · have HRd := Lib.hid (HRs.out hj2 hj1)
                clear HRs
                go_wp2_with fail
                refine HRd.out.mono ?_
                rintro e w11 ⟨⟨cv, ma, mm, rfl, hcv⟩, hb11⟩
                obtain ⟨ca, cc, rfl⟩ := owns_form hcv
                have q5 := rowAt.below p5 hb11 hlp5
                have q13 := rowAt.below p13 hb11 hlp13
                have hu : rowAt (w11.alloc (Obj.cells #[.slice ca more.length cc, .slice ma 0 mm, .slice none 0 0] 57)) w11.heap.size #[.slice ca more.length cc, .slice ma 0 mm, .slice none 0 0] 57 := rowAt.new _ _ _ rfl
                have hk11 : ∀ k, k < w11.heap.size → (w11.alloc (Obj.cells #[.slice ca more.length cc, .slice ma 0 mm, .slice none 0 0] 57)).heap[k]? = w11.heap[k]? := fun k hk => Below.heap_alloc _ _ k hk
                have t5 := q5.alloc (.cells #[.slice ca more.length cc, .slice ma 0 mm, .slice none 0 0] 57)
                have t13 := q13.alloc (.cells #[.slice ca more.length cc, .slice ma 0 mm, .slice none 0 0] 57)
                have htd := (HPD.out.kept (Below.block hb11)).kept hk11
                have hto := owns_kept (owns_kept HPO.out (Below.block hb11)) hk11
                have htc := owns_kept hcv hk11
                have hsp := HPB.out.size
                have hs11 := hb11.size
                have htb : Below w.heap.size w (w11.alloc (Obj.cells #[.slice ca more.length cc, .slice ma 0 mm, .slice none 0 0] 57)) := (HPB.out.trans (hb11.mono hsp)).alloc (by omega) _
                clear hb11 q5 q13 p5 p13 hcv HPD HPO HPB hk11 hs11 hsp hlp5 hlp13
                go_wp2_with fail
                generalize (w11.alloc (Obj.cells #[.slice ca more.length cc, .slice ma 0 mm, .slice none 0 0] 57)) = w12 at *
                generalize w11.heap.size = gu at *
                have hlu := hu.lt
                have hlt5 := t5.lt
                have hlt13 := t13.lt
                have u0 : w12.cell? ⟨gu, 0, none⟩ = some (.slice ca more.length cc) := hu.cell 0
                have u1 : w12.cell? ⟨gu, 1, none⟩ = some (.slice ma 0 mm) := hu.cell 1
                have u2 : w12.cell? ⟨gu, 2, none⟩ = some (.slice none 0 0) := hu.cell 2
                have HEq := Lib.hid (Equal_words (owns_wd htc) (owns_wd hto) (by simp; omega))
                have HTD := Lib.hid htd
                have HTO := Lib.hid hto
                have HTB := Lib.hid htb
                clear htd hto htb htc hu
                go_wp2_with fail
                refine HEq.out.mono ?_
                rintro e w13 ⟨rfl, hb13⟩
                have v5 := rowAt.below t5 hb13 hlt5
                have v13 := rowAt.below t13 hb13 hlt13
                have hlv5 := v5.lt
                have hlv13 := v13.lt
                have HVD := Lib.hid (HTD.out.kept (Below.block hb13))
                have HVO := Lib.hid (owns_kept HTO.out (Below.block hb13))
                have HVB := Lib.hid (HTB.out.trans (hb13.mono HTB.out.size))
                have u0 : w13.cell? ⟨gu, 0, none⟩ = some (.slice ca more.length cc) := (hb13.cell (p := ⟨gu, 0, none⟩) hlu).trans u0
                have u2 : w13.cell? ⟨gu, 2, none⟩ = some (.slice none 0 0) := (hb13.cell (p := ⟨gu, 2, none⟩) hlu).trans u2
                have hlu13 := Nat.lt_of_lt_of_le hlu hb13.size
                clear hb13 t5 t13 HTD HTO HTB HEq hlt5 hlt13
                have z0 : w13.cell? ⟨w.heap.size, 0, none⟩ = some (.int .u32 r0) := v5.cell 0
                have z1 : w13.cell? ⟨w.heap.size, 1, none⟩ = some (.int .u32 r1) := v5.cell 1
                have z2 : w13.cell? ⟨w.heap.size, 2, none⟩ = some (.int .u32 r2) := v5.cell 2
                have z3 : w13.cell? ⟨w.heap.size, 3, none⟩ = some (.int .u32 r3) := v5.cell 3
                have z4 : w13.cell? ⟨w.heap.size, 4, none⟩ = some (.int .u32 r4) := v5.cell 4
                have z5 : w13.cell? ⟨w.heap.size, 5, none⟩ = some (.int .u32 r5) := v5.cell 5
                have z6 : w13.cell? ⟨w.heap.size, 6, none⟩ = some (.int .u32 r6) := v5.cell 6
                have z7 : w13.cell? ⟨w.heap.size, 7, none⟩ = some (.int .u32 r7) := v5.cell 7
                have hrun2 := HSM.out.2.2 [r0, r1, r2, r3, r4, r5, r6, r7] D x HG.out.regs HGD.out HLN.out
                have hW := wRun_is (w := w13) (ws := more) (R := [r0, r1, r2, r3, r4, r5, r6, r7]) (D := D) HSM.out.1 (owns_wd HVO.out) (HG.out.data.kept (Below.block HVB.out)) HG.out.regs HGD.out (by omega) (owns_blk HVO.out)
                rw [arr8] at hW
                have HW2 := Lib.hid hW
                have HRN2 := Lib.hid hrun2
                clear hW hrun2
                go_wp2_with fail
                refine HW2.out.mono ?_
                rintro e w14 ⟨hri, hb14⟩
                obtain ⟨dv2, rfl, hbd2⟩ := hri.1 _ _ HRN2.out
                rw [← HS.out, arr8]
                have x13 := rowAt.below v13 hb14 hlv13
                have hlx13 := x13.lt
                have n13a : rowAt (w14.alloc (Obj.cells #[.int .u32 s0, .int .u32 s1, .int .u32 s2, .int .u32 s3, .int .u32 s4, .int .u32 s5, .int .u32 s6, .int .u32 s7] 24)) w14.heap.size #[.int .u32 s0, .int .u32 s1, .int .u32 s2, .int .u32 s3, .int .u32 s4, .int .u32 s5, .int .u32 s6, .int .u32 s7] 24 := rowAt.new _ _ _ rfl
                have n13b := x13.alloc (.cells #[.int .u32 s0, .int .u32 s1, .int .u32 s2, .int .u32 s3, .int .u32 s4, .int .u32 s5, .int .u32 s6, .int .u32 s7] 24)
                have hk14 : ∀ k, k < w14.heap.size → (w14.alloc (Obj.cells #[.int .u32 s0, .int .u32 s1, .int .u32 s2, .int .u32 s3, .int .u32 s4, .int .u32 s5, .int .u32 s6, .int .u32 s7] 24)).heap[k]? = w14.heap[k]? := fun k hk => Below.heap_alloc _ _ k hk
                have hbda := hbd2.kept hk14
                have hbdb := (HVD.out.kept (Below.block hb14)).kept hk14
                have hbx : Below w.heap.size w (w14.alloc (Obj.cells #[.int .u32 s0, .int .u32 s1, .int .u32 s2, .int .u32 s3, .int .u32 s4, .int .u32 s5, .int .u32 s6, .int .u32 s7] 24)) := (HVB.out.trans (hb14.mono HVB.out.size)).alloc (Nat.le_trans HVB.out.size hb14.size) _
                have hxl : x.2.length ≤ 4096 := hgdx.1
                have heb := Equal_bytes hbda hbdb (by omega) (by omega)
                rw [show decide (x.2 = x.2) = true by simp] at heb
                have HE := Lib.hid heb
                have HB9 := Lib.hid hbx
                have f0 : w14.cell? ⟨g13, 0, none⟩ = some (.int .u32 s0) := x13.cell 0
                have f1 : w14.cell? ⟨g13, 1, none⟩ = some (.int .u32 s1) := x13.cell 1
                have f2 : w14.cell? ⟨g13, 2, none⟩ = some (.int .u32 s2) := x13.cell 2
                have f3 : w14.cell? ⟨g13, 3, none⟩ = some (.int .u32 s3) := x13.cell 3
                have f4 : w14.cell? ⟨g13, 4, none⟩ = some (.int .u32 s4) := x13.cell 4
                have f5 : w14.cell? ⟨g13, 5, none⟩ = some (.int .u32 s5) := x13.cell 5
                have f6 : w14.cell? ⟨g13, 6, none⟩ = some (.int .u32 s6) := x13.cell 6
                have f7 : w14.cell? ⟨g13, 7, none⟩ = some (.int .u32 s7) := x13.cell 7
                have heq := fun W => equal_regs_same W s0 s1 s2 s3 s4 s5 s6 s7
                clear hri hbd2 x13 v13 v5 hk14 hbda hbdb hbx heb hb14 HW2 HRN2 HVD HVO HVB z0 z1 z2 z3 z4 z5 z6 z7 n13a n13b
                go_wp2_with fail
                refine HE.out.mono ?_
                rintro e w16 ⟨rfl, hb16⟩
                have HB16 := Lib.hid (HB9.out.trans (hb16.mono HB9.out.size))
                clear hb16 HE HB9
                go_wp2_with fail
                go_ret
                exact ⟨rfl, HB16.out⟩
              · clear HRs
                have v5 := p5
                have v13 := p13
                have hlv5 := v5.lt
                have hlv13 := v13.lt
                have HVD := HPD
                have HVO := HPO
                have HVB := HPB
                clear p5 p13 HPD HPO HPB hlp5 hlp13
                generalize w10 = w13 at *
                have z0 : w13.cell? ⟨w.heap.size, 0, none⟩ = some (.int .u32 r0) := v5.cell 0
                have z1 : w13.cell? ⟨w.heap.size, 1, none⟩ = some (.int .u32 r1) := v5.cell 1
                have z2 : w13.cell? ⟨w.heap.size, 2, none⟩ = some (.int .u32 r2) := v5.cell 2
                have z3 : w13.cell? ⟨w.heap.size, 3, none⟩ = some (.int .u32 r3) := v5.cell 3
                have z4 : w13.cell? ⟨w.heap.size, 4, none⟩ = some (.int .u32 r4) := v5.cell 4
                have z5 : w13.cell? ⟨w.heap.size, 5, none⟩ = some (.int .u32 r5) := v5.cell 5
                have z6 : w13.cell? ⟨w.heap.size, 6, none⟩ = some (.int .u32 r6) := v5.cell 6
                have z7 : w13.cell? ⟨w.heap.size, 7, none⟩ = some (.int .u32 r7) := v5.cell 7
                have hrun2 := HSM.out.2.2 [r0, r1, r2, r3, r4, r5, r6, r7] D x HG.out.regs HGD.out HLN.out
                have hW := wRun_is (w := w13) (ws := more) (R := [r0, r1, r2, r3, r4, r5, r6, r7]) (D := D) HSM.out.1 (owns_wd HVO.out) (HG.out.data.kept (Below.block HVB.out)) HG.out.regs HGD.out (by omega) (owns_blk HVO.out)
                rw [arr8] at hW
                have HW2 := Lib.hid hW
                have HRN2 := Lib.hid hrun2
                clear hW hrun2
                go_wp2_with fail
                refine HW2.out.mono ?_
                rintro e w14 ⟨hri, hb14⟩
                obtain ⟨dv2, rfl, hbd2⟩ := hri.1 _ _ HRN2.out
                rw [← HS.out, arr8]
                have x13 := rowAt.below v13 hb14 hlv13
                have hlx13 := x13.lt
                have n13a : rowAt (w14.alloc (Obj.cells #[.int .u32 s0, .int .u32 s1, .int .u32 s2, .int .u32 s3, .int .u32 s4, .int .u32 s5, .int .u32 s6, .int .u32 s7] 24)) w14.heap.size #[.int .u32 s0, .int .u32 s1, .int .u32 s2, .int .u32 s3, .int .u32 s4, .int .u32 s5, .int .u32 s6, .int .u32 s7] 24 := rowAt.new _ _ _ rfl
                have n13b := x13.alloc (.cells #[.int .u32 s0, .int .u32 s1, .int .u32 s2, .int .u32 s3, .int .u32 s4, .int .u32 s5, .int .u32 s6, .int .u32 s7] 24)
                have hk14 : ∀ k, k < w14.heap.size → (w14.alloc (Obj.cells #[.int .u32 s0, .int .u32 s1, .int .u32 s2, .int .u32 s3, .int .u32 s4, .int .u32 s5, .int .u32 s6, .int .u32 s7] 24)).heap[k]? = w14.heap[k]? := fun k hk => Below.heap_alloc _ _ k hk
                have hbda := hbd2.kept hk14
                have hbdb := (HVD.out.kept (Below.block hb14)).kept hk14
                have hbx : Below w.heap.size w (w14.alloc (Obj.cells #[.int .u32 s0, .int .u32 s1, .int .u32 s2, .int .u32 s3, .int .u32 s4, .int .u32 s5, .int .u32 s6, .int .u32 s7] 24)) := (HVB.out.trans (hb14.mono HVB.out.size)).alloc (Nat.le_trans HVB.out.size hb14.size) _
                have hxl : x.2.length ≤ 4096 := hgdx.1
                have heb := Equal_bytes hbda hbdb (by omega) (by omega)
                rw [show decide (x.2 = x.2) = true by simp] at heb
                have HE := Lib.hid heb
                have HB9 := Lib.hid hbx
                have f0 : w14.cell? ⟨g13, 0, none⟩ = some (.int .u32 s0) := x13.cell 0
                have f1 : w14.cell? ⟨g13, 1, none⟩ = some (.int .u32 s1) := x13.cell 1
                have f2 : w14.cell? ⟨g13, 2, none⟩ = some (.int .u32 s2) := x13.cell 2
                have f3 : w14.cell? ⟨g13, 3, none⟩ = some (.int .u32 s3) := x13.cell 3
                have f4 : w14.cell? ⟨g13, 4, none⟩ = some (.int .u32 s4) := x13.cell 4
                have f5 : w14.cell? ⟨g13, 5, none⟩ = some (.int .u32 s5) := x13.cell 5
                have f6 : w14.cell? ⟨g13, 6, none⟩ = some (.int .u32 s6) := x13.cell 6
                have f7 : w14.cell? ⟨g13, 7, none⟩ = some (.int .u32 s7) := x13.cell 7
                have heq := fun W => equal_regs_same W s0 s1 s2 s3 s4 s5 s6 s7
                clear hri hbd2 x13 v13 v5 hk14 hbda hbdb hbx heb hb14 HW2 HRN2 HVD HVO HVB z0 z1 z2 z3 z4 z5 z6 z7 n13a n13b
                go_wp2_with fail
                refine HE.out.mono ?_
                rintro e w16 ⟨rfl, hb16⟩
                have HB16 := Lib.hid (HB9.out.trans (hb16.mono HB9.out.size))
                clear hb16 HE HB9
                go_wp2_with fail
                go_ret
                exact ⟨rfl, HB16.out⟩
              · clear HRs
                have v5 := p5
                have v13 := p13
                have hlv5 := v5.lt
                have hlv13 := v13.lt
                have HVD := HPD
                have HVO := HPO
                have HVB := HPB
                clear p5 p13 HPD HPO HPB hlp5 hlp13
                generalize w10 = w13 at *
                have z0 : w13.cell? ⟨w.heap.size, 0, none⟩ = some (.int .u32 r0) := v5.cell 0
                have z1 : w13.cell? ⟨w.heap.size, 1, none⟩ = some (.int .u32 r1) := v5.cell 1
                have z2 : w13.cell? ⟨w.heap.size, 2, none⟩ = some (.int .u32 r2) := v5.cell 2
                have z3 : w13.cell? ⟨w.heap.size, 3, none⟩ = some (.int .u32 r3) := v5.cell 3
                have z4 : w13.cell? ⟨w.heap.size, 4, none⟩ = some (.int .u32 r4) := v5.cell 4
                have z5 : w13.cell? ⟨w.heap.size, 5, none⟩ = some (.int .u32 r5) := v5.cell 5
                have z6 : w13.cell? ⟨w.heap.size, 6, none⟩ = some (.int .u32 r6) := v5.cell 6
                have z7 : w13.cell? ⟨w.heap.size, 7, none⟩ = some (.int .u32 r7) := v5.cell 7
                have hrun2 := HSM.out.2.2 [r0, r1, r2, r3, r4, r5, r6, r7] D x HG.out.regs HGD.out HLN.out
                have hW := wRun_is (w := w13) (ws := more) (R := [r0, r1, r2, r3, r4, r5, r6, r7]) (D := D) HSM.out.1 (owns_wd HVO.out) (HG.out.data.kept (Below.block HVB.out)) HG.out.regs HGD.out (by omega) (owns_blk HVO.out)
                rw [arr8] at hW
                have HW2 := Lib.hid hW
                have HRN2 := Lib.hid hrun2
                clear hW hrun2
                go_wp2_with fail
                refine HW2.out.mono ?_
                rintro e w14 ⟨hri, hb14⟩
                obtain ⟨dv2, rfl, hbd2⟩ := hri.1 _ _ HRN2.out
                rw [← HS.out, arr8]
                have x13 := rowAt.below v13 hb14 hlv13
                have hlx13 := x13.lt
                have n13a : rowAt (w14.alloc (Obj.cells #[.int .u32 s0, .int .u32 s1, .int .u32 s2, .int .u32 s3, .int .u32 s4, .int .u32 s5, .int .u32 s6, .int .u32 s7] 24)) w14.heap.size #[.int .u32 s0, .int .u32 s1, .int .u32 s2, .int .u32 s3, .int .u32 s4, .int .u32 s5, .int .u32 s6, .int .u32 s7] 24 := rowAt.new _ _ _ rfl
                have n13b := x13.alloc (.cells #[.int .u32 s0, .int .u32 s1, .int .u32 s2, .int .u32 s3, .int .u32 s4, .int .u32 s5, .int .u32 s6, .int .u32 s7] 24)
                have hk14 : ∀ k, k < w14.heap.size → (w14.alloc (Obj.cells #[.int .u32 s0, .int .u32 s1, .int .u32 s2, .int .u32 s3, .int .u32 s4, .int .u32 s5, .int .u32 s6, .int .u32 s7] 24)).heap[k]? = w14.heap[k]? := fun k hk => Below.heap_alloc _ _ k hk
                have hbda := hbd2.kept hk14
                have hbdb := (HVD.out.kept (Below.block hb14)).kept hk14
                have hbx : Below w.heap.size w (w14.alloc (Obj.cells #[.int .u32 s0, .int .u32 s1, .int .u32 s2, .int .u32 s3, .int .u32 s4, .int .u32 s5, .int .u32 s6, .int .u32 s7] 24)) := (HVB.out.trans (hb14.mono HVB.out.size)).alloc (Nat.le_trans HVB.out.size hb14.size) _
                have hxl : x.2.length ≤ 4096 := hgdx.1
                have heb := Equal_bytes hbda hbdb (by omega) (by omega)
                rw [show decide (x.2 = x.2) = true by simp] at heb
                have HE := Lib.hid heb
                have HB9 := Lib.hid hbx
                have f0 : w14.cell? ⟨g13, 0, none⟩ = some (.int .u32 s0) := x13.cell 0
                have f1 : w14.cell? ⟨g13, 1, none⟩ = some (.int .u32 s1) := x13.cell 1
                have f2 : w14.cell? ⟨g13, 2, none⟩ = some (.int .u32 s2) := x13.cell 2
                have f3 : w14.cell? ⟨g13, 3, none⟩ = some (.int .u32 s3) := x13.cell 3
                have f4 : w14.cell? ⟨g13, 4, none⟩ = some (.int .u32 s4) := x13.cell 4
                have f5 : w14.cell? ⟨g13, 5, none⟩ = some (.int .u32 s5) := x13.cell 5
                have f6 : w14.cell? ⟨g13, 6, none⟩ = some (.int .u32 s6) := x13.cell 6
                have f7 : w14.cell? ⟨g13, 7, none⟩ = some (.int .u32 s7) := x13.cell 7
                have heq := fun W => equal_regs_same W s0 s1 s2 s3 s4 s5 s6 s7
                clear hri hbd2 x13 v13 v5 hk14 hbda hbdb hbx heb hb14 HW2 HRN2 HVD HVO HVB z0 z1 z2 z3 z4 z5 z6 z7 n13a n13b
                go_wp2_with fail
                refine HE.out.mono ?_
                rintro e w16 ⟨rfl, hb16⟩
                have HB16 := Lib.hid (HB9.out.trans (hb16.mono HB9.out.size))
                clear hb16 HE HB9
                go_wp2_with fail
                go_ret
                exact ⟨rfl, HB16.out⟩
end
end Go.Proofs.YtghjjemnegncpaaGreatDoor
