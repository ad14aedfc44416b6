/- The walk of wRun. -/
import Derived.Test.YtghjjemnegncpaaGreatDoorWords
set_option linter.unusedSimpArgs false
set_option linter.unusedVariables false
set_option linter.unusedSectionVars false
namespace Go.Proofs.YtghjjemnegncpaaGreatDoor
open Go.RowKit

/-- What ownsRow says of a slice of words. -/
theorem owns_wd {w : World} {B : Nat} {v : Value} {ws : List Pl.Ins} {e : TypeId} (h : w.ownsRow B e 1 v ws.length (encs ws)) : Wd w v (ws.map Pl.encW) := by
  rcases h.2 with ⟨hv, hn⟩ | ⟨g, cap, cur, hv, hB, hg, hcap, _, hsz, htk⟩
  · obtain rfl := List.length_eq_zero_iff.1 hn
    exact ⟨none, 0, hv, fun k hk => by simp at hk⟩
  · refine ⟨some ⟨g, 0, none⟩, cap, by rw [List.length_map]; exact hv, fun k hk => ⟨⟨g, 0, none⟩, rfl, ?_⟩⟩
    rw [List.length_map] at hk
    rw [add_at, cell_of_row w g k cur e (0, 0) hg, ← Array.getElem?_toList]
    have h2 : (cur.toList.take (ws.length * 1))[k]? = (encs ws)[k]? := by rw [htk]
    rw [List.getElem?_take_of_lt (by omega)] at h2
    rw [h2, words_at ws k ws[k] (by simp [hk])]
    simp [encs, hk]

/-- The registers as an array. -/
def arr (R : List Int) : Array Value := (R.map (Value.int .u32)).toArray
theorem arr8 (r0 r1 r2 r3 r4 r5 r6 r7 : Int) : arr [r0, r1, r2, r3, r4, r5, r6, r7] = #[.int .u32 r0, .int .u32 r1, .int .u32 r2, .int .u32 r3, .int .u32 r4, .int .u32 r5, .int .u32 r6, .int .u32 r7] := rfl
abbrev zeros8 : Array Value := #[.int .u32 0, .int .u32 0, .int .u32 0, .int .u32 0, .int .u32 0, .int .u32 0, .int .u32 0, .int .u32 0]

theorem sizeArr : (Tryz.prog.info? 24).map (·.size) = some 8 := by kernel_rfl

theorem run_end {R : Ending → World → Prop} {a : Act} {w : World} {g : Nat} {t : TypeId} {cs : Array Value} {v1 v2 : Value} (hp : a.tmps.getD 6 undef = .pointer (some ⟨g, 0, none⟩)) (h1 : a.tmps.getD 7 undef = v1) (h2 : a.tmps.getD 8 undef = v2)
    (hg : rowAt w g cs t) (hn : cs.size = 8) (hdf : a.defers = []) (hR : R (.returned (.tuple #[.agg cs, v1, v2])) w) : bodyPost Tryz.prog Tryz.f39 R .ret a w :=
  post_ctt (p := 6) (u := 7) (v := 8) (ty := 24) rfl Tryz.underlying24 rfl sizeArr hp h1 h2 hg hn hdf hR

theorem rowAt.set8 {w : World} {g : Nat} {x0 x1 x2 x3 x4 x5 x6 x7 : Value} {t : TypeId} (a b c d e f h i : Value) (hr : rowAt w g #[x0, x1, x2, x3, x4, x5, x6, x7] t) :
    rowAt ((((((((w.setCell ⟨g, 0, none⟩ a).setCell ⟨g, 1, none⟩ b).setCell ⟨g, 2, none⟩ c).setCell ⟨g, 3, none⟩ d).setCell ⟨g, 4, none⟩ e).setCell ⟨g, 5, none⟩ f).setCell ⟨g, 6, none⟩ h).setCell ⟨g, 7, none⟩ i) g #[a, b, c, d, e, f, h, i] t := by
  have h := (((((((hr.set 0 a).set 1 b).set 2 c).set 3 d).set 4 e).set 5 f).set 6 h).set 7 i
  simpa using h

/-- Block g holds what it held. -/
def kp (g : Nat) (w0 w : World) : Prop := w.heap[g]? = w0.heap[g]?
theorem kp_refl (g : Nat) (w : World) : kp g w w := rfl
theorem kp_drew {g : Nat} {w0 w : World} (h : kp g w0 w) : kp g w0 w.drew := h
theorem kp_drewN {g n : Nat} {w0 w : World} (h : kp g w0 w) : kp g w0 (w.drewN n) := h
theorem kp_alloc {g : Nat} {w0 w : World} {o : Obj} (hg : g < w.heap.size) (h : kp g w0 w) : kp g w0 (w.alloc o) := (Below.heap_alloc w o g hg).trans h
theorem kp_cell {g : Nat} {w0 w : World} {p : Addr} {v : Value} (hg : g ≠ p.block) (h : kp g w0 w) : kp g w0 (w.setCell p v) := (Below.heap_setCell w p v g hg).trans h
theorem kp_row {g b : Nat} {w0 w : World} {cs : Array Value} (hg : g ≠ b) (h : kp g w0 w) : kp g w0 (w.setRow b cs) := (Go.setRow_other w b g cs hg).trans h

/-- What wRun comes to. -/
def RunIs (ws : List Pl.Ins) (R D : List Int) (e : Ending) (w' : World) : Prop :=
  (∀ R' D', Pl.run 400 ws ⟨R, 64, D⟩ = some (R', D') → ∃ dv', e = .returned (.tuple #[.agg (arr R'), dv', .bool true]) ∧ Bd w' dv' D') ∧
  (Pl.run 400 ws ⟨R, 64, D⟩ = none → ∃ R' dv', e = .returned (.tuple #[.agg (arr R'), dv', .bool false]) ∧ R'.length = 8)

section
variable {w : World} {wv dv : Value} {ws : List Pl.Ins} {R D : List Int} (hv : ∀ i ∈ ws, Pl.valid i) (HW : Wd w wv (ws.map Pl.encW)) (HD : Bd w dv D) (hR : Pl.goodR R) (hD : Pl.goodD D) (hl : ws.length ≤ 1000) (hwa : ∀ a n c, wv = .slice (some a) n c → a.block < w.heap.size)
include hv HW HD hR hD hl hwa

set_option maxHeartbeats 3200000 in
set_option maxRecDepth 100000 in
theorem wRun_is : Calls Tryz.prog 39 #[wv, .agg (arr R), dv] w fun e w' => RunIs ws R D e w' ∧ Below w.heap.size w w' := by
  obtain ⟨r0, r1, r2, r3, r4, r5, r6, r7, rfl⟩ := eight hR.1
  rw [arr8]
  obtain ⟨aw, cw, hwv⟩ : ∃ a c, wv = .slice a ws.length c := by
    obtain ⟨a, c, h, _⟩ := HW
    exact ⟨a, c, by rw [h, List.length_map]⟩
  subst hwv
  have HV := Lib.hid hv
  have HC := Lib.hid fun W HB => Clone_bytes D dv W HB hD.1
  have HS := Lib.hid fun (W : World) (M G : Nat) (V : Value) (D' R' : List Int) (p : Int) (H : Room W M G (.slice aw ws.length cw) V (ws.map Pl.encW) D') (h1 : Pl.goodR R') (h2 : Pl.goodD D') (h3 : 0 ≤ p ∧ p < 4294967296) => Step_is hv H h1 h2 h3
  go_enter Tryz.func39, Tryz.ntmps39
  go_wp2_with fail
  have hdl := hD.1
  have HD0 : Bd ((w.alloc (Obj.cells #[.int .u32 r0, .int .u32 r1, .int .u32 r2, .int .u32 r3, .int .u32 r4, .int .u32 r5, .int .u32 r6, .int .u32 r7] 24)).alloc (Obj.cells zeros8 24)) dv D := by
    obtain ⟨a, c, hv, hn, hk⟩ := HD
    refine ⟨a, c, hv, hn, fun k hkl => ?_⟩
    obtain ⟨ad, ha, hc⟩ := hk k hkl
    exact ⟨ad, ha, cell_kept (Below.block (B := w.heap.size) (by (repeat (first | (with_reducible exact Below.refl _ _) | (with_reducible apply Below.drew) | (with_reducible apply bl_drewN) | ((with_reducible apply bl_alloc); (· (first | (simp; done) | (simp; omega) | omega))) | ((with_reducible apply bl_row); (· (first | (simp; done) | (simp; omega) | omega))) | ((with_reducible apply bl_cell); (· (first | (simp; done) | (simp; omega) | omega))) | assumption)))) hc⟩
  refine (HC.out _ HD0).mono ?_
  clear HD0
  rintro e w1 ⟨v', rfl, hdt, hb1⟩
  have hr1 : rowAt w1 w.heap.size #[.int .u32 r0, .int .u32 r1, .int .u32 r2, .int .u32 r3, .int .u32 r4, .int .u32 r5, .int .u32 r6, .int .u32 r7] 24 := rowAt.below (by (repeat (first | ((with_reducible apply rowAt.new); simp; done) | (with_reducible apply rowAt.drew) | (with_reducible apply rowAt.drewN) | (with_reducible apply rowAt.alloc) | (with_reducible apply rowAt.setRow_same) | ((with_reducible apply rowAt.so); (· (first | (simp; done) | (simp; omega) | omega))) | (with_reducible apply rowAt.set10) | (with_reducible apply rowAt.set8) | (with_reducible apply rowAt.set4) | (with_reducible apply rowAt.set2) | (with_reducible apply rowAt.set) | ((with_reducible apply rowAt.co); (· (first | (simp; done) | (simp; omega) | omega))) | assumption))) hb1 (by simp; try omega)
  have hs1 : rowAt w1 (w.heap.size + 1) zeros8 24 := rowAt.below (by (repeat (first | ((with_reducible apply rowAt.new); simp; done) | (with_reducible apply rowAt.drew) | (with_reducible apply rowAt.drewN) | (with_reducible apply rowAt.alloc) | (with_reducible apply rowAt.setRow_same) | ((with_reducible apply rowAt.so); (· (first | (simp; done) | (simp; omega) | omega))) | (with_reducible apply rowAt.set10) | (with_reducible apply rowAt.set8) | (with_reducible apply rowAt.set4) | (with_reducible apply rowAt.set2) | (with_reducible apply rowAt.set) | ((with_reducible apply rowAt.co); (· (first | (simp; done) | (simp; omega) | omega))) | assumption))) hb1 (by simp; try omega)
  have hb1' : Below w.heap.size w w1 := (show Below w.heap.size w _ from by (repeat (first | (with_reducible exact Below.refl _ _) | (with_reducible apply Below.drew) | (with_reducible apply bl_drewN) | ((with_reducible apply bl_alloc); (· (first | (simp; done) | (simp; omega) | omega))) | ((with_reducible apply bl_row); (· (first | (simp; done) | (simp; omega) | omega))) | ((with_reducible apply bl_cell); (· (first | (simp; done) | (simp; omega) | omega))) | assumption))).trans (hb1.mono (by simp; try omega))
  have hz0 : w.heap.size < w1.heap.size := hr1.lt
  have hz1 : w.heap.size + 1 < w1.heap.size := hs1.lt
  obtain ⟨g, hgB, hgn, hgl, hdt1, hnil⟩ : ∃ g, w.heap.size ≤ g ∧ g ≠ w.heap.size + 1 ∧ g < w1.heap.size ∧ Dt w1 v' g D ∧ ∀ n c, v' = .slice none n c → c = 0 := by
    rcases hdt with ⟨rfl, rfl⟩ | ⟨g, h1, h2, h3, h4⟩
    · exact ⟨w.heap.size, Nat.le_refl _, by omega, hz0, ⟨none, 0, rfl, fun k hk => by simp at hk⟩, fun n c h => by cases h; rfl⟩
    · simp only [World.size_alloc] at h1
      exact ⟨g, by omega, by omega, h2, h3, fun n c h => absurd h (h4 n c)⟩
  obtain ⟨a', c', hv'⟩ : ∃ a c, v' = .slice a D.length c := by
    obtain ⟨a, c, h, _⟩ := hdt1
    exact ⟨a, c, h⟩
  subst hv'
  have hm : rowAt (w1.alloc (Obj.cells #[.slice aw ws.length cw, .slice a' D.length c'] 102)) w1.heap.size #[.slice aw ws.length cw, .slice a' D.length c'] 102 := rowAt.new _ _ _ rfl
  have HRoom : Room (w1.alloc (Obj.cells #[.slice aw ws.length cw, .slice a' D.length c'] 102)) w1.heap.size g (.slice aw ws.length cw) (.slice a' D.length c') (ws.map Pl.encW) D :=
    ⟨hm, (HW.kept (Below.block hb1')).kept (fun k hk => Below.heap_alloc _ _ k hk), hdt1.kept (fun k hk => Below.heap_alloc _ _ k hk), by omega, fun a n c h => by have := hwa a n c h; omega, by simpa using hl, hdl, by simp; omega⟩
  have i0 : w1.cell? ⟨w.heap.size, 0, none⟩ = some (.int .u32 r0) := hr1.cell 0
  have i1 : w1.cell? ⟨w.heap.size, 1, none⟩ = some (.int .u32 r1) := hr1.cell 1
  have i2 : w1.cell? ⟨w.heap.size, 2, none⟩ = some (.int .u32 r2) := hr1.cell 2
  have i3 : w1.cell? ⟨w.heap.size, 3, none⟩ = some (.int .u32 r3) := hr1.cell 3
  have i4 : w1.cell? ⟨w.heap.size, 4, none⟩ = some (.int .u32 r4) := hr1.cell 4
  have i5 : w1.cell? ⟨w.heap.size, 5, none⟩ = some (.int .u32 r5) := hr1.cell 5
  have i6 : w1.cell? ⟨w.heap.size, 6, none⟩ = some (.int .u32 r6) := hr1.cell 6
  have i7 : w1.cell? ⟨w.heap.size, 7, none⟩ = some (.int .u32 r7) := hr1.cell 7
  have HWh := Lib.hid HW
  have HDh := Lib.hid HD
  clear HW HD hwa
  have HN := Lib.hid hnil
  clear hnil
  have HB1 := Lib.hid hb1'
  have HRm := Lib.hid HRoom
  clear hb1 hb1' HRoom hdt hdt1
  go_wp2_with fail
  have hlE : (ws.map Pl.encW).length = ws.length := List.length_map ..
  have hr10 : rowAt ((w1.alloc (Obj.cells #[.slice aw ws.length cw, .slice a' D.length c'] 102)).alloc (Obj.cells #[.int .u32 r0, .int .u32 r1, .int .u32 r2, .int .u32 r3, .int .u32 r4, .int .u32 r5, .int .u32 r6, .int .u32 r7, .int .u32 64, .int .i64 1] 104)) (w1.heap.size + 1)
    #[.int .u32 r0, .int .u32 r1, .int .u32 r2, .int .u32 r3, .int .u32 r4, .int .u32 r5, .int .u32 r6, .int .u32 r7, .int .u32 64, .int .i64 1] 104 := by (repeat (first | ((with_reducible apply rowAt.new); simp; done) | (with_reducible apply rowAt.drew) | (with_reducible apply rowAt.drewN) | (with_reducible apply rowAt.alloc) | (with_reducible apply rowAt.setRow_same) | ((with_reducible apply rowAt.so); (· (first | (simp; done) | (simp; omega) | omega))) | (with_reducible apply rowAt.set10) | (with_reducible apply rowAt.set8) | (with_reducible apply rowAt.set4) | (with_reducible apply rowAt.set2) | (with_reducible apply rowAt.set) | ((with_reducible apply rowAt.co); (· (first | (simp; done) | (simp; omega) | omega))) | assumption))
  have hr6 : rowAt ((w1.alloc (Obj.cells #[.slice aw ws.length cw, .slice a' D.length c'] 102)).alloc (Obj.cells #[.int .u32 r0, .int .u32 r1, .int .u32 r2, .int .u32 r3, .int .u32 r4, .int .u32 r5, .int .u32 r6, .int .u32 r7, .int .u32 64, .int .i64 1] 104)) (w.heap.size + 1) zeros8 24 := by (repeat (first | ((with_reducible apply rowAt.new); simp; done) | (with_reducible apply rowAt.drew) | (with_reducible apply rowAt.drewN) | (with_reducible apply rowAt.alloc) | (with_reducible apply rowAt.setRow_same) | ((with_reducible apply rowAt.so); (· (first | (simp; done) | (simp; omega) | omega))) | (with_reducible apply rowAt.set10) | (with_reducible apply rowAt.set8) | (with_reducible apply rowAt.set4) | (with_reducible apply rowAt.set2) | (with_reducible apply rowAt.set) | ((with_reducible apply rowAt.co); (· (first | (simp; done) | (simp; omega) | omega))) | assumption))
  have hbS : Below w.heap.size w ((w1.alloc (Obj.cells #[.slice aw ws.length cw, .slice a' D.length c'] 102)).alloc (Obj.cells #[.int .u32 r0, .int .u32 r1, .int .u32 r2, .int .u32 r3, .int .u32 r4, .int .u32 r5, .int .u32 r6, .int .u32 r7, .int .u32 64, .int .i64 1] 104)) := by
    have hb1 := HB1.out
    (repeat (first | (with_reducible exact Below.refl _ _) | (with_reducible apply Below.drew) | (with_reducible apply bl_drewN) | ((with_reducible apply bl_alloc); (· (first | (simp; done) | (simp; omega) | omega))) | ((with_reducible apply bl_row); (· (first | (simp; done) | (simp; omega) | omega))) | ((with_reducible apply bl_cell); (· (first | (simp; done) | (simp; omega) | omega))) | assumption))
  have HRm2 := HRm.out.kept (w' := ((w1.alloc (Obj.cells #[.slice aw ws.length cw, .slice a' D.length c'] 102)).alloc (Obj.cells #[.int .u32 r0, .int .u32 r1, .int .u32 r2, .int .u32 r3, .int .u32 r4, .int .u32 r5, .int .u32 r6, .int .u32 r7, .int .u32 64, .int .i64 1] 104))) (fun k hk => Below.heap_alloc _ _ k hk)
  go_loopw [19] (fun t wr => ∃ (k : Nat) (R' D' : List Int) (pc : Int), k ≤ 400 ∧ t = .int .i64 k ∧ Pl.run (400 - k) ws ⟨R', pc, D'⟩ = Pl.run 400 ws ⟨[r0, r1, r2, r3, r4, r5, r6, r7], 64, D⟩ ∧ Pl.goodR R' ∧ Pl.goodD D' ∧ (0 ≤ pc ∧ pc < 4294967296) ∧
      D'.length = D.length ∧ rowAt wr (w1.heap.size + 1) (regs R' pc) 104 ∧ rowAt wr (w.heap.size + 1) zeros8 24 ∧ Room wr w1.heap.size g (.slice aw ws.length cw) (.slice a' D.length c') (ws.map Pl.encW) D' ∧ Below w.heap.size w wr) (fun t _ => 400 - (intOf t).toNat)
  case atStart => exact ⟨0, _, _, _, by omega, rfl, rfl, hR, hD, by omega, rfl, hr10, hr6, HRm2, hbS⟩
  case round =>
    clear hr10 hr6 hbS HRm2 HB1 hm
    obtain ⟨k, R', D', pc, hk, rfl, hrun, hR', hD', hp, hlD, hx, hy, hroom, hbel⟩ := hrel
    obtain ⟨q0, q1, q2, q3, q4, q5, q6, q7, rfl⟩ := eight hR'.1
    rw [regs8] at hx
    have xm : wr.cell? ⟨w1.heap.size, 1, none⟩ = some (.slice a' D.length c') := hroom.row.cell 1
    have hz3 : w1.heap.size + 1 < wr.heap.size := hx.lt
    have x0 : wr.cell? ⟨w1.heap.size + 1, 0, none⟩ = some (.int .u32 q0) := hx.cell 0
    have x1 : wr.cell? ⟨w1.heap.size + 1, 1, none⟩ = some (.int .u32 q1) := hx.cell 1
    have x2 : wr.cell? ⟨w1.heap.size + 1, 2, none⟩ = some (.int .u32 q2) := hx.cell 2
    have x3 : wr.cell? ⟨w1.heap.size + 1, 3, none⟩ = some (.int .u32 q3) := hx.cell 3
    have x4 : wr.cell? ⟨w1.heap.size + 1, 4, none⟩ = some (.int .u32 q4) := hx.cell 4
    have x5 : wr.cell? ⟨w1.heap.size + 1, 5, none⟩ = some (.int .u32 q5) := hx.cell 5
    have x6 : wr.cell? ⟨w1.heap.size + 1, 6, none⟩ = some (.int .u32 q6) := hx.cell 6
    have x7 : wr.cell? ⟨w1.heap.size + 1, 7, none⟩ = some (.int .u32 q7) := hx.cell 7
    have x8 : wr.cell? ⟨w1.heap.size + 1, 8, none⟩ = some (.int .u32 pc) := hx.cell 8
    have x9 : wr.cell? ⟨w1.heap.size + 1, 9, none⟩ = some (.int .i64 1) := hx.cell 9
    have y0 : wr.cell? ⟨w.heap.size + 1, 0, none⟩ = some (.int .u32 0) := hy.cell 0
    have y1 : wr.cell? ⟨w.heap.size + 1, 1, none⟩ = some (.int .u32 0) := hy.cell 1
    have y2 : wr.cell? ⟨w.heap.size + 1, 2, none⟩ = some (.int .u32 0) := hy.cell 2
    have y3 : wr.cell? ⟨w.heap.size + 1, 3, none⟩ = some (.int .u32 0) := hy.cell 3
    have y4 : wr.cell? ⟨w.heap.size + 1, 4, none⟩ = some (.int .u32 0) := hy.cell 4
    have y5 : wr.cell? ⟨w.heap.size + 1, 5, none⟩ = some (.int .u32 0) := hy.cell 5
    have y6 : wr.cell? ⟨w.heap.size + 1, 6, none⟩ = some (.int .u32 0) := hy.cell 6
    have y7 : wr.cell? ⟨w.heap.size + 1, 7, none⟩ = some (.int .u32 0) := hy.cell 7
    have fy0 : wr.frozen? ⟨w.heap.size + 1, 0, none⟩ = false := hy.frozen 0
    have fy1 : wr.frozen? ⟨w.heap.size + 1, 1, none⟩ = false := hy.frozen 1
    have fy2 : wr.frozen? ⟨w.heap.size + 1, 2, none⟩ = false := hy.frozen 2
    have fy3 : wr.frozen? ⟨w.heap.size + 1, 3, none⟩ = false := hy.frozen 3
    have fy4 : wr.frozen? ⟨w.heap.size + 1, 4, none⟩ = false := hy.frozen 4
    have fy5 : wr.frozen? ⟨w.heap.size + 1, 5, none⟩ = false := hy.frozen 5
    have fy6 : wr.frozen? ⟨w.heap.size + 1, 6, none⟩ = false := hy.frozen 6
    have fy7 : wr.frozen? ⟨w.heap.size + 1, 7, none⟩ = false := hy.frozen 7
    by_cases hlt : k < 400
    · by_cases hend : pc = 64 + 4 * ws.length
      · subst hend
        have hrun1 : Pl.run 400 ws ⟨[r0, r1, r2, r3, r4, r5, r6, r7], 64, D⟩ = some ([q0, q1, q2, q3, q4, q5, q6, q7], D') := by
          rw [← hrun, show 400 - k = (399 - k) + 1 by omega, Pl.run, if_pos rfl]
        have HX := Lib.hid hrun1
        have HO := Lib.hid hroom
        have HB := Lib.hid hbel
        clear hrun hrun1 hroom hbel
        go_wp2_with fail
        go_region
        go_wp2_with fail
        refine run_end (t := 24) (cs := arr [q0, q1, q2, q3, q4, q5, q6, q7]) rfl rfl rfl ?_ rfl rfl ⟨⟨?_, ?_⟩, ?_⟩
        · rw [arr8]
          (repeat (first | ((with_reducible apply rowAt.new); simp; done) | (with_reducible apply rowAt.drew) | (with_reducible apply rowAt.drewN) | (with_reducible apply rowAt.alloc) | (with_reducible apply rowAt.setRow_same) | ((with_reducible apply rowAt.so); (· (first | (simp; done) | (simp; omega) | omega))) | (with_reducible apply rowAt.set10) | (with_reducible apply rowAt.set8) | (with_reducible apply rowAt.set4) | (with_reducible apply rowAt.set2) | (with_reducible apply rowAt.set) | ((with_reducible apply rowAt.co); (· (first | (simp; done) | (simp; omega) | omega))) | assumption))
        · intro R1 D1 h1
          rw [HX.out] at h1
          cases h1
          refine ⟨_, rfl, Dt.bd (Dt.other HO.out.data ?_) HN.out⟩
          show kp g wr _
          (repeat (first | (with_reducible exact kp_refl _ _) | (with_reducible apply kp_drew) | (with_reducible apply kp_drewN) | ((with_reducible apply kp_alloc); (· (first | (simp; done) | (simp; omega) | omega))) | ((with_reducible apply kp_cell); (· (first | (simp; done) | (simp; omega) | omega))) | ((with_reducible apply kp_row); (· (first | (simp; done) | (simp; omega) | omega))) | assumption))
        · intro h1
          rw [HX.out] at h1
          cases h1
        · have hb := HB.out
          (repeat (first | (with_reducible exact Below.refl _ _) | (with_reducible apply Below.drew) | (with_reducible apply bl_drewN) | ((with_reducible apply bl_alloc); (· (first | (simp; done) | (simp; omega) | omega))) | ((with_reducible apply bl_row); (· (first | (simp; done) | (simp; omega) | omega))) | ((with_reducible apply bl_cell); (· (first | (simp; done) | (simp; omega) | omega))) | assumption))
      · have hend' : (pc == 64 + 4 * (ws.length : Int)) = false := by simpa using hend
        have hrun1 : Pl.run (399 - k + 1) ws ⟨[q0, q1, q2, q3, q4, q5, q6, q7], pc, D'⟩ = Pl.run 400 ws ⟨[r0, r1, r2, r3, r4, r5, r6, r7], 64, D⟩ := by
          rw [← hrun, show 400 - k = (399 - k) + 1 by omega]
        rw [Pl.run, if_neg hend] at hrun1
        have HX := Lib.hid hrun1
        have HO := Lib.hid hroom
        have HB := Lib.hid hbel
        have HR1 := Lib.hid hR'
        have HD1 := Lib.hid hD'
        have HN1 := Lib.hid hend
        clear hrun hrun1 hroom hbel hR' hD' hend
        go_wp2_with fail
        have hroom2 := HO.out.kept (w' := wr.alloc (Obj.cells #[.int .i64 0, .int .u32 0] 106)) (fun k hk => Below.heap_alloc _ _ k hk)
        have hst := HS.out _ _ _ _ _ _ pc hroom2 HR1.out HD1.out hp
        have hsg := fun s' hs => Pl.step_good (s' := s') (s := ⟨[q0, q1, q2, q3, q4, q5, q6, q7], pc, D'⟩) HV.out HR1.out hp HD1.out hs
        rw [regs8] at hst
        cases hs : Pl.step ws ⟨[q0, q1, q2, q3, q4, q5, q6, q7], pc, D'⟩ with
        | none =>
          rw [hs] at HX
          refine (hst.2 hs).mono ?_
          clear hst hsg hroom2 hs
          rintro e w2 ⟨⟨R2, p2, kk, aa, hR2, hkk, rfl⟩, hg2⟩
          obtain ⟨s0, s1, s2, s3, s4, s5, s6, s7, rfl⟩ := eight hR2
          rw [regs8]
          have hkk' : (kk != 0) = true := by simpa using hkk
          have hz : rowAt w2 (w1.heap.size + 1) #[.int .u32 q0, .int .u32 q1, .int .u32 q2, .int .u32 q3, .int .u32 q4, .int .u32 q5, .int .u32 q6, .int .u32 q7, .int .u32 pc, .int .i64 1] 104 := rowAt.grown (by (repeat (first | ((with_reducible apply rowAt.new); simp; done) | (with_reducible apply rowAt.drew) | (with_reducible apply rowAt.drewN) | (with_reducible apply rowAt.alloc) | (with_reducible apply rowAt.setRow_same) | ((with_reducible apply rowAt.so); (· (first | (simp; done) | (simp; omega) | omega))) | (with_reducible apply rowAt.set10) | (with_reducible apply rowAt.set8) | (with_reducible apply rowAt.set4) | (with_reducible apply rowAt.set2) | (with_reducible apply rowAt.set) | ((with_reducible apply rowAt.co); (· (first | (simp; done) | (simp; omega) | omega))) | assumption))) hg2 (fun e => by have := Option.some.inj e; omega)
          have ht : rowAt w2 wr.heap.size #[.int .i64 0, .int .u32 0] 106 := rowAt.grown (by (repeat (first | ((with_reducible apply rowAt.new); simp; done) | (with_reducible apply rowAt.drew) | (with_reducible apply rowAt.drewN) | (with_reducible apply rowAt.alloc) | (with_reducible apply rowAt.setRow_same) | ((with_reducible apply rowAt.so); (· (first | (simp; done) | (simp; omega) | omega))) | (with_reducible apply rowAt.set10) | (with_reducible apply rowAt.set8) | (with_reducible apply rowAt.set4) | (with_reducible apply rowAt.set2) | (with_reducible apply rowAt.set) | ((with_reducible apply rowAt.co); (· (first | (simp; done) | (simp; omega) | omega))) | assumption))) hg2 (fun e => by have := Option.some.inj e; omega)
          have hy2 : rowAt w2 (w.heap.size + 1) zeros8 24 := rowAt.grown (by (repeat (first | ((with_reducible apply rowAt.new); simp; done) | (with_reducible apply rowAt.drew) | (with_reducible apply rowAt.drewN) | (with_reducible apply rowAt.alloc) | (with_reducible apply rowAt.setRow_same) | ((with_reducible apply rowAt.so); (· (first | (simp; done) | (simp; omega) | omega))) | (with_reducible apply rowAt.set10) | (with_reducible apply rowAt.set8) | (with_reducible apply rowAt.set4) | (with_reducible apply rowAt.set2) | (with_reducible apply rowAt.set) | ((with_reducible apply rowAt.co); (· (first | (simp; done) | (simp; omega) | omega))) | assumption))) hg2 (fun e => by have := Option.some.inj e; omega)
          have xm2 : w2.cell? ⟨w1.heap.size, 1, none⟩ = some (.slice a' D.length c') := by
            have hrm : rowAt w2 w1.heap.size #[.slice aw ws.length cw, .slice a' D.length c'] 102 := by
              have := HO.out.row
              exact rowAt.grown (by (repeat (first | ((with_reducible apply rowAt.new); simp; done) | (with_reducible apply rowAt.drew) | (with_reducible apply rowAt.drewN) | (with_reducible apply rowAt.alloc) | (with_reducible apply rowAt.setRow_same) | ((with_reducible apply rowAt.so); (· (first | (simp; done) | (simp; omega) | omega))) | (with_reducible apply rowAt.set10) | (with_reducible apply rowAt.set8) | (with_reducible apply rowAt.set4) | (with_reducible apply rowAt.set2) | (with_reducible apply rowAt.set) | ((with_reducible apply rowAt.co); (· (first | (simp; done) | (simp; omega) | omega))) | assumption))) hg2 (fun e => by have := Option.some.inj e; omega)
            exact hrm.cell 1
          have hz4 : wr.heap.size < w2.heap.size := ht.lt
          have hz5 : w1.heap.size + 1 < w2.heap.size := hz.lt
          have hb2 : Below w.heap.size w w2 := HB.out.trans (below_grown (B := w.heap.size) hg2 hgB (by simp; omega) |> fun h => (show Below w.heap.size wr _ from by (repeat (first | (with_reducible exact Below.refl _ _) | (with_reducible apply Below.drew) | (with_reducible apply bl_drewN) | ((with_reducible apply bl_alloc); (· (first | (simp; done) | (simp; omega) | omega))) | ((with_reducible apply bl_row); (· (first | (simp; done) | (simp; omega) | omega))) | ((with_reducible apply bl_cell); (· (first | (simp; done) | (simp; omega) | omega))) | assumption))).trans h)
          have HB2 := Lib.hid hb2
          clear hb2 hg2 HB
          clear x0 x1 x2 x3 x4 x5 x6 x7 x8 x9 y0 y1 y2 y3 y4 y5 y6 y7 fy0 fy1 fy2 fy3 fy4 fy5 fy6 fy7 xm
          have hy := hy2
          have z0 : w2.cell? ⟨w1.heap.size + 1, 0, none⟩ = some (.int .u32 q0) := hz.cell 0
          have z1 : w2.cell? ⟨w1.heap.size + 1, 1, none⟩ = some (.int .u32 q1) := hz.cell 1
          have z2 : w2.cell? ⟨w1.heap.size + 1, 2, none⟩ = some (.int .u32 q2) := hz.cell 2
          have z3 : w2.cell? ⟨w1.heap.size + 1, 3, none⟩ = some (.int .u32 q3) := hz.cell 3
          have z4 : w2.cell? ⟨w1.heap.size + 1, 4, none⟩ = some (.int .u32 q4) := hz.cell 4
          have z5 : w2.cell? ⟨w1.heap.size + 1, 5, none⟩ = some (.int .u32 q5) := hz.cell 5
          have z6 : w2.cell? ⟨w1.heap.size + 1, 6, none⟩ = some (.int .u32 q6) := hz.cell 6
          have z7 : w2.cell? ⟨w1.heap.size + 1, 7, none⟩ = some (.int .u32 q7) := hz.cell 7
          have z8 : w2.cell? ⟨w1.heap.size + 1, 8, none⟩ = some (.int .u32 pc) := hz.cell 8
          have z9 : w2.cell? ⟨w1.heap.size + 1, 9, none⟩ = some (.int .i64 1) := hz.cell 9
          have fz0 : w2.frozen? ⟨w1.heap.size + 1, 0, none⟩ = false := hz.frozen 0
          have fz1 : w2.frozen? ⟨w1.heap.size + 1, 1, none⟩ = false := hz.frozen 1
          have fz2 : w2.frozen? ⟨w1.heap.size + 1, 2, none⟩ = false := hz.frozen 2
          have fz3 : w2.frozen? ⟨w1.heap.size + 1, 3, none⟩ = false := hz.frozen 3
          have fz4 : w2.frozen? ⟨w1.heap.size + 1, 4, none⟩ = false := hz.frozen 4
          have fz5 : w2.frozen? ⟨w1.heap.size + 1, 5, none⟩ = false := hz.frozen 5
          have fz6 : w2.frozen? ⟨w1.heap.size + 1, 6, none⟩ = false := hz.frozen 6
          have fz7 : w2.frozen? ⟨w1.heap.size + 1, 7, none⟩ = false := hz.frozen 7
          have fz8 : w2.frozen? ⟨w1.heap.size + 1, 8, none⟩ = false := hz.frozen 8
          have fz9 : w2.frozen? ⟨w1.heap.size + 1, 9, none⟩ = false := hz.frozen 9
          have t0 : w2.cell? ⟨wr.heap.size, 0, none⟩ = some (.int .i64 0) := ht.cell 0
          have t1 : w2.cell? ⟨wr.heap.size, 1, none⟩ = some (.int .u32 0) := ht.cell 1
          have ft0 : w2.frozen? ⟨wr.heap.size, 0, none⟩ = false := ht.frozen 0
          have ft1 : w2.frozen? ⟨wr.heap.size, 1, none⟩ = false := ht.frozen 1
          have y0 : w2.cell? ⟨w.heap.size + 1, 0, none⟩ = some (.int .u32 0) := hy.cell 0
          have y1 : w2.cell? ⟨w.heap.size + 1, 1, none⟩ = some (.int .u32 0) := hy.cell 1
          have y2 : w2.cell? ⟨w.heap.size + 1, 2, none⟩ = some (.int .u32 0) := hy.cell 2
          have y3 : w2.cell? ⟨w.heap.size + 1, 3, none⟩ = some (.int .u32 0) := hy.cell 3
          have y4 : w2.cell? ⟨w.heap.size + 1, 4, none⟩ = some (.int .u32 0) := hy.cell 4
          have y5 : w2.cell? ⟨w.heap.size + 1, 5, none⟩ = some (.int .u32 0) := hy.cell 5
          have y6 : w2.cell? ⟨w.heap.size + 1, 6, none⟩ = some (.int .u32 0) := hy.cell 6
          have y7 : w2.cell? ⟨w.heap.size + 1, 7, none⟩ = some (.int .u32 0) := hy.cell 7
          have fy0 : w2.frozen? ⟨w.heap.size + 1, 0, none⟩ = false := hy.frozen 0
          have fy1 : w2.frozen? ⟨w.heap.size + 1, 1, none⟩ = false := hy.frozen 1
          have fy2 : w2.frozen? ⟨w.heap.size + 1, 2, none⟩ = false := hy.frozen 2
          have fy3 : w2.frozen? ⟨w.heap.size + 1, 3, none⟩ = false := hy.frozen 3
          have fy4 : w2.frozen? ⟨w.heap.size + 1, 4, none⟩ = false := hy.frozen 4
          have fy5 : w2.frozen? ⟨w.heap.size + 1, 5, none⟩ = false := hy.frozen 5
          have fy6 : w2.frozen? ⟨w.heap.size + 1, 6, none⟩ = false := hy.frozen 6
          have fy7 : w2.frozen? ⟨w.heap.size + 1, 7, none⟩ = false := hy.frozen 7
          go_wp2_with fail
          go_region
          go_wp2_with fail
          refine run_end (t := 24) (cs := arr [s0, s1, s2, s3, s4, s5, s6, s7]) rfl rfl rfl ?_ rfl rfl ⟨⟨?_, ?_⟩, ?_⟩
          · rw [arr8]
            (repeat (first | ((with_reducible apply rowAt.new); simp; done) | (with_reducible apply rowAt.drew) | (with_reducible apply rowAt.drewN) | (with_reducible apply rowAt.alloc) | (with_reducible apply rowAt.setRow_same) | ((with_reducible apply rowAt.so); (· (first | (simp; done) | (simp; omega) | omega))) | (with_reducible apply rowAt.set10) | (with_reducible apply rowAt.set8) | (with_reducible apply rowAt.set4) | (with_reducible apply rowAt.set2) | (with_reducible apply rowAt.set) | ((with_reducible apply rowAt.co); (· (first | (simp; done) | (simp; omega) | omega))) | assumption))
          · intro R1 D1 h1
            rw [← HX.out] at h1
            cases h1
          · exact fun _ => ⟨_, _, rfl, rfl⟩
          · have hb := HB2.out
            (repeat (first | (with_reducible exact Below.refl _ _) | (with_reducible apply Below.drew) | (with_reducible apply bl_drewN) | ((with_reducible apply bl_alloc); (· (first | (simp; done) | (simp; omega) | omega))) | ((with_reducible apply bl_row); (· (first | (simp; done) | (simp; omega) | omega))) | ((with_reducible apply bl_cell); (· (first | (simp; done) | (simp; omega) | omega))) | assumption))
        | some s' =>
          rw [hs] at HX
          have hgood := hsg s' hs
          refine (hst.1 s' hs).mono ?_
          clear hst hsg hroom2 hs
          rintro e w2 ⟨rfl, hroom3, hg2⟩
          obtain ⟨R2, p2, D2⟩ := s'
          dsimp only at hgood hroom3
          obtain ⟨hR2, hp2, hD2, hlD2⟩ := hgood
          obtain ⟨s0, s1, s2, s3, s4, s5, s6, s7, rfl⟩ := eight hR2.1
          rw [regs8]
          have HO3 := Lib.hid hroom3
          have HR2 := Lib.hid hR2
          have HD2 := Lib.hid hD2
          clear hroom3 hR2 hD2
          have hz : rowAt w2 (w1.heap.size + 1) #[.int .u32 q0, .int .u32 q1, .int .u32 q2, .int .u32 q3, .int .u32 q4, .int .u32 q5, .int .u32 q6, .int .u32 q7, .int .u32 pc, .int .i64 1] 104 := rowAt.grown (by (repeat (first | ((with_reducible apply rowAt.new); simp; done) | (with_reducible apply rowAt.drew) | (with_reducible apply rowAt.drewN) | (with_reducible apply rowAt.alloc) | (with_reducible apply rowAt.setRow_same) | ((with_reducible apply rowAt.so); (· (first | (simp; done) | (simp; omega) | omega))) | (with_reducible apply rowAt.set10) | (with_reducible apply rowAt.set8) | (with_reducible apply rowAt.set4) | (with_reducible apply rowAt.set2) | (with_reducible apply rowAt.set) | ((with_reducible apply rowAt.co); (· (first | (simp; done) | (simp; omega) | omega))) | assumption))) hg2 (fun e => by have := Option.some.inj e; omega)
          have ht : rowAt w2 wr.heap.size #[.int .i64 0, .int .u32 0] 106 := rowAt.grown (by (repeat (first | ((with_reducible apply rowAt.new); simp; done) | (with_reducible apply rowAt.drew) | (with_reducible apply rowAt.drewN) | (with_reducible apply rowAt.alloc) | (with_reducible apply rowAt.setRow_same) | ((with_reducible apply rowAt.so); (· (first | (simp; done) | (simp; omega) | omega))) | (with_reducible apply rowAt.set10) | (with_reducible apply rowAt.set8) | (with_reducible apply rowAt.set4) | (with_reducible apply rowAt.set2) | (with_reducible apply rowAt.set) | ((with_reducible apply rowAt.co); (· (first | (simp; done) | (simp; omega) | omega))) | assumption))) hg2 (fun e => by have := Option.some.inj e; omega)
          have hy2 : rowAt w2 (w.heap.size + 1) zeros8 24 := rowAt.grown (by (repeat (first | ((with_reducible apply rowAt.new); simp; done) | (with_reducible apply rowAt.drew) | (with_reducible apply rowAt.drewN) | (with_reducible apply rowAt.alloc) | (with_reducible apply rowAt.setRow_same) | ((with_reducible apply rowAt.so); (· (first | (simp; done) | (simp; omega) | omega))) | (with_reducible apply rowAt.set10) | (with_reducible apply rowAt.set8) | (with_reducible apply rowAt.set4) | (with_reducible apply rowAt.set2) | (with_reducible apply rowAt.set) | ((with_reducible apply rowAt.co); (· (first | (simp; done) | (simp; omega) | omega))) | assumption))) hg2 (fun e => by have := Option.some.inj e; omega)
          have xm2 : w2.cell? ⟨w1.heap.size, 1, none⟩ = some (.slice a' D.length c') := by
            have hrm : rowAt w2 w1.heap.size #[.slice aw ws.length cw, .slice a' D.length c'] 102 := by
              have := HO.out.row
              exact rowAt.grown (by (repeat (first | ((with_reducible apply rowAt.new); simp; done) | (with_reducible apply rowAt.drew) | (with_reducible apply rowAt.drewN) | (with_reducible apply rowAt.alloc) | (with_reducible apply rowAt.setRow_same) | ((with_reducible apply rowAt.so); (· (first | (simp; done) | (simp; omega) | omega))) | (with_reducible apply rowAt.set10) | (with_reducible apply rowAt.set8) | (with_reducible apply rowAt.set4) | (with_reducible apply rowAt.set2) | (with_reducible apply rowAt.set) | ((with_reducible apply rowAt.co); (· (first | (simp; done) | (simp; omega) | omega))) | assumption))) hg2 (fun e => by have := Option.some.inj e; omega)
            exact hrm.cell 1
          have hz4 : wr.heap.size < w2.heap.size := ht.lt
          have hz5 : w1.heap.size + 1 < w2.heap.size := hz.lt
          have hb2 : Below w.heap.size w w2 := HB.out.trans (below_grown (B := w.heap.size) hg2 hgB (by simp; omega) |> fun h => (show Below w.heap.size wr _ from by (repeat (first | (with_reducible exact Below.refl _ _) | (with_reducible apply Below.drew) | (with_reducible apply bl_drewN) | ((with_reducible apply bl_alloc); (· (first | (simp; done) | (simp; omega) | omega))) | ((with_reducible apply bl_row); (· (first | (simp; done) | (simp; omega) | omega))) | ((with_reducible apply bl_cell); (· (first | (simp; done) | (simp; omega) | omega))) | assumption))).trans h)
          have HB2 := Lib.hid hb2
          clear hb2 hg2 HB
          clear x0 x1 x2 x3 x4 x5 x6 x7 x8 x9 y0 y1 y2 y3 y4 y5 y6 y7 fy0 fy1 fy2 fy3 fy4 fy5 fy6 fy7 xm
          have hy := hy2
          have z0 : w2.cell? ⟨w1.heap.size + 1, 0, none⟩ = some (.int .u32 q0) := hz.cell 0
          have z1 : w2.cell? ⟨w1.heap.size + 1, 1, none⟩ = some (.int .u32 q1) := hz.cell 1
          have z2 : w2.cell? ⟨w1.heap.size + 1, 2, none⟩ = some (.int .u32 q2) := hz.cell 2
          have z3 : w2.cell? ⟨w1.heap.size + 1, 3, none⟩ = some (.int .u32 q3) := hz.cell 3
          have z4 : w2.cell? ⟨w1.heap.size + 1, 4, none⟩ = some (.int .u32 q4) := hz.cell 4
          have z5 : w2.cell? ⟨w1.heap.size + 1, 5, none⟩ = some (.int .u32 q5) := hz.cell 5
          have z6 : w2.cell? ⟨w1.heap.size + 1, 6, none⟩ = some (.int .u32 q6) := hz.cell 6
          have z7 : w2.cell? ⟨w1.heap.size + 1, 7, none⟩ = some (.int .u32 q7) := hz.cell 7
          have z8 : w2.cell? ⟨w1.heap.size + 1, 8, none⟩ = some (.int .u32 pc) := hz.cell 8
          have z9 : w2.cell? ⟨w1.heap.size + 1, 9, none⟩ = some (.int .i64 1) := hz.cell 9
          have fz0 : w2.frozen? ⟨w1.heap.size + 1, 0, none⟩ = false := hz.frozen 0
          have fz1 : w2.frozen? ⟨w1.heap.size + 1, 1, none⟩ = false := hz.frozen 1
          have fz2 : w2.frozen? ⟨w1.heap.size + 1, 2, none⟩ = false := hz.frozen 2
          have fz3 : w2.frozen? ⟨w1.heap.size + 1, 3, none⟩ = false := hz.frozen 3
          have fz4 : w2.frozen? ⟨w1.heap.size + 1, 4, none⟩ = false := hz.frozen 4
          have fz5 : w2.frozen? ⟨w1.heap.size + 1, 5, none⟩ = false := hz.frozen 5
          have fz6 : w2.frozen? ⟨w1.heap.size + 1, 6, none⟩ = false := hz.frozen 6
          have fz7 : w2.frozen? ⟨w1.heap.size + 1, 7, none⟩ = false := hz.frozen 7
          have fz8 : w2.frozen? ⟨w1.heap.size + 1, 8, none⟩ = false := hz.frozen 8
          have fz9 : w2.frozen? ⟨w1.heap.size + 1, 9, none⟩ = false := hz.frozen 9
          have t0 : w2.cell? ⟨wr.heap.size, 0, none⟩ = some (.int .i64 0) := ht.cell 0
          have t1 : w2.cell? ⟨wr.heap.size, 1, none⟩ = some (.int .u32 0) := ht.cell 1
          have ft0 : w2.frozen? ⟨wr.heap.size, 0, none⟩ = false := ht.frozen 0
          have ft1 : w2.frozen? ⟨wr.heap.size, 1, none⟩ = false := ht.frozen 1
          have y0 : w2.cell? ⟨w.heap.size + 1, 0, none⟩ = some (.int .u32 0) := hy.cell 0
          have y1 : w2.cell? ⟨w.heap.size + 1, 1, none⟩ = some (.int .u32 0) := hy.cell 1
          have y2 : w2.cell? ⟨w.heap.size + 1, 2, none⟩ = some (.int .u32 0) := hy.cell 2
          have y3 : w2.cell? ⟨w.heap.size + 1, 3, none⟩ = some (.int .u32 0) := hy.cell 3
          have y4 : w2.cell? ⟨w.heap.size + 1, 4, none⟩ = some (.int .u32 0) := hy.cell 4
          have y5 : w2.cell? ⟨w.heap.size + 1, 5, none⟩ = some (.int .u32 0) := hy.cell 5
          have y6 : w2.cell? ⟨w.heap.size + 1, 6, none⟩ = some (.int .u32 0) := hy.cell 6
          have y7 : w2.cell? ⟨w.heap.size + 1, 7, none⟩ = some (.int .u32 0) := hy.cell 7
          have fy0 : w2.frozen? ⟨w.heap.size + 1, 0, none⟩ = false := hy.frozen 0
          have fy1 : w2.frozen? ⟨w.heap.size + 1, 1, none⟩ = false := hy.frozen 1
          have fy2 : w2.frozen? ⟨w.heap.size + 1, 2, none⟩ = false := hy.frozen 2
          have fy3 : w2.frozen? ⟨w.heap.size + 1, 3, none⟩ = false := hy.frozen 3
          have fy4 : w2.frozen? ⟨w.heap.size + 1, 4, none⟩ = false := hy.frozen 4
          have fy5 : w2.frozen? ⟨w.heap.size + 1, 5, none⟩ = false := hy.frozen 5
          have fy6 : w2.frozen? ⟨w.heap.size + 1, 6, none⟩ = false := hy.frozen 6
          have fy7 : w2.frozen? ⟨w.heap.size + 1, 7, none⟩ = false := hy.frozen 7
          go_wp2_with fail
          refine ⟨⟨k + 1, [s0, s1, s2, s3, s4, s5, s6, s7], D2, p2, by omega, by go_num, ?_, HR2.out, HD2.out, hp2, by omega, ?_, ?_, ?_, ?_⟩, by simp [intOf]; omega⟩
          · rw [show 400 - (k + 1) = 399 - k by omega]
            exact HX.out
          · rw [regs8]
            (repeat (first | ((with_reducible apply rowAt.new); simp; done) | (with_reducible apply rowAt.drew) | (with_reducible apply rowAt.drewN) | (with_reducible apply rowAt.alloc) | (with_reducible apply rowAt.setRow_same) | ((with_reducible apply rowAt.so); (· (first | (simp; done) | (simp; omega) | omega))) | (with_reducible apply rowAt.set10) | (with_reducible apply rowAt.set8) | (with_reducible apply rowAt.set4) | (with_reducible apply rowAt.set2) | (with_reducible apply rowAt.set) | ((with_reducible apply rowAt.co); (· (first | (simp; done) | (simp; omega) | omega))) | assumption))
          · (repeat (first | ((with_reducible apply rowAt.new); simp; done) | (with_reducible apply rowAt.drew) | (with_reducible apply rowAt.drewN) | (with_reducible apply rowAt.alloc) | (with_reducible apply rowAt.setRow_same) | ((with_reducible apply rowAt.so); (· (first | (simp; done) | (simp; omega) | omega))) | (with_reducible apply rowAt.set10) | (with_reducible apply rowAt.set8) | (with_reducible apply rowAt.set4) | (with_reducible apply rowAt.set2) | (with_reducible apply rowAt.set) | ((with_reducible apply rowAt.co); (· (first | (simp; done) | (simp; omega) | omega))) | assumption))
          · exact HRm.out.kept2 HO3.out (fun k hk => Below.block (B := w1.heap.size + 1) (by (repeat (first | (with_reducible exact Below.refl _ _) | (with_reducible apply Below.drew) | (with_reducible apply bl_drewN) | ((with_reducible apply bl_alloc); (· (first | (simp; done) | (simp; omega) | omega))) | ((with_reducible apply bl_row); (· (first | (simp; done) | (simp; omega) | omega))) | ((with_reducible apply bl_cell); (· (first | (simp; done) | (simp; omega) | omega))) | assumption))) k (by simpa using hk))
          · have hb := HB2.out
            (repeat (first | (with_reducible exact Below.refl _ _) | (with_reducible apply Below.drew) | (with_reducible apply bl_drewN) | ((with_reducible apply bl_alloc); (· (first | (simp; done) | (simp; omega) | omega))) | ((with_reducible apply bl_row); (· (first | (simp; done) | (simp; omega) | omega))) | ((with_reducible apply bl_cell); (· (first | (simp; done) | (simp; omega) | omega))) | assumption))
    · obtain rfl : k = 400 := by omega
      have hrun1 : Pl.run 400 ws ⟨[r0, r1, r2, r3, r4, r5, r6, r7], 64, D⟩ = none := by
        rw [← hrun]
        rfl
      have HX := Lib.hid hrun1
      have HB := Lib.hid hbel
      clear hrun hrun1 hroom hbel
      go_wp2_with fail
      go_region
      go_wp2_with fail
      refine run_end (t := 24) (cs := arr [q0, q1, q2, q3, q4, q5, q6, q7]) rfl rfl rfl ?_ rfl rfl ⟨⟨?_, ?_⟩, ?_⟩
      · rw [arr8]
        (repeat (first | ((with_reducible apply rowAt.new); simp; done) | (with_reducible apply rowAt.drew) | (with_reducible apply rowAt.drewN) | (with_reducible apply rowAt.alloc) | (with_reducible apply rowAt.setRow_same) | ((with_reducible apply rowAt.so); (· (first | (simp; done) | (simp; omega) | omega))) | (with_reducible apply rowAt.set10) | (with_reducible apply rowAt.set8) | (with_reducible apply rowAt.set4) | (with_reducible apply rowAt.set2) | (with_reducible apply rowAt.set) | ((with_reducible apply rowAt.co); (· (first | (simp; done) | (simp; omega) | omega))) | assumption))
      · intro R1 D1 h1
        rw [HX.out] at h1
        cases h1
      · exact fun _ => ⟨_, _, rfl, rfl⟩
      · have hb := HB.out
        (repeat (first | (with_reducible exact Below.refl _ _) | (with_reducible apply Below.drew) | (with_reducible apply bl_drewN) | ((with_reducible apply bl_alloc); (· (first | (simp; done) | (simp; omega) | omega))) | ((with_reducible apply bl_row); (· (first | (simp; done) | (simp; omega) | omega))) | ((with_reducible apply bl_cell); (· (first | (simp; done) | (simp; omega) | omega))) | assumption))
end
end Go.Proofs.YtghjjemnegncpaaGreatDoor
