/- The walks of TopCodesNothing. -/
import Derived.Test.YtghjjemnegncpaaGreatDoorInsert
import Derived.Deep.RegionHeld3
set_option linter.unusedSimpArgs false
set_option linter.unusedVariables false
set_option linter.unusedSectionVars false
set_option linter.unnecessarySimpa false
namespace Go.Proofs.YtghjjemnegncpaaGreatDoor
open Go.RowKit

theorem Insert_ok {W : World} {a : Option Addr} {B c k vb : Nat} {ws ms : List Pl.Ins} {vc : Nat}
    (hown : W.ownsRow B 31 4 (.slice a ws.length c) ws.length (icells ws)) (hB : B ≤ W.heap.size) (hws : ws.length ≤ 100) (hms : ms.length ≤ 100) (hm0 : 0 < ms.length)
    (hrow : rowAt W vb (icells ms).toArray 31) (hne : ∀ g, a = some ⟨g, 0, none⟩ → vb ≠ g) (hk : k ≤ ws.length) :
    Calls Tryz.prog 30 #[.slice a ws.length c, .int .i64 k, .slice (some ⟨vb, 0, none⟩) ms.length vc] W fun e w' =>
    ∃ v', e = .returned v' ∧ w'.ownsRow B 31 4 v' (ws.take k ++ (ms ++ ws.drop k)).length (icells (ws.take k ++ (ms ++ ws.drop k))) ∧ Below B W w' := by
  by_cases h : k = ws.length
  · subst h
    have := Insert_end (vc := vc) hown hB hws hms hm0 hrow hne
    rw [List.take_length, List.drop_length]
    exact this
  · by_cases hr : ws.length + ms.length ≤ c
    · exact Insert_room hown hB hws hms hm0 hrow hne (by omega) hr
    · exact Insert_grow hown hB hws hms hm0 hrow hne (by omega) (by omega)

/-- A row behind, in which the instructions of a slice were laid. -/
theorem insert_new {W : World} {a : Option Addr} {B c k : Nat} {ws : List Pl.Ins} {i : Pl.Ins} (n : Nat)
    (hown : W.ownsRow B 31 4 (.slice a ws.length c) ws.length (icells ws)) (hB : B ≤ W.heap.size) (hws : ws.length ≤ 100) (hk : k ≤ ws.length) :
    Calls Tryz.prog 30 #[.slice a ws.length c, .int .i64 k, .slice (some ⟨W.heap.size, 0, none⟩) 1 1] ((W.alloc (.cells #[.int .i64 i.op, .int .i64 i.a, .int .i64 i.b, .int .i64 i.c] 31)).drewN n) fun e w' =>
    ∃ v', e = .returned v' ∧ w'.ownsRow B 31 4 v' (ws.take k ++ [i] ++ ws.drop k).length (icells (ws.take k ++ [i] ++ ws.drop k)) ∧ Below B W w' := by
  have hb0 : Below W.heap.size W ((W.alloc (.cells #[.int .i64 i.op, .int .i64 i.a, .int .i64 i.b, .int .i64 i.c] 31)).drewN n) := by (repeat (first | (with_reducible exact Below.refl _ _) | (with_reducible apply Below.drew) | (with_reducible apply bl_drewN) | ((with_reducible apply bl_alloc); (· (first | (simp; done) | (simp; omega) | omega))) | ((with_reducible apply bl_row); (· (first | (simp; done) | (simp; omega) | omega))) | ((with_reducible apply bl_cell); (· (first | (simp; done) | (simp; omega) | omega))) | assumption))
  have hr : rowAt ((W.alloc (.cells #[.int .i64 i.op, .int .i64 i.a, .int .i64 i.b, .int .i64 i.c] 31)).drewN n) W.heap.size (icells [i]).toArray 31 := by
    show rowAt _ W.heap.size #[.int .i64 i.op, .int .i64 i.a, .int .i64 i.b, .int .i64 i.c] 31
    (repeat (first | ((with_reducible apply rowAt.new); simp; done) | (with_reducible apply rowAt.drew) | (with_reducible apply rowAt.drewN) | (with_reducible apply rowAt.alloc) | (with_reducible apply rowAt.setRow_same) | ((with_reducible apply rowAt.so); (· (first | (simp; done) | (simp; omega) | omega))) | (with_reducible apply rowAt.set10) | (with_reducible apply rowAt.set8) | (with_reducible apply rowAt.set4) | (with_reducible apply rowAt.set2) | (with_reducible apply rowAt.set) | ((with_reducible apply rowAt.co); (· (first | (simp; done) | (simp; omega) | omega))) | assumption))
  have hne : ∀ g, a = some ⟨g, 0, none⟩ → W.heap.size ≠ g := by
    rintro g rfl
    rcases hown.2 with ⟨h, _⟩ | ⟨g', cap, cur, hvv, hBg, hg, _⟩
    · cases h
    · injection hvv with e1
      injection e1 with e1
      injection e1 with e1
      subst e1
      have := (Array.getElem?_eq_some_iff.1 hg).1
      omega
  have h := Insert_ok (vc := 1) (ms := [i]) (owns_kept hown (Below.block hb0)) (Nat.le_trans hB hb0.size) hws (by simp) (by simp) hr hne hk
  refine h.mono ?_
  rintro e w' ⟨v', rfl, ho, hb⟩
  refine ⟨v', rfl, ?_, (hb0.mono hB).trans hb⟩
  rw [List.append_assoc]
  exact ho

theorem cell_here {w : World} {g : Nat} {t : TypeId} {x y : Value} (h : rowAt w g #[x] t) {a : Addr} (ha : a = ⟨g, 0, none⟩) : (w.setCell a y).cell? ⟨g, 0, none⟩ = some y := by
  subst ha
  exact World.cell?_setCell_same _ _ _ (h.cell 0)

theorem cell1 {w : World} {g : Nat} {t : TypeId} {x : Value} (h : rowAt w g #[x] t) : w.cell? ⟨g, 0, none⟩ = some x := h.cell 0

theorem keep7 {B : Nat} {W w2 : World} {ga gp gh gm : Nat} {x y z u0 u1 u2 u3 : Value} {o0 o1 o2 o3 : Nat} (hb : Below B W w2) (ha : ga < B) (hp : gp < B) (hh : gh < B) (hm : gm < B) (h1 : W.cell? ⟨ga, 0, none⟩ = some x) (h2 : W.cell? ⟨gp, 0, none⟩ = some y) (h3 : W.cell? ⟨gh, 0, none⟩ = some z)
    (h4 : W.cell? ⟨gm, o0, none⟩ = some u0) (h5 : W.cell? ⟨gm, o1, none⟩ = some u1) (h6 : W.cell? ⟨gm, o2, none⟩ = some u2) (h7 : W.cell? ⟨gm, o3, none⟩ = some u3) :
    w2.cell? ⟨ga, 0, none⟩ = some x ∧ w2.cell? ⟨gp, 0, none⟩ = some y ∧ w2.cell? ⟨gh, 0, none⟩ = some z ∧ w2.cell? ⟨gm, o0, none⟩ = some u0 ∧ w2.cell? ⟨gm, o1, none⟩ = some u1 ∧ w2.cell? ⟨gm, o2, none⟩ = some u2 ∧ w2.cell? ⟨gm, o3, none⟩ = some u3 :=
  ⟨(hb.cell (p := ⟨ga, 0, none⟩) ha).trans h1, (hb.cell (p := ⟨gp, 0, none⟩) hp).trans h2, (hb.cell (p := ⟨gh, 0, none⟩) hh).trans h3, (hb.cell (p := ⟨gm, o0, none⟩) hm).trans h4, (hb.cell (p := ⟨gm, o1, none⟩) hm).trans h5, (hb.cell (p := ⟨gm, o2, none⟩) hm).trans h6, (hb.cell (p := ⟨gm, o3, none⟩) hm).trans h7⟩

theorem ent_nothing (args : Array Value) (W : World) : (callFunc 29 args).run Tryz.prog W = .ok (.enter 29 args) W := enters Tryz.func29 (by kernel_rfl) rfl args W

set_option maxHeartbeats 3200000 in
set_option maxRecDepth 100000 in
theorem nothing_change {w : World} {ws : List Pl.Ins} {ga gp gh gm : Nat} {at_ how a b : Int} (hi64 : i64 at_) (hh64 : i64 how) (ha : 0 ≤ a ∧ a < 8) (hb : 0 ≤ b ∧ b < 8)
    (hca : w.cell? ⟨ga, 0, none⟩ = some (.int .i64 at_)) (hcp : w.cell? ⟨gp, 0, none⟩ = some (.slice (some ⟨gm, 0, none⟩) 8 8)) (hch : w.cell? ⟨gh, 0, none⟩ = some (.int .i64 how)) (hrm : rowAt w gm (icells (Pl.nothing a b)).toArray 31) :
    ChangeOk w ws 29 #[.pointer (some ⟨ga, 0, none⟩), .pointer (some ⟨gp, 0, none⟩), .pointer (some ⟨gh, 0, none⟩)] := by
  intro hv h60 hf W B v hB hBW hbel hown
  have halt := World.block_lt_of_cell? w _ hca
  have hplt := World.block_lt_of_cell? w _ hcp
  have hhlt := World.block_lt_of_cell? w _ hch
  have hmlt := hrm.lt
  dsimp only at halt hplt hhlt
  have qa := (hbel.cell (p := ⟨ga, 0, none⟩) halt).trans hca
  have qp := (hbel.cell (p := ⟨gp, 0, none⟩) hplt).trans hcp
  have qh := (hbel.cell (p := ⟨gh, 0, none⟩) hhlt).trans hch
  have rm : rowAt W gm (icells (Pl.nothing a b)).toArray 31 := rowAt.below hrm hbel hmlt
  have hgaW : ga < W.heap.size := by omega
  have hgpW : gp < W.heap.size := by omega
  have hghW : gh < W.heap.size := by omega
  have hgmW : gm < W.heap.size := by omega
  obtain ⟨va, vc, rfl⟩ := owns_form hown
  have hpk := fun W => wPick_is at_ (ws.length + 1) W (by omega) (by omega) hi64
  have hpl : pick at_ (ws.length + 1) < ws.length + 1 := Nat.mod_lt _ (by omega)
  rw [show ((ws.length + 1 : Nat) : Int) = IntKind.i64.wrap ((ws.length : Int) + 1) by rw [IntKind.wrap_i64]; omega] at hpk
  have hph := fun W => wPick_is how 8 W (by decide) (by decide) hh64
  have hhl : pick how 8 < 8 := Nat.mod_lt _ (by decide)
  rw [show ((8 : Nat) : Int) = 8 from rfl] at hph
  generalize pick at_ (ws.length + 1) = k at *
  generalize pick how 8 = p at *
  obtain ⟨i, hip⟩ : ∃ i, (Pl.nothing a b)[p]? = some i := ⟨(Pl.nothing a b)[p]'(by simpa [Pl.nothing] using hhl), by simp⟩
  obtain ⟨x0, x1, x2, x3⟩ := icells_get _ p i hip
  have c0 : W.cell? ⟨gm, p * 4, none⟩ = some (.int .i64 i.op) := by rw [rm.cell]; simpa using x0
  have c1 : W.cell? ⟨gm, p * 4 + 1, none⟩ = some (.int .i64 i.a) := by rw [rm.cell]; simpa using x1
  have c2 : W.cell? ⟨gm, p * 4 + 2, none⟩ = some (.int .i64 i.b) := by rw [rm.cell]; simpa using x2
  have c3 : W.cell? ⟨gm, p * 4 + 3, none⟩ = some (.int .i64 i.c) := by rw [rm.cell]; simpa using x3
  have hall : ∀ j ∈ ws.take k ++ ws.drop k, Pl.valid j := by rw [List.take_append_drop]; exact hv
  have hallf : ∀ j ∈ ws.take k ++ ws.drop k, Pl.flat j := by rw [List.take_append_drop]; exact hf
  have hsame := Pl.nothing_same (i := i) (a := a) (b := b) (List.mem_of_getElem? hip) hall hallf (by rw [List.take_append_drop]; exact h60) ha.1 ha.2 hb.1 hb.2
  rw [List.take_append_drop] at hsame
  have hpi1 : (0 : Int) ≤ (p : Int) := by omega
  have hpi2 : (p : Int) < 8 := by omega
  have HS := Lib.hid hsame
  have HP1 := Lib.hid hpk
  have HP2 := Lib.hid hph
  have HC := Lib.hid fun (n : Nat) => insert_new (i := i) n hown hBW (by omega) (show k ≤ ws.length by omega)
  clear hbel hown hca hcp hch hrm hpk hph hall hallf hv hf hsame x0 x1 x2 x3 hip rm
  rw [show (#[Value.slice va ws.length vc] ++ #[Value.pointer (some ⟨ga, 0, none⟩), Value.pointer (some ⟨gp, 0, none⟩), Value.pointer (some ⟨gh, 0, none⟩)] : Array Value) = #[.slice va ws.length vc, .pointer (some ⟨ga, 0, none⟩), .pointer (some ⟨gp, 0, none⟩), .pointer (some ⟨gh, 0, none⟩)] from rfl]
  go_enter Tryz.func29, Tryz.ntmps29
  go_wp2_with fail
  go_region_held3 (fun w' => w'.cell? ⟨ga, 0, none⟩ = some (.int .i64 at_) ∧ w'.cell? ⟨gp, 0, none⟩ = some (.slice (some ⟨gm, 0, none⟩) 8 8) ∧ w'.cell? ⟨gh, 0, none⟩ = some (.int .i64 how) ∧ w'.cell? ⟨gm, p * 4, none⟩ = some (.int .i64 i.op) ∧ w'.cell? ⟨gm, p * 4 + 1, none⟩ = some (.int .i64 i.a) ∧ w'.cell? ⟨gm, p * 4 + 2, none⟩ = some (.int .i64 i.b) ∧ w'.cell? ⟨gm, p * 4 + 3, none⟩ = some (.int .i64 i.c)) (go_keep)
    (first | (go_at_call 30; refine (HC.out _).mono ?_; rintro e w2 ⟨v', rfl, hown', hb2⟩; have hS2 := keep7 hb2 (show ga < B by omega) (show gp < B by omega) (show gh < B by omega) (show gm < B by omega) qa qp qh c0 c1 c2 c3) | (go_at_call_of 17 at_; refine (HP1.out _).mono ?_; rintro e w' ⟨rfl, rfl⟩) | (go_at_call_of 17 how; refine (HP2.out _).mono ?_; rintro e w' ⟨rfl, rfl⟩))
  all_goals
    go_wp2_with fail
    go_ret
    exact ⟨.inr ⟨_, _, rfl, by simp, owns_il hown', HS.out⟩, hb2⟩

theorem nothing_row {W : World} {g p q : Nat} (h : rowAt W g #[.int .i64 14, .int .i64 ((p : Nat) : Int), .int .i64 ((p : Nat) : Int), .int .i64 0, .int .i64 4, .int .i64 ((p : Nat) : Int), .int .i64 ((p : Nat) : Int), .int .i64 0, .int .i64 10, .int .i64 ((p : Nat) : Int), .int .i64 ((p : Nat) : Int), .int .i64 0, .int .i64 9, .int .i64 ((p : Nat) : Int), .int .i64 ((p : Nat) : Int), .int .i64 0, .int .i64 19, .int .i64 0, .int .i64 0, .int .i64 4, .int .i64 20, .int .i64 ((p : Nat) : Int), .int .i64 0, .int .i64 4, .int .i64 21, .int .i64 ((p : Nat) : Int), .int .i64 ((q : Nat) : Int), .int .i64 4, .int .i64 21, .int .i64 ((p : Nat) : Int), .int .i64 ((p : Nat) : Int), .int .i64 (-64)] 31) : rowAt W g (icells (Pl.nothing (p : Int) (q : Int))).toArray 31 := h

set_option maxHeartbeats 3200000 in
set_option maxRecDepth 100000 in
theorem nothing_ok {w : World} {lv dv : Value} {ws : List Pl.Ins} {R D : List Int} {at_ a0 b0 how : Int} (G : Given w lv dv ws R D) (hat : i64 at_) (ha : i64 a0) (hb : i64 b0) (hh : i64 how) :
    Calls Tryz.prog 10 #[lv, .agg (arr R), dv, .int .i64 at_, .int .i64 a0, .int .i64 b0, .int .i64 how] w fun e w' => e = .returned (.bool true) ∧ Below w.heap.size w w' := by
  have HG := Lib.hid G
  obtain ⟨r0, r1, r2, r3, r4, r5, r6, r7, hRe⟩ := eight G.regs.1
  subst hRe
  have hmf : ∀ (fn : Fn) (first cap : Array Value) (w : World), (Instr.makeFunc fn first cap).run Tryz.prog w = .ok (.func fn first cap) w := fun _ _ _ _ => rfl
  rw [arr8]
  clear G
  have hpa := fun W => wPick_is a0 8 W (by decide) (by decide) ha
  have hpb := fun W => wPick_is b0 8 W (by decide) (by decide) hb
  have hal : pick a0 8 < 8 := Nat.mod_lt _ (by decide)
  have hbl : pick b0 8 < 8 := Nat.mod_lt _ (by decide)
  rw [show ((8 : Nat) : Int) = 8 from rfl] at hpa hpb
  generalize pick a0 8 = p at *
  generalize pick b0 8 = q at *
  have HP1 := Lib.hid hpa
  have HP2 := Lib.hid hpb
  clear hpa hpb ha hb
  go_enter Tryz.func10, Tryz.ntmps10
  go_wp2_with fail
  refine (HP1.out _).mono ?_
  rintro e w1 ⟨rfl, rfl⟩
  go_wp2_with fail
  refine (HP2.out _).mono ?_
  rintro e w1 ⟨rfl, rfl⟩
  go_wp2_with fail
  refine (same_ok (ws := ws) (R := [r0, r1, r2, r3, r4, r5, r6, r7]) (D := D) (HG.out.kept ?_) (nothing_change (gm := w.heap.size + 1 + 1 + 1) (a := (p : Int)) (b := (q : Int)) hat hh (by omega) (by omega) ?_ ?_ ?_ (nothing_row ?_)) ent_nothing).mono ?_
  · (repeat (first | (with_reducible exact Below.refl _ _) | (with_reducible apply Below.drew) | (with_reducible apply bl_drewN) | ((with_reducible apply bl_alloc); (· (first | (simp; done) | (simp; omega) | omega))) | ((with_reducible apply bl_row); (· (first | (simp; done) | (simp; omega) | omega))) | ((with_reducible apply bl_cell); (· (first | (simp; done) | (simp; omega) | omega))) | assumption))
  · refine cell1 (t := 3) ?_
    (repeat (first | ((with_reducible apply rowAt.new); simp; done) | (with_reducible apply rowAt.drew) | (with_reducible apply rowAt.drewN) | (with_reducible apply rowAt.alloc) | (with_reducible apply rowAt.setRow_same) | ((with_reducible apply rowAt.so); (· (first | (simp; done) | (simp; omega) | omega))) | (with_reducible apply rowAt.set10) | (with_reducible apply rowAt.set8) | (with_reducible apply rowAt.set4) | (with_reducible apply rowAt.set2) | (with_reducible apply rowAt.set) | ((with_reducible apply rowAt.co); (· (first | (simp; done) | (simp; omega) | omega))) | assumption))
  · refine cell1 (t := 22) ?_
    (repeat (first | ((with_reducible apply rowAt.new); simp; done) | (with_reducible apply rowAt.drew) | (with_reducible apply rowAt.drewN) | (with_reducible apply rowAt.alloc) | (with_reducible apply rowAt.setRow_same) | ((with_reducible apply rowAt.so); (· (first | (simp; done) | (simp; omega) | omega))) | (with_reducible apply rowAt.set10) | (with_reducible apply rowAt.set8) | (with_reducible apply rowAt.set4) | (with_reducible apply rowAt.set2) | (with_reducible apply rowAt.set) | ((with_reducible apply rowAt.co); (· (first | (simp; done) | (simp; omega) | omega))) | assumption))
  · refine cell1 (t := 3) ?_
    (repeat (first | ((with_reducible apply rowAt.new); simp; done) | (with_reducible apply rowAt.drew) | (with_reducible apply rowAt.drewN) | (with_reducible apply rowAt.alloc) | (with_reducible apply rowAt.setRow_same) | ((with_reducible apply rowAt.so); (· (first | (simp; done) | (simp; omega) | omega))) | (with_reducible apply rowAt.set10) | (with_reducible apply rowAt.set8) | (with_reducible apply rowAt.set4) | (with_reducible apply rowAt.set2) | (with_reducible apply rowAt.set) | ((with_reducible apply rowAt.co); (· (first | (simp; done) | (simp; omega) | omega))) | assumption))
  · (repeat (first | ((with_reducible apply rowAt.new); simp; done) | (with_reducible apply rowAt.drew) | (with_reducible apply rowAt.drewN) | (with_reducible apply rowAt.alloc) | (with_reducible apply rowAt.setRow_same) | ((with_reducible apply rowAt.so); (· (first | (simp; done) | (simp; omega) | omega))) | (with_reducible apply rowAt.set10) | (with_reducible apply rowAt.set8) | (with_reducible apply rowAt.set4) | (with_reducible apply rowAt.set2) | (with_reducible apply rowAt.set) | ((with_reducible apply rowAt.co); (· (first | (simp; done) | (simp; omega) | omega))) | assumption))
  · rintro e w2 ⟨rfl, hb2⟩
    go_wp2
    go_ret
    refine ⟨rfl, Below.trans ?_ (hb2.mono ?_)⟩
    · (repeat (first | (with_reducible exact Below.refl _ _) | (with_reducible apply Below.drew) | (with_reducible apply bl_drewN) | ((with_reducible apply bl_alloc); (· (first | (simp; done) | (simp; omega) | omega))) | ((with_reducible apply bl_row); (· (first | (simp; done) | (simp; omega) | omega))) | ((with_reducible apply bl_cell); (· (first | (simp; done) | (simp; omega) | omega))) | assumption))
    · simp only [World.size_alloc]; omega
end Go.Proofs.YtghjjemnegncpaaGreatDoor
