/- The walk of wWords. -/
import Derived.Test.YtghjjemnegncpaaGreatDoorClone
set_option linter.unusedSimpArgs false
set_option linter.unusedVariables false
set_option linter.unusedSectionVars false
namespace Go.Proofs.YtghjjemnegncpaaGreatDoor
open Go.RowKit

/-- A slice of instructions that reads so. -/
def Il (w : World) (v : Value) (ws : List Pl.Ins) : Prop :=
  ∃ a c, v = .slice a ws.length c ∧ (a = none → c = 0) ∧ ∀ k i, ws[k]? = some i → ∃ b off, a = some ⟨b, off, none⟩ ∧ w.cell? ⟨b, off + k * 4, none⟩ = some (.int .i64 i.op) ∧
    w.cell? ⟨b, off + k * 4 + 1, none⟩ = some (.int .i64 i.a) ∧ w.cell? ⟨b, off + k * 4 + 2, none⟩ = some (.int .i64 i.b) ∧ w.cell? ⟨b, off + k * 4 + 3, none⟩ = some (.int .i64 i.c)

/-- Numbers that an int holds. -/
def i64 (x : Int) : Prop := -9223372036854775808 ≤ x ∧ x ≤ 9223372036854775807

theorem Il.kept {w w' : World} {v : Value} {ws : List Pl.Ins} (H : Il w v ws) (h : ∀ k, k < w.heap.size → w'.heap[k]? = w.heap[k]?) : Il w' v ws := by
  obtain ⟨a, c, hv, hn, hk⟩ := H
  refine ⟨a, c, hv, hn, fun k i hi => ?_⟩
  obtain ⟨b, off, ha, h0, h1, h2, h3⟩ := hk k i hi
  exact ⟨b, off, ha, cell_kept h h0, cell_kept h h1, cell_kept h h2, cell_kept h h3⟩

def encs (ws : List Pl.Ins) : List Value := ws.map fun i => .int .u32 (Pl.encW i)

theorem encs_step (ws : List Pl.Ins) (k : Nat) (i : Pl.Ins) (h : ws[k]? = some i) : encs (ws.take k) ++ [.int .u32 (Pl.encW i)] = encs (ws.take (k + 1)) := by
  rw [List.take_add_one, h]
  simp [encs]

theorem owns_kept {w w' : World} {B : Nat} {e : TypeId} {s : Nat} {v : Value} {n : Nat} {xs : List Value} (H : w.ownsRow B e s v n xs) (h : ∀ k, k < w.heap.size → w'.heap[k]? = w.heap[k]?) : w'.ownsRow B e s v n xs := by
  refine ⟨H.1, ?_⟩
  rcases H.2 with h1 | ⟨g, cap, cur, hv, hB, hg, rest⟩
  · exact .inl h1
  · exact .inr ⟨g, cap, cur, hv, hB, (h g (Array.getElem?_eq_some_iff.1 hg).1).trans hg, rest⟩

theorem below_own {w w' : World} {B : Nat} {e : TypeId} {s : Nat} {v : Value} {n : Nat} {xs : List Value} (H : w.ownsRow B e s v n xs) (hg : w.grownBy w' v.ownBlock) (hB : B ≤ w.heap.size) : Below B w w' := by
  refine ⟨hg.os, hg.tape, hg.output, hg.size, fun k hk => hg.block k (by omega) ?_⟩
  rcases H.2 with ⟨hv, _⟩ | ⟨g, cap, cur, hv, hgB, _⟩
  · rw [hv]; exact fun e => by cases e
  · rw [hv]
    intro e
    have := Option.some.inj e
    dsimp only at this
    omega

theorem one_cell (w : World) (x : Value) (e : TypeId) : ∀ j u, ([x] : List Value)[j]? = some u → (w.alloc (.cells #[x] e)).cell? ((⟨w.heap.size, 0, none⟩ : Addr).add j) = some u := by
  intro j u hj
  match j, hj with
  | 0, hj =>
    rw [add_at, cell_of_row _ _ _ _ e (0, 0) (heap_alloc_new w _)]
    simpa using hj
theorem one_one (K : IntKind) (x : Int) : ∀ u ∈ ([.int K x] : List Value), u.oneCell' = true := by
  intro u hu
  simp at hu
  subst hu
  rfl

/-- One element more. -/
theorem one_more {w w1 w2 : World} {B n : Nat} {e : TypeId} {v v' : Value} {xs : List Value} {x : Value} (hB : B ≤ w.heap.size) (HO : w.ownsRow B e 1 v n xs)
    (h01 : ∀ k, k < w.heap.size → w1.heap[k]? = w.heap[k]?) (hs : w.heap.size ≤ w1.heap.size) (hgrow : w1.grownBy w2 v.ownBlock) : Below B w1 w2 :=
  below_own (owns_kept HO h01) hgrow (by omega)

theorem first_bad (ws : List Pl.Ins) (h : ¬ ∀ i ∈ ws, Pl.valid i) : ∃ j, ∃ (hj : j < ws.length), (∀ k i, k < j → ws[k]? = some i → Pl.valid i) ∧ ¬ Pl.valid ws[j] := by
  induction ws with
  | nil => exact absurd (fun i hi => by cases hi) h
  | cons x l ih =>
    by_cases hx : Pl.valid x
    · obtain ⟨j, hj, h1, h2⟩ := ih (fun hl => h fun i hi => by
        rcases List.mem_cons.1 hi with rfl | hi
        · exact hx
        · exact hl i hi)
      refine ⟨j + 1, by simp; omega, fun k i hk hi => ?_, by simpa using h2⟩
      cases k with
      | zero => simp at hi; subst hi; exact hx
      | succ k => exact h1 k i (by omega) (by simpa using hi)
    · exact ⟨0, by simp, fun k i hk => by omega, by simpa using hx⟩

section
variable {w : World} {v : Value} {ws : List Pl.Ins} (H : Il w v ws) (hl : ws.length ≤ 4398046511104)
include H hl

set_option maxHeartbeats 1600000 in
set_option maxRecDepth 100000 in
theorem wWords_ok (hv : ∀ i ∈ ws, Pl.valid i) :
    Calls Tryz.prog 24 #[v] w fun e w' => ∃ v', e = .returned (.tuple #[v', .bool true]) ∧ w'.ownsRow w.heap.size 23 1 v' ws.length (encs ws) ∧ Below w.heap.size w w' := by
  obtain ⟨a, c, rfl, hn, hk⟩ := H
  obtain ⟨i0, hi, hz0, hz1, hz2⟩ := info_parts info32
  have HK := Lib.hid hk
  have HV := Lib.hid hv
  clear hk hn hv
  go_enter Tryz.func24, Tryz.ntmps24
  go_wp2
  go_loopw [11, 4] (fun t v wr => ∃ k : Nat, k ≤ ws.length ∧ t = .int .i64 k ∧ wr.ownsRow w.heap.size 23 1 v k (encs (ws.take k)) ∧ Below w.heap.size w wr) (fun t _ _ => ws.length - (intOf t).toNat)
  case atStart => exact ⟨0, Nat.zero_le _, rfl, World.ownsRow_nil _ _ _ _, Below.refl _ _⟩
  case round =>
    obtain ⟨k, hk, rfl, hown, hbel⟩ := hrel
    by_cases hlt : k < ws.length
    · obtain ⟨i, hik⟩ : ∃ i, ws[k]? = some i := ⟨ws[k], by simp [hlt]⟩
      obtain ⟨b, off, rfl, h0, h1, h2, h3⟩ := HK.out k i hik
      have r0 := (hbel.cell (p := ⟨b, off + k * 4, none⟩) (World.block_lt_of_cell? w _ h0)).trans h0
      have r1 := (hbel.cell (p := ⟨b, off + k * 4 + 1, none⟩) (World.block_lt_of_cell? w _ h1)).trans h1
      have r2 := (hbel.cell (p := ⟨b, off + k * 4 + 2, none⟩) (World.block_lt_of_cell? w _ h2)).trans h2
      have r3 := (hbel.cell (p := ⟨b, off + k * 4 + 3, none⟩) (World.block_lt_of_cell? w _ h3)).trans h3
      have HO := Lib.hid hown
      have HB := Lib.hid hbel
      clear hown hbel h0 h1 h2 h3
      have hvi := HV.out i (List.mem_of_getElem? hik)
      have HE := Lib.hid fun W => Encode_ok i W hvi
      clear hvi
      go_wp2_with fail
      refine (HE.out _).mono ?_
      rintro e w1 ⟨rfl, hb1⟩
      have hO1 : (w1.alloc (.cells #[.int .u32 (Pl.encW i)] 23)).ownsRow w.heap.size 23 1 u4 k (encs (ws.take k)) := owns_kept HO.out fun j hj => (Below.heap_alloc _ _ _ (by have := hb1.size; simp at this; omega)).trans ((hb1.block j (by simp; omega)).trans (Below.heap_alloc _ _ _ hj))
      have hs1 : wr.heap.size < w1.heap.size := by have := hb1.size; simp at this; omega
      have hsB := HB.out.size
      have hb2 : Below w.heap.size w (w1.alloc (.cells #[.int .u32 (Pl.encW i)] 23)) := (HB.out.trans ((show Below w.heap.size wr _ from by (repeat (first | (with_reducible exact Below.refl _ _) | (with_reducible apply Below.drew) | (with_reducible apply bl_drewN) | ((with_reducible apply bl_alloc); (· (first | (simp; done) | (simp; omega) | omega))) | ((with_reducible apply bl_row); (· (first | (simp; done) | (simp; omega) | omega))) | ((with_reducible apply bl_cell); (· (first | (simp; done) | (simp; omega) | omega))) | assumption))).trans (hb1.mono (by simp; omega)))).alloc (by omega) _
      have HO1 := Lib.hid hO1
      have HB1 := Lib.hid hb2
      clear hO1 hb2 hb1 HO HB r0 r1 r2 r3
      go_wp2_with (first | (at_builtin; refine wpList_append_own _ rfl _ _ 41 rfl w.heap.size 23 i0 (.int .u32 0) 1 4 Tryz.underlying41 hi hz0 hz1 hz2 rfl (by decide) _ k _ rfl HO1.out ⟨w1.heap.size, 0, none⟩ 1 1 [.int .u32 (Pl.encW i)] rfl rfl (one_cell _ _ _) (one_one _ _) (by unfold maxLen; omega) (by omega) (by simp; omega) ?_))
      intro v' w2 hown hgrow _
      have hb := HB1.out.trans (below_own HO1.out hgrow (by simp; omega))
      have HO2 := Lib.hid (encs_step ws k i hik ▸ hown)
      have HB2 := Lib.hid hb
      clear hown hgrow hb HO1 HB1 HE
      go_wp2
      exact ⟨⟨k + 1, by omega, by go_num, HO2.out, HB2.out⟩, by simp [intOf]; omega⟩
    · obtain rfl : k = ws.length := by omega
      rw [List.take_length] at hown
      have HO := Lib.hid hown
      have HB := Lib.hid hbel
      clear hown hbel
      go_wp2
      go_ret2
      exact ⟨_, rfl, HO.out, HB.out⟩

set_option maxHeartbeats 1600000 in
set_option maxRecDepth 100000 in
theorem wWords_no (hv : ¬ ∀ i ∈ ws, Pl.valid i) (ho : ∀ i ∈ ws, i64 i.op) :
    Calls Tryz.prog 24 #[v] w fun e w' => e = .returned (.tuple #[.slice none 0 0, .bool false]) ∧ Below w.heap.size w w' := by
  obtain ⟨j, hj, hjv, hjn⟩ : ∃ j, ∃ (hj : j < ws.length), (∀ k i, k < j → ws[k]? = some i → Pl.valid i) ∧ ¬ Pl.valid ws[j] := first_bad ws hv
  obtain ⟨a, c, rfl, hn, hk⟩ := H
  obtain ⟨i0, hi, hz0, hz1, hz2⟩ := info_parts info32
  have HK := Lib.hid hk
  have HV := Lib.hid hjv
  have HN := Lib.hid fun W => Encode_no ws[j] W hjn (ho _ (List.getElem_mem hj))
  clear hk hn hv hjv hjn ho
  go_enter Tryz.func24, Tryz.ntmps24
  go_wp2
  go_loopw [11, 4] (fun t v wr => ∃ k : Nat, k ≤ j ∧ t = .int .i64 k ∧ wr.ownsRow w.heap.size 23 1 v k (encs (ws.take k)) ∧ Below w.heap.size w wr) (fun t _ _ => ws.length - (intOf t).toNat)
  case atStart => exact ⟨0, Nat.zero_le _, rfl, World.ownsRow_nil _ _ _ _, Below.refl _ _⟩
  case round =>
    obtain ⟨k, hk, rfl, hown, hbel⟩ := hrel
    have hlt : k < ws.length := by omega
    by_cases hkj : k < j
    · obtain ⟨i, hik⟩ : ∃ i, ws[k]? = some i := ⟨ws[k], by simp [hlt]⟩
      obtain ⟨b, off, rfl, h0, h1, h2, h3⟩ := HK.out k i hik
      have r0 := (hbel.cell (p := ⟨b, off + k * 4, none⟩) (World.block_lt_of_cell? w _ h0)).trans h0
      have r1 := (hbel.cell (p := ⟨b, off + k * 4 + 1, none⟩) (World.block_lt_of_cell? w _ h1)).trans h1
      have r2 := (hbel.cell (p := ⟨b, off + k * 4 + 2, none⟩) (World.block_lt_of_cell? w _ h2)).trans h2
      have r3 := (hbel.cell (p := ⟨b, off + k * 4 + 3, none⟩) (World.block_lt_of_cell? w _ h3)).trans h3
      have HO := Lib.hid hown
      have HB := Lib.hid hbel
      clear hown hbel h0 h1 h2 h3
      have hvi := HV.out k i hkj hik
      have HE := Lib.hid fun W => Encode_ok i W hvi
      clear hvi
      go_wp2_with fail
      refine (HE.out _).mono ?_
      rintro e w1 ⟨rfl, hb1⟩
      have hO1 : (w1.alloc (.cells #[.int .u32 (Pl.encW i)] 23)).ownsRow w.heap.size 23 1 u4 k (encs (ws.take k)) := owns_kept HO.out fun j hj => (Below.heap_alloc _ _ _ (by have := hb1.size; simp at this; omega)).trans ((hb1.block j (by simp; omega)).trans (Below.heap_alloc _ _ _ hj))
      have hs1 : wr.heap.size < w1.heap.size := by have := hb1.size; simp at this; omega
      have hsB := HB.out.size
      have hb2 : Below w.heap.size w (w1.alloc (.cells #[.int .u32 (Pl.encW i)] 23)) := (HB.out.trans ((show Below w.heap.size wr _ from by (repeat (first | (with_reducible exact Below.refl _ _) | (with_reducible apply Below.drew) | (with_reducible apply bl_drewN) | ((with_reducible apply bl_alloc); (· (first | (simp; done) | (simp; omega) | omega))) | ((with_reducible apply bl_row); (· (first | (simp; done) | (simp; omega) | omega))) | ((with_reducible apply bl_cell); (· (first | (simp; done) | (simp; omega) | omega))) | assumption))).trans (hb1.mono (by simp; omega)))).alloc (by omega) _
      have HO1 := Lib.hid hO1
      have HB1 := Lib.hid hb2
      clear hO1 hb2 hb1 HO HB r0 r1 r2 r3
      go_wp2_with (first | (at_builtin; refine wpList_append_own _ rfl _ _ 41 rfl w.heap.size 23 i0 (.int .u32 0) 1 4 Tryz.underlying41 hi hz0 hz1 hz2 rfl (by decide) _ k _ rfl HO1.out ⟨w1.heap.size, 0, none⟩ 1 1 [.int .u32 (Pl.encW i)] rfl rfl (one_cell _ _ _) (one_one _ _) (by unfold maxLen; omega) (by omega) (by simp; omega) ?_))
      intro v' w2 hown hgrow _
      have hb := HB1.out.trans (below_own HO1.out hgrow (by simp; omega))
      have HO2 := Lib.hid (encs_step ws k i hik ▸ hown)
      have HB2 := Lib.hid hb
      clear hown hgrow hb HO1 HB1 HE
      go_wp2
      exact ⟨⟨k + 1, by omega, by go_num, HO2.out, HB2.out⟩, by simp [intOf]; omega⟩
    · obtain rfl : k = j := by omega
      obtain ⟨i, hik, hie⟩ : ∃ i, ws[k]? = some i ∧ ws[k] = i := ⟨ws[k], by simp [hlt], rfl⟩
      rw [hie] at HN
      clear hie
      obtain ⟨b, off, rfl, h0, h1, h2, h3⟩ := HK.out k i hik
      have r0 := (hbel.cell (p := ⟨b, off + k * 4, none⟩) (World.block_lt_of_cell? w _ h0)).trans h0
      have r1 := (hbel.cell (p := ⟨b, off + k * 4 + 1, none⟩) (World.block_lt_of_cell? w _ h1)).trans h1
      have r2 := (hbel.cell (p := ⟨b, off + k * 4 + 2, none⟩) (World.block_lt_of_cell? w _ h2)).trans h2
      have r3 := (hbel.cell (p := ⟨b, off + k * 4 + 3, none⟩) (World.block_lt_of_cell? w _ h3)).trans h3
      have HO := Lib.hid hown
      have HB := Lib.hid hbel
      clear hown hbel h0 h1 h2 h3
      go_wp2_with fail
      refine (HN.out _).mono ?_
      rintro e w1 ⟨⟨x, r, hr, rfl⟩, hb1⟩
      have hr' : (r != 0) = true := by simpa using hr
      have hb2 : Below w.heap.size w w1 := HB.out.trans ((show Below w.heap.size wr _ from (by have := HB.out.size; (repeat (first | (with_reducible exact Below.refl _ _) | (with_reducible apply Below.drew) | (with_reducible apply bl_drewN) | ((with_reducible apply bl_alloc); (· (first | (simp; done) | (simp; omega) | omega))) | ((with_reducible apply bl_row); (· (first | (simp; done) | (simp; omega) | omega))) | ((with_reducible apply bl_cell); (· (first | (simp; done) | (simp; omega) | omega))) | assumption)))).trans (hb1.mono (by have := HB.out.size; simp; omega)))
      have HB1 := Lib.hid hb2
      clear hb1 hb2 HB HO r0 r1 r2 r3
      go_wp2
      go_ret2
      exact ⟨rfl, HB1.out⟩
end
end Go.Proofs.YtghjjemnegncpaaGreatDoor
