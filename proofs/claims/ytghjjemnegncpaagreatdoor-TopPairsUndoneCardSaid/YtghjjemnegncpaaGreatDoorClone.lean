/- The walks of slices.Clone of bytes, and wWords. -/
import Derived.Test.YtghjjemnegncpaaGreatDoorStepAll
import Derived.OwnWalk
import Derived.Maps.AppendAt
import Derived.Laws.Cover3
set_option linter.unusedSimpArgs false
set_option linter.unusedVariables false
set_option linter.unusedSectionVars false
namespace Go.Proofs.YtghjjemnegncpaaGreatDoor
open Go.RowKit

theorem info8 : (Tryz.prog.info? 5).map (fun i => (i.zero, i.size, i.bytes)) = some (some (.int .u8 0), 1, 1) := by kernel_rfl
theorem info32 : (Tryz.prog.info? 23).map (fun i => (i.zero, i.size, i.bytes)) = some (some (.int .u32 0), 1, 4) := by kernel_rfl

theorem run_eql_nil {P : Program} (w : World) (t e : TypeId) (a : Option Addr) (l c : Nat) (h : P.underlying t = some (.slice e)) : (binOp .eql t (.slice a l c) (.slice none 0 0)).run P w = .ok (.bool a.isNone) w := by
  simp only [binOp]
  simp [run_equal_slice_nil w t e a l c h]

/-- A slice of bytes that reads so. -/
def Bd (w : World) (v : Value) (D : List Int) : Prop :=
  ∃ a c, v = .slice a D.length c ∧ (a = none → c = 0) ∧ ∀ k, k < D.length → ∃ ad : Addr, a = some ad ∧ w.cell? (ad.add k) = some (.int .u8 (D.getD k 0))

theorem getD_get {α : Type} (l : List α) (k : Nat) (d : α) (h : k < l.length) : l.getD k d = l[k] := by simp [List.getD_eq_getElem?_getD, h]

theorem ints_one (K : IntKind) (D : List Int) : ∀ u ∈ D.map (Value.int K), u.oneCell' = true := by
  intro u hu
  simp only [List.mem_map] at hu
  obtain ⟨x, _, rfl⟩ := hu
  rfl

/-- What ownsRow says of a slice of bytes. -/
theorem owns_dt {w : World} {B : Nat} {v : Value} {D : List Int} {e : TypeId} (h : w.ownsRow B e 1 v D.length (D.map (Value.int .u8))) :
    (v = .slice none 0 0 ∧ D = []) ∨ ∃ g, B ≤ g ∧ g < w.heap.size ∧ Dt w v g D ∧ ∀ n c, v ≠ .slice none n c := by
  rcases h.2 with ⟨hv, hn⟩ | ⟨g, cap, cur, hv, hB, hg, hcap, _, hsz, htk⟩
  · exact .inl ⟨hv, List.length_eq_zero_iff.1 hn⟩
  · refine .inr ⟨g, hB, (Array.getElem?_eq_some_iff.1 hg).1, ⟨some ⟨g, 0, none⟩, cap, hv, fun k hk => ⟨rfl, ?_, ?_⟩⟩, fun n c h => by rw [hv] at h; cases h⟩
    · rw [cell_of_row w g k cur e (0, 0) hg, ← Array.getElem?_toList]
      have h2 : (cur.toList.take (D.length * 1))[k]? = (D.map (Value.int .u8))[k]? := by rw [htk]
      rw [List.getElem?_take_of_lt (by omega)] at h2
      rw [h2, List.getElem?_map, getD_get _ _ _ hk]
      simp [hk]
    · exact frozen_of_row w g k cur e hg

theorem Dt.other {w w' : World} {v : Value} {g : Nat} {D : List Int} (H : Dt w v g D) (h : w'.heap[g]? = w.heap[g]?) : Dt w' v g D := by
  obtain ⟨a, c, hv, hk⟩ := H
  refine ⟨a, c, hv, fun k hkl => ?_⟩
  obtain ⟨ha, hc, hf⟩ := hk k hkl
  exact ⟨ha, (World.cell?_of_block (w := w) h).trans hc, (World.frozen?_of_block (w := w) h).trans hf⟩

theorem Dt.bd {w : World} {v : Value} {g : Nat} {D : List Int} (h : Dt w v g D) (hc : ∀ n c, v = .slice none n c → c = 0) : Bd w v D := by
  obtain ⟨a, c, hv, hk⟩ := h
  refine ⟨a, c, hv, fun ha => hc _ _ (by rw [hv, ha]), fun k hkl => ?_⟩
  obtain ⟨ha, hc, _⟩ := hk k hkl
  exact ⟨_, ha, by rw [add_at]; exact hc⟩

theorem owns_empty (w : World) (e : TypeId) : (w.alloc (.cells #[] e)).ownsRow w.heap.size e 1 (.slice (some ⟨w.heap.size, 0, none⟩) 0 0) 0 [] :=
  ⟨rfl, .inr ⟨w.heap.size, 0, #[], rfl, Nat.le_refl _, heap_alloc_new w _, Nat.le_refl _, Nat.zero_le _, rfl, rfl⟩⟩

theorem below_grown {w w' : World} {g B : Nat} (h : w.grownBy w' (some g)) (hg : B ≤ g) (hB : B ≤ w.heap.size) : Below B w w' :=
  ⟨h.os, h.tape, h.output, h.size, fun k hk => h.block k (by omega) (fun e => by have := Option.some.inj e; omega)⟩

set_option maxHeartbeats 800000 in
set_option maxRecDepth 100000 in
theorem Clone_bytes (D : List Int) (dv : Value) (w : World) (H : Bd w dv D) (hl : D.length ≤ 4096) :
    Calls Tryz.prog 63 #[dv] w fun e w' => ∃ v', e = .returned v' ∧ ((v' = .slice none 0 0 ∧ D = []) ∨ ∃ g, w.heap.size ≤ g ∧ g < w'.heap.size ∧ Dt w' v' g D ∧ ∀ n c, v' ≠ .slice none n c) ∧ Below w.heap.size w w' := by
  obtain ⟨a, c, rfl, hn, hk⟩ := H
  obtain ⟨i0, hi, hz0, hz1, hz2⟩ := info_parts info8
  cases a with
  | none =>
    have hD : D = [] := by
      cases D with
      | nil => rfl
      | cons x l => obtain ⟨ad, h, _⟩ := hk 0 (by simp); cases h
    subst hD
    obtain rfl := hn rfl
    clear hk hn
    have he := run_eql_nil w 25 5 none 0 0 Tryz.underlying25
    simp only [Option.isNone_none] at he
    go_enter Tryz.func63, Tryz.ntmps63
    go_wp2
    go_ret
    exact ⟨_, rfl, .inl (by simp), Below.refl _ _⟩
  | some ad =>
    have hk' : ∀ j u, (D.map (Value.int .u8))[j]? = some u → w.cell? (ad.add j) = some u := by
      intro j u hj
      rw [List.getElem?_map] at hj
      cases hd : D[j]? with
      | none => rw [hd] at hj; cases hj
      | some x =>
        rw [hd] at hj
        have hjl := (List.getElem?_eq_some_iff.1 hd).1
        obtain ⟨ad', h, hc⟩ := hk j hjl
        cases h
        rw [hc, ← hj, getD_get _ _ _ hjl, (List.getElem?_eq_some_iff.1 hd).2]
        rfl
    have hk2 := Lib.hid hk'
    clear hk hn hk'
    have he := run_eql_nil w 25 5 (some ad) D.length c Tryz.underlying25
    simp only [Option.isNone_some] at he
    go_enter Tryz.func63, Tryz.ntmps63
    go_wp2_with (first | (at_builtin; refine wpList_append_own _ rfl _ _ 25 rfl w.heap.size 5 i0 (.int .u8 0) 1 1 Tryz.underlying25 hi hz0 hz1 hz2 rfl (by decide) _ 0 [] rfl (owns_empty _ _) ad D.length c (D.map (Value.int .u8)) rfl (by simp) (fun j u h => cell_kept (fun k hk => Below.heap_alloc _ _ k hk) (hk2.out j u h)) (ints_one _ _) (by unfold maxLen; omega) (by omega) (by simp) ?_))
    intro v' w1 hown hgrow _
    have hb : Below w.heap.size w w1 := (show Below w.heap.size w (w.alloc (Obj.cells #[] 5)) from by (repeat (first | (with_reducible exact Below.refl _ _) | (with_reducible apply Below.drew) | (with_reducible apply bl_drewN) | ((with_reducible apply bl_alloc); (· (first | (simp; done) | (simp; omega) | omega))) | ((with_reducible apply bl_row); (· (first | (simp; done) | (simp; omega) | omega))) | ((with_reducible apply bl_cell); (· (first | (simp; done) | (simp; omega) | omega))) | assumption))).trans (below_grown hgrow (Nat.le_refl _) (by simp))
    have HO := Lib.hid hown
    clear hown hgrow
    go_wp2
    go_ret
    exact ⟨_, rfl, owns_dt HO.out, hb⟩
end Go.Proofs.YtghjjemnegncpaaGreatDoor
