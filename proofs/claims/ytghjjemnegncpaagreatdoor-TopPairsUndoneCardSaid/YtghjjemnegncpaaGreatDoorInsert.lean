/- The walk of slices.Insert, of instructions. -/
import Derived.Test.YtghjjemnegncpaaGreatDoorSameOk
import Derived.Lib.AppendZerosOnto
import Derived.Lib.Overlaps
import Derived.Shelf.Spec.SlicesInsert
import Derived.Laws.CopyOwn
set_option linter.unusedSimpArgs false
set_option linter.unusedVariables false
set_option linter.unusedSectionVars false
set_option linter.unnecessarySimpa false
namespace Go.Proofs.YtghjjemnegncpaaGreatDoor
open Go.RowKit

theorem slice_tailAt (g n c k : Nat) (h : k ≤ n) (hc : n ≤ c) (hk : k < c) (W : World) : (Instr.slice 22 (.slice (some ⟨g, 0, none⟩) n c) (some (.int .i64 k)) none none).run Tryz.prog W = .ok (.slice (some ⟨g, k * 4, none⟩) (n - k) (c - k)) W := by
  rw [slice_tailI _ n c k h hc W, if_neg (by omega), Option.map_some, add_at]
theorem slice_headAt (g n c k : Nat) (h : k ≤ c) (hk : 0 < c) (W : World) : (Instr.slice 22 (.slice (some ⟨g, 0, none⟩) n c) none (some (.int .i64 k)) none).run Tryz.prog W = .ok (.slice (some ⟨g, 0, none⟩) k c) W := by
  rw [slice_headI _ n c k h W, if_neg (by omega), Option.map_some, add_at]

/-- Instructions over a row's cells. -/
theorem run_copy4 {w : World} {ty : TypeId} {g o : Nat} {cur : List Value} {t : TypeId} {a : Addr} {cs : List Value} {n dLen dCap sLen sCap : Nat} (hg : rowAt w g cur.toArray t) (hn : Nat.min sLen dLen = n) (hl : cs.length = n * 4)
    (hsrc : ∀ j v, cs[j]? = some v → w.cell? (a.add j) = some v) (hfit : o + cs.length ≤ cur.length) (h1 : ∀ v ∈ cs, v.oneCell' = true) :
    (Builtin.copy_ #[22, 22] ty #[.slice (some ⟨g, o, none⟩) dLen dCap, .slice (some a) sLen sCap]).run Tryz.prog w = .ok (goInt n) (w.setRow g (splice cur o cs).toArray) := by
  have hll := run_loadCells_list (P := Tryz.prog) w a cs hsrc
  have hst := run_storeCells_at Tryz.prog g o t cs 0 cur.toArray w hg (by simpa using hfit) h1
  rw [hl] at hll
  simp only [Nat.add_zero, List.append_assoc] at hst
  unfold splice
  simp [Builtin.copy_, run_underlying Tryz.underlying22, Builtin.lenOf, Builtin.firstCells, cells31, hn, hll, hst]

theorem splice_shift {α : Type} (cur A T M : List α) (hA : cur.take A.length = A) (hfit : A.length + M.length + T.length ≤ cur.length) :
    (splice (splice cur (A.length + M.length) T) A.length M).take (A.length + M.length + T.length) = A ++ (M ++ T) := by
  have h1 : (splice cur (A.length + M.length) T).take A.length = A := by
    unfold splice
    rw [List.take_append_of_le_length (by simp; omega), List.take_take, Nat.min_eq_left (by omega), hA]
  have h2 : (splice cur (A.length + M.length) T).drop (A.length + M.length) = T ++ cur.drop (A.length + M.length + T.length) := by
    unfold splice
    rw [List.drop_append_of_le_length (by simp; omega), List.drop_take_self, List.nil_append]
  unfold splice at h1 h2 ⊢
  rw [h1, h2, ← List.append_assoc, ← List.append_assoc, List.take_append_of_le_length (by simp; omega), List.take_of_length_le (by simp; omega), List.append_assoc]
theorem splice_two {α : Type} (cur A T M : List α) (hA : cur.take A.length = A) (hfit : A.length + M.length + T.length ≤ cur.length) :
    (splice (splice cur A.length M) (A.length + M.length) T).take (A.length + M.length + T.length) = A ++ (M ++ T) := by
  have h1 : (splice cur A.length M).take (A.length + M.length) = A ++ M := by
    unfold splice
    rw [hA, ← List.append_assoc, List.take_append_of_le_length (by simp), List.take_of_length_le (by simp)]
  unfold splice at h1 ⊢
  rw [h1, ← List.append_assoc, List.take_append_of_le_length (by simp; omega), List.take_of_length_le (by simp; omega), List.append_assoc]

theorem Below.setRow {B g : Nat} {w0 w : World} (hb : Below B w0 w) (hBg : B ≤ g) (cs : Array Value) : Below B w0 (w.setRow g cs) := below_setRow hb hBg cs

theorem icells_take (ws : List Pl.Ins) (k : Nat) : (icells ws).take (k * 4) = icells (ws.take k) := by
  have h : icells ws = icells (ws.take k) ++ icells (ws.drop k) := by rw [← icells_app, List.take_append_drop]
  by_cases hk : k ≤ ws.length
  · have hl : (icells (ws.take k)).length = k * 4 := by rw [icells_len]; simp; omega
    rw [h, ← hl, List.take_left]
  · rw [List.take_of_length_le (by rw [icells_len]; omega), List.take_of_length_le (by omega)]
theorem icells_drop (ws : List Pl.Ins) (k : Nat) (hk : k ≤ ws.length) : (icells ws).drop (k * 4) = icells (ws.drop k) := by
  have h : icells ws = icells (ws.take k) ++ icells (ws.drop k) := by rw [← icells_app, List.take_append_drop]
  have hl : (icells (ws.take k)).length = k * 4 := by rw [icells_len]; simp; omega
  rw [h, ← hl, List.drop_left]
theorem icells_all (ws : List Pl.Ins) : ∀ v ∈ icells ws, v.oneCell' = true := icells_one ws

section
variable {W : World} {a : Option Addr} {B c k vb : Nat} {ws ms : List Pl.Ins} {vc : Nat}
  (hown : W.ownsRow B 31 4 (.slice a ws.length c) ws.length (icells ws)) (hB : B ≤ W.heap.size) (hws : ws.length ≤ 100) (hms : ms.length ≤ 100) (hm0 : 0 < ms.length)
  (hrow : rowAt W vb (icells ms).toArray 31) (hne : ∀ g, a = some ⟨g, 0, none⟩ → vb ≠ g)
include hown hB hws hms hm0 hrow hne

set_option maxHeartbeats 3200000 in
set_option maxRecDepth 100000 in
theorem Insert_end : Calls Tryz.prog 30 #[.slice a ws.length c, .int .i64 ws.length, .slice (some ⟨vb, 0, none⟩) ms.length vc] W fun e w' =>
    ∃ v', e = .returned v' ∧ w'.ownsRow B 31 4 v' (ws ++ (ms ++ [])).length (icells (ws ++ (ms ++ []))) ∧ Below B W w' := by
  obtain ⟨i0, hi, hz0, hz1, hz2⟩ := info_parts infoIns
  have hcap := owns_cap4 hown
  have hst := fun W => slice_tailI a ws.length c ws.length (Nat.le_refl _) hcap W
  generalize (if c = ws.length then a else a.map (·.add (ws.length * 4))) = vt at hst
  have hcl : ∀ j u, (icells ms)[j]? = some u → W.cell? ((⟨vb, 0, none⟩ : Addr).add j) = some u := fun j u h => by rw [add_at, hrow.cell j, ← h]; simp
  have HO := Lib.hid hown
  have HC := Lib.hid hcl
  have hl4 := icells_len ms
  have hm1 : ¬ ((ms.length : Int) = 0) := by omega
  have HF := Lib.hid (icells_app ws ms)
  clear hown hcl hne hrow
  go_enter Tryz.func30, Tryz.ntmps30
  go_wp2_with (first | (at_builtin; refine wpList_append_own _ rfl _ _ 22 rfl B 31 i0 (.agg #[.int .i64 0, .int .i64 0, .int .i64 0, .int .i64 0]) 4 32 Tryz.underlying22 hi hz0 hz1 hz2 rfl (by decide) _ ws.length _ rfl HO.out ⟨vb, 0, none⟩ ms.length vc (icells ms) rfl hl4 HC.out (icells_one _) (by unfold maxLen; omega) (by omega) hB ?_))
  intro v' w2 hown2 hgrow _
  have HO2 := Lib.hid hown2
  have HB := Lib.hid (below_own HO.out hgrow hB)
  clear hown2 hgrow
  go_wp2_with fail
  go_ret
  refine ⟨_, rfl, ?_, HB.out⟩
  have h := HO2.out
  rw [← HF.out] at h
  rw [List.append_nil, List.length_append]
  exact h

set_option maxHeartbeats 3200000 in
set_option maxRecDepth 100000 in
theorem Insert_room (hk : k < ws.length) (hroom : ws.length + ms.length ≤ c) : Calls Tryz.prog 30 #[.slice a ws.length c, .int .i64 k, .slice (some ⟨vb, 0, none⟩) ms.length vc] W fun e w' =>
    ∃ v', e = .returned v' ∧ w'.ownsRow B 31 4 v' (ws.take k ++ (ms ++ ws.drop k)).length (icells (ws.take k ++ (ms ++ ws.drop k))) ∧ Below B W w' := by
  rcases hown.2 with ⟨_, hz⟩ | ⟨g, cap, cur, hvv, hBg, hg, hnc, hcm, hcs, htk⟩
  · omega
  injection hvv with e1 e2 e3
  subst e1 e3
  clear e2
  have hne' := hne g rfl
  have hrg : rowAt W g cur.toList.toArray 31 := by rw [Array.toArray_toList]; exact hg
  have hcl := hcs
  rw [← Array.length_toList] at hcl
  have hsh1 : W.shape? vb = some (31, ms.length * 4) := by
    have h := hrow
    unfold rowAt at h
    simp [World.shape?, h, icells_len]
  have hsh2 : W.shape? g = some (31, c * 4) := by
    simp [World.shape?, hg, hcs]
  have hov : ∀ lb cb, (callFunc 47 #[.slice (some ⟨vb, 0, none⟩) ms.length vc, .slice (some ⟨g, (k + ms.length) * 4, none⟩) lb cb]).run Tryz.prog W = .ok (.value (.bool false)) W := fun lb cb => by
    rw [run_callFunc_extern Tryz.func47 (by kernel_rfl) (by kernel_rfl) (by kernel_rfl) (e := Extern.SlicesOverlaps.overlaps #[22, 22] #[4]) (by kernel_rfl),
      Lib.run_overlaps_apart W 22 4 31 Tryz.underlying22 4 cells31 ⟨vb, 0, none⟩ ⟨g, (k + ms.length) * 4, none⟩ ms.length vc lb cb hne' _ _ _ _ hsh1 hsh2 (by omega) (hrow.frozen 0) (hrow.frozen _)]
    rfl
  have hAl : (icells (ws.take k)).length = k * 4 := by rw [icells_len]; simp; omega
  have hTl : (icells (ws.drop k)).length = (ws.length - k) * 4 := by rw [icells_len]; simp
  have hMl := icells_len ms
  have hA : cur.toList.take (icells (ws.take k)).length = icells (ws.take k) := by
    rw [hAl, ← icells_take, ← htk, List.take_take, Nat.min_eq_left (by omega)]
  have hTs : ∀ j v, (icells (ws.drop k))[j]? = some v → cur.toList[k * 4 + j]? = some v := fun j v h => by
    have hj := (List.getElem?_eq_some_iff.1 h).1
    rw [← icells_drop ws k (by omega), ← htk, List.getElem?_drop, List.getElem?_take_of_lt (by omega)] at h
    exact h
  obtain ⟨X1, hX1⟩ : ∃ X1, X1 = splice cur.toList ((k + ms.length) * 4) (icells (ws.drop k)) := ⟨_, rfl⟩
  have hX1l : X1.length = c * 4 := by rw [hX1, length_splice _ _ _ (by omega), hcl]
  obtain ⟨X2, hX2⟩ : ∃ X2, X2 = splice X1 (k * 4) (icells ms) := ⟨_, rfl⟩
  have hX2l : X2.length = c * 4 := by rw [hX2, length_splice _ _ _ (by omega), hX1l]
  have hX2t : X2.take ((ws.length + ms.length) * 4) = icells (ws.take k) ++ (icells ms ++ icells (ws.drop k)) := by
    have h := splice_shift cur.toList (icells (ws.take k)) (icells (ws.drop k)) (icells ms) hA (by omega)
    rw [hAl, hMl, hTl, show k * 4 + ms.length * 4 = (k + ms.length) * 4 by omega, ← hX1, ← hX2, show (k + ms.length) * 4 + (ws.length - k) * 4 = (ws.length + ms.length) * 4 by omega] at h
    exact h
  have hcp1 : ∀ (W' : World), rowAt W' g cur.toList.toArray 31 → ∀ ty dc sc, (Builtin.copy_ #[22, 22] ty #[.slice (some ⟨g, (k + ms.length) * 4, none⟩) (ws.length + ms.length - (k + ms.length)) dc, .slice (some ⟨g, k * 4, none⟩) (ws.length + ms.length - k) sc]).run Tryz.prog W' =
      .ok (goInt ((ws.length - k : Nat) : Int)) (W'.setRow g X1.toArray) := fun W' hW' ty dc sc => by
    rw [hX1]
    refine run_copy4 hW' (by simp only [Nat.min_def]; split <;> omega) hTl (fun j v h => ?_) (by omega) (icells_one _)
    rw [show (⟨g, k * 4, none⟩ : Addr).add j = ⟨g, k * 4 + j, none⟩ by unfold Addr.add; split <;> simp_all, hW'.cell, ← hTs j v h]
    simp
  have hcp2 : ∀ (W' : World), rowAt W' g X1.toArray 31 → rowAt W' vb (icells ms).toArray 31 → ∀ ty dc, (Builtin.copy_ #[22, 22] ty #[.slice (some ⟨g, k * 4, none⟩) (ws.length + ms.length - k) dc, .slice (some ⟨vb, 0, none⟩) ms.length vc]).run Tryz.prog W' =
      .ok (goInt (ms.length : Int)) (W'.setRow g X2.toArray) := fun W' hW' hv ty dc => by
    rw [hX2]
    refine run_copy4 hW' (by simp only [Nat.min_def]; split <;> omega) hMl (fun j v h => ?_) (by omega) (icells_one _)
    rw [add_at, hv.cell j, ← h]
    simp
  have hs1 := fun W => slice_tailAt g ws.length c k (by omega) (by omega) (by omega) W
  have hs2 := fun W => slice_headAt g ws.length c (ws.length + ms.length) (by omega) (by omega) W
  have hs3 := fun W => slice_tailAt g (ws.length + ms.length) c (k + ms.length) (by omega) (by omega) (by omega) W
  have hs4 := fun W => slice_tailAt g (ws.length + ms.length) c k (by omega) (by omega) (by omega) W
  rw [show ((ws.length + ms.length : Nat) : Int) = (ws.length : Int) + (ms.length : Int) by omega] at hs2
  rw [show ((k + ms.length : Nat) : Int) = (k : Int) + (ms.length : Int) by omega] at hs3
  have hm1 : ¬ ((ms.length : Int) = 0) := by omega
  have hk1 : ¬ ((k : Int) = (ws.length : Int)) := by omega
  have hw1 : IntKind.i64.wrap ((k : Int) + (ms.length : Int)) = (k : Int) + (ms.length : Int) := by rw [IntKind.wrap_i64]; omega
  have mixed : Tryz.prog.follows Departure.mixedOrders = true := by kernel_rfl
  have HX := Lib.hid (show X2.take ((ws.length + ms.length) * 4) = icells (ws.take k ++ (ms ++ ws.drop k)) by rw [hX2t, icells_app, icells_app])
  have hglt := hrg.lt
  have hHBg := Lib.hid hBg
  obtain ⟨CL, hCL⟩ : ∃ CL, CL = cur.toList := ⟨_, rfl⟩
  rw [← hCL] at hrg hcp1
  have hcpd := hcp1 W.drew (by (repeat (first | ((with_reducible apply rowAt.new); simp; done) | (with_reducible apply rowAt.drew) | (with_reducible apply rowAt.drewN) | (with_reducible apply rowAt.alloc) | (with_reducible apply rowAt.setRow_same) | ((with_reducible apply rowAt.so); (· (first | (simp; done) | (simp; omega) | omega))) | (with_reducible apply rowAt.set10) | (with_reducible apply rowAt.set8) | (with_reducible apply rowAt.set4) | (with_reducible apply rowAt.set2) | (with_reducible apply rowAt.set) | ((with_reducible apply rowAt.co); (· (first | (simp; done) | (simp; omega) | omega))) | assumption)))
  have hcpe := hcp2 (W.drew.setRow g X1.toArray) (by (repeat (first | ((with_reducible apply rowAt.new); simp; done) | (with_reducible apply rowAt.drew) | (with_reducible apply rowAt.drewN) | (with_reducible apply rowAt.alloc) | (with_reducible apply rowAt.setRow_same) | ((with_reducible apply rowAt.so); (· (first | (simp; done) | (simp; omega) | omega))) | (with_reducible apply rowAt.set10) | (with_reducible apply rowAt.set8) | (with_reducible apply rowAt.set4) | (with_reducible apply rowAt.set2) | (with_reducible apply rowAt.set) | ((with_reducible apply rowAt.co); (· (first | (simp; done) | (simp; omega) | omega))) | assumption))) (by (repeat (first | ((with_reducible apply rowAt.new); simp; done) | (with_reducible apply rowAt.drew) | (with_reducible apply rowAt.drewN) | (with_reducible apply rowAt.alloc) | (with_reducible apply rowAt.setRow_same) | ((with_reducible apply rowAt.so); (· (first | (simp; done) | (simp; omega) | omega))) | (with_reducible apply rowAt.set10) | (with_reducible apply rowAt.set8) | (with_reducible apply rowAt.set4) | (with_reducible apply rowAt.set2) | (with_reducible apply rowAt.set) | ((with_reducible apply rowAt.co); (· (first | (simp; done) | (simp; omega) | omega))) | assumption)))
  have HXL := Lib.hid hX2l
  clear hown hne hX1 hX2 hX2t hX1l hA hTs hAl hTl hg hsh1 hsh2 hcs hcl htk hcp1 hcp2 hCL hX2l
  go_enter Tryz.func30, Tryz.ntmps30
  go_wp2_with (simp only [hov])
  go_region_law_o (fail)
  go_wp2_with fail
  go_ret
  have hlen : (ws.take k ++ (ms ++ ws.drop k)).length = ws.length + ms.length := by simp; omega
  refine ⟨_, rfl, ?_, by (repeat (first | (with_reducible exact Below.refl _ _) | (with_reducible apply Below.drew) | (with_reducible apply bl_drewN) | ((with_reducible apply bl_alloc); (· (first | (simp; done) | (simp; omega) | omega))) | ((with_reducible apply bl_row); (· (first | (simp; done) | (simp; omega) | omega))) | ((with_reducible apply bl_cell); (· (first | (simp; done) | (simp; omega) | omega))) | assumption))⟩
  rw [hlen]
  refine ⟨by rw [icells_len, hlen], .inr ⟨g, c, X2.toArray, rfl, hHBg.out, (show rowAt _ g X2.toArray 31 from by (repeat (first | ((with_reducible apply rowAt.new); simp; done) | (with_reducible apply rowAt.drew) | (with_reducible apply rowAt.drewN) | (with_reducible apply rowAt.alloc) | (with_reducible apply rowAt.setRow_same) | ((with_reducible apply rowAt.so); (· (first | (simp; done) | (simp; omega) | omega))) | (with_reducible apply rowAt.set10) | (with_reducible apply rowAt.set8) | (with_reducible apply rowAt.set4) | (with_reducible apply rowAt.set2) | (with_reducible apply rowAt.set) | ((with_reducible apply rowAt.co); (· (first | (simp; done) | (simp; omega) | omega))) | assumption))), hroom, hcm, by simp [HXL.out], HX.out⟩⟩

set_option maxHeartbeats 3200000 in
set_option maxRecDepth 100000 in
theorem Insert_grow (hk : k < ws.length) (hroom : c < ws.length + ms.length) : Calls Tryz.prog 30 #[.slice a ws.length c, .int .i64 k, .slice (some ⟨vb, 0, none⟩) ms.length vc] W fun e w' =>
    ∃ v', e = .returned v' ∧ w'.ownsRow B 31 4 v' (ws.take k ++ (ms ++ ws.drop k)).length (icells (ws.take k ++ (ms ++ ws.drop k))) ∧ Below B W w' := by
  rcases hown.2 with ⟨_, hz⟩ | ⟨g, cap, cur, hvv, hBg, hg, hnc, hcm, hcs, htk⟩
  · omega
  injection hvv with e1 e2 e3
  subst e1 e3
  clear e2
  obtain ⟨i0, hi, hz0, hz1, hz2⟩ := info_parts infoIns
  have hrg : rowAt W g cur.toList.toArray 31 := by rw [Array.toArray_toList]; exact hg
  have hcl := hcs
  rw [← Array.length_toList] at hcl
  have hAl : (icells (ws.take k)).length = k * 4 := by rw [icells_len]; simp; omega
  have hTl : (icells (ws.drop k)).length = (ws.length - k) * 4 := by rw [icells_len]; simp
  have hMl := icells_len ms
  have hA : cur.toList.take (k * 4) = icells (ws.take k) := by
    rw [← icells_take, ← htk, List.take_take, Nat.min_eq_left (by omega)]
  have hAs : ∀ j v, (icells (ws.take k))[j]? = some v → W.cell? ⟨g, j, none⟩ = some v := fun j v h => by
    have hj := (List.getElem?_eq_some_iff.1 h).1
    rw [← hA, List.getElem?_take_of_lt (by omega)] at h
    rw [hrg.cell, ← h]
    simp
  have hTs : ∀ j v, (icells (ws.drop k))[j]? = some v → cur.toList[k * 4 + j]? = some v := fun j v h => by
    have hj := (List.getElem?_eq_some_iff.1 h).1
    rw [← icells_drop ws k (by omega), ← htk, List.getElem?_drop, List.getElem?_take_of_lt (by omega)] at h
    exact h
  have hold : (Builtin.firstCells i0.size k (.slice (some ⟨g, 0, none⟩) k c)).run Tryz.prog W.drew = .ok (icells (ws.take k)).toArray W.drew := by
    rw [hz1]
    exact run_firstCells_some W.drew 4 k ⟨g, 0, none⟩ k c (icells (ws.take k)) hAl (fun j v h => by rw [add_at]; exact hAs j v h)
  have happ := fun ty => Lib.run_append_grow_zeros (P := Tryz.prog) W 22 3 ty 31 i0 _ .i64 .i64 Tryz.underlying22 Tryz.underlying3 hi hz0 (some ⟨g, 0, none⟩) k c (icells (ws.take k)) hold (ws.length + ms.length - k) (by omega) (by rw [hz1]; decide) (by omega) (by omega) (by rw [hz2]; omega) (by rw [hz2, show k + (ws.length + ms.length - k) = ws.length + ms.length by omega]; exact growslice_fits hroom (by omega))
  rw [show k + (ws.length + ms.length - k) = ws.length + ms.length by omega, show ((ws.length + ms.length - k : Nat) : Int) = (ws.length : Int) + (ms.length : Int) - (k : Int) by omega] at happ
  have hge := grownCap_ge W (ws.length + ms.length) c 31
  have hle := grownCap_le_maxLen W (ws.length + ms.length) c 31 (by unfold maxLen; omega)
  generalize grownCap W (ws.length + ms.length) c 31 = G at happ hge hle
  have hG63 : G ≤ 9223372036854775807 := by unfold maxLen at hle; omega
  generalize hZ : ((icells (ws.take k)).toArray ++ Builtin.zeroCells (Value.agg #[.int .i64 0, .int .i64 0, .int .i64 0, .int .i64 0]).cells (ws.length + ms.length - k) ++ Builtin.zeroCells (Value.agg #[.int .i64 0, .int .i64 0, .int .i64 0, .int .i64 0]).cells (G - (ws.length + ms.length))) = Z at happ
  have hZs : Z.toList.length = G * 4 := by rw [← hZ]; simp [size_zeroCells, Value.cells, hAl]; omega
  have hZt : Z.toList.take (icells (ws.take k)).length = icells (ws.take k) := by
    rw [← hZ]
    simp only [Array.toList_append, List.append_assoc]
    rw [List.take_left]
  obtain ⟨ZL, hZL⟩ : ∃ ZL, ZL = Z.toList := ⟨_, rfl⟩
  obtain rfl : Z = ZL.toArray := by rw [hZL, Array.toArray_toList]
  rw [← hZL] at hZs hZt
  clear hZ hZL hold hi hz0 hz1 hz2
  obtain ⟨Y1, hY1⟩ : ∃ Y1, Y1 = splice ZL (k * 4) (icells ms) := ⟨_, rfl⟩
  have hY1l : Y1.length = G * 4 := by rw [hY1, length_splice _ _ _ (by omega), hZs]
  obtain ⟨Y2, hY2⟩ : ∃ Y2, Y2 = splice Y1 ((k + ms.length) * 4) (icells (ws.drop k)) := ⟨_, rfl⟩
  have hY2l : Y2.length = G * 4 := by rw [hY2, length_splice _ _ _ (by omega), hY1l]
  have hY2t : Y2.take ((ws.length + ms.length) * 4) = icells (ws.take k) ++ (icells ms ++ icells (ws.drop k)) := by
    have h := splice_two ZL (icells (ws.take k)) (icells (ws.drop k)) (icells ms) hZt (by omega)
    rw [hAl, hMl, hTl, ← hY1, show k * 4 + ms.length * 4 = (k + ms.length) * 4 by omega, ← hY2, show (k + ms.length) * 4 + (ws.length - k) * 4 = (ws.length + ms.length) * 4 by omega] at h
    exact h
  have hglt := hrg.lt
  have hcpA : ∀ (W' : World), rowAt W' W.heap.size ZL.toArray 31 → rowAt W' vb (icells ms).toArray 31 → ∀ ty dc, (Builtin.copy_ #[22, 22] ty #[.slice (some ⟨W.heap.size, k * 4, none⟩) (ws.length + ms.length - k) dc, .slice (some ⟨vb, 0, none⟩) ms.length vc]).run Tryz.prog W' =
      .ok (goInt (ms.length : Int)) (W'.setRow W.heap.size Y1.toArray) := fun W' hW' hv ty dc => by
    rw [hY1]
    refine run_copy4 hW' (by simp only [Nat.min_def]; split <;> omega) hMl (fun j v h => ?_) (by omega) (icells_one _)
    rw [add_at, hv.cell j, ← h]
    simp
  have hcpB : ∀ (W' : World), rowAt W' W.heap.size Y1.toArray 31 → rowAt W' g cur.toList.toArray 31 → ∀ ty dc sc, (Builtin.copy_ #[22, 22] ty #[.slice (some ⟨W.heap.size, (k + ms.length) * 4, none⟩) (ws.length + ms.length - (k + ms.length)) dc, .slice (some ⟨g, k * 4, none⟩) (ws.length - k) sc]).run Tryz.prog W' =
      .ok (goInt ((ws.length - k : Nat) : Int)) (W'.setRow W.heap.size Y2.toArray) := fun W' hW' hv ty dc sc => by
    rw [hY2]
    refine run_copy4 hW' (by simp only [Nat.min_def]; split <;> omega) hTl (fun j v h => ?_) (by omega) (icells_one _)
    rw [show (⟨g, k * 4, none⟩ : Addr).add j = ⟨g, k * 4 + j, none⟩ by unfold Addr.add; split <;> simp_all, hv.cell, ← hTs j v h]
    simp
  have hvlt := hrow.lt
  obtain ⟨CL, hCL⟩ : ∃ CL, CL = cur.toList := ⟨_, rfl⟩
  rw [← hCL] at hrg hcpB
  have ra : rowAt (W.alloc (.cells ZL.toArray 31)).drew W.heap.size ZL.toArray 31 := by (repeat (first | ((with_reducible apply rowAt.new); simp; done) | (with_reducible apply rowAt.drew) | (with_reducible apply rowAt.drewN) | (with_reducible apply rowAt.alloc) | (with_reducible apply rowAt.setRow_same) | ((with_reducible apply rowAt.so); (· (first | (simp; done) | (simp; omega) | omega))) | (with_reducible apply rowAt.set10) | (with_reducible apply rowAt.set8) | (with_reducible apply rowAt.set4) | (with_reducible apply rowAt.set2) | (with_reducible apply rowAt.set) | ((with_reducible apply rowAt.co); (· (first | (simp; done) | (simp; omega) | omega))) | assumption))
  have rb : rowAt (W.alloc (.cells ZL.toArray 31)).drew vb (icells ms).toArray 31 := by (repeat (first | ((with_reducible apply rowAt.new); simp; done) | (with_reducible apply rowAt.drew) | (with_reducible apply rowAt.drewN) | (with_reducible apply rowAt.alloc) | (with_reducible apply rowAt.setRow_same) | ((with_reducible apply rowAt.so); (· (first | (simp; done) | (simp; omega) | omega))) | (with_reducible apply rowAt.set10) | (with_reducible apply rowAt.set8) | (with_reducible apply rowAt.set4) | (with_reducible apply rowAt.set2) | (with_reducible apply rowAt.set) | ((with_reducible apply rowAt.co); (· (first | (simp; done) | (simp; omega) | omega))) | assumption))
  have rc : rowAt (W.alloc (.cells ZL.toArray 31)).drew g CL.toArray 31 := by (repeat (first | ((with_reducible apply rowAt.new); simp; done) | (with_reducible apply rowAt.drew) | (with_reducible apply rowAt.drewN) | (with_reducible apply rowAt.alloc) | (with_reducible apply rowAt.setRow_same) | ((with_reducible apply rowAt.so); (· (first | (simp; done) | (simp; omega) | omega))) | (with_reducible apply rowAt.set10) | (with_reducible apply rowAt.set8) | (with_reducible apply rowAt.set4) | (with_reducible apply rowAt.set2) | (with_reducible apply rowAt.set) | ((with_reducible apply rowAt.co); (· (first | (simp; done) | (simp; omega) | omega))) | assumption))
  have hcpa := hcpA _ ra rb
  have rd : rowAt (((W.alloc (.cells ZL.toArray 31)).drew).setRow W.heap.size Y1.toArray).drew W.heap.size Y1.toArray 31 := by (repeat (first | ((with_reducible apply rowAt.new); simp; done) | (with_reducible apply rowAt.drew) | (with_reducible apply rowAt.drewN) | (with_reducible apply rowAt.alloc) | (with_reducible apply rowAt.setRow_same) | ((with_reducible apply rowAt.so); (· (first | (simp; done) | (simp; omega) | omega))) | (with_reducible apply rowAt.set10) | (with_reducible apply rowAt.set8) | (with_reducible apply rowAt.set4) | (with_reducible apply rowAt.set2) | (with_reducible apply rowAt.set) | ((with_reducible apply rowAt.co); (· (first | (simp; done) | (simp; omega) | omega))) | assumption))
  have re : rowAt (((W.alloc (.cells ZL.toArray 31)).drew).setRow W.heap.size Y1.toArray).drew g CL.toArray 31 := by (repeat (first | ((with_reducible apply rowAt.new); simp; done) | (with_reducible apply rowAt.drew) | (with_reducible apply rowAt.drewN) | (with_reducible apply rowAt.alloc) | (with_reducible apply rowAt.setRow_same) | ((with_reducible apply rowAt.so); (· (first | (simp; done) | (simp; omega) | omega))) | (with_reducible apply rowAt.set10) | (with_reducible apply rowAt.set8) | (with_reducible apply rowAt.set4) | (with_reducible apply rowAt.set2) | (with_reducible apply rowAt.set) | ((with_reducible apply rowAt.co); (· (first | (simp; done) | (simp; omega) | omega))) | assumption))
  have hcpb := hcpB _ rd re
  have hs1 := fun W => slice_tailAt g ws.length c k (by omega) (by omega) (by omega) W
  have hs2 := fun W => slice_headAt g ws.length c k (by omega) (by omega) W
  have hs3 := fun W' => slice_tailAt W.heap.size (ws.length + ms.length) G k (by omega) (by omega) (by omega) W'
  have hs4 := fun W' => slice_tailAt W.heap.size (ws.length + ms.length) G (k + ms.length) (by omega) (by omega) (by omega) W'
  rw [show ((k + ms.length : Nat) : Int) = (k : Int) + (ms.length : Int) by omega] at hs4
  have hm1 : ¬ ((ms.length : Int) = 0) := by omega
  have hk1 : ¬ ((k : Int) = (ws.length : Int)) := by omega
  have hw1 : IntKind.i64.wrap ((k : Int) + (ms.length : Int)) = (k : Int) + (ms.length : Int) := by rw [IntKind.wrap_i64]; omega
  have mixed : Tryz.prog.follows Departure.mixedOrders = true := by kernel_rfl
  have hgt : (c : Int) < (ws.length : Int) + (ms.length : Int) := by omega
  have HX := Lib.hid (show Y2.take ((ws.length + ms.length) * 4) = icells (ws.take k ++ (ms ++ ws.drop k)) by rw [hY2t, icells_app, icells_app])
  have HXL := Lib.hid hY2l
  have HAPP := Lib.hid happ
  have RD := Lib.hid rd
  clear hown hne hY1 hY2 hY2t hY1l hA hTs hAs hAl hTl hg hcs hcl htk hcpA hcpB hCL hY2l ra rb rc rd re happ hZs hZt
  go_enter Tryz.func30, Tryz.ntmps30
  go_wp2_with (first | (at_builtin; refine Lib.wpList_append_run _ rfl _ _ _ _ rfl _ _ rfl rfl _ _ (HAPP.out _) ?_))
  go_region_law_o (fail)
  go_wp2_with fail
  go_ret
  have hlen : (ws.take k ++ (ms ++ ws.drop k)).length = ws.length + ms.length := by simp; omega
  refine ⟨_, rfl, ?_, by (repeat (first | (with_reducible exact Below.refl _ _) | (with_reducible apply Below.drew) | (with_reducible apply bl_drewN) | ((with_reducible apply bl_alloc); (· (first | (simp; done) | (simp; omega) | omega))) | ((with_reducible apply bl_row); (· (first | (simp; done) | (simp; omega) | omega))) | ((with_reducible apply bl_cell); (· (first | (simp; done) | (simp; omega) | omega))) | assumption))⟩
  rw [hlen]
  refine ⟨by rw [icells_len, hlen], .inr ⟨W.heap.size, G, Y2.toArray, rfl, hB, (show rowAt _ W.heap.size Y2.toArray 31 from rowAt.setRow_same RD.out _), hge, hle, by simp [HXL.out], HX.out⟩⟩
end
end Go.Proofs.YtghjjemnegncpaaGreatDoor
