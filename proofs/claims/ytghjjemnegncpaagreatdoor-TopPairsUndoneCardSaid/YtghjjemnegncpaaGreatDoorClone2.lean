/- The walks of slices.Clone of instructions, slices.Equal of equal words; lines joined. -/
import Derived.Test.YtghjjemnegncpaaGreatDoorShow
import Derived.Test.YtghjjemnegncpaaGreatDoorEqual
import Derived.Lib.Join
import Derived.Laws.AppendOwnNone
set_option linter.unusedSimpArgs false
set_option linter.unusedVariables false
set_option linter.unusedSectionVars false
set_option linter.unnecessarySimpa false
namespace Go.Proofs.YtghjjemnegncpaaGreatDoor
open Go.RowKit

/-- Instructions as cells. -/
def icells (ws : List Pl.Ins) : List Value := (ws.map fun i => [.int .i64 i.op, .int .i64 i.a, .int .i64 i.b, .int .i64 i.c]).flatten

theorem icells_cons (i : Pl.Ins) (l : List Pl.Ins) : icells (i :: l) = .int .i64 i.op :: .int .i64 i.a :: .int .i64 i.b :: .int .i64 i.c :: icells l := rfl
theorem icells_len (ws : List Pl.Ins) : (icells ws).length = ws.length * 4 := by
  induction ws with
  | nil => rfl
  | cons i l ih => rw [icells_cons]; simp only [List.length_cons, ih]; omega
theorem icells_app (a b : List Pl.Ins) : icells (a ++ b) = icells a ++ icells b := by simp [icells]

theorem icells_get (ws : List Pl.Ins) : ∀ (k : Nat) (i : Pl.Ins), ws[k]? = some i → (icells ws)[k * 4]? = some (.int .i64 i.op) ∧ (icells ws)[k * 4 + 1]? = some (.int .i64 i.a) ∧ (icells ws)[k * 4 + 2]? = some (.int .i64 i.b) ∧ (icells ws)[k * 4 + 3]? = some (.int .i64 i.c) := by
  induction ws with
  | nil => intro k i h; simp at h
  | cons x l ih =>
    intro k i h
    rw [icells_cons]
    cases k with
    | zero => simp at h; subst h; exact ⟨rfl, rfl, rfl, rfl⟩
    | succ k =>
      obtain ⟨h0, h1, h2, h3⟩ := ih k i (by simpa using h)
      rw [show (k + 1) * 4 = k * 4 + 4 by omega]
      exact ⟨h0, h1, h2, h3⟩

theorem icells_one (ws : List Pl.Ins) : ∀ u ∈ icells ws, u.oneCell' = true := by
  induction ws with
  | nil => intro u hu; cases hu
  | cons i l ih =>
    intro u hu
    rw [icells_cons] at hu
    simp only [List.mem_cons] at hu
    rcases hu with rfl | rfl | rfl | rfl | hu
    · rfl
    · rfl
    · rfl
    · rfl
    · exact ih u hu

/-- The cells of a slice of instructions, one by one. -/
theorem il_cells {w : World} {ad : Addr} {n c : Nat} {ws : List Pl.Ins} (H : Il w (.slice (some ad) n c) ws) : n = ws.length ∧ ∀ j u, (icells ws)[j]? = some u → w.cell? (ad.add j) = some u := by
  obtain ⟨a, c', h, _, hk⟩ := H
  cases h
  refine ⟨rfl, fun j u hj => ?_⟩
  have hjl := (List.getElem?_eq_some_iff.1 hj).1
  rw [icells_len] at hjl
  obtain ⟨i, hi⟩ : ∃ i, ws[j / 4]? = some i := ⟨ws[j / 4]'(by omega), by simp [show j / 4 < ws.length by omega]⟩
  obtain ⟨b, off, he, h0, h1, h2, h3⟩ := hk _ i hi
  cases he
  have hadd : (⟨b, off, none⟩ : Addr).add j = ⟨b, off + j, none⟩ := by unfold Addr.add; split <;> simp_all
  rw [hadd]
  obtain ⟨g0, g1, g2, g3⟩ := icells_get ws _ i hi
  have hr : j % 4 = 0 ∨ j % 4 = 1 ∨ j % 4 = 2 ∨ j % 4 = 3 := by omega
  rcases hr with hr | hr | hr | hr
  · have e : j = j / 4 * 4 := by omega
    rw [e] at hj ⊢
    rw [g0] at hj
    cases hj
    exact h0
  · have e : j = j / 4 * 4 + 1 := by omega
    rw [e] at hj ⊢
    rw [g1] at hj
    cases hj
    exact h1
  · have e : j = j / 4 * 4 + 2 := by omega
    rw [e] at hj ⊢
    rw [g2] at hj
    cases hj
    exact h2
  · have e : j = j / 4 * 4 + 3 := by omega
    rw [e] at hj ⊢
    rw [g3] at hj
    cases hj
    exact h3

theorem owns_il {w : World} {B : Nat} {e : TypeId} {v : Value} {ws : List Pl.Ins} (H : w.ownsRow B e 4 v ws.length (icells ws)) : Il w v ws := by
  rcases H.2 with ⟨hv, hn⟩ | ⟨g, cap, cur, hv, hB, hg, hcap, _, hsz, htk⟩
  · obtain rfl := List.length_eq_zero_iff.1 hn
    exact ⟨none, 0, hv, fun _ => rfl, fun k i hi => by simp at hi⟩
  · refine ⟨some ⟨g, 0, none⟩, cap, hv, fun h => (by cases h), fun k i hi => ⟨g, 0, rfl, ?_⟩⟩
    have hk := (List.getElem?_eq_some_iff.1 hi).1
    have hget : ∀ j, j < ws.length * 4 → cur[j]? = (icells ws)[j]? := fun j hj => by
      rw [← htk, ← Array.getElem?_toList, List.getElem?_take_of_lt (by omega)]
    obtain ⟨g0, g1, g2, g3⟩ := icells_get ws k i hi
    rw [cell_of_row w g _ cur e (0, 0) hg, cell_of_row w g _ cur e (0, 0) hg, cell_of_row w g _ cur e (0, 0) hg, cell_of_row w g _ cur e (0, 0) hg]
    simp only [Nat.zero_add]
    exact ⟨(hget _ (by omega)).trans g0, (hget _ (by omega)).trans g1, (hget _ (by omega)).trans g2, (hget _ (by omega)).trans g3⟩

theorem infoIns : (Tryz.prog.info? 31).map (fun i => (i.zero, i.size, i.bytes)) = some (some (.agg #[.int .i64 0, .int .i64 0, .int .i64 0, .int .i64 0]), 4, 32) := by kernel_rfl

theorem owns_empty4 (w : World) (e : TypeId) : (w.alloc (.cells #[] e)).ownsRow w.heap.size e 4 (.slice (some ⟨w.heap.size, 0, none⟩) 0 0) 0 [] :=
  ⟨rfl, .inr ⟨w.heap.size, 0, #[], rfl, Nat.le_refl _, heap_alloc_new w _, Nat.le_refl _, Nat.zero_le _, rfl, rfl⟩⟩

set_option maxHeartbeats 800000 in
set_option maxRecDepth 100000 in
theorem Clone_ins (ws : List Pl.Ins) (v : Value) (w : World) (H : Il w v ws) (hl : ws.length ≤ 1000) :
    Calls Tryz.prog 40 #[v] w fun e w' => ∃ v', e = .returned v' ∧ w'.ownsRow w.heap.size 31 4 v' ws.length (icells ws) ∧ Below w.heap.size w w' := by
  have H0 := H
  obtain ⟨a, c, rfl, hn, hk⟩ := H
  obtain ⟨i0, hi, hz0, hz1, hz2⟩ := info_parts infoIns
  cases a with
  | none =>
    have hD : ws = [] := by
      cases ws with
      | nil => rfl
      | cons x l => obtain ⟨b, off, h, _⟩ := hk 0 x rfl; cases h
    subst hD
    obtain rfl := hn rfl
    clear hk hn H0
    have he := run_eql_nil w 22 31 none 0 0 Tryz.underlying22
    simp only [Option.isNone_none] at he
    go_enter Tryz.func40, Tryz.ntmps40
    go_wp2
    go_ret
    exact ⟨_, rfl, World.ownsRow_nil _ _ _ _, Below.refl _ _⟩
  | some ad =>
    have hk2 := Lib.hid (il_cells H0).2
    have hil := icells_len ws
    clear hk hn H0
    have he := run_eql_nil w 22 31 (some ad) ws.length c Tryz.underlying22
    simp only [Option.isNone_some] at he
    go_enter Tryz.func40, Tryz.ntmps40
    go_wp2_with (first | (at_builtin; refine wpList_append_own _ rfl _ _ 22 rfl w.heap.size 31 i0 (.agg #[.int .i64 0, .int .i64 0, .int .i64 0, .int .i64 0]) 4 32 Tryz.underlying22 hi hz0 hz1 hz2 rfl (by decide) _ 0 [] rfl (owns_empty4 _ _) ad ws.length c (icells ws) rfl hil (fun j u h => cell_kept (fun k hk => Below.heap_alloc _ _ k hk) (hk2.out j u h)) (icells_one _) (by unfold maxLen; omega) (by omega) (by simp) ?_))
    intro v' w1 hown hgrow _
    have hb : Below w.heap.size w w1 := (show Below w.heap.size w (w.alloc (Obj.cells #[] 31)) from by (repeat (first | (with_reducible exact Below.refl _ _) | (with_reducible apply Below.drew) | (with_reducible apply bl_drewN) | ((with_reducible apply bl_alloc); (· (first | (simp; done) | (simp; omega) | omega))) | ((with_reducible apply bl_row); (· (first | (simp; done) | (simp; omega) | omega))) | ((with_reducible apply bl_cell); (· (first | (simp; done) | (simp; omega) | omega))) | assumption))).trans (below_grown hgrow (Nat.le_refl _) (by simp))
    have HO := Lib.hid hown
    clear hown hgrow
    go_wp2
    go_ret
    exact ⟨_, rfl, by simpa using HO.out, hb⟩

/-! ### Lines joined -/
theorem join_joinN : ∀ (L : List (List UInt8)), Lib.join L [10] = Pl.joinN L
  | [] => rfl
  | [l] => Lib.join_one l [10]
  | l :: x :: r => by
    have ih := join_joinN (x :: r)
    rw [Lib.join_cons] at ih ⊢
    rw [Pl.joinN_cons, ← ih]
    simp [Lib.joinTail]

theorem flds_size (i : Pl.Ins) (hv : Pl.valid i) : ((Pl.flds i).map fun f => 32 :: f).flatten.length ≤ 14 := by
  have hc := Pl.itoa_len i.c (by have := hv.2.2.2.2.2.2.1; omega) (by have := hv.2.2.2.2.2.2.2.1; omega)
  unfold Pl.flds
  split <;> split <;> split <;> simp [Pl.rgB] <;> omega
theorem showL_len (i : Pl.Ins) (hv : Pl.valid i) : (Pl.showL i).length ≤ 20 := by
  have h1 := (Pl.nm_facts i.op hv.1 hv.2.1).2.2
  have h2 := flds_size i hv
  unfold Pl.showL
  rw [List.length_append]
  omega
theorem joinN_len : ∀ (L : List (List UInt8)), (∀ l ∈ L, l.length ≤ 20) → (Pl.joinN L).length ≤ 21 * L.length
  | [], _ => by simp [Pl.joinN]
  | [l], h => by have := h l (by simp); simp [Pl.joinN]; omega
  | l :: x :: r, h => by
    have ih := joinN_len (x :: r) fun y hy => h y (by simp [hy])
    have := h l (by simp)
    rw [Pl.joinN_cons]
    simp only [List.length_append, List.length_cons] at ih ⊢
    omega

/-- The line of an instruction, as the reader takes it. -/
theorem show_line (i : Pl.Ins) (hv : Pl.valid i) : LineOf (Pl.showL i) [i] := by
  have ht := Pl.tx_showL i hv
  exact .instr i hv (fun b hb => (ht.bytes b hb).1) (by have := showL_len i hv; omega) (Pl.cut_absent _ fun b hb e => (ht.bytes b hb).2 (by rw [e]; rfl)) ht
theorem show_nl (i : Pl.Ins) (hv : Pl.valid i) : ∀ b ∈ Pl.showL i, b ≠ 10 := by
  intro b hb e
  have := ((Pl.tx_showL i hv).bytes b hb).1
  rw [e] at this
  exact absurd this (by decide)

/-- Read, of the lines of instructions. -/
theorem Read_shown {w : World} {ws : List Pl.Ins} (hE : Env w) (hne : ws ≠ []) (hv : ∀ i ∈ ws, Pl.valid i) (hl : ws.length ≤ 128) (hs : (Pl.joinN (ws.map Pl.showL)).length ≤ 2000) :
    Calls Tryz.prog 37 #[str (Pl.joinN (ws.map Pl.showL))] w fun e w' => ReadIs w.heap.size ws e w' ∧ Below w.heap.size w w' := by
  have hflat : (ws.map fun i => [i]).flatten = ws := by
    clear hE hne hv hl hs
    induction ws with
    | nil => rfl
    | cons i l ih => simp [ih]
  have h := Read_ok (w := w) (L := ws.map Pl.showL) (Is := ws.map fun i => [i]) hE (by simpa using hne) (by simp) (fun l hl => by
    obtain ⟨i, hi, rfl⟩ := List.mem_map.1 hl
    exact show_nl i (hv i hi)) (fun k s is h1 h2 => by
    rw [List.getElem?_map] at h1 h2
    cases hk : ws[k]? with
    | none => rw [hk] at h1; cases h1
    | some i =>
      rw [hk] at h1 h2
      cases h1; cases h2
      exact show_line i (hv i (List.mem_of_getElem? hk))) (by rw [hflat]; exact hl) hs
  rw [hflat] at h
  exact h
end Go.Proofs.YtghjjemnegncpaaGreatDoor
