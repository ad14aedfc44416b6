/- The walks of TopLinesSwapped. -/
import Derived.Test.YtghjjemnegncpaaGreatDoorTouches
set_option linter.unusedSimpArgs false
set_option linter.unusedVariables false
set_option linter.unusedSectionVars false
set_option linter.unnecessarySimpa false
namespace Go.Proofs.YtghjjemnegncpaaGreatDoor
open Go.RowKit

theorem touches_len (i : Pl.Ins) (hf : Pl.flat i) : (Pl.touches i).1.length ≤ 2 := by
  obtain ⟨op, a, b, c⟩ := i
  rcases Pl.flat_ops hf with rfl | rfl | rfl | h5 | rfl | rfl | rfl | rfl | rfl | rfl
  · exact Nat.zero_le _
  · exact Nat.le_succ _
  · exact Nat.le_succ _
  · rw [Pl.touches_mid h5]; exact Nat.le_refl _
  · exact Nat.le_succ _
  · exact Nat.le_succ _
  · exact Nat.le_succ _
  · exact Nat.le_refl _
  · exact Nat.le_refl _
  · exact Nat.le_refl _

theorem touches_as {i : Pl.Ins} {A : List Int} {x : Int} {m : Bool} (h : Pl.touches i = (A, x, m)) (hf : Pl.flat i) (W : World) : Calls Tryz.prog 15 #[.agg #[.int .i64 i.op, .int .i64 i.a, .int .i64 i.b, .int .i64 i.c]] W fun e w' =>
    (∃ v, e = .returned (.tuple #[v, .int .i64 x, .bool m]) ∧ Nums w' v A) ∧ Below W.heap.size W w' := by
  have hc := touches_is i hf W
  unfold TouchSays at hc
  rw [h] at hc
  exact hc

theorem contains_yes {w : World} {v : Value} {xs : List Int} {x : Int} (h : x ∈ xs) (H : Nums w v xs) (hl : xs.length ≤ 2) : Calls Tryz.prog 16 #[v, .int .i64 x] w fun e w' => e = .returned (.bool true) ∧ Below w.heap.size w w' := by
  have hc := Contains_is x H (by omega)
  rw [decide_eq_true h] at hc
  exact hc
theorem contains_no {w : World} {v : Value} {xs : List Int} {x : Int} (h : x ∉ xs) (H : Nums w v xs) (hl : xs.length ≤ 2) : Calls Tryz.prog 16 #[v, .int .i64 x] w fun e w' => e = .returned (.bool false) ∧ Below w.heap.size w w' := by
  have hc := Contains_is x H (by omega)
  rw [decide_eq_false h] at hc
  exact hc

instance (i j : Pl.Ins) : Decidable (Pl.apart i j) := by unfold Pl.apart; infer_instance

theorem apart_iff {i j : Pl.Ins} {A B : List Int} {x y : Int} {m n : Bool} (hi : Pl.touches i = (A, x, m)) (hj : Pl.touches j = (B, y, n)) :
    Pl.apart i j ↔ ¬ (m = true ∧ n = true) ∧ (0 ≤ x → x ≠ y ∧ x ∉ B) ∧ (0 ≤ y → y ∉ A) := by
  unfold Pl.apart
  rw [hi, hj]

def swapAt (ws : List Pl.Ins) (j : Nat) : Bool := match ws[j]?, ws[j + 1]? with
  | some i, some i' => decide (Pl.apart i i')
  | _, _ => false
/-- The places where a line and its next may be swapped. -/
def swaps (ws : List Pl.Ins) (k : Nat) : List Nat := (List.range k).filter (swapAt ws)

theorem swaps_yes {ws : List Pl.Ins} {k : Nat} {i i' : Pl.Ins} (h : ws[k]? = some i) (h' : ws[k + 1]? = some i') (ha : Pl.apart i i') : swaps ws (k + 1) = swaps ws k ++ [k] := by
  unfold swaps
  rw [List.range_succ, List.filter_append]
  simp [swapAt, h, h', ha]
theorem swaps_no {ws : List Pl.Ins} {k : Nat} {i i' : Pl.Ins} (h : ws[k]? = some i) (h' : ws[k + 1]? = some i') (ha : ¬ Pl.apart i i') : swaps ws (k + 1) = swaps ws k := by
  unfold swaps
  rw [List.range_succ, List.filter_append]
  simp [swapAt, h, h', ha]
theorem swaps_len (ws : List Pl.Ins) (k : Nat) : (swaps ws k).length ≤ k := by
  have := List.length_filter_le (swapAt ws) (List.range k)
  simpa [swaps] using this
theorem swaps_mem {ws : List Pl.Ins} {k j : Nat} (h : j ∈ swaps ws k) : j < k ∧ ∃ i i', ws[j]? = some i ∧ ws[j + 1]? = some i' ∧ Pl.apart i i' := by
  obtain ⟨h1, h2⟩ := List.mem_filter.1 h
  refine ⟨by simpa using h1, ?_⟩
  unfold swapAt at h2
  cases hi : ws[j]? with
  | none => rw [hi] at h2; cases h2
  | some i =>
    rw [hi] at h2
    cases hi' : ws[j + 1]? with
    | none => rw [hi'] at h2; cases h2
    | some i' =>
      rw [hi'] at h2
      exact ⟨i, i', rfl, rfl, of_decide_eq_true h2⟩

theorem split_two {α : Type} (ws : List α) (j : Nat) (i i' : α) (h : ws[j]? = some i) (h' : ws[j + 1]? = some i') : ws = ws.take j ++ i :: i' :: ws.drop (j + 2) := by
  obtain ⟨hj, rfl⟩ := List.getElem?_eq_some_iff.1 h
  obtain ⟨hj', rfl⟩ := List.getElem?_eq_some_iff.1 h'
  simp

theorem set8 (A C : List Value) (x0 x1 x2 x3 x4 x5 x6 x7 y0 y1 y2 y3 y4 y5 y6 y7 : Value) : ∀ (n : Nat), A.length = n →
    ((((((((A ++ x0 :: x1 :: x2 :: x3 :: x4 :: x5 :: x6 :: x7 :: C).set n y0).set (n + 1) y1).set (n + 2) y2).set (n + 3) y3).set (n + 4) y4).set (n + 5) y5).set (n + 6) y6).set (n + 7) y7 = A ++ y0 :: y1 :: y2 :: y3 :: y4 :: y5 :: y6 :: y7 :: C := by
  induction A with
  | nil => intro n hn; subst hn; rfl
  | cons a l ih =>
    intro n hn
    obtain ⟨m, rfl⟩ : ∃ m, n = m + 1 := ⟨l.length, by simpa using hn.symm⟩
    have h := ih m (by simpa using hn)
    simp only [List.cons_append]
    rw [show m + 1 + 1 = (m + 1) + 1 from rfl, show m + 1 + 2 = (m + 2) + 1 from rfl, show m + 1 + 3 = (m + 3) + 1 from rfl, show m + 1 + 4 = (m + 4) + 1 from rfl, show m + 1 + 5 = (m + 5) + 1 from rfl, show m + 1 + 6 = (m + 6) + 1 from rfl, show m + 1 + 7 = (m + 7) + 1 from rfl]
    simp only [List.set_cons_succ]
    rw [h]

theorem own_drew {w : World} {B : Nat} {e : TypeId} {s : Nat} {v : Value} {n : Nat} {xs : List Value} (H : w.ownsRow B e s v n xs) : w.drew.ownsRow B e s v n xs := owns_kept H fun k hk => rfl

set_option maxHeartbeats 1600000 in
theorem swap_end {w : World} {g cap j B : Nat} {ws : List Pl.Ins} {i i' : Pl.Ins} (H : w.ownsRow B 31 4 (.slice (some ⟨g, 0, none⟩) ws.length cap) ws.length (icells ws)) (h : ws = ws.take j ++ i :: i' :: ws.drop (j + 2)) (hj : j + 1 < ws.length) :
    ((((((((w.setCell ⟨g, j * 4, none⟩ (.int .i64 i'.op)).setCell ⟨g, j * 4 + 1, none⟩ (.int .i64 i'.a)).setCell ⟨g, j * 4 + 2, none⟩ (.int .i64 i'.b)).setCell ⟨g, j * 4 + 3, none⟩ (.int .i64 i'.c)).setCell ⟨g, (j + 1) * 4, none⟩ (.int .i64 i.op)).setCell ⟨g, (j + 1) * 4 + 1, none⟩ (.int .i64 i.a)).setCell ⟨g, (j + 1) * 4 + 2, none⟩ (.int .i64 i.b)).setCell ⟨g, (j + 1) * 4 + 3, none⟩ (.int .i64 i.c)).drew.ownsRow B 31 4 (.slice (some ⟨g, 0, none⟩) ws.length cap) (ws.take j ++ i' :: i :: ws.drop (j + 2)).length (icells (ws.take j ++ i' :: i :: ws.drop (j + 2))) := by
  have hl : (ws.take j ++ i' :: i :: ws.drop (j + 2)).length = ws.length := by simp; omega
  have hA : (icells (ws.take j)).length = j * 4 := by rw [icells_len]; simp; omega
  have s1 := (H.stored (j * 4) (.int .i64 i'.op)).1
  have s2 := (s1.stored (j * 4 + 1) (.int .i64 i'.a)).1
  have s3 := (s2.stored (j * 4 + 2) (.int .i64 i'.b)).1
  have s4 := (s3.stored (j * 4 + 3) (.int .i64 i'.c)).1
  have s5 := (s4.stored ((j + 1) * 4) (.int .i64 i.op)).1
  have s6 := (s5.stored ((j + 1) * 4 + 1) (.int .i64 i.a)).1
  have s7 := (s6.stored ((j + 1) * 4 + 2) (.int .i64 i.b)).1
  have hs := (s7.stored ((j + 1) * 4 + 3) (.int .i64 i.c)).1
  clear s1 s2 s3 s4 s5 s6 s7 H
  have he : icells ws = icells (ws.take j) ++ .int .i64 i.op :: .int .i64 i.a :: .int .i64 i.b :: .int .i64 i.c :: .int .i64 i'.op :: .int .i64 i'.a :: .int .i64 i'.b :: .int .i64 i'.c :: icells (ws.drop (j + 2)) := by
    conv => lhs; rw [h]
    rw [icells_app, icells_cons, icells_cons]
  have h8 := set8 (icells (ws.take j)) (icells (ws.drop (j + 2))) (.int .i64 i.op) (.int .i64 i.a) (.int .i64 i.b) (.int .i64 i.c) (.int .i64 i'.op) (.int .i64 i'.a) (.int .i64 i'.b) (.int .i64 i'.c) (.int .i64 i'.op) (.int .i64 i'.a) (.int .i64 i'.b) (.int .i64 i'.c) (.int .i64 i.op) (.int .i64 i.a) (.int .i64 i.b) (.int .i64 i.c) (j * 4) hA
  rw [← he] at h8
  rw [show j * 4 + 5 = (j + 1) * 4 + 1 by omega, show j * 4 + 6 = (j + 1) * 4 + 2 by omega, show j * 4 + 7 = (j + 1) * 4 + 3 by omega, show j * 4 + 4 = (j + 1) * 4 by omega] at h8
  rw [h8] at hs
  have hn : icells (ws.take j ++ i' :: i :: ws.drop (j + 2)) = icells (ws.take j) ++ .int .i64 i'.op :: .int .i64 i'.a :: .int .i64 i'.b :: .int .i64 i'.c :: .int .i64 i.op :: .int .i64 i.a :: .int .i64 i.b :: .int .i64 i.c :: icells (ws.drop (j + 2)) := by
    rw [icells_app, icells_cons, icells_cons]
  rw [hl, hn]
  exact own_drew hs

theorem ent_swap (args : Array Value) (W : World) : (callFunc 14 args).run Tryz.prog W = .ok (.enter 14 args) W := enters Tryz.func14 (by kernel_rfl) rfl args W

set_option maxHeartbeats 12800000 in
set_option maxRecDepth 100000 in
theorem swap_change {w : World} {ws : List Pl.Ins} {gw : Nat} {which : Int} (hi64 : i64 which) (hwh : w.cell? ⟨gw, 0, none⟩ = some (.int .i64 which)) :
    ChangeOk w ws 14 #[.pointer (some ⟨gw, 0, none⟩)] := by
  intro hv h60 hf W B v hB hBW hbel hown
  have hwlt := World.block_lt_of_cell? w _ hwh
  dsimp only at hwlt
  have hwW := (hbel.cell (p := ⟨gw, 0, none⟩) hwlt).trans hwh
  have hwlW : gw < W.heap.size := by omega
  have hil := owns_il hown
  obtain ⟨va, vc, rfl⟩ := owns_form hown
  have hcap := owns_cap4 hown
  have HV := Lib.hid hv
  have HF := Lib.hid hf
  have HOW := Lib.hid hown
  have HK := Lib.hid (il_at hil)
  have HPl := Lib.hid (swaps_len ws)
  have hp0 : swaps ws 0 = [] := rfl
  clear hown hil hv hf hbel hwh
  rw [show (#[Value.slice va ws.length vc] ++ #[Value.pointer (some ⟨gw, 0, none⟩)] : Array Value) = #[.slice va ws.length vc, .pointer (some ⟨gw, 0, none⟩)] from rfl]
  obtain ⟨i0, hi, hz0, hz1, hz2⟩ := info_parts infoInt
  go_enter Tryz.func14, Tryz.ntmps14
  go_wp2_with fail
  go_loopw [16, 4] (fun t s wr => ∃ k : Nat, k ≤ ws.length - 1 ∧ t = .int .i64 k ∧ wr.ownsRow W.heap.size 3 1 s (swaps ws k).length (nats (swaps ws k)) ∧ Below W.heap.size W wr) (fun t _ _ => ws.length - (intOf t).toNat)
  case atStart => exact ⟨0, Nat.zero_le _, rfl, by rw [hp0]; exact World.ownsRow_nil _ _ _ _, Below.refl _ _⟩
  case round =>
    obtain ⟨k, hk, rfl, hown, hbel⟩ := hrel
    have hwr := (hbel.cell (p := ⟨gw, 0, none⟩) hwlW).trans hwW
    have hsz := hbel.size
    have hwlr : gw < wr.heap.size := by omega
    by_cases hlt : k + 1 < ws.length
    · obtain ⟨i, hik⟩ : ∃ i, ws[k]? = some i := ⟨ws[k], by simp [show k < ws.length by omega]⟩
      obtain ⟨i', hik'⟩ : ∃ i, ws[k + 1]? = some i := ⟨ws[k + 1], by simp [hlt]⟩
      obtain ⟨b, off, rfl, h0, h1, h2, h3⟩ := HK.out k i hik
      obtain ⟨b', off', hbo, h0', h1', h2', h3'⟩ := HK.out (k + 1) i' hik'
      injection hbo with hbo
      injection hbo with e1 e2
      subst e1 e2
      have q0 := (hbel.cell (p := ⟨b, off + k * 4, none⟩) (World.block_lt_of_cell? W _ h0)).trans h0
      have q1 := (hbel.cell (p := ⟨b, off + k * 4 + 1, none⟩) (World.block_lt_of_cell? W _ h1)).trans h1
      have q2 := (hbel.cell (p := ⟨b, off + k * 4 + 2, none⟩) (World.block_lt_of_cell? W _ h2)).trans h2
      have q3 := (hbel.cell (p := ⟨b, off + k * 4 + 3, none⟩) (World.block_lt_of_cell? W _ h3)).trans h3
      have p0 := (hbel.cell (p := ⟨b, off + (k + 1) * 4, none⟩) (World.block_lt_of_cell? W _ h0')).trans h0'
      have p1 := (hbel.cell (p := ⟨b, off + (k + 1) * 4 + 1, none⟩) (World.block_lt_of_cell? W _ h1')).trans h1'
      have p2 := (hbel.cell (p := ⟨b, off + (k + 1) * 4 + 2, none⟩) (World.block_lt_of_cell? W _ h2')).trans h2'
      have p3 := (hbel.cell (p := ⟨b, off + (k + 1) * 4 + 3, none⟩) (World.block_lt_of_cell? W _ h3')).trans h3'
      have hbl := World.block_lt_of_cell? wr _ p0
      dsimp only at hbl
      have hfi := HF.out i (List.mem_of_getElem? hik)
      have hfi' := HF.out i' (List.mem_of_getElem? hik')
      have hla := touches_len i hfi
      have hlb := touches_len i' hfi'
      obtain ⟨A, x, m, hTi⟩ : ∃ A x m, Pl.touches i = (A, x, m) := ⟨_, _, _, rfl⟩
      obtain ⟨D, y, n, hTj⟩ : ∃ A x m, Pl.touches i' = (A, x, m) := ⟨_, _, _, rfl⟩
      rw [hTi] at hla
      rw [hTj] at hlb
      dsimp only at hla hlb
      have T1 := Lib.hid (touches_as hTi hfi)
      have T2 := Lib.hid (touches_as hTj hfi')
      have HAP := Lib.hid (apart_iff hTi hTj)
      have HY := Lib.hid (swaps_yes hik hik')
      have HN := Lib.hid (swaps_no hik hik')
      have hpl := HPl.out k
      have HO := Lib.hid hown
      have HBl := Lib.hid hbel
      clear hown hbel h0 h1 h2 h3 h0' h1' h2' h3' hfi hfi' hTi hTj hik hik'
      go_wp2_with fail
      refine (T1.out _).mono ?_
      rintro e w1 ⟨⟨v1, rfl, hn1⟩, hb1⟩
      have r0 := (hb1.cell (p := ⟨b, off + (k + 1) * 4, none⟩) hbl).trans p0
      have r1 := (hb1.cell (p := ⟨b, off + (k + 1) * 4 + 1, none⟩) hbl).trans p1
      have r2 := (hb1.cell (p := ⟨b, off + (k + 1) * 4 + 2, none⟩) hbl).trans p2
      have r3 := (hb1.cell (p := ⟨b, off + (k + 1) * 4 + 3, none⟩) hbl).trans p3
      have hbl1 : b < w1.heap.size := by have := hb1.size; omega
      have HB1 := Lib.hid hb1
      have HN1 := Lib.hid hn1
      clear hb1 hn1 q0 q1 q2 q3 p0 p1 p2 p3 T1
      go_wp2_with fail
      refine (T2.out _).mono ?_
      rintro e w2 ⟨⟨v2, rfl, hn2⟩, hb2⟩
      have NA := Lib.hid (HN1.out.kept (Below.block hb2))
      have NB := Lib.hid hn2
      have hr2' : Below wr.heap.size wr w2 := HB1.out.trans (hb2.mono HB1.out.size)
      have R2 := Lib.hid hr2'
      have hs2 := hr2'.size
      clear hb2 hn2 hr2' r0 r1 r2 r3 T2 HB1 HN1
      cases m with
      | false =>
        by_cases hx : 0 ≤ x
        · have HXN := Lib.hid hx
          by_cases hxy : x = y
          · have HXY := Lib.hid hxy
            have hxy' : (x == y) = true := by simpa using hxy
            clear hxy
            have hna := HN.out fun h => (((HAP.out).1 h).2.1 HXN.out).1 HXY.out
            have HO1 := Lib.hid (hna ▸ owns_kept HO.out (Below.block R2.out))
            have HBX := Lib.hid (HBl.out.trans (R2.out.mono hsz))
            clear hna HO
            go_wp2_with fail
            exact ⟨⟨k + 1, by omega, by go_num, HO1.out, HBX.out⟩, by simp [intOf]; omega⟩
          · have HXY := Lib.hid hxy
            have hxy' : (x == y) = false := by simpa using hxy
            clear hxy
            by_cases hxB : x ∈ D
            · have HC1 := Lib.hid (contains_yes hxB NB.out hlb)
              have HXB := Lib.hid hxB
              clear hxB
              go_wp2_with fail
              refine HC1.out.mono ?_
              rintro e w3 ⟨rfl, hb3⟩
              have RX := Lib.hid hb3
              have R3 := Lib.hid (R2.out.trans (hb3.mono hs2))
              clear hb3
              have hna := HN.out fun h => (((HAP.out).1 h).2.1 HXN.out).2 HXB.out
              have HO1 := Lib.hid (hna ▸ owns_kept HO.out (Below.block R3.out))
              have HBX := Lib.hid (HBl.out.trans (R3.out.mono hsz))
              clear hna HO
              go_wp2_with fail
              exact ⟨⟨k + 1, by omega, by go_num, HO1.out, HBX.out⟩, by simp [intOf]; omega⟩
            · have HC1 := Lib.hid (contains_no hxB NB.out hlb)
              have HXB := Lib.hid hxB
              clear hxB
              go_wp2_with fail
              refine HC1.out.mono ?_
              rintro e w3 ⟨rfl, hb3⟩
              have RX := Lib.hid hb3
              have R3 := Lib.hid (R2.out.trans (hb3.mono hs2))
              clear hb3
              by_cases hy : 0 ≤ y
              · by_cases hyA : y ∈ A
                · have HC2 := Lib.hid (contains_yes hyA (NA.out.kept (Below.block RX.out)) hla)
                  have HYN := Lib.hid hy
                  have HYA := Lib.hid hyA
                  go_wp2_with fail
                  refine HC2.out.mono ?_
                  rintro e w4 ⟨rfl, hb4⟩
                  have R4 := Lib.hid (R3.out.trans (hb4.mono R3.out.size))
                  clear hb4
                  have hna := HN.out fun h => (((HAP.out).1 h).2.2 HYN.out) HYA.out
                  have HO1 := Lib.hid (hna ▸ owns_kept HO.out (Below.block R4.out))
                  have HBX := Lib.hid (HBl.out.trans (R4.out.mono hsz))
                  clear hna HO
                  go_wp2_with fail
                  exact ⟨⟨k + 1, by omega, by go_num, HO1.out, HBX.out⟩, by simp [intOf]; omega⟩
                · have HC2 := Lib.hid (contains_no hyA (NA.out.kept (Below.block RX.out)) hla)
                  have HYN := Lib.hid hy
                  have HYA := Lib.hid hyA
                  go_wp2_with fail
                  refine HC2.out.mono ?_
                  rintro e w4 ⟨rfl, hb4⟩
                  have R4 := Lib.hid (R3.out.trans (hb4.mono R3.out.size))
                  clear hb4
                  have hya := HY.out ((HAP.out).2 ⟨(by simp), fun _ => ⟨HXY.out, HXB.out⟩, fun _ => HYA.out⟩)
                  have HP := Lib.hid hya
                  have HO1 := Lib.hid (owns_kept (owns_kept HO.out (Below.block R4.out)) (w' := w4.alloc (.cells #[.int .i64 (k : Int)] 3)) fun k hk => Below.heap_alloc _ _ k hk)
                  have hsx := R4.out.size
                  have HBX := Lib.hid ((HBl.out.trans (R4.out.mono hsz)).alloc (o := .cells #[.int .i64 (k : Int)] 3) (by omega))
                  clear hya HO
                  go_wp2_with (first | (at_builtin; refine wpList_append_own _ rfl _ _ 27 rfl W.heap.size 3 i0 (.int .i64 0) 1 8 Tryz.underlying27 hi hz0 hz1 hz2 rfl (by decide) _ (swaps ws k).length _ rfl HO1.out ⟨w4.heap.size, 0, none⟩ 1 1 [.int .i64 (k : Int)] rfl rfl (one_cell _ _ _) (one_one _ _) (by unfold maxLen; omega) (by omega) (by simp; omega) ?_))
                  intro v' wz hownz hgrow _
                  have hb3 := HBX.out.trans (below_own HO1.out hgrow (by simp; omega))
                  rw [← nats_app, ← HP.out] at hownz
                  rw [show (swaps ws k).length + 1 = (swaps ws (k + 1)).length by rw [HP.out]; simp] at hownz
                  have HO2 := Lib.hid hownz
                  have HB3 := Lib.hid hb3
                  clear hownz hgrow hb3 HO1 HBX
                  go_wp2_with fail
                  exact ⟨⟨k + 1, by omega, by go_num, HO2.out, HB3.out⟩, by simp [intOf]; omega⟩
              · have HYN := Lib.hid hy
                have hya := HY.out ((HAP.out).2 ⟨(by simp), fun _ => ⟨HXY.out, HXB.out⟩, fun h => absurd h (by have := HYN.out; omega)⟩)
                have HP := Lib.hid hya
                have HO1 := Lib.hid (owns_kept (owns_kept HO.out (Below.block R3.out)) (w' := w3.alloc (.cells #[.int .i64 (k : Int)] 3)) fun k hk => Below.heap_alloc _ _ k hk)
                have hsx := R3.out.size
                have HBX := Lib.hid ((HBl.out.trans (R3.out.mono hsz)).alloc (o := .cells #[.int .i64 (k : Int)] 3) (by omega))
                clear hya HO
                go_wp2_with (first | (at_builtin; refine wpList_append_own _ rfl _ _ 27 rfl W.heap.size 3 i0 (.int .i64 0) 1 8 Tryz.underlying27 hi hz0 hz1 hz2 rfl (by decide) _ (swaps ws k).length _ rfl HO1.out ⟨w3.heap.size, 0, none⟩ 1 1 [.int .i64 (k : Int)] rfl rfl (one_cell _ _ _) (one_one _ _) (by unfold maxLen; omega) (by omega) (by simp; omega) ?_))
                intro v' wz hownz hgrow _
                have hb3 := HBX.out.trans (below_own HO1.out hgrow (by simp; omega))
                rw [← nats_app, ← HP.out] at hownz
                rw [show (swaps ws k).length + 1 = (swaps ws (k + 1)).length by rw [HP.out]; simp] at hownz
                have HO2 := Lib.hid hownz
                have HB3 := Lib.hid hb3
                clear hownz hgrow hb3 HO1 HBX
                go_wp2_with fail
                exact ⟨⟨k + 1, by omega, by go_num, HO2.out, HB3.out⟩, by simp [intOf]; omega⟩
        · have HXN := Lib.hid hx
          by_cases hy : 0 ≤ y
          · by_cases hyA : y ∈ A
            · have HC2 := Lib.hid (contains_yes hyA NA.out hla)
              have HYN := Lib.hid hy
              have HYA := Lib.hid hyA
              go_wp2_with fail
              refine HC2.out.mono ?_
              rintro e w4 ⟨rfl, hb4⟩
              have R4 := Lib.hid (R2.out.trans (hb4.mono R2.out.size))
              clear hb4
              have hna := HN.out fun h => (((HAP.out).1 h).2.2 HYN.out) HYA.out
              have HO1 := Lib.hid (hna ▸ owns_kept HO.out (Below.block R4.out))
              have HBX := Lib.hid (HBl.out.trans (R4.out.mono hsz))
              clear hna HO
              go_wp2_with fail
              exact ⟨⟨k + 1, by omega, by go_num, HO1.out, HBX.out⟩, by simp [intOf]; omega⟩
            · have HC2 := Lib.hid (contains_no hyA NA.out hla)
              have HYN := Lib.hid hy
              have HYA := Lib.hid hyA
              go_wp2_with fail
              refine HC2.out.mono ?_
              rintro e w4 ⟨rfl, hb4⟩
              have R4 := Lib.hid (R2.out.trans (hb4.mono R2.out.size))
              clear hb4
              have hya := HY.out ((HAP.out).2 ⟨(by simp), fun h => absurd h (by have := HXN.out; omega), fun _ => HYA.out⟩)
              have HP := Lib.hid hya
              have HO1 := Lib.hid (owns_kept (owns_kept HO.out (Below.block R4.out)) (w' := w4.alloc (.cells #[.int .i64 (k : Int)] 3)) fun k hk => Below.heap_alloc _ _ k hk)
              have hsx := R4.out.size
              have HBX := Lib.hid ((HBl.out.trans (R4.out.mono hsz)).alloc (o := .cells #[.int .i64 (k : Int)] 3) (by omega))
              clear hya HO
              go_wp2_with (first | (at_builtin; refine wpList_append_own _ rfl _ _ 27 rfl W.heap.size 3 i0 (.int .i64 0) 1 8 Tryz.underlying27 hi hz0 hz1 hz2 rfl (by decide) _ (swaps ws k).length _ rfl HO1.out ⟨w4.heap.size, 0, none⟩ 1 1 [.int .i64 (k : Int)] rfl rfl (one_cell _ _ _) (one_one _ _) (by unfold maxLen; omega) (by omega) (by simp; omega) ?_))
              intro v' wz hownz hgrow _
              have hb3 := HBX.out.trans (below_own HO1.out hgrow (by simp; omega))
              rw [← nats_app, ← HP.out] at hownz
              rw [show (swaps ws k).length + 1 = (swaps ws (k + 1)).length by rw [HP.out]; simp] at hownz
              have HO2 := Lib.hid hownz
              have HB3 := Lib.hid hb3
              clear hownz hgrow hb3 HO1 HBX
              go_wp2_with fail
              exact ⟨⟨k + 1, by omega, by go_num, HO2.out, HB3.out⟩, by simp [intOf]; omega⟩
          · have HYN := Lib.hid hy
            have hya := HY.out ((HAP.out).2 ⟨(by simp), fun h => absurd h (by have := HXN.out; omega), fun h => absurd h (by have := HYN.out; omega)⟩)
            have HP := Lib.hid hya
            have HO1 := Lib.hid (owns_kept (owns_kept HO.out (Below.block R2.out)) (w' := w2.alloc (.cells #[.int .i64 (k : Int)] 3)) fun k hk => Below.heap_alloc _ _ k hk)
            have hsx := R2.out.size
            have HBX := Lib.hid ((HBl.out.trans (R2.out.mono hsz)).alloc (o := .cells #[.int .i64 (k : Int)] 3) (by omega))
            clear hya HO
            go_wp2_with (first | (at_builtin; refine wpList_append_own _ rfl _ _ 27 rfl W.heap.size 3 i0 (.int .i64 0) 1 8 Tryz.underlying27 hi hz0 hz1 hz2 rfl (by decide) _ (swaps ws k).length _ rfl HO1.out ⟨w2.heap.size, 0, none⟩ 1 1 [.int .i64 (k : Int)] rfl rfl (one_cell _ _ _) (one_one _ _) (by unfold maxLen; omega) (by omega) (by simp; omega) ?_))
            intro v' wz hownz hgrow _
            have hb3 := HBX.out.trans (below_own HO1.out hgrow (by simp; omega))
            rw [← nats_app, ← HP.out] at hownz
            rw [show (swaps ws k).length + 1 = (swaps ws (k + 1)).length by rw [HP.out]; simp] at hownz
            have HO2 := Lib.hid hownz
            have HB3 := Lib.hid hb3
            clear hownz hgrow hb3 HO1 HBX
            go_wp2_with fail
            exact ⟨⟨k + 1, by omega, by go_num, HO2.out, HB3.out⟩, by simp [intOf]; omega⟩
      | true =>
        cases n with
        | true =>
          have hna := HN.out fun h => ((HAP.out).1 h).1 ⟨rfl, rfl⟩
          have HO1 := Lib.hid (hna ▸ owns_kept HO.out (Below.block R2.out))
          have HBX := Lib.hid (HBl.out.trans (R2.out.mono hsz))
          clear hna HO
          go_wp2_with fail
          exact ⟨⟨k + 1, by omega, by go_num, HO1.out, HBX.out⟩, by simp [intOf]; omega⟩
        | false =>
          by_cases hx : 0 ≤ x
          · have HXN := Lib.hid hx
            by_cases hxy : x = y
            · have HXY := Lib.hid hxy
              have hxy' : (x == y) = true := by simpa using hxy
              clear hxy
              have hna := HN.out fun h => (((HAP.out).1 h).2.1 HXN.out).1 HXY.out
              have HO1 := Lib.hid (hna ▸ owns_kept HO.out (Below.block R2.out))
              have HBX := Lib.hid (HBl.out.trans (R2.out.mono hsz))
              clear hna HO
              go_wp2_with fail
              exact ⟨⟨k + 1, by omega, by go_num, HO1.out, HBX.out⟩, by simp [intOf]; omega⟩
            · have HXY := Lib.hid hxy
              have hxy' : (x == y) = false := by simpa using hxy
              clear hxy
              by_cases hxB : x ∈ D
              · have HC1 := Lib.hid (contains_yes hxB NB.out hlb)
                have HXB := Lib.hid hxB
                clear hxB
                go_wp2_with fail
                refine HC1.out.mono ?_
                rintro e w3 ⟨rfl, hb3⟩
                have RX := Lib.hid hb3
                have R3 := Lib.hid (R2.out.trans (hb3.mono hs2))
                clear hb3
                have hna := HN.out fun h => (((HAP.out).1 h).2.1 HXN.out).2 HXB.out
                have HO1 := Lib.hid (hna ▸ owns_kept HO.out (Below.block R3.out))
                have HBX := Lib.hid (HBl.out.trans (R3.out.mono hsz))
                clear hna HO
                go_wp2_with fail
                exact ⟨⟨k + 1, by omega, by go_num, HO1.out, HBX.out⟩, by simp [intOf]; omega⟩
              · have HC1 := Lib.hid (contains_no hxB NB.out hlb)
                have HXB := Lib.hid hxB
                clear hxB
                go_wp2_with fail
                refine HC1.out.mono ?_
                rintro e w3 ⟨rfl, hb3⟩
                have RX := Lib.hid hb3
                have R3 := Lib.hid (R2.out.trans (hb3.mono hs2))
                clear hb3
                by_cases hy : 0 ≤ y
                · by_cases hyA : y ∈ A
                  · have HC2 := Lib.hid (contains_yes hyA (NA.out.kept (Below.block RX.out)) hla)
                    have HYN := Lib.hid hy
                    have HYA := Lib.hid hyA
                    go_wp2_with fail
                    refine HC2.out.mono ?_
                    rintro e w4 ⟨rfl, hb4⟩
                    have R4 := Lib.hid (R3.out.trans (hb4.mono R3.out.size))
                    clear hb4
                    have hna := HN.out fun h => (((HAP.out).1 h).2.2 HYN.out) HYA.out
                    have HO1 := Lib.hid (hna ▸ owns_kept HO.out (Below.block R4.out))
                    have HBX := Lib.hid (HBl.out.trans (R4.out.mono hsz))
                    clear hna HO
                    go_wp2_with fail
                    exact ⟨⟨k + 1, by omega, by go_num, HO1.out, HBX.out⟩, by simp [intOf]; omega⟩
                  · have HC2 := Lib.hid (contains_no hyA (NA.out.kept (Below.block RX.out)) hla)
                    have HYN := Lib.hid hy
                    have HYA := Lib.hid hyA
                    go_wp2_with fail
                    refine HC2.out.mono ?_
                    rintro e w4 ⟨rfl, hb4⟩
                    have R4 := Lib.hid (R3.out.trans (hb4.mono R3.out.size))
                    clear hb4
                    have hya := HY.out ((HAP.out).2 ⟨(by simp), fun _ => ⟨HXY.out, HXB.out⟩, fun _ => HYA.out⟩)
                    have HP := Lib.hid hya
                    have HO1 := Lib.hid (owns_kept (owns_kept HO.out (Below.block R4.out)) (w' := w4.alloc (.cells #[.int .i64 (k : Int)] 3)) fun k hk => Below.heap_alloc _ _ k hk)
                    have hsx := R4.out.size
                    have HBX := Lib.hid ((HBl.out.trans (R4.out.mono hsz)).alloc (o := .cells #[.int .i64 (k : Int)] 3) (by omega))
                    clear hya HO
                    go_wp2_with (first | (at_builtin; refine wpList_append_own _ rfl _ _ 27 rfl W.heap.size 3 i0 (.int .i64 0) 1 8 Tryz.underlying27 hi hz0 hz1 hz2 rfl (by decide) _ (swaps ws k).length _ rfl HO1.out ⟨w4.heap.size, 0, none⟩ 1 1 [.int .i64 (k : Int)] rfl rfl (one_cell _ _ _) (one_one _ _) (by unfold maxLen; omega) (by omega) (by simp; omega) ?_))
                    intro v' wz hownz hgrow _
                    have hb3 := HBX.out.trans (below_own HO1.out hgrow (by simp; omega))
                    rw [← nats_app, ← HP.out] at hownz
                    rw [show (swaps ws k).length + 1 = (swaps ws (k + 1)).length by rw [HP.out]; simp] at hownz
                    have HO2 := Lib.hid hownz
                    have HB3 := Lib.hid hb3
                    clear hownz hgrow hb3 HO1 HBX
                    go_wp2_with fail
                    exact ⟨⟨k + 1, by omega, by go_num, HO2.out, HB3.out⟩, by simp [intOf]; omega⟩
                · have HYN := Lib.hid hy
                  have hya := HY.out ((HAP.out).2 ⟨(by simp), fun _ => ⟨HXY.out, HXB.out⟩, fun h => absurd h (by have := HYN.out; omega)⟩)
                  have HP := Lib.hid hya
                  have HO1 := Lib.hid (owns_kept (owns_kept HO.out (Below.block R3.out)) (w' := w3.alloc (.cells #[.int .i64 (k : Int)] 3)) fun k hk => Below.heap_alloc _ _ k hk)
                  have hsx := R3.out.size
                  have HBX := Lib.hid ((HBl.out.trans (R3.out.mono hsz)).alloc (o := .cells #[.int .i64 (k : Int)] 3) (by omega))
                  clear hya HO
                  go_wp2_with (first | (at_builtin; refine wpList_append_own _ rfl _ _ 27 rfl W.heap.size 3 i0 (.int .i64 0) 1 8 Tryz.underlying27 hi hz0 hz1 hz2 rfl (by decide) _ (swaps ws k).length _ rfl HO1.out ⟨w3.heap.size, 0, none⟩ 1 1 [.int .i64 (k : Int)] rfl rfl (one_cell _ _ _) (one_one _ _) (by unfold maxLen; omega) (by omega) (by simp; omega) ?_))
                  intro v' wz hownz hgrow _
                  have hb3 := HBX.out.trans (below_own HO1.out hgrow (by simp; omega))
                  rw [← nats_app, ← HP.out] at hownz
                  rw [show (swaps ws k).length + 1 = (swaps ws (k + 1)).length by rw [HP.out]; simp] at hownz
                  have HO2 := Lib.hid hownz
                  have HB3 := Lib.hid hb3
                  clear hownz hgrow hb3 HO1 HBX
                  go_wp2_with fail
                  exact ⟨⟨k + 1, by omega, by go_num, HO2.out, HB3.out⟩, by simp [intOf]; omega⟩
          · have HXN := Lib.hid hx
            by_cases hy : 0 ≤ y
            · by_cases hyA : y ∈ A
              · have HC2 := Lib.hid (contains_yes hyA NA.out hla)
                have HYN := Lib.hid hy
                have HYA := Lib.hid hyA
                go_wp2_with fail
                refine HC2.out.mono ?_
                rintro e w4 ⟨rfl, hb4⟩
                have R4 := Lib.hid (R2.out.trans (hb4.mono R2.out.size))
                clear hb4
                have hna := HN.out fun h => (((HAP.out).1 h).2.2 HYN.out) HYA.out
                have HO1 := Lib.hid (hna ▸ owns_kept HO.out (Below.block R4.out))
                have HBX := Lib.hid (HBl.out.trans (R4.out.mono hsz))
                clear hna HO
                go_wp2_with fail
                exact ⟨⟨k + 1, by omega, by go_num, HO1.out, HBX.out⟩, by simp [intOf]; omega⟩
              · have HC2 := Lib.hid (contains_no hyA NA.out hla)
                have HYN := Lib.hid hy
                have HYA := Lib.hid hyA
                go_wp2_with fail
                refine HC2.out.mono ?_
                rintro e w4 ⟨rfl, hb4⟩
                have R4 := Lib.hid (R2.out.trans (hb4.mono R2.out.size))
                clear hb4
                have hya := HY.out ((HAP.out).2 ⟨(by simp), fun h => absurd h (by have := HXN.out; omega), fun _ => HYA.out⟩)
                have HP := Lib.hid hya
                have HO1 := Lib.hid (owns_kept (owns_kept HO.out (Below.block R4.out)) (w' := w4.alloc (.cells #[.int .i64 (k : Int)] 3)) fun k hk => Below.heap_alloc _ _ k hk)
                have hsx := R4.out.size
                have HBX := Lib.hid ((HBl.out.trans (R4.out.mono hsz)).alloc (o := .cells #[.int .i64 (k : Int)] 3) (by omega))
                clear hya HO
                go_wp2_with (first | (at_builtin; refine wpList_append_own _ rfl _ _ 27 rfl W.heap.size 3 i0 (.int .i64 0) 1 8 Tryz.underlying27 hi hz0 hz1 hz2 rfl (by decide) _ (swaps ws k).length _ rfl HO1.out ⟨w4.heap.size, 0, none⟩ 1 1 [.int .i64 (k : Int)] rfl rfl (one_cell _ _ _) (one_one _ _) (by unfold maxLen; omega) (by omega) (by simp; omega) ?_))
                intro v' wz hownz hgrow _
                have hb3 := HBX.out.trans (below_own HO1.out hgrow (by simp; omega))
                rw [← nats_app, ← HP.out] at hownz
                rw [show (swaps ws k).length + 1 = (swaps ws (k + 1)).length by rw [HP.out]; simp] at hownz
                have HO2 := Lib.hid hownz
                have HB3 := Lib.hid hb3
                clear hownz hgrow hb3 HO1 HBX
                go_wp2_with fail
                exact ⟨⟨k + 1, by omega, by go_num, HO2.out, HB3.out⟩, by simp [intOf]; omega⟩
            · have HYN := Lib.hid hy
              have hya := HY.out ((HAP.out).2 ⟨(by simp), fun h => absurd h (by have := HXN.out; omega), fun h => absurd h (by have := HYN.out; omega)⟩)
              have HP := Lib.hid hya
              have HO1 := Lib.hid (owns_kept (owns_kept HO.out (Below.block R2.out)) (w' := w2.alloc (.cells #[.int .i64 (k : Int)] 3)) fun k hk => Below.heap_alloc _ _ k hk)
              have hsx := R2.out.size
              have HBX := Lib.hid ((HBl.out.trans (R2.out.mono hsz)).alloc (o := .cells #[.int .i64 (k : Int)] 3) (by omega))
              clear hya HO
              go_wp2_with (first | (at_builtin; refine wpList_append_own _ rfl _ _ 27 rfl W.heap.size 3 i0 (.int .i64 0) 1 8 Tryz.underlying27 hi hz0 hz1 hz2 rfl (by decide) _ (swaps ws k).length _ rfl HO1.out ⟨w2.heap.size, 0, none⟩ 1 1 [.int .i64 (k : Int)] rfl rfl (one_cell _ _ _) (one_one _ _) (by unfold maxLen; omega) (by omega) (by simp; omega) ?_))
              intro v' wz hownz hgrow _
              have hb3 := HBX.out.trans (below_own HO1.out hgrow (by simp; omega))
              rw [← nats_app, ← HP.out] at hownz
              rw [show (swaps ws k).length + 1 = (swaps ws (k + 1)).length by rw [HP.out]; simp] at hownz
              have HO2 := Lib.hid hownz
              have HB3 := Lib.hid hb3
              clear hownz hgrow hb3 HO1 HBX
              go_wp2_with fail
              exact ⟨⟨k + 1, by omega, by go_num, HO2.out, HB3.out⟩, by simp [intOf]; omega⟩
    · obtain rfl : k = ws.length - 1 := by omega
      obtain ⟨sa, sc, rfl⟩ := owns_form hown
      by_cases hp : (swaps ws (ws.length - 1)).length = 0
      · rw [hp]
        have HBl := Lib.hid hbel
        clear hown hbel
        go_wp2_with fail
        go_ret
        exact ⟨.inl rfl, HBl.out.mono hBW⟩
      · have hpl := HPl.out (ws.length - 1)
        have hpk := fun W => wPick_is which (swaps ws (ws.length - 1)).length W (by omega) (by omega) hi64
        have hpi : pick which (swaps ws (ws.length - 1)).length < (swaps ws (ws.length - 1)).length := Nat.mod_lt _ (by omega)
        obtain ⟨gs, cs, hsv, hgB, hgl, hcell⟩ := owns_at hown (by omega)
        injection hsv with e1 e2 e3
        subst e1 e3
        clear e2
        obtain ⟨j, hj⟩ : ∃ j, (swaps ws (ws.length - 1))[pick which (swaps ws (ws.length - 1)).length]? = some j := ⟨_, List.getElem?_eq_getElem hpi⟩
        have hc34 := hcell (pick which (swaps ws (ws.length - 1)).length) (.int .i64 (j : Int)) (by simp [nats, hj])
        obtain ⟨hjl, i, i', hji, hji', hap⟩ := swaps_mem (List.mem_of_getElem? hj)
        generalize pick which (swaps ws (ws.length - 1)).length = pk at *
        generalize (swaps ws (ws.length - 1)).length = np at *
        have hownr := owns_kept HOW.out (Below.block hbel)
        rcases hownr.2 with ⟨_, hz⟩ | ⟨g, cap, cur, hvv, hBg, hg, hnc, hcm, hcs, htk⟩
        · omega
        injection hvv with e1 e2 e3
        subst e1 e3
        clear e2
        have hrow : rowAt wr g cur 31 := hg
        have hcel : ∀ m v, (icells ws)[m]? = some v → wr.cell? ⟨g, m, none⟩ = some v := fun m v hm => by
          have hml := (List.getElem?_eq_some_iff.1 hm).1
          rw [icells_len] at hml
          rw [hrow.cell m, ← Array.getElem?_toList, ← hm, ← htk, List.getElem?_take_of_lt (by omega)]
        obtain ⟨x0, x1, x2, x3⟩ := icells_get ws j i hji
        obtain ⟨y0, y1, y2, y3⟩ := icells_get ws (j + 1) i' hji'
        have q0 := hcel _ _ x0
        have q1 := hcel _ _ x1
        have q2 := hcel _ _ x2
        have q3 := hcel _ _ x3
        have p0 := hcel _ _ y0
        have p1 := hcel _ _ y1
        have p2 := hcel _ _ y2
        have p3 := hcel _ _ y3
        have hfz : ∀ m, wr.frozen? ⟨g, m, none⟩ = false := fun m => hrow.frozen m
        have z0 := hfz (j * 4)
        have z1 := hfz (j * 4 + 1)
        have z2 := hfz (j * 4 + 2)
        have z3 := hfz (j * 4 + 3)
        have z4 := hfz ((j + 1) * 4)
        have z5 := hfz ((j + 1) * 4 + 1)
        have z6 := hfz ((j + 1) * 4 + 2)
        have z7 := hfz ((j + 1) * 4 + 3)
        have hgl2 := hrow.lt
        have hw1 : IntKind.i64.wrap ((j : Int) + 1) = (j : Int) + 1 := by rw [IntKind.wrap_i64]; omega
        have hb1 : (0 : Int) ≤ (j : Int) + 1 := by omega
        have hb2 : (j : Int) + 1 < (ws.length : Int) := by omega
        have hb3 : ((j : Int) + 1).toNat = j + 1 := by omega
        have hb4 : (j : Int) < (ws.length : Int) := by omega
        have mixed : Tryz.prog.follows Departure.mixedOrders = true := by kernel_rfl
        have HPk := Lib.hid hpk
        have HOR := Lib.hid hownr
        have HBl := Lib.hid hbel
        have hSp := split_two ws j i i' hji hji'
        have HSW := Lib.hid (Pl.swap_same (a := ws.take j) (b := ws.drop (j + 2)) (i := i) (j := i') (fun x hx => HV.out x (by rw [hSp]; exact hx)) (fun x hx => HF.out x (by rw [hSp]; exact hx)) (by rw [← hSp]; exact h60) hap)
        have HSp := Lib.hid hSp
        have HBg := Lib.hid hBg
        clear hown hcell hbel hji hji' hap hj hpk hownr hcel x0 x1 x2 x3 y0 y1 y2 y3 hfz hSp HK HPl hi hz0 hz1 hz2 hpl hrow hg htk hcs hcm hBg
        go_wp2_with fail
        refine (HPk.out _).mono ?_
        rintro e w' ⟨rfl, rfl⟩
        go_wp2_with fail
        go_region_with (fail)
        all_goals
          go_wp2_with fail
          go_ret
          have hS := HSW.out
          rw [← HSp.out] at hS
          have hBg := HBg.out
          have hbw := HBl.out.mono hBW
          exact ⟨.inr ⟨_, _, rfl, by simp, owns_il (swap_end HOR.out HSp.out (by omega)), hS⟩, by (repeat (first | (with_reducible exact Below.refl _ _) | (with_reducible apply Below.drew) | (with_reducible apply bl_drewN) | ((with_reducible apply bl_alloc); (· (first | (simp; done) | (simp; omega) | omega))) | ((with_reducible apply bl_row); (· (first | (simp; done) | (simp; omega) | omega))) | ((with_reducible apply bl_cell); (· (first | (simp; done) | (simp; omega) | omega))) | assumption))⟩

set_option maxHeartbeats 3200000 in
set_option maxRecDepth 100000 in
theorem swapped_ok {w : World} {lv dv : Value} {ws : List Pl.Ins} {R D : List Int} {which : Int} (G : Given w lv dv ws R D) (hwh : i64 which) :
    Calls Tryz.prog 3 #[lv, .agg (arr R), dv, .int .i64 which] w fun e w' => e = .returned (.bool true) ∧ Below w.heap.size w w' := by
  have HG := Lib.hid G
  obtain ⟨r0, r1, r2, r3, r4, r5, r6, r7, hRe⟩ := eight G.regs.1
  subst hRe
  have hmf : ∀ (fn : Fn) (first cap : Array Value) (w : World), (Instr.makeFunc fn first cap).run Tryz.prog w = .ok (.func fn first cap) w := fun _ _ _ _ => rfl
  rw [arr8]
  clear G
  have hcx : ((w.alloc (.cells #[.int .u32 r0, .int .u32 r1, .int .u32 r2, .int .u32 r3, .int .u32 r4, .int .u32 r5, .int .u32 r6, .int .u32 r7] 24)).alloc (.cells #[.int .i64 which] 3)).cell? ⟨w.heap.size + 1, 0, none⟩ = some (.int .i64 which) := by simp
  have hb0 : Below w.heap.size w ((w.alloc (.cells #[.int .u32 r0, .int .u32 r1, .int .u32 r2, .int .u32 r3, .int .u32 r4, .int .u32 r5, .int .u32 r6, .int .u32 r7] 24)).alloc (.cells #[.int .i64 which] 3)) := by (repeat (first | (with_reducible exact Below.refl _ _) | (with_reducible apply Below.drew) | (with_reducible apply bl_drewN) | ((with_reducible apply bl_alloc); (· (first | (simp; done) | (simp; omega) | omega))) | ((with_reducible apply bl_row); (· (first | (simp; done) | (simp; omega) | omega))) | ((with_reducible apply bl_cell); (· (first | (simp; done) | (simp; omega) | omega))) | assumption))
  have HS := Lib.hid (same_ok (ws := ws) (R := [r0, r1, r2, r3, r4, r5, r6, r7]) (D := D) (HG.out.kept hb0) (swap_change hwh hcx) ent_swap)
  have HB := Lib.hid hb0
  clear hcx hb0
  go_enter Tryz.func3, Tryz.ntmps3
  go_wp2_with fail
  refine HS.out.mono ?_
  rintro e w2 ⟨rfl, hb2⟩
  go_wp2
  go_ret
  exact ⟨rfl, HB.out.trans (hb2.mono HB.out.size)⟩
end Go.Proofs.YtghjjemnegncpaaGreatDoor
