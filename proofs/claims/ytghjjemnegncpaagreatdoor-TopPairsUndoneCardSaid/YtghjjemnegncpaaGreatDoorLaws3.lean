/- The laws of pairs that undo each other, of what changes nothing, of two instructions that change their places: in plain lists. No Go in it. -/
import Derived.Test.YtghjjemnegncpaaGreatDoorLaws2
set_option linter.unusedSimpArgs false
set_option linter.unusedVariables false
set_option linter.unnecessarySimpa false
namespace Go.Proofs.YtghjjemnegncpaaGreatDoor.Pl

/-! ### TopPairsUndone -/
def pairOf (how : Nat) (a b : Int) : List Ins :=
  if how = 0 then [⟨5, a, b, 0⟩, ⟨6, a, b, 0⟩] else if how = 1 then [⟨6, a, b, 0⟩, ⟨5, a, b, 0⟩] else [⟨11, a, b, 0⟩, ⟨11, a, b, 0⟩]

theorem pair_same {l1 l2 : List Ins} {how : Nat} {a b : Int} (hv : ∀ j ∈ l1 ++ l2, valid j) (hf : ∀ j ∈ l1 ++ l2, flat j) (hl : (l1 ++ l2).length ≤ 60) (ha1 : 0 ≤ a) (ha2 : a < 8) (hb1 : 0 ≤ b) (hb2 : b < 8) (hne : a ≠ b) :
    Same (l1 ++ l2) (l1 ++ pairOf how a b ++ l2) := by
  have hm : ∀ op : Int, op = 5 ∨ op = 6 ∨ op = 11 → valid ⟨op, a, b, 0⟩ ∧ flat ⟨op, a, b, 0⟩ := by
    rintro op (rfl | rfl | rfl)
    all_goals exact mk_valid (by decide) (by decide) ⟨ha1, ha2⟩ ⟨hb1, hb2⟩ (by decide) (fun h => absurd h (by decide)) (fun _ => rfl)
  unfold pairOf
  by_cases h0 : how = 0
  · rw [if_pos h0]
    refine ins_flat hv hf hl (two_mem (hm 5 (by decide)) (hm 6 (by decide))) (by simp) fun R D hR hD => ?_
    have hx := rg_bd hR ha1 ha2
    rw [some_bind' (ex5 _ _ _ _ _), ln1, ex6, rg_sr hR.1 ha1 ha2, rg_sr_ne R ha1 hb1 hne, sr_sr, show m32 (m32 (rg R a + rg R b) - rg R b) = rg R a by unfold m32; omega, sr_id hR.1 ha1 ha2]
  rw [if_neg h0]
  by_cases h1 : how = 1
  · rw [if_pos h1]
    refine ins_flat hv hf hl (two_mem (hm 6 (by decide)) (hm 5 (by decide))) (by simp) fun R D hR hD => ?_
    have hx := rg_bd hR ha1 ha2
    rw [some_bind' (ex6 _ _ _ _ _), ln1, ex5, rg_sr hR.1 ha1 ha2, rg_sr_ne R ha1 hb1 hne, sr_sr, show m32 (m32 (rg R a - rg R b) + rg R b) = rg R a by unfold m32; omega, sr_id hR.1 ha1 ha2]
  rw [if_neg h1]
  refine ins_flat hv hf hl (two_mem (hm 11 (by decide)) (hm 11 (by decide))) (by simp) fun R D hR hD => ?_
  have hx := rg_bd hR ha1 ha2
  rw [some_bind' (ex11 _ _ _ _ _), ln1, ex11, rg_sr hR.1 ha1 ha2, rg_sr_ne R ha1 hb1 hne, sr_sr, xor_xor32 hx.1, sr_id hR.1 ha1 ha2]

/-! ### TopCodesNothing -/
def nothing (a b : Int) : List Ins := [⟨14, a, a, 0⟩, ⟨4, a, a, 0⟩, ⟨10, a, a, 0⟩, ⟨9, a, a, 0⟩, ⟨19, 0, 0, 4⟩, ⟨20, a, 0, 4⟩, ⟨21, a, b, 4⟩, ⟨21, a, a, -64⟩]

theorem nothing_same {l1 l2 : List Ins} {a b : Int} {i : Ins} (hi : i ∈ nothing a b) (hv : ∀ j ∈ l1 ++ l2, valid j) (hf : ∀ j ∈ l1 ++ l2, flat j) (hl : (l1 ++ l2).length ≤ 60) (ha1 : 0 ≤ a) (ha2 : a < 8) (hb1 : 0 ≤ b) (hb2 : b < 8) :
    Same (l1 ++ l2) (l1 ++ [i] ++ l2) := by
  simp only [nothing, List.mem_cons, List.not_mem_nil, or_false] at hi
  rcases hi with rfl | rfl | rfl | rfl | rfl | rfl | rfl | rfl
  · refine ins_flat hv hf hl (one_mem (mk_valid (by decide) (by decide) ⟨ha1, ha2⟩ ⟨ha1, ha2⟩ (by decide) (fun h => absurd h (by decide)) (fun _ => rfl))) (by simp) fun R D hR hD => ?_
    have hx := rg_bd hR ha1 ha2
    rw [ln1, ex14, Int.add_zero, m32_id hx.1 hx.2, sr_id hR.1 ha1 ha2]
  · refine ins_flat hv hf hl (one_mem (mk_valid (by decide) (by decide) ⟨ha1, ha2⟩ ⟨ha1, ha2⟩ (by decide) (fun h => absurd h (by decide)) (fun _ => rfl))) (by simp) fun R D hR hD => ?_
    rw [ln1, ex4, sr_id hR.1 ha1 ha2]
  · refine ins_flat hv hf hl (one_mem (mk_valid (by decide) (by decide) ⟨ha1, ha2⟩ ⟨ha1, ha2⟩ (by decide) (fun h => absurd h (by decide)) (fun _ => rfl))) (by simp) fun R D hR hD => ?_
    have hx := rg_bd hR ha1 ha2
    rw [ln1, ex10, or_self32 hx.1, sr_id hR.1 ha1 ha2]
  · refine ins_flat hv hf hl (one_mem (mk_valid (by decide) (by decide) ⟨ha1, ha2⟩ ⟨ha1, ha2⟩ (by decide) (fun h => absurd h (by decide)) (fun _ => rfl))) (by simp) fun R D hR hD => ?_
    have hx := rg_bd hR ha1 ha2
    rw [ln1, ex9, and_self32 hx.1, sr_id hR.1 ha1 ha2]
  · refine ins_next hv hf hl ⟨by decide, by decide, by decide, by decide, by decide, by decide, by decide, by decide, fun _ => rfl, fun _ => rfl, fun h => absurd h (by decide)⟩ fun R D k hk hR hD => ?_
    show some (St.mk R (m32 (64 + 4 * (k : Int) + 4)) D) = _
    rw [show m32 (64 + 4 * (k : Int) + 4) = 64 + 4 * ((k + 1 : Nat) : Int) by unfold m32; omega]
  · refine ins_next hv hf hl ⟨by dsimp only; decide, by dsimp only; decide, ha1, ha2, by dsimp only; decide, by dsimp only; decide, by dsimp only; decide, by dsimp only; decide, fun h => absurd h (by dsimp only; decide), fun _ => rfl, fun h => absurd h (by dsimp only; decide)⟩ fun R D k hk hR hD => ?_
    show some (St.mk R (if rg R a = 0 then m32 (64 + 4 * (k : Int) + 4) else m32 (64 + 4 * (k : Int) + 4)) D) = _
    rw [ite_self, show m32 (64 + 4 * (k : Int) + 4) = 64 + 4 * ((k + 1 : Nat) : Int) by unfold m32; omega]
  · refine ins_next hv hf hl ⟨by dsimp only; decide, by dsimp only; decide, ha1, ha2, hb1, hb2, by dsimp only; decide, by dsimp only; decide, fun h => absurd h (by dsimp only; decide), fun h => absurd h (by dsimp only; decide), fun h => absurd h (by dsimp only; decide)⟩ fun R D k hk hR hD => ?_
    show some (St.mk R (if rg R a < rg R b then m32 (64 + 4 * (k : Int) + 4) else m32 (64 + 4 * (k : Int) + 4)) D) = _
    rw [ite_self, show m32 (64 + 4 * (k : Int) + 4) = 64 + 4 * ((k + 1 : Nat) : Int) by unfold m32; omega]
  · refine ins_next hv hf hl ⟨by dsimp only; decide, by dsimp only; decide, ha1, ha2, ha1, ha2, by dsimp only; decide, by dsimp only; decide, fun h => absurd h (by dsimp only; decide), fun h => absurd h (by dsimp only; decide), fun h => absurd h (by dsimp only; decide)⟩ fun R D k hk hR hD => ?_
    show some (St.mk R (if rg R a < rg R a then m32 (64 + 4 * (k : Int) + -64) else m32 (64 + 4 * (k : Int) + 4)) D) = _
    rw [if_neg (Int.lt_irrefl _), show m32 (64 + 4 * (k : Int) + 4) = 64 + 4 * ((k + 1 : Nat) : Int) by unfold m32; omega]

/-! ### What an instruction reads and writes -/

/-- What it does to what it reads: what is written, and data. -/
def core (op c x y : Int) (D : List Int) : Option (Int × List Int) :=
  if op = 2 then some (m32 c, D)
  else if op = 3 then some (m32 (x * 65536) + c % 65536, D)
  else if op = 4 then some (y, D)
  else if 5 ≤ op ∧ op ≤ 13 then (alu op x y).map fun v => (v, D)
  else if op = 14 then some (m32 (y + c), D)
  else if op = 15 then (if okw D (m32 (y + c)) then some (gw D (m32 (y + c)), D) else none)
  else if op = 16 then (if ok1 D (m32 (y + c)) then some (gb D (m32 (y + c)), D) else none)
  else if op = 17 then (if okw D (m32 (y + c)) then some (0, pw D (m32 (y + c)) x) else none)
  else if op = 18 then (if ok1 D (m32 (y + c)) then some (0, pb D (m32 (y + c)) x) else none)
  else if op = 25 then (if okw D (m32 (y + c)) then some (gw D (m32 (y + c)), pw D (m32 (y + c)) x) else none)
  else none

/-- Does it write a register? -/
def wrt (op : Int) : Bool := decide (op ≠ 17) && decide (op ≠ 18)
def toR (op a : Int) (R : List Int) (r : Int × List Int) : List Int × List Int := (if wrt op then sr R a r.1 else R, r.2)

theorem opt_map_map {α β γ : Type} (o : Option α) (f : α → β) (g : β → γ) : (o.map f).map g = o.map fun x => g (f x) := by cases o <;> rfl

theorem ex_core (i : Ins) (R D : List Int) : ex i R D = (core i.op i.c (rg R i.a) (rg R i.b) D).map (toR i.op i.a R) := by
  obtain ⟨op, a, b, c⟩ := i
  unfold ex core
  dsimp only
  by_cases h2 : op = 2
  · subst h2; rfl
  rw [if_neg h2, if_neg h2]
  by_cases h3 : op = 3
  · subst h3; rfl
  rw [if_neg h3, if_neg h3]
  by_cases h4 : op = 4
  · subst h4; rfl
  rw [if_neg h4, if_neg h4]
  by_cases h5 : 5 ≤ op ∧ op ≤ 13
  · rw [if_pos h5, if_pos h5, opt_map_map]
    have hw : wrt op = true := by unfold wrt; simp; omega
    simp only [toR, hw, if_true]
  rw [if_neg h5, if_neg h5]
  by_cases h14 : op = 14
  · subst h14; rfl
  rw [if_neg h14, if_neg h14]
  by_cases h15 : op = 15
  · subst h15
    rw [if_pos rfl, if_pos rfl]
    split <;> rfl
  rw [if_neg h15, if_neg h15]
  by_cases h16 : op = 16
  · subst h16
    rw [if_pos rfl, if_pos rfl]
    split <;> rfl
  rw [if_neg h16, if_neg h16]
  by_cases h17 : op = 17
  · subst h17
    rw [if_pos rfl, if_pos rfl]
    split <;> rfl
  rw [if_neg h17, if_neg h17]
  by_cases h18 : op = 18
  · subst h18
    rw [if_pos rfl, if_pos rfl]
    split <;> rfl
  rw [if_neg h18, if_neg h18]
  by_cases h25 : op = 25
  · subst h25
    rw [if_pos rfl, if_pos rfl]
    split <;> rfl
  rw [if_neg h25, if_neg h25]
  rfl

/-- What an instruction reads, which register it writes (-1: none), and whether it touches data. -/
def touches (i : Ins) : List Int × Int × Bool :=
  if i.op = 2 then ([], i.a, false) else if i.op = 3 then ([i.a], i.a, false) else if i.op = 4 ∨ i.op = 14 then ([i.b], i.a, false)
  else if i.op = 15 ∨ i.op = 16 then ([i.b], i.a, true) else if i.op = 17 ∨ i.op = 18 then ([i.a, i.b], -1, true) else if i.op = 25 then ([i.a, i.b], i.a, true) else ([i.a, i.b], i.a, false)

theorem flat_ops {op : Int} (h : 2 ≤ op ∧ (op ≤ 18 ∨ op = 25)) : op = 2 ∨ op = 3 ∨ op = 4 ∨ (5 ≤ op ∧ op ≤ 13) ∨ op = 14 ∨ op = 15 ∨ op = 16 ∨ op = 17 ∨ op = 18 ∨ op = 25 := by omega

theorem touches_mid {i : Ins} (h : 5 ≤ i.op ∧ i.op ≤ 13) : touches i = ([i.a, i.b], i.a, false) := by
  unfold touches
  rw [if_neg (by omega), if_neg (by omega), if_neg (by omega), if_neg (by omega), if_neg (by omega), if_neg (by omega)]

/-- What it does hangs on what it reads. -/
theorem core_reads {i : Ins} (hf : flat i) (f g : Int → Int) (h : ∀ k ∈ (touches i).1, f k = g k) (D : List Int) : core i.op i.c (f i.a) (f i.b) D = core i.op i.c (g i.a) (g i.b) D := by
  obtain ⟨op, a, b, c⟩ := i
  rcases flat_ops hf with rfl | rfl | rfl | h5 | rfl | rfl | rfl | rfl | rfl | rfl
  · rfl
  · have := h a (by simp [touches])
    simp only [this]
    rfl
  · have := h b (by simp [touches])
    simp only [this]
    rfl
  · rw [touches_mid h5] at h
    have h1 := h a (by simp)
    have h2 := h b (by simp)
    simp only [h1, h2]
  · have := h b (by simp [touches])
    simp only [this]
    rfl
  · have := h b (by simp [touches])
    simp only [this]
    rfl
  · have := h b (by simp [touches])
    simp only [this]
    rfl
  · have h1 := h a (by simp [touches])
    have h2 := h b (by simp [touches])
    simp only [h1, h2]
  · have h1 := h a (by simp [touches])
    have h2 := h b (by simp [touches])
    simp only [h1, h2]
  · have h1 := h a (by simp [touches])
    have h2 := h b (by simp [touches])
    simp only [h1, h2]

/-- What does not touch data leaves them, and does the same whatever they are. -/
theorem core_still {i : Ins} (hf : flat i) (hm : (touches i).2.2 = false) (x y : Int) (D D' : List Int) : core i.op i.c x y D = (core i.op i.c x y D').map fun r => (r.1, D) := by
  obtain ⟨op, a, b, c⟩ := i
  rcases flat_ops hf with rfl | rfl | rfl | h5 | rfl | rfl | rfl | rfl | rfl | rfl
  · rfl
  · rfl
  · rfl
  · unfold core
    dsimp only at h5 ⊢
    rw [if_neg (by omega), if_neg (by omega), if_neg (by omega), if_pos h5, if_neg (by omega), if_neg (by omega), if_neg (by omega), if_pos h5, opt_map_map]
  · rfl
  all_goals exact absurd hm (by simp [touches])

theorem touches_wr {i : Ins} (hf : flat i) : (wrt i.op = true ∧ (touches i).2.1 = i.a) ∨ (wrt i.op = false ∧ (touches i).2.1 = -1) := by
  obtain ⟨op, a, b, c⟩ := i
  rcases flat_ops hf with rfl | rfl | rfl | h5 | rfl | rfl | rfl | rfl | rfl | rfl
  · exact .inl ⟨rfl, rfl⟩
  · exact .inl ⟨rfl, rfl⟩
  · exact .inl ⟨rfl, rfl⟩
  · refine .inl ⟨?_, by rw [touches_mid h5]⟩
    unfold wrt; dsimp only at h5 ⊢; simp; omega
  · exact .inl ⟨rfl, rfl⟩
  · exact .inl ⟨rfl, rfl⟩
  · exact .inl ⟨rfl, rfl⟩
  · exact .inr ⟨rfl, rfl⟩
  · exact .inr ⟨rfl, rfl⟩
  · exact .inl ⟨rfl, rfl⟩

theorem touches_pos {i : Ins} (hab : 0 ≤ i.a ∧ i.a < 8 ∧ 0 ≤ i.b ∧ i.b < 8) : ∀ k ∈ (touches i).1, 0 ≤ k := by
  obtain ⟨h1, _, h3, _⟩ := hab
  intro k hk
  unfold touches at hk
  have aux : ∀ (c : Prop) [Decidable c] (x y : List Int × Int × Bool), k ∈ (if c then x else y).1 → k ∈ x.1 ∨ k ∈ y.1 := by
    intro c _ x y h
    split at h
    · exact .inl h
    · exact .inr h
  rcases aux _ _ _ hk with hk | hk
  · simp at hk
  rcases aux _ _ _ hk with hk | hk
  · simp at hk; omega
  rcases aux _ _ _ hk with hk | hk
  · simp at hk; omega
  rcases aux _ _ _ hk with hk | hk
  · simp at hk; omega
  rcases aux _ _ _ hk with hk | hk
  · simp at hk; omega
  rcases aux _ _ _ hk with hk | hk
  · simp at hk; omega
  · simp at hk; omega

/-- May two that follow each other change their places? -/
def apart (i j : Ins) : Prop :=
  ¬ ((touches i).2.2 = true ∧ (touches j).2.2 = true) ∧ (0 ≤ (touches i).2.1 → (touches i).2.1 ≠ (touches j).2.1 ∧ (touches i).2.1 ∉ (touches j).1) ∧ (0 ≤ (touches j).2.1 → (touches j).2.1 ∉ (touches i).1)

/-- Registers that an instruction reads are as they were behind one that writes another. -/
theorem reads_kept {i j : Ins} (hfi : flat i) (hvi : 0 ≤ i.a ∧ i.a < 8 ∧ 0 ≤ i.b ∧ i.b < 8) (hvj : 0 ≤ j.a ∧ j.a < 8 ∧ 0 ≤ j.b ∧ j.b < 8) (h : 0 ≤ (touches i).2.1 → (touches i).2.1 ∉ (touches j).1) (R : List Int) (r : Int × List Int) :
    ∀ k ∈ (touches j).1, rg (toR i.op i.a R r).1 k = rg R k := by
  intro k hk
  unfold toR
  rcases touches_wr hfi with ⟨hw, ha⟩ | ⟨hw, ha⟩
  · rw [ha] at h
    simp only [hw, if_true]
    refine rg_sr_ne R hvi.1 (touches_pos hvj k hk) (fun e => ?_) _
    subst e
    exact h hvi.1 hk
  · simp only [hw]
    rfl

theorem swap_two {i j : Ins} (hfi : flat i) (hfj : flat j) (hvi : 0 ≤ i.a ∧ i.a < 8 ∧ 0 ≤ i.b ∧ i.b < 8) (hvj : 0 ≤ j.a ∧ j.a < 8 ∧ 0 ≤ j.b ∧ j.b < 8) (h : apart i j) (R D : List Int) (x : List Int × List Int) (hx : ln [i, j] (R, D) = some x) : ln [j, i] (R, D) = some x := by
  obtain ⟨hm, hi, hj⟩ := h
  rw [ln_cons] at hx ⊢
  rw [ex_core] at hx ⊢
  cases hci : core i.op i.c (rg R i.a) (rg R i.b) D with
  | none => rw [hci] at hx; cases hx
  | some ri =>
    rw [hci] at hx
    simp only [Option.map_some, Option.bind_some] at hx
    rw [show ln [j] (toR i.op i.a R ri) = ex j (toR i.op i.a R ri).1 (toR i.op i.a R ri).2 from ln1 _ _ _, ex_core] at hx
    rw [core_reads hfj (fun k => rg (toR i.op i.a R ri).1 k) (fun k => rg R k) (reads_kept hfi hvi hvj (fun h0 => (hi h0).2) R ri)] at hx
    have hD2 : (toR i.op i.a R ri).2 = ri.2 := rfl
    rw [hD2] at hx
    -- what j does to the data behind i
    have key : ∃ rj, core j.op j.c (rg R j.a) (rg R j.b) D = some rj ∧ core j.op j.c (rg R j.a) (rg R j.b) ri.2 = some (rj.1, if (touches i).2.2 then ri.2 else rj.2) ∧ ((touches i).2.2 = true → rj.2 = D) := by
      cases hti : (touches i).2.2 with
      | false =>
        have := core_still hfi hti (rg R i.a) (rg R i.b) D D
        rw [hci] at this
        simp only [Option.map_some, Option.some.injEq] at this
        have hri : ri.2 = D := by rw [this]
        rw [hri] at hx ⊢
        cases hcj : core j.op j.c (rg R j.a) (rg R j.b) D with
        | none => rw [hcj] at hx; cases hx
        | some rj => exact ⟨rj, rfl, by simp, fun h => by cases h⟩
      | true =>
        have htj : (touches j).2.2 = false := by
          cases h : (touches j).2.2 with
          | false => rfl
          | true => exact absurd ⟨hti, h⟩ hm
        have h1 := core_still hfj htj (rg R j.a) (rg R j.b) D ri.2
        cases hcj : core j.op j.c (rg R j.a) (rg R j.b) ri.2 with
        | none => rw [hcj] at hx; cases hx
        | some rj =>
          rw [hcj] at h1
          have h2 := core_still hfj htj (rg R j.a) (rg R j.b) ri.2 ri.2
          rw [hcj] at h2
          simp only [Option.map_some, Option.some.injEq] at h2
          exact ⟨(rj.1, D), h1, by rw [h2]; simp, fun _ => rfl⟩
    obtain ⟨rj, hcj, hcj2, hrj⟩ := key
    rw [hcj2] at hx
    simp only [Option.map_some, Option.some.injEq] at hx
    rw [hcj]
    simp only [Option.map_some, Option.bind_some]
    rw [show ln [i] (toR j.op j.a R rj) = ex i (toR j.op j.a R rj).1 (toR j.op j.a R rj).2 from ln1 _ _ _, ex_core]
    rw [core_reads hfi (fun k => rg (toR j.op j.a R rj).1 k) (fun k => rg R k) (reads_kept hfj hvj hvi hj R rj)]
    have hD3 : (toR j.op j.a R rj).2 = rj.2 := rfl
    rw [hD3]
    have hR : (toR j.op j.a (toR i.op i.a R ri).1 (0, [])).1 = (toR j.op j.a (toR i.op i.a R ri).1 (0, [])).1 := rfl
    -- registers
    have hregs : ∀ (u : Int × List Int), (toR i.op i.a (toR j.op j.a R rj).1 u).1 = (if wrt j.op then sr (if wrt i.op then sr R i.a u.1 else R) j.a rj.1 else (if wrt i.op then sr R i.a u.1 else R)) := by
      intro u
      unfold toR
      dsimp only
      rcases touches_wr hfi with ⟨hw, ha⟩ | ⟨hw, ha⟩
      · rcases touches_wr hfj with ⟨hw2, ha2⟩ | ⟨hw2, ha2⟩
        · simp only [hw, hw2, if_true]
          have hne : i.a ≠ j.a := by
            have := (hi (by rw [ha]; exact hvi.1)).1
            rw [ha, ha2] at this
            exact this
          exact sr_comm R hvj.1 hvi.1 (Ne.symm hne) _ _
        · simp [hw, hw2]
      · rcases touches_wr hfj with ⟨hw2, ha2⟩ | ⟨hw2, ha2⟩
        · simp [hw, hw2]
        · simp [hw, hw2]
    cases hti : (touches i).2.2 with
    | false =>
      have h1 := core_still hfi hti (rg R i.a) (rg R i.b) rj.2 D
      rw [hci] at h1
      rw [h1]
      simp only [Option.map_some, Option.some.injEq]
      rw [hti] at hx
      rw [← hx]
      refine Prod.ext ?_ rfl
      rw [hregs]
      rfl
    | true =>
      have hrD := hrj hti
      rw [hrD, hci]
      simp only [Option.map_some, Option.some.injEq]
      rw [hti] at hx
      rw [← hx]
      refine Prod.ext ?_ rfl
      rw [hregs]
      rfl

/-- TopLinesSwapped. -/
theorem swap_same {a b : List Ins} {i j : Ins} (hv : ∀ k ∈ a ++ i :: j :: b, valid k) (hf : ∀ k ∈ a ++ i :: j :: b, flat k) (hl : (a ++ i :: j :: b).length ≤ 60) (h : apart i j) : Same (a ++ i :: j :: b) (a ++ j :: i :: b) := by
  have hall : ∀ k ∈ a ++ j :: i :: b, valid k ∧ flat k := by
    intro k hk
    have : k ∈ a ++ i :: j :: b := by
      simp only [List.mem_append, List.mem_cons] at hk ⊢
      rcases hk with h | h | h | h
      · exact .inl h
      · exact .inr (.inr (.inl h))
      · exact .inr (.inl h)
      · exact .inr (.inr (.inr h))
    exact ⟨hv k this, hf k this⟩
  simp only [List.length_append, List.length_cons] at hl
  refine ⟨fun k hk => (hall k hk).1, by simp; omega, fun R D x hR hD hx => ?_⟩
  rw [run_straight _ (fun k hk => (hall k hk).2) (by simp; omega), ln_app]
  rw [ln_app] at hx
  cases ha : ln a (R, D) with
  | none => rw [ha] at hx; cases hx
  | some y =>
    rw [ha] at hx
    simp only [Option.bind_some] at hx ⊢
    rw [show i :: j :: b = [i, j] ++ b from rfl, ln_app] at hx
    rw [show j :: i :: b = [j, i] ++ b from rfl, ln_app]
    cases h2 : ln [i, j] y with
    | none => rw [h2] at hx; cases hx
    | some z =>
      rw [h2] at hx
      have hvi := hall i (by simp)
      have hvj := hall j (by simp)
      rw [show ln [j, i] y = some z from swap_two hvi.2 hvj.2 (valid_ab hvi.1) (valid_ab hvj.1) h y.1 y.2 z h2]
      exact hx
end Go.Proofs.YtghjjemnegncpaaGreatDoor.Pl
