/- The laws of what stands in an instruction's place, or between instructions: in plain lists. No Go in it. -/
import Derived.Test.YtghjjemnegncpaaGreatDoorLaws
set_option linter.unusedSimpArgs false
set_option linter.unusedVariables false
set_option linter.unnecessarySimpa false
namespace Go.Proofs.YtghjjemnegncpaaGreatDoor.Pl

theorem ln1 (i : Ins) (R D : List Int) : ln [i] (R, D) = ex i R D := by
  simp only [ln]
  cases ex i R D <;> rfl
theorem ln_cons (i : Ins) (l : List Ins) (R D : List Int) : ln (i :: l) (R, D) = (ex i R D).bind (ln l) := rfl
theorem some_bind' {i : Ins} {l : List Ins} {R D R1 D1 : List Int} (h : ex i R D = some (R1, D1)) : ln (i :: l) (R, D) = ln l (R1, D1) := by
  rw [ln_cons, h]; rfl

/-! ### TopMovesWritten -/
def byMoves (bits : Bool) (i : Ins) : Option (List Ins) :=
  if i.op = 4 ∧ bits = true ∧ i.a ≠ i.b then some [⟨9, i.a, i.b, 0⟩, ⟨10, i.a, i.b, 0⟩]
  else if i.op = 4 then some [⟨14, i.a, i.b, 0⟩]
  else if i.op = 14 ∧ i.a ≠ i.b then some [⟨4, i.a, i.b, 0⟩, ⟨14, i.a, i.a, i.c⟩] else none

theorem two_mem {p : Ins → Prop} {x y : Ins} (hx : p x) (hy : p y) : ∀ j ∈ [x, y], p j := by
  intro j hj
  simp only [List.mem_cons, List.not_mem_nil, or_false] at hj
  rcases hj with rfl | rfl
  · exact hx
  · exact hy
theorem one_mem {p : Ins → Prop} {x : Ins} (hx : p x) : ∀ j ∈ [x], p j := by
  intro j hj
  simp only [List.mem_cons, List.not_mem_nil, or_false] at hj
  subst hj
  exact hx

/-- An instruction that has all fields it may have. -/
theorem mk_valid {op a b c : Int} (h1 : 2 ≤ op) (h2 : op ≤ 18 ∨ op = 25) (ha : 0 ≤ a ∧ a < 8) (hb : 0 ≤ b ∧ b < 8) (hc : -32768 ≤ c ∧ c ≤ 32767) (hb0 : fl op / 2 % 2 = 0 → b = 0) (hc0 : fl op / 4 = 0 → c = 0) : valid ⟨op, a, b, c⟩ ∧ flat ⟨op, a, b, c⟩ := by
  refine ⟨⟨by dsimp only; omega, by dsimp only; omega, ha.1, ha.2, hb.1, hb.2, hc.1, hc.2, fun h => ?_, hb0, hc0⟩, h1, h2⟩
  exfalso
  dsimp only at h
  have hx : (op = 2 ∨ op = 3 ∨ op = 4 ∨ op = 5 ∨ op = 6 ∨ op = 7 ∨ op = 8 ∨ op = 9 ∨ op = 10 ∨ op = 11 ∨ op = 12 ∨ op = 13 ∨ op = 14 ∨ op = 15 ∨ op = 16 ∨ op = 17 ∨ op = 18 ∨ op = 25) := by omega
  rcases hx with rfl | rfl | rfl | rfl | rfl | rfl | rfl | rfl | rfl | rfl | rfl | rfl | rfl | rfl | rfl | rfl | rfl | rfl <;> exact absurd h (by decide)

theorem moves_ok {bits : Bool} {i : Ins} {m : List Ins} (hv : valid i) (h : byMoves bits i = some m) : OkPut i m := by
  obtain ⟨op, a, b, c⟩ := i
  have hab := valid_ab hv
  have hc : -32768 ≤ c ∧ c ≤ 32767 := ⟨hv.2.2.2.2.2.2.1, hv.2.2.2.2.2.2.2.1⟩
  dsimp only at hab
  obtain ⟨ha1, ha2, hb1, hb2⟩ := hab
  unfold byMoves at h
  dsimp only at h
  rcases ite_case h with ⟨⟨rfl, _, hne⟩, hm⟩ | ⟨_, h⟩
  · cases hm
    refine ⟨two_mem (mk_valid (by decide) (by decide) ⟨ha1, ha2⟩ ⟨hb1, hb2⟩ (by decide) (fun h => absurd h (by decide)) (fun _ => rfl)) (mk_valid (by decide) (by decide) ⟨ha1, ha2⟩ ⟨hb1, hb2⟩ (by decide) (fun h => absurd h (by decide)) (fun _ => rfl)), by simp, fun R D x hR hD hx => ?_⟩
    rw [ex4] at hx
    cases hx
    rw [some_bind' (ex9 _ _ _ _ _), ln1, ex10, rg_sr hR.1 ha1 ha2, rg_sr_ne R ha1 hb1 hne, sr_sr, and_or32 (rg_bd hR hb1 hb2).1]
  rcases ite_case h with ⟨rfl, hm⟩ | ⟨_, h⟩
  · cases hm
    refine ⟨one_mem (mk_valid (by decide) (by decide) ⟨ha1, ha2⟩ ⟨hb1, hb2⟩ (by decide) (fun h => absurd h (by decide)) (fun h => absurd h (by decide))), by simp, fun R D x hR hD hx => ?_⟩
    rw [ex4] at hx
    cases hx
    have := rg_bd hR hb1 hb2
    rw [ln1, ex14, Int.add_zero, m32_id this.1 this.2]
  rcases ite_case h with ⟨⟨rfl, hne⟩, hm⟩ | ⟨_, h⟩
  · cases hm
    refine ⟨two_mem (mk_valid (by decide) (by decide) ⟨ha1, ha2⟩ ⟨hb1, hb2⟩ (by decide) (fun h => absurd h (by decide)) (fun _ => rfl)) (mk_valid (by decide) (by decide) ⟨ha1, ha2⟩ ⟨ha1, ha2⟩ hc (fun h => absurd h (by decide)) (fun h => absurd h (by decide))), by simp, fun R D x hR hD hx => ?_⟩
    rw [ex14] at hx
    cases hx
    rw [some_bind' (ex4 _ _ _ _ _), ln1, ex14, rg_sr hR.1 ha1 ha2, sr_sr]
  · cases h

/-! ### TopSetsWritten -/
def bySets (how : Nat) (i : Ins) : Option (List Ins) :=
  if i.op = 2 then some (if how = 0 then [⟨6, i.a, i.a, 0⟩, ⟨14, i.a, i.a, i.c⟩] else if how = 1 then [⟨11, i.a, i.a, 0⟩, ⟨14, i.a, i.a, i.c⟩] else [⟨2, i.a, 0, if i.c < 0 then -1 else 0⟩, ⟨3, i.a, 0, i.c⟩]) else none

theorem sets_ok {how : Nat} {i : Ins} {m : List Ins} (hv : valid i) (h : bySets how i = some m) : OkPut i m := by
  obtain ⟨op, a, b, c⟩ := i
  have hab := valid_ab hv
  have hc : -32768 ≤ c ∧ c ≤ 32767 := ⟨hv.2.2.2.2.2.2.1, hv.2.2.2.2.2.2.2.1⟩
  dsimp only at hab
  obtain ⟨ha1, ha2, hb1, hb2⟩ := hab
  unfold bySets at h
  dsimp only at h
  rcases ite_case h with ⟨rfl, hm⟩ | ⟨_, h⟩
  · cases hm
    by_cases h0 : how = 0
    · rw [if_pos h0]
      refine ⟨two_mem (mk_valid (by decide) (by decide) ⟨ha1, ha2⟩ ⟨ha1, ha2⟩ (by decide) (fun h => absurd h (by decide)) (fun _ => rfl)) (mk_valid (by decide) (by decide) ⟨ha1, ha2⟩ ⟨ha1, ha2⟩ hc (fun h => absurd h (by decide)) (fun h => absurd h (by decide))), by simp, fun R D x hR hD hx => ?_⟩
      rw [ex2] at hx
      cases hx
      rw [some_bind' (ex6 _ _ _ _ _), ln1, ex14, rg_sr hR.1 ha1 ha2, sr_sr, Int.sub_self, m32_add, Int.zero_add]
    rw [if_neg h0]
    by_cases h1 : how = 1
    · rw [if_pos h1]
      refine ⟨two_mem (mk_valid (by decide) (by decide) ⟨ha1, ha2⟩ ⟨ha1, ha2⟩ (by decide) (fun h => absurd h (by decide)) (fun _ => rfl)) (mk_valid (by decide) (by decide) ⟨ha1, ha2⟩ ⟨ha1, ha2⟩ hc (fun h => absurd h (by decide)) (fun h => absurd h (by decide))), by simp, fun R D x hR hD hx => ?_⟩
      rw [ex2] at hx
      cases hx
      rw [some_bind' (ex11 _ _ _ _ _), ln1, ex14, rg_sr hR.1 ha1 ha2, sr_sr, xor_self32, Int.zero_add]
    rw [if_neg h1]
    have hk : -32768 ≤ (if c < 0 then (-1 : Int) else 0) ∧ (if c < 0 then (-1 : Int) else 0) ≤ 32767 := by split <;> decide
    refine ⟨two_mem (mk_valid (by decide) (by decide) ⟨ha1, ha2⟩ (by decide) hk (fun _ => rfl) (fun h => absurd h (by decide))) (mk_valid (by decide) (by decide) ⟨ha1, ha2⟩ (by decide) hc (fun _ => rfl) (fun h => absurd h (by decide))), by simp, fun R D x hR hD hx => ?_⟩
    rw [ex2] at hx
    cases hx
    rw [some_bind' (ex2 _ _ _ _ _), ln1, ex3, rg_sr hR.1 ha1 ha2, sr_sr]
    have : m32 (m32 (if c < 0 then -1 else 0) * 65536) + c % 65536 = m32 c := by
      unfold m32
      split <;> omega
    rw [this]
  · cases h

/-! ### TopSumsParted -/
/-- Some of a number. -/
def part (k c : Int) : Prop := (0 ≤ k ∧ k ≤ c) ∨ (c ≤ k ∧ k ≤ 0)
def bySums (kf : Int → Int) (i : Ins) : Option (List Ins) :=
  if i.op = 14 ∨ i.op = 2 then some [⟨i.op, i.a, i.b, kf i.c⟩, ⟨14, i.a, i.a, i.c - kf i.c⟩] else none

theorem sums_ok {kf : Int → Int} (hk : ∀ c, -32768 ≤ c ∧ c ≤ 32767 → part (kf c) c) {i : Ins} {m : List Ins} (hv : valid i) (h : bySums kf i = some m) : OkPut i m := by
  obtain ⟨op, a, b, c⟩ := i
  have hab := valid_ab hv
  have hc : -32768 ≤ c ∧ c ≤ 32767 := ⟨hv.2.2.2.2.2.2.1, hv.2.2.2.2.2.2.2.1⟩
  have hb0 := hv.2.2.2.2.2.2.2.2.2.1
  dsimp only at hab hb0
  obtain ⟨ha1, ha2, hb1, hb2⟩ := hab
  have hk := hk c hc
  unfold bySums at h
  dsimp only at h
  generalize kf c = k at *
  unfold part at hk
  rcases ite_case h with ⟨ho, hm⟩ | ⟨_, h⟩
  · cases hm
    rcases ho with rfl | rfl
    · refine ⟨two_mem (mk_valid (by decide) (by decide) ⟨ha1, ha2⟩ ⟨hb1, hb2⟩ (by omega) (fun h => absurd h (by decide)) (fun h => absurd h (by decide))) (mk_valid (by decide) (by decide) ⟨ha1, ha2⟩ ⟨ha1, ha2⟩ (by omega) (fun h => absurd h (by decide)) (fun h => absurd h (by decide))), by simp, fun R D x hR hD hx => ?_⟩
      rw [ex14] at hx
      cases hx
      rw [some_bind' (ex14 _ _ _ _ _), ln1, ex14, rg_sr hR.1 ha1 ha2, sr_sr, m32_add, show rg R b + k + (c - k) = rg R b + c by omega]
    · refine ⟨two_mem (mk_valid (by decide) (by decide) ⟨ha1, ha2⟩ ⟨hb1, hb2⟩ (by omega) hb0 (fun h => absurd h (by decide))) (mk_valid (by decide) (by decide) ⟨ha1, ha2⟩ ⟨ha1, ha2⟩ (by omega) (fun h => absurd h (by decide)) (fun h => absurd h (by decide))), by simp, fun R D x hR hD hx => ?_⟩
      rw [ex2] at hx
      cases hx
      rw [some_bind' (ex2 _ _ _ _ _), ln1, ex14, rg_sr hR.1 ha1 ha2, sr_sr, m32_add, show k + (c - k) = c by omega]
  · cases h

/-! ### TopMemoryTwice -/
def byMem (how : Nat) (i : Ins) : Option (List Ins) :=
  if i.op = 17 ∧ how = 0 then some [i, ⟨15, i.a, i.b, i.c⟩]
  else if i.op = 17 ∧ how = 1 then some [i, ⟨25, i.a, i.b, i.c⟩]
  else if i.op = 15 ∧ i.a ≠ i.b ∧ how = 0 then some [i, ⟨25, i.a, i.b, i.c⟩]
  else if i.op = 15 ∧ i.a ≠ i.b ∧ how = 1 then some [i, ⟨17, i.a, i.b, i.c⟩]
  else if i.op = 17 ∨ i.op = 18 ∨ ((i.op = 15 ∨ i.op = 16) ∧ i.a ≠ i.b) then some [i, i]
  else if i.op = 25 ∧ i.a ≠ i.b then some [i, i, i] else none

theorem mem_valid {op a b c : Int} (h1 : op = 15 ∨ op = 16 ∨ op = 17 ∨ op = 18 ∨ op = 25) (ha1 : 0 ≤ a) (ha2 : a < 8) (hb1 : 0 ≤ b) (hb2 : b < 8) (hc : -32768 ≤ c ∧ c ≤ 32767) : valid ⟨op, a, b, c⟩ ∧ flat ⟨op, a, b, c⟩ := by
  rcases h1 with rfl | rfl | rfl | rfl | rfl
  all_goals exact mk_valid (by decide) (by decide) ⟨ha1, ha2⟩ ⟨hb1, hb2⟩ hc (fun h => absurd h (by decide)) (fun h => absurd h (by decide))

theorem mem_ok {how : Nat} {i : Ins} {m : List Ins} (hv : valid i) (h : byMem how i = some m) : OkPut i m := by
  obtain ⟨op, a, b, c⟩ := i
  have hab := valid_ab hv
  have hc : -32768 ≤ c ∧ c ≤ 32767 := ⟨hv.2.2.2.2.2.2.1, hv.2.2.2.2.2.2.2.1⟩
  dsimp only at hab
  obtain ⟨ha1, ha2, hb1, hb2⟩ := hab
  unfold byMem at h
  dsimp only at h
  rcases ite_case h with ⟨⟨rfl, _⟩, hm⟩ | ⟨_, h⟩
  · cases hm
    refine ⟨two_mem (mem_valid (by decide) ha1 ha2 hb1 hb2 hc) (mem_valid (by decide) ha1 ha2 hb1 hb2 hc), by simp, fun R D x hR hD hx => ?_⟩
    have hx0 := hx
    rw [ex17] at hx
    rcases ite_case hx with ⟨ho, hx⟩ | ⟨_, hx⟩
    · cases hx
      have hb := rg_bd hR ha1 ha2
      rw [some_bind' hx0, ln1, ex15, okw_pw, if_pos ho, gw_pw ho hb.1 hb.2, sr_id hR.1 ha1 ha2]
    · cases hx
  rcases ite_case h with ⟨⟨rfl, _⟩, hm⟩ | ⟨_, h⟩
  · cases hm
    refine ⟨two_mem (mem_valid (by decide) ha1 ha2 hb1 hb2 hc) (mem_valid (by decide) ha1 ha2 hb1 hb2 hc), by simp, fun R D x hR hD hx => ?_⟩
    have hx0 := hx
    rw [ex17] at hx
    rcases ite_case hx with ⟨ho, hx⟩ | ⟨_, hx⟩
    · cases hx
      have hb := rg_bd hR ha1 ha2
      rw [some_bind' hx0, ln1, ex25, okw_pw, if_pos ho, gw_pw ho hb.1 hb.2, sr_id hR.1 ha1 ha2, pw_pw ho]
    · cases hx
  rcases ite_case h with ⟨⟨rfl, hne, _⟩, hm⟩ | ⟨_, h⟩
  · cases hm
    refine ⟨two_mem (mem_valid (by decide) ha1 ha2 hb1 hb2 hc) (mem_valid (by decide) ha1 ha2 hb1 hb2 hc), by simp, fun R D x hR hD hx => ?_⟩
    have hx0 := hx
    rw [ex15] at hx
    rcases ite_case hx with ⟨ho, hx⟩ | ⟨_, hx⟩
    · cases hx
      rw [some_bind' hx0, ln1, ex25, rg_sr_ne R ha1 hb1 hne, if_pos ho, rg_sr hR.1 ha1 ha2, sr_sr, pw_gw hD ho]
    · cases hx
  rcases ite_case h with ⟨⟨rfl, hne, _⟩, hm⟩ | ⟨_, h⟩
  · cases hm
    refine ⟨two_mem (mem_valid (by decide) ha1 ha2 hb1 hb2 hc) (mem_valid (by decide) ha1 ha2 hb1 hb2 hc), by simp, fun R D x hR hD hx => ?_⟩
    have hx0 := hx
    rw [ex15] at hx
    rcases ite_case hx with ⟨ho, hx⟩ | ⟨_, hx⟩
    · cases hx
      rw [some_bind' hx0, ln1, ex17, rg_sr_ne R ha1 hb1 hne, if_pos ho, rg_sr hR.1 ha1 ha2, pw_gw hD ho]
    · cases hx
  rcases ite_case h with ⟨ho, hm⟩ | ⟨_, h⟩
  · cases hm
    rcases ho with rfl | rfl | ⟨rfl | rfl, hne⟩
    · refine ⟨two_mem (mem_valid (by decide) ha1 ha2 hb1 hb2 hc) (mem_valid (by decide) ha1 ha2 hb1 hb2 hc), by simp, fun R D x hR hD hx => ?_⟩
      have hx0 := hx
      rw [ex17] at hx
      rcases ite_case hx with ⟨ho, hx⟩ | ⟨_, hx⟩
      · cases hx
        rw [some_bind' hx0, ln1, ex17, okw_pw, if_pos ho, pw_pw ho]
      · cases hx
    · refine ⟨two_mem (mem_valid (by decide) ha1 ha2 hb1 hb2 hc) (mem_valid (by decide) ha1 ha2 hb1 hb2 hc), by simp, fun R D x hR hD hx => ?_⟩
      have hx0 := hx
      rw [ex18] at hx
      rcases ite_case hx with ⟨ho, hx⟩ | ⟨_, hx⟩
      · cases hx
        rw [some_bind' hx0, ln1, ex18, ok1_pb, if_pos ho, pb_pb]
      · cases hx
    · refine ⟨two_mem (mem_valid (by decide) ha1 ha2 hb1 hb2 hc) (mem_valid (by decide) ha1 ha2 hb1 hb2 hc), by simp, fun R D x hR hD hx => ?_⟩
      have hx0 := hx
      rw [ex15] at hx
      rcases ite_case hx with ⟨ho, hx⟩ | ⟨_, hx⟩
      · cases hx
        rw [some_bind' hx0, ln1, ex15, rg_sr_ne R ha1 hb1 hne, if_pos ho, sr_sr]
      · cases hx
    · refine ⟨two_mem (mem_valid (by decide) ha1 ha2 hb1 hb2 hc) (mem_valid (by decide) ha1 ha2 hb1 hb2 hc), by simp, fun R D x hR hD hx => ?_⟩
      have hx0 := hx
      rw [ex16] at hx
      rcases ite_case hx with ⟨ho, hx⟩ | ⟨_, hx⟩
      · cases hx
        rw [some_bind' hx0, ln1, ex16, rg_sr_ne R ha1 hb1 hne, if_pos ho, sr_sr]
      · cases hx
  rcases ite_case h with ⟨⟨rfl, hne⟩, hm⟩ | ⟨_, h⟩
  · cases hm
    have hv1 := mem_valid (op := 25) (by decide) ha1 ha2 hb1 hb2 hc
    refine ⟨fun j hj => by simp only [List.mem_cons, List.not_mem_nil, or_false, or_self] at hj; subst hj; exact hv1, by simp, fun R D x hR hD hx => ?_⟩
    have hx0 := hx
    rw [ex25] at hx
    rcases ite_case hx with ⟨ho, hx⟩ | ⟨_, hx⟩
    · cases hx
      have hb := rg_bd hR ha1 ha2
      have h2 : ex ⟨25, a, b, c⟩ (sr R a (gw D (m32 (rg R b + c)))) (pw D (m32 (rg R b + c)) (rg R a)) = some (R, D) := by
        rw [ex25, rg_sr_ne R ha1 hb1 hne, okw_pw, if_pos ho, rg_sr hR.1 ha1 ha2, gw_pw ho hb.1 hb.2, sr_sr, sr_id hR.1 ha1 ha2, pw_pw ho, pw_gw hD ho]
      rw [some_bind' hx0, some_bind' h2, ln1, hx0]
    · cases hx
  · cases h

/-! ### What stands between -/

/-- Instructions that change nothing, put between. -/
theorem ins_flat {a b m : List Ins} (hv : ∀ j ∈ a ++ b, valid j) (hf : ∀ j ∈ a ++ b, flat j) (hl : (a ++ b).length ≤ 60) (hm : ∀ j ∈ m, valid j ∧ flat j) (hml : m.length ≤ 3) (he : ∀ R D, goodR R → goodD D → ln m (R, D) = some (R, D)) : Same (a ++ b) (a ++ m ++ b) := by
  have hva : ∀ j ∈ a, valid j ∧ flat j := fun j hj => ⟨hv j (by simp [hj]), hf j (by simp [hj])⟩
  have hvb : ∀ j ∈ b, valid j ∧ flat j := fun j hj => ⟨hv j (by simp [hj]), hf j (by simp [hj])⟩
  have hall : ∀ j ∈ a ++ m ++ b, valid j ∧ flat j := by
    intro j hj
    rcases List.mem_append.1 hj with hj | hj
    · rcases List.mem_append.1 hj with hj | hj
      · exact hva j hj
      · exact hm j hj
    · exact hvb j hj
  simp only [List.length_append] at hl
  refine ⟨fun j hj => (hall j hj).1, by simp; omega, fun R D x hR hD hx => ?_⟩
  rw [run_straight _ (fun j hj => (hall j hj).2) (by simp; omega), ln_app, ln_app]
  rw [ln_app] at hx
  cases ha : ln a (R, D) with
  | none => rw [ha] at hx; cases hx
  | some y =>
    rw [ha] at hx
    simp only [Option.bind_some] at hx ⊢
    have hg := ln_good (fun j hj => (hva j hj).1) hR hD ha
    rw [show ln m y = some y from he y.1 y.2 hg.1 hg.2]
    exact hx

theorem at_app_mid {α : Type} (a b c : List α) (k : Nat) (t : Nat) (x : α) (hk : k = a.length) (h : b[t]? = some x) : (a ++ (b ++ c))[k + t]? = some x := by
  have hb := (List.getElem?_eq_some_iff.1 h).1
  rw [List.getElem?_append_right (by omega), show k + t - a.length = t by omega, List.getElem?_append_left hb]
  exact h

theorem start_at (R D : List Int) : (⟨R, 64, D⟩ : St) = ⟨R, 64 + 4 * ((0 : Nat) : Int), D⟩ := by simp

/-- One instruction put between, behind which the next one comes. -/
theorem ins_next {a b : List Ins} {i : Ins} (hv : ∀ j ∈ a ++ b, valid j) (hf : ∀ j ∈ a ++ b, flat j) (hl : (a ++ b).length ≤ 60) (hi : valid i)
    (he : ∀ R D (k : Nat), k ≤ 60 → goodR R → goodD D → step1 i ⟨R, 64 + 4 * (k : Int), D⟩ = some ⟨R, 64 + 4 * ((k + 1 : Nat) : Int), D⟩) : Same (a ++ b) (a ++ [i] ++ b) := by
  have hva : ∀ j ∈ a, valid j ∧ flat j := fun j hj => ⟨hv j (by simp [hj]), hf j (by simp [hj])⟩
  have hvb : ∀ j ∈ b, valid j ∧ flat j := fun j hj => ⟨hv j (by simp [hj]), hf j (by simp [hj])⟩
  simp only [List.length_append] at hl
  refine ⟨fun j hj => ?_, by simp; omega, fun R D x hR hD hx => ?_⟩
  · simp only [List.mem_append, List.mem_cons, List.not_mem_nil, or_false] at hj
    rcases hj with (hj | rfl) | hj
    · exact (hva j hj).1
    · exact hi
    · exact (hvb j hj).1
  · rw [ln_app] at hx
    cases ha : ln a (R, D) with
    | none => rw [ha] at hx; cases hx
    | some y =>
      rw [ha] at hx
      simp only [Option.bind_some] at hx
      have hg := ln_good (fun j hj => (hva j hj).1) hR hD ha
      have hlen : (a ++ [i] ++ b).length ≤ 300 := by simp; omega
      have s1 := steps_flat hlen a 0 R D y (fun j hj => (hva j hj).2) (fun t j hj => by
        have := (List.getElem?_eq_some_iff.1 hj).1
        rw [List.append_assoc, Nat.zero_add, List.getElem?_append_left this]
        exact hj) ha
      have s2 : steps 1 (a ++ [i] ++ b) ⟨y.1, 64 + 4 * ((0 + a.length : Nat) : Int), y.2⟩ = some ⟨y.1, 64 + 4 * ((a.length + 1 : Nat) : Int), y.2⟩ := by
        rw [Nat.zero_add]
        refine steps_one ?_ (he y.1 y.2 a.length (by omega) hg.1 hg.2)
        have := at_app_mid a [i] b a.length 0 i rfl rfl
        rw [List.append_assoc]
        simpa using this
      have s3 := steps_flat hlen b (a.length + 1) y.1 y.2 x (fun j hj => (hvb j hj).2) (fun t j hj => by
        rw [List.getElem?_append_right (by simp)]
        simpa using hj) hx
      have s := steps_add _ _ _ (steps_add _ _ _ s1 s2) s3
      rw [start_at]
      refine run_end_of (n := a.length + 1 + b.length) ?_ (by omega)
      rw [s]
      congr 3
      simp
      omega

theorem jump_valid {c : Int} (h1 : -32768 ≤ c) (h2 : c ≤ 32767) : valid ⟨19, 0, 0, c⟩ :=
  ⟨by dsimp only; decide, by dsimp only; decide, by dsimp only; decide, by dsimp only; decide, by dsimp only; decide, by dsimp only; decide, h1, h2, fun _ => rfl, fun _ => rfl, fun h => absurd h (by dsimp only; decide)⟩

/-- TopJunkSkipped. -/
theorem junk_same {a b junk : List Ins} (hv : ∀ j ∈ a ++ b, valid j) (hf : ∀ j ∈ a ++ b, flat j) (hl : (a ++ b).length ≤ 60) (hj : ∀ j ∈ junk, valid j) (hjl : junk.length ≤ 20) :
    Same (a ++ b) (a ++ ([⟨19, 0, 0, 4 * ((junk.length : Int) + 1)⟩] ++ (junk ++ b))) := by
  have hva : ∀ j ∈ a, valid j ∧ flat j := fun j hj => ⟨hv j (by simp [hj]), hf j (by simp [hj])⟩
  have hvb : ∀ j ∈ b, valid j ∧ flat j := fun j hj => ⟨hv j (by simp [hj]), hf j (by simp [hj])⟩
  simp only [List.length_append] at hl
  refine ⟨fun j hjm => ?_, by simp; omega, fun R D x hR hD hx => ?_⟩
  · simp only [List.mem_append, List.mem_cons, List.not_mem_nil, or_false] at hjm
    rcases hjm with hjm | rfl | hjm | hjm
    · exact (hva j hjm).1
    · exact jump_valid (by omega) (by omega)
    · exact hj j hjm
    · exact (hvb j hjm).1
  · rw [ln_app] at hx
    cases ha : ln a (R, D) with
    | none => rw [ha] at hx; cases hx
    | some y =>
      rw [ha] at hx
      simp only [Option.bind_some] at hx
      generalize hP : a ++ ([(⟨19, 0, 0, 4 * ((junk.length : Int) + 1)⟩ : Ins)] ++ (junk ++ b)) = P
      have hPl : P.length = a.length + 1 + junk.length + b.length := by rw [← hP]; simp; omega
      have hlen : P.length ≤ 300 := by omega
      have s1 := steps_flat hlen a 0 R D y (fun j hj => (hva j hj).2) (fun t j hj => by
        have := (List.getElem?_eq_some_iff.1 hj).1
        rw [← hP, Nat.zero_add, List.getElem?_append_left this]
        exact hj) ha
      have s2 : steps 1 P ⟨y.1, 64 + 4 * ((0 + a.length : Nat) : Int), y.2⟩ = some ⟨y.1, 64 + 4 * ((a.length + 1 + junk.length : Nat) : Int), y.2⟩ := by
        rw [Nat.zero_add]
        refine steps_one (i := ⟨19, 0, 0, 4 * ((junk.length : Int) + 1)⟩) ?_ ?_
        · rw [← hP, List.getElem?_append_right (by omega)]
          simp
        · unfold step1
          rw [if_pos rfl]
          dsimp only
          congr 2
          unfold m32; omega
      have s3 := steps_flat hlen b (a.length + 1 + junk.length) y.1 y.2 x (fun j hj => (hvb j hj).2) (fun t j hj => by
        rw [← hP, List.getElem?_append_right (by omega), List.getElem?_append_right (by simp; omega), List.getElem?_append_right (by simp; omega)]
        rw [← hj]
        congr 1
        simp; omega) hx
      have s := steps_add _ _ _ (steps_add _ _ _ s1 s2) s3
      rw [start_at]
      refine run_end_of (n := a.length + 1 + b.length) ?_ (by omega)
      rw [s, hPl]

/-- TopHalvesTurned. -/
theorem halves_same {a b : List Ins} (hv : ∀ j ∈ a ++ b, valid j) (hf : ∀ j ∈ a ++ b, flat j) (hl : (a ++ b).length ≤ 60) :
    Same (a ++ b) ([⟨19, 0, 0, 4 * ((b.length : Int) + 2)⟩] ++ (b ++ ([⟨19, 0, 0, 4 * ((a.length : Int) + 2)⟩] ++ (a ++ [⟨19, 0, 0, 4 * (-(a.length : Int) - b.length - 1)⟩])))) := by
  have hva : ∀ j ∈ a, valid j ∧ flat j := fun j hj => ⟨hv j (by simp [hj]), hf j (by simp [hj])⟩
  have hvb : ∀ j ∈ b, valid j ∧ flat j := fun j hj => ⟨hv j (by simp [hj]), hf j (by simp [hj])⟩
  simp only [List.length_append] at hl
  refine ⟨fun j hjm => ?_, by simp; omega, fun R D x hR hD hx => ?_⟩
  · simp only [List.mem_append, List.mem_cons, List.not_mem_nil, or_false] at hjm
    rcases hjm with rfl | hjm | rfl | hjm | rfl
    · exact jump_valid (by omega) (by omega)
    · exact (hvb j hjm).1
    · exact jump_valid (by omega) (by omega)
    · exact (hva j hjm).1
    · exact jump_valid (by omega) (by omega)
  · rw [ln_app] at hx
    cases ha : ln a (R, D) with
    | none => rw [ha] at hx; cases hx
    | some y =>
      rw [ha] at hx
      simp only [Option.bind_some] at hx
      generalize hP : [(⟨19, 0, 0, 4 * ((b.length : Int) + 2)⟩ : Ins)] ++ (b ++ ([⟨19, 0, 0, 4 * ((a.length : Int) + 2)⟩] ++ (a ++ [⟨19, 0, 0, 4 * (-(a.length : Int) - b.length - 1)⟩]))) = P
      have hPl : P.length = a.length + b.length + 3 := by rw [← hP]; simp; omega
      have hlen : P.length ≤ 300 := by omega
      have jmp : ∀ (k k' : Nat) (c : Int) (R D : List Int), P[k]? = some ⟨19, 0, 0, c⟩ → (k' : Int) * 4 = k * 4 + c → k' ≤ 300 → steps 1 P ⟨R, 64 + 4 * (k : Int), D⟩ = some ⟨R, 64 + 4 * (k' : Int), D⟩ := by
        intro k k' c R D h h2 h3
        refine steps_one h ?_
        unfold step1
        rw [if_pos rfl]
        dsimp only
        congr 2
        unfold m32; omega
      have j1 := jmp 0 (b.length + 2) (4 * ((b.length : Int) + 2)) R D (by rw [← hP]; rfl) (by omega) (by omega)
      have s1 := steps_flat hlen a (b.length + 2) R D y (fun j hj => (hva j hj).2) (fun t j hj => by
        have := (List.getElem?_eq_some_iff.1 hj).1
        rw [← hP, List.getElem?_append_right (by simp; omega), List.getElem?_append_right (by simp; omega), List.getElem?_append_right (by simp; omega), List.getElem?_append_left (by simp; omega)]
        rw [← hj]
        congr 1
        simp; omega) ha
      have j2 := jmp (b.length + 2 + a.length) 1 (4 * (-(a.length : Int) - b.length - 1)) y.1 y.2 (by
        rw [← hP, List.getElem?_append_right (by simp; omega), List.getElem?_append_right (by simp; omega), List.getElem?_append_right (by simp; omega), List.getElem?_append_right (by simp; omega)]
        have : b.length + 2 + a.length - [(⟨19, 0, 0, 4 * ((b.length : Int) + 2)⟩ : Ins)].length - b.length - [(⟨19, 0, 0, 4 * ((a.length : Int) + 2)⟩ : Ins)].length - a.length = 0 := by simp; omega
        rw [this]
        rfl) (by omega) (by omega)
      have s2 := steps_flat hlen b 1 y.1 y.2 x (fun j hj => (hvb j hj).2) (fun t j hj => by
        have := (List.getElem?_eq_some_iff.1 hj).1
        rw [← hP, List.getElem?_append_right (by simp), List.getElem?_append_left (by simp; omega)]
        rw [← hj]
        congr 1
        simp) hx
      have j3 := jmp (1 + b.length) (a.length + b.length + 3) (4 * ((a.length : Int) + 2)) x.1 x.2 (by
        rw [← hP, List.getElem?_append_right (by simp), List.getElem?_append_right (by simp), List.getElem?_append_left (by simp)]
        have : 1 + b.length - [(⟨19, 0, 0, 4 * ((b.length : Int) + 2)⟩ : Ins)].length - b.length = 0 := by simp
        rw [this]
        rfl) (by omega) (by omega)
      have s := steps_add _ _ _ (steps_add _ _ _ (steps_add _ _ _ (steps_add _ _ _ j1 s1) j2) s2) j3
      rw [start_at]
      refine run_end_of (n := 1 + a.length + 1 + b.length + 1) ?_ (by omega)
      rw [s, hPl]
end Go.Proofs.YtghjjemnegncpaaGreatDoor.Pl
