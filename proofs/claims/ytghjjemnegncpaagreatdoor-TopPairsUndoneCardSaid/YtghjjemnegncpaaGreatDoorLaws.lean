/- What changes of a straight program leave its end as it was: in plain lists. No Go in it. -/
import Derived.Test.YtghjjemnegncpaaGreatDoorStraight
set_option linter.unusedSimpArgs false
set_option linter.unusedVariables false
namespace Go.Proofs.YtghjjemnegncpaaGreatDoor.Pl

/-! ### Registers -/

theorem rg_sr {R : List Int} (hR : R.length = 8) {a : Int} (h1 : 0 ≤ a) (h2 : a < 8) (v : Int) : rg (sr R a v) a = v := by
  unfold rg sr
  rw [getD_set, if_pos ⟨rfl, by omega⟩]
theorem rg_sr_ne (R : List Int) {a b : Int} (h1 : 0 ≤ a) (h2 : 0 ≤ b) (hne : a ≠ b) (v : Int) : rg (sr R a v) b = rg R b := by
  unfold rg sr
  rw [getD_set, if_neg (by omega)]
theorem sr_sr (R : List Int) (a u v : Int) : sr (sr R a u) a v = sr R a v := by
  unfold sr
  rw [List.set_set]
theorem sr_id {R : List Int} (hR : R.length = 8) {a : Int} (h1 : 0 ≤ a) (h2 : a < 8) : sr R a (rg R a) = R := by
  unfold sr rg
  have h : a.toNat < R.length := by omega
  rw [List.getD_eq_getElem?_getD, List.getElem?_eq_getElem h]
  simp
theorem sr_comm (R : List Int) {a b : Int} (h1 : 0 ≤ a) (h2 : 0 ≤ b) (hne : a ≠ b) (u v : Int) : sr (sr R a u) b v = sr (sr R b v) a u := by
  unfold sr
  exact List.set_comm _ _ (by omega)

theorem valid_ab {i : Ins} (h : valid i) : 0 ≤ i.a ∧ i.a < 8 ∧ 0 ≤ i.b ∧ i.b < 8 := ⟨h.2.2.1, h.2.2.2.1, h.2.2.2.2.1, h.2.2.2.2.2.1⟩

theorem ln_good {l : List Ins} (hv : ∀ i ∈ l, valid i) {R D : List Int} {x : List Int × List Int} (hR : goodR R) (hD : goodD D) (h : ln l (R, D) = some x) : goodR x.1 ∧ goodD x.2 := by
  induction l generalizing R D with
  | nil => cases h; exact ⟨hR, hD⟩
  | cons i l ih =>
    simp only [ln] at h
    cases hx : ex i R D with
    | none => rw [hx] at h; cases h
    | some y =>
      rw [hx] at h
      have hg := ex_good (valid_ab (hv i (by simp))) hR hD hx
      exact ih (fun j hj => hv j (by simp [hj])) hg.1 hg.2.1 h

/-! ### Steps through a program -/

/-- So many steps, none of them at the end. -/
def steps : Nat → List Ins → St → Option St
  | 0, _, s => some s
  | n + 1, ws, s => if s.pc = 64 + 4 * ws.length then none else (step ws s).bind (steps n ws)

theorem run_steps {ws : List Ins} {s' : St} : ∀ (n m : Nat) (s : St), steps n ws s = some s' → run (n + m) ws s = run m ws s'
  | 0, m, s, h => by cases h; rw [Nat.zero_add]
  | n + 1, m, s, h => by
    rw [steps] at h
    rcases ite_case h with ⟨_, h⟩ | ⟨hne, h⟩
    · cases h
    · rw [show n + 1 + m = (n + m) + 1 by omega, run, if_neg hne]
      cases hs : step ws s with
      | none => rw [hs] at h; cases h
      | some s1 =>
        rw [hs] at h
        exact run_steps n m s1 h

theorem steps_add {ws : List Ins} {s1 s2 : St} : ∀ (n m : Nat) (s : St), steps n ws s = some s1 → steps m ws s1 = some s2 → steps (n + m) ws s = some s2
  | 0, m, s, h, h2 => by cases h; rw [Nat.zero_add]; exact h2
  | n + 1, m, s, h, h2 => by
    rw [steps] at h
    rcases ite_case h with ⟨_, h⟩ | ⟨hne, h⟩
    · cases h
    · rw [show n + 1 + m = (n + m) + 1 by omega, steps, if_neg hne]
      cases hs : step ws s with
      | none => rw [hs] at h; cases h
      | some s3 =>
        rw [hs] at h
        exact steps_add n m s3 h h2

/-- One step at place k. -/
theorem steps_one {ws : List Ins} {i : Ins} {k : Nat} {R D : List Int} {s' : St} (h : ws[k]? = some i) (hs : step1 i ⟨R, 64 + 4 * k, D⟩ = some s') : steps 1 ws ⟨R, 64 + 4 * k, D⟩ = some s' := by
  have hk := (List.getElem?_eq_some_iff.1 h).1
  rw [steps, if_neg (by dsimp only; omega)]
  unfold step
  rw [if_pos (by dsimp only; omega)]
  have e : ((64 + 4 * (k : Int) - 64) / 4).toNat = k := by omega
  simp only [e, h, hs]
  rfl

/-- A straight part of a program. -/
theorem steps_flat {ws : List Ins} (hl : ws.length ≤ 300) : ∀ (seg : List Ins) (k : Nat) (R D : List Int) (x : List Int × List Int), (∀ i ∈ seg, flat i) → (∀ t i, seg[t]? = some i → ws[k + t]? = some i) → ln seg (R, D) = some x →
    steps seg.length ws ⟨R, 64 + 4 * k, D⟩ = some ⟨x.1, 64 + 4 * ((k + seg.length : Nat) : Int), x.2⟩
  | [], k, R, D, x, _, _, h => by cases h; rfl
  | i :: seg, k, R, D, x, hf, hat, h => by
    simp only [ln] at h
    have h0 := hat 0 i rfl
    have hk := (List.getElem?_eq_some_iff.1 h0).1
    cases hx : ex i R D with
    | none => rw [hx] at h; cases h
    | some y =>
      rw [hx] at h
      have h1 : steps 1 ws ⟨R, 64 + 4 * (k : Int), D⟩ = some ⟨y.1, 64 + 4 * ((k + 1 : Nat) : Int), y.2⟩ := by
        refine steps_one h0 ?_
        rw [step1_flat (hf i (by simp))]
        dsimp only
        rw [hx]
        simp only [Option.map_some, Option.some.injEq, St.mk.injEq, true_and, and_true]
        unfold m32; omega
      have h2 := steps_flat hl seg (k + 1) y.1 y.2 x (fun j hj => hf j (by simp [hj])) (fun t j hj => by
        rw [show k + 1 + t = k + (t + 1) by omega]
        exact hat (t + 1) j hj) h
      have := steps_add 1 seg.length _ h1 h2
      rw [List.length_cons, Nat.add_comm seg.length 1, this]
      congr 3
      omega

/-- Behind so many steps the end. -/
theorem run_end_of {ws : List Ins} {n : Nat} {s : St} {x : List Int × List Int} (h : steps n ws s = some ⟨x.1, 64 + 4 * (ws.length : Int), x.2⟩) (hn : n < 400) : run 400 ws s = some x := by
  rw [show 400 = n + ((399 - n) + 1) by omega, run_steps n _ s h, run, if_pos rfl]

/-- 'more' has the same end as 'ws', wherever that comes to its end. -/
def Same (ws more : List Ins) : Prop :=
  (∀ i ∈ more, valid i) ∧ more.length ≤ 200 ∧ ∀ R D x, goodR R → goodD D → ln ws (R, D) = some x → run 400 more ⟨R, 64, D⟩ = some x

/-! ### One instruction in another's place -/

def OkPut (i : Ins) (m : List Ins) : Prop := (∀ j ∈ m, valid j ∧ flat j) ∧ m.length ≤ 3 ∧ ∀ R D x, goodR R → goodD D → ex i R D = some x → ln m (R, D) = some x

theorem put_same {a b m : List Ins} {i : Ins} (hv : ∀ j ∈ a ++ i :: b, valid j) (hf : ∀ j ∈ a ++ i :: b, flat j) (hl : (a ++ i :: b).length ≤ 60) (h : OkPut i m) : Same (a ++ i :: b) (a ++ m ++ b) := by
  obtain ⟨hm, hml, he⟩ := h
  have hva : ∀ j ∈ a, valid j ∧ flat j := fun j hj => ⟨hv j (by simp [hj]), hf j (by simp [hj])⟩
  have hvb : ∀ j ∈ b, valid j ∧ flat j := fun j hj => ⟨hv j (by simp [hj]), hf j (by simp [hj])⟩
  have hall : ∀ j ∈ a ++ m ++ b, valid j ∧ flat j := by
    intro j hj
    rcases List.mem_append.1 hj with hj | hj
    · rcases List.mem_append.1 hj with hj | hj
      · exact hva j hj
      · exact hm j hj
    · exact hvb j hj
  simp only [List.length_append, List.length_cons] at hl
  refine ⟨fun j hj => (hall j hj).1, by simp; omega, fun R D x hR hD hx => ?_⟩
  rw [run_straight _ (fun j hj => (hall j hj).2) (by simp; omega), ln_app, ln_app]
  rw [ln_app] at hx
  cases ha : ln a (R, D) with
  | none => rw [ha] at hx; cases hx
  | some y =>
    rw [ha] at hx
    simp only [Option.bind_some, ln] at hx ⊢
    have hg := ln_good (fun j hj => (hva j hj).1) hR hD ha
    cases hi : ex i y.1 y.2 with
    | none => rw [hi] at hx; cases hx
    | some z =>
      rw [hi] at hx
      have := he y.1 y.2 z hg.1 hg.2 hi
      rw [show ln m y = some z from this]
      exact hx

/-! ### Bytes -/

theorem gb_get (D : List Int) (k : Nat) : gb D (4096 + k) = D.getD k 0 := by
  unfold gb
  congr 1
  omega
theorem gb_pb (D : List Int) {p q : Int} (hp : 4096 ≤ p) (hl : p - 4096 < D.length) (hq : 4096 ≤ q) (v : Int) : gb (pb D p v) q = if q = p then v % 256 else gb D q := by
  unfold gb pb
  rw [getD_set]
  by_cases h : q = p
  · rw [if_pos ⟨by omega, by omega⟩, if_pos h]
  · rw [if_neg (by omega), if_neg h]

theorem okw_iff {D : List Int} {p : Int} : okw D p = true ↔ p % 4 = 0 ∧ 4096 ≤ p ∧ p - 4096 + 3 < D.length := by
  unfold okw
  simp only [Bool.and_eq_true, decide_eq_true_eq]
theorem ok1_iff {D : List Int} {p : Int} : ok1 D p = true ↔ 4096 ≤ p ∧ p - 4096 < D.length := by
  unfold ok1
  simp only [Bool.and_eq_true, decide_eq_true_eq]
theorem okw_pw (D : List Int) (p v q : Int) : okw (pw D p v) q = okw D q := by
  unfold okw
  rw [len_pw]
theorem ok1_pb (D : List Int) (p v q : Int) : ok1 (pb D p v) q = ok1 D q := by
  unfold ok1
  rw [len_pb]

theorem gb_pw (D : List Int) {p q : Int} (hp : 4096 ≤ p) (hl : p - 4096 + 3 < D.length) (hq : 4096 ≤ q) (v : Int) :
    gb (pw D p v) q = if q = p + 3 then v / 16777216 % 256 else if q = p + 2 then v / 65536 % 256 else if q = p + 1 then v / 256 % 256 else if q = p then v % 256 else gb D q := by
  unfold pw
  rw [gb_pb _ (by omega) (by simp only [len_pb]; omega) hq, gb_pb _ (by omega) (by simp only [len_pb]; omega) hq, gb_pb _ (by omega) (by simp only [len_pb]; omega) hq, gb_pb _ (by omega) (by omega) hq]

theorem bytes_ext {A B : List Int} (hl : A.length = B.length) (h : ∀ q, 4096 ≤ q → gb A q = gb B q) : A = B := by
  apply List.ext_getElem hl
  intro k h1 h2
  have := h (4096 + k) (by omega)
  rw [gb_get, gb_get] at this
  simpa [List.getD_eq_getElem?_getD, h1, h2] using this

theorem gw_pw {D : List Int} {p v : Int} (h : okw D p = true) (h1 : 0 ≤ v) (h2 : v < 4294967296) : gw (pw D p v) p = v := by
  obtain ⟨_, hp, hl⟩ := okw_iff.1 h
  unfold gw
  rw [gb_pw D hp hl (by omega), gb_pw D hp hl (by omega), gb_pw D hp hl (by omega), gb_pw D hp hl (by omega)]
  rw [if_neg (by omega), if_neg (by omega), if_neg (by omega), if_pos rfl, if_neg (by omega), if_neg (by omega), if_pos rfl, if_neg (by omega), if_pos rfl, if_pos rfl]
  omega
theorem pw_gw {D : List Int} {p : Int} (hD : goodD D) (h : okw D p = true) : pw D p (gw D p) = D := by
  obtain ⟨_, hp, hl⟩ := okw_iff.1 h
  refine bytes_ext (len_pw _ _ _) fun q hq => ?_
  rw [gb_pw D hp hl hq]
  have b0 := gb_bd hD p
  have b1 := gb_bd hD (p + 1)
  have b2 := gb_bd hD (p + 2)
  have b3 := gb_bd hD (p + 3)
  have hg : gw D p = gb D p + 256 * gb D (p + 1) + 65536 * gb D (p + 2) + 16777216 * gb D (p + 3) := rfl
  split
  · rename_i h; subst h; omega
  split
  · rename_i h; subst h; omega
  split
  · rename_i h; subst h; omega
  split
  · rename_i h; subst h; omega
  · rfl
theorem pw_pw {D : List Int} {p : Int} (h : okw D p = true) (u v : Int) : pw (pw D p u) p v = pw D p v := by
  obtain ⟨_, hp, hl⟩ := okw_iff.1 h
  refine bytes_ext (by simp only [len_pw]) fun q hq => ?_
  rw [gb_pw _ hp (by rw [len_pw]; exact hl) hq, gb_pw D hp hl hq, gb_pw D hp hl hq]
  split
  · rfl
  split
  · rfl
  split
  · rfl
  split
  · rfl
  · rfl
theorem pb_pb (D : List Int) (p u v : Int) : pb (pb D p u) p v = pb D p v := by
  unfold pb
  rw [List.set_set]

/-! ### What an instruction does, by its operation -/

section
variable (a b c : Int) (R D : List Int)
theorem ex2 : ex ⟨2, a, b, c⟩ R D = some (sr R a (m32 c), D) := rfl
theorem ex3 : ex ⟨3, a, b, c⟩ R D = some (sr R a (m32 (rg R a * 65536) + c % 65536), D) := rfl
theorem ex4 : ex ⟨4, a, b, c⟩ R D = some (sr R a (rg R b), D) := rfl
theorem ex5 : ex ⟨5, a, b, c⟩ R D = some (sr R a (m32 (rg R a + rg R b)), D) := rfl
theorem ex6 : ex ⟨6, a, b, c⟩ R D = some (sr R a (m32 (rg R a - rg R b)), D) := rfl
theorem ex9 : ex ⟨9, a, b, c⟩ R D = some (sr R a (and32 (rg R a) (rg R b)), D) := rfl
theorem ex10 : ex ⟨10, a, b, c⟩ R D = some (sr R a (or32 (rg R a) (rg R b)), D) := rfl
theorem ex11 : ex ⟨11, a, b, c⟩ R D = some (sr R a (xor32 (rg R a) (rg R b)), D) := rfl
theorem ex14 : ex ⟨14, a, b, c⟩ R D = some (sr R a (m32 (rg R b + c)), D) := rfl
theorem ex15 : ex ⟨15, a, b, c⟩ R D = if okw D (m32 (rg R b + c)) then some (sr R a (gw D (m32 (rg R b + c))), D) else none := rfl
theorem ex16 : ex ⟨16, a, b, c⟩ R D = if ok1 D (m32 (rg R b + c)) then some (sr R a (gb D (m32 (rg R b + c))), D) else none := rfl
theorem ex17 : ex ⟨17, a, b, c⟩ R D = if okw D (m32 (rg R b + c)) then some (R, pw D (m32 (rg R b + c)) (rg R a)) else none := rfl
theorem ex18 : ex ⟨18, a, b, c⟩ R D = if ok1 D (m32 (rg R b + c)) then some (R, pb D (m32 (rg R b + c)) (rg R a)) else none := rfl
theorem ex25 : ex ⟨25, a, b, c⟩ R D = if okw D (m32 (rg R b + c)) then some (sr R a (gw D (m32 (rg R b + c))), pw D (m32 (rg R b + c)) (rg R a)) else none := rfl
end

theorem and_self32 {x : Int} (h : 0 ≤ x) : and32 x x = x := by unfold and32; rw [Nat.and_self]; omega
theorem or_self32 {x : Int} (h : 0 ≤ x) : or32 x x = x := by unfold or32; rw [Nat.or_self]; omega
theorem and_or32 {x y : Int} (hy : 0 ≤ y) : or32 (and32 x y) y = y := by
  unfold or32 and32
  have : ((x.toNat &&& y.toNat : Nat) : Int).toNat ||| y.toNat = y.toNat := by
    rw [Int.toNat_natCast]
    apply Nat.eq_of_testBit_eq
    intro j
    simp only [Nat.testBit_or, Nat.testBit_and]
    cases x.toNat.testBit j <;> cases y.toNat.testBit j <;> rfl
  rw [this]
  omega
theorem xor_self32 (x : Int) : xor32 x x = 0 := by unfold xor32; rw [Nat.xor_self]; rfl
theorem xor_xor32 {x y : Int} (hx : 0 ≤ x) : xor32 (xor32 x y) y = x := by
  unfold xor32
  rw [Int.toNat_natCast, Nat.xor_assoc, Nat.xor_self, Nat.xor_zero]
  omega
theorem m32_add (x y : Int) : m32 (m32 x + y) = m32 (x + y) := by unfold m32; omega
end Go.Proofs.YtghjjemnegncpaaGreatDoor.Pl
