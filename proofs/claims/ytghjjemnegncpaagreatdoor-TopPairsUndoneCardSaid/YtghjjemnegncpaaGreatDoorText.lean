/- Texts in plain lists of bytes: numerals, fields of a line, what is ahead of a remark. No Go in it. -/
import Derived.Test.YtghjjemnegncpaaGreatDoorPlain
import Derived.Lib.Fields
import Derived.Lib.IndexBytes
import Derived.Lib.IndexMore
import Derived.Lib.Atoi
import Derived.Lib.ItoaMem
set_option linter.unusedSimpArgs false
set_option linter.unusedVariables false
namespace Go.Proofs.YtghjjemnegncpaaGreatDoor.Pl
open Go

theorem digit_val {d : Nat} (h : d < 10) : Lib.digitVal (UInt8.ofNat (48 + d)) = some d := by
  have e : (UInt8.ofNat (48 + d)).toNat = 48 + d := by simp; omega
  unfold Lib.digitVal
  rw [e, if_pos (by omega)]
  congr 1
  omega

theorem decFrom_app (acc : Nat) (l : List UInt8) (n : Nat) (d : Nat) (hd : d < 10) (h : Lib.decFrom acc l = some n) : Lib.decFrom acc (l ++ [UInt8.ofNat (48 + d)]) = some (n * 10 + d) := by
  induction l generalizing acc with
  | nil => simp only [Lib.decFrom, Option.some.injEq] at h; subst h; simp only [List.nil_append, Lib.decFrom, digit_val hd]
  | cons b r ih =>
    simp only [List.cons_append, Lib.decFrom] at h ⊢
    cases hb : Lib.digitVal b with
    | none => rw [hb] at h; cases h
    | some x => rw [hb] at h; exact ih _ h

theorem decFrom_digits (u : Nat) : Lib.decFrom 0 (Lib.decDigits u) = some u := by
  induction u using Nat.strongRecOn with
  | _ u ih =>
    rw [Lib.decDigits]
    split
    · rename_i h
      simp only [Lib.decFrom, digit_val h, Nat.zero_mul, Nat.zero_add]
    · rename_i h
      rw [decFrom_app 0 _ (u / 10) (u % 10) (by omega) (ih _ (by omega))]
      congr 1
      omega

theorem digits_ne (u : Nat) : Lib.decDigits u ≠ [] := by
  rw [Lib.decDigits]
  split <;> simp

theorem digits_bytes (u : Nat) : ∀ b ∈ Lib.decDigits u, 48 ≤ b.toNat ∧ b.toNat ≤ 57 := by
  induction u using Nat.strongRecOn with
  | _ u ih =>
    rw [Lib.decDigits]
    split
    · rename_i h
      intro b hb
      simp only [List.mem_singleton] at hb
      subst hb
      simp; omega
    · rename_i h
      intro b hb
      rcases List.mem_append.1 hb with hb | hb
      · exact ih _ (by omega) b hb
      · simp only [List.mem_singleton] at hb
        subst hb
        simp; omega

theorem decNat_digits (u : Nat) : Lib.decNat (Lib.decDigits u) = some u := by
  unfold Lib.decNat
  rw [if_neg (by simpa using digits_ne u)]
  exact decFrom_digits u

theorem atoi_itoa (n : Int) : Lib.atoi (Lib.itoa n) = some n := by
  unfold Lib.itoa
  split
  · rename_i h
    simp only [Lib.atoi, beq_self_eq_true, if_true, decNat_digits, Option.map_some]
    congr 1
    omega
  · rename_i h
    have hb := digits_bytes n.toNat
    have hd := decNat_digits n.toNat
    cases hl : Lib.decDigits n.toNat with
    | nil => exact absurd hl (digits_ne _)
    | cons b r =>
      rw [hl] at hb hd
      have hb := hb b (by simp)
      have h1 : (b == 45) = false := by
        simp only [beq_eq_false_iff_ne, ne_eq]
        rintro rfl
        exact absurd hb.1 (by decide)
      have h2 : (b == 43) = false := by
        simp only [beq_eq_false_iff_ne, ne_eq]
        rintro rfl
        exact absurd hb.1 (by decide)
      simp only [Lib.atoi, h1, h2, hd, Option.map_some]
      simp
      omega

theorem digits_len (u : Nat) (k : Nat) (h : u < 10 ^ (k + 1)) : (Lib.decDigits u).length ≤ k + 1 := by
  induction k generalizing u with
  | zero => rw [Lib.decDigits, dif_pos (by simpa using h)]; simp
  | succ k ih =>
    rw [Lib.decDigits]
    split
    · simp
    · have := ih (u / 10) (by rw [Nat.pow_succ] at h; omega)
      simp; omega

theorem itoa_len (n : Int) (h1 : -1000000 < n) (h2 : n < 1000000) : (Lib.itoa n).length ≤ 7 := by
  unfold Lib.itoa
  split
  · have := digits_len n.natAbs 5 (by omega)
    simp; omega
  · have := digits_len n.toNat 5 (by omega)
    omega

theorem itoa_bytes (n : Int) : ∀ b ∈ Lib.itoa n, b.toNat = 45 ∨ (48 ≤ b.toNat ∧ b.toNat ≤ 57) := by
  unfold Lib.itoa
  split
  · intro b hb
    rcases List.mem_cons.1 hb with rfl | hb
    · exact .inl rfl
    · exact .inr (digits_bytes _ b hb)
  · intro b hb
    exact .inr (digits_bytes _ b hb)

theorem itoa_ne (n : Int) : Lib.itoa n ≠ [] := by
  unfold Lib.itoa
  split
  · simp
  · exact digits_ne _

/-! ### Words of a line -/

/-- A word: no blank, no semicolon in it. -/
def gword (l : List UInt8) : Prop := l ≠ [] ∧ ∀ b ∈ l, 33 ≤ b.toNat ∧ b.toNat ≤ 126 ∧ b.toNat ≠ 59

/-- A register's name. -/
def rgB (k : Int) : List UInt8 := [114, UInt8.ofNat (48 + k.toNat)]
/-- What stands behind the name of an instruction. -/
def flds (i : Ins) : List (List UInt8) :=
  (if fl i.op % 2 = 1 then [rgB i.a] else []) ++ ((if fl i.op / 2 % 2 = 1 then [rgB i.b] else []) ++ (if fl i.op / 4 = 1 then [Lib.itoa i.c] else []))
def wds (i : Ins) : List (List UInt8) := nm i.op :: flds i
/-- The line of an instruction. -/
def showL (i : Ins) : List UInt8 := nm i.op ++ ((flds i).map fun f => 32 :: f).flatten

/-- Words and blanks. -/
inductive Tx : List UInt8 → List (List UInt8) → Prop
  | nil : Tx [] []
  | sp {b : UInt8} {l : List UInt8} {fs : List (List UInt8)} (h : b = 9 ∨ b = 32) (t : Tx l fs) : Tx (b :: l) fs
  | last {v : List UInt8} (h : gword v) : Tx v [v]
  | word {v : List UInt8} {b : UInt8} {l : List UInt8} {fs : List (List UInt8)} (h : gword v) (hb : b = 9 ∨ b = 32) (t : Tx l fs) : Tx (v ++ b :: l) (v :: fs)

theorem sp_blank {b : UInt8} (h : b = 9 ∨ b = 32) : Lib.isSp b = true := by rcases h with rfl | rfl <;> decide
theorem sp_word {b : UInt8} (h : 33 ≤ b.toNat) : Lib.isSp b = false := by
  unfold Lib.isSp
  simp only [Bool.or_eq_false_iff, beq_eq_false_iff_ne, ne_eq]
  refine ⟨⟨⟨⟨⟨?_, ?_⟩, ?_⟩, ?_⟩, ?_⟩, ?_⟩ <;> (rintro rfl; exact absurd h (by decide))

theorem fieldsGo_word (v : List UInt8) (hv : ∀ b ∈ v, 33 ≤ b.toNat) (cur l : List UInt8) : Lib.fieldsGo cur (v ++ l) = Lib.fieldsGo (cur ++ v) l := by
  induction v generalizing cur with
  | nil => simp
  | cons b r ih =>
    rw [List.cons_append, Lib.fieldsGo, sp_word (hv b (by simp))]
    simp only [Bool.false_eq_true, if_false]
    rw [ih (fun x hx => hv x (by simp [hx]))]
    simp

theorem Tx.fields {l : List UInt8} {fs : List (List UInt8)} (h : Tx l fs) : Lib.fields l = fs := by
  unfold Lib.fields
  induction h with
  | nil => rfl
  | sp h t ih => rw [Lib.fieldsGo, sp_blank h]; simpa using ih
  | last h =>
    rename_i v
    have := fieldsGo_word v (fun b hb => (h.2 b hb).1) [] []
    rw [List.append_nil] at this
    rw [this, Lib.fieldsGo]
    simp [h.1]
  | word h hb t ih =>
    rw [fieldsGo_word _ (fun b hb => (h.2 b hb).1), Lib.fieldsGo, sp_blank hb]
    simp [h.1, ih]

theorem Tx.bytes {l : List UInt8} {fs : List (List UInt8)} (h : Tx l fs) : ∀ b ∈ l, (b.toNat = 9 ∨ (32 ≤ b.toNat ∧ b.toNat ≤ 126)) ∧ b.toNat ≠ 59 := by
  induction h with
  | nil => intro b hb; cases hb
  | sp h t ih =>
    intro b hb
    rcases List.mem_cons.1 hb with rfl | hb
    · rcases h with rfl | rfl <;> decide
    · exact ih b hb
  | last h =>
    intro b hb
    have := h.2 b hb
    omega
  | word h hb t ih =>
    intro b hm
    rcases List.mem_append.1 hm with hm | hm
    · have := h.2 b hm
      omega
    · rcases List.mem_cons.1 hm with rfl | hm
      · rcases hb with rfl | rfl <;> decide
      · exact ih b hm

theorem Tx.words {l : List UInt8} {fs : List (List UInt8)} (h : Tx l fs) : ∀ v ∈ fs, gword v := by
  induction h with
  | nil => intro v hv; cases hv
  | sp h t ih => exact ih
  | last h => intro v hv; simp only [List.mem_singleton] at hv; subst hv; exact h
  | word h hb t ih =>
    intro v hv
    rcases List.mem_cons.1 hv with rfl | hv
    · exact h
    · exact ih v hv

/-- Words with one blank between. -/
theorem tx_join (v : List UInt8) (fs : List (List UInt8)) (hv : gword v) (hf : ∀ f ∈ fs, gword f) : Tx (v ++ (fs.map fun f => 32 :: f).flatten) (v :: fs) := by
  induction fs generalizing v with
  | nil => simpa using Tx.last hv
  | cons f r ih =>
    simp only [List.map_cons, List.flatten_cons, List.cons_append]
    exact .word hv (.inr rfl) (ih f (hf f (by simp)) fun x hx => hf x (by simp [hx]))

theorem gword_nm_aux : ∀ x : Fin 26, ((nm ((x.val : Int) + 1)).isEmpty = false ∧ ∀ b ∈ nm ((x.val : Int) + 1), 97 ≤ b.toNat ∧ b.toNat ≤ 122) ∧ nm ((x.val : Int) + 1) ≠ [119, 111, 114, 100] ∧ (nm ((x.val : Int) + 1)).length ≤ 6 := by decide +kernel

theorem nm_facts (op : Int) (h1 : 1 ≤ op) (h2 : op ≤ 26) : ((nm op).isEmpty = false ∧ ∀ b ∈ nm op, 97 ≤ b.toNat ∧ b.toNat ≤ 122) ∧ nm op ≠ [119, 111, 114, 100] ∧ (nm op).length ≤ 6 := by
  have := gword_nm_aux ⟨(op - 1).toNat, by omega⟩
  simp only [show (((op - 1).toNat : Int) + 1) = op by omega] at this
  exact this

theorem gword_nm (op : Int) (h1 : 1 ≤ op) (h2 : op ≤ 26) : gword (nm op) := by
  have := (nm_facts op h1 h2).1
  refine ⟨fun e => by rw [e] at this; simp at this, fun b hb => ?_⟩
  have := this.2 b hb
  omega

theorem gword_rgB (k : Int) (h1 : 0 ≤ k) (h2 : k < 8) : gword (rgB k) := by
  refine ⟨by simp [rgB], fun b hb => ?_⟩
  simp only [rgB, List.mem_cons, List.not_mem_nil, or_false] at hb
  rcases hb with rfl | rfl
  · decide
  · simp; omega

theorem gword_itoa (n : Int) : gword (Lib.itoa n) := by
  refine ⟨itoa_ne n, fun b hb => ?_⟩
  have := itoa_bytes n b hb
  omega

theorem gword_flds (i : Ins) (hv : valid i) : ∀ f ∈ flds i, gword f := by
  obtain ⟨h1, h2, h3, h4, h5, h6, h7, h8, _⟩ := hv
  intro f hf
  unfold flds at hf
  rcases List.mem_append.1 hf with hf | hf
  · split at hf
    · simp only [List.mem_singleton] at hf; subst hf; exact gword_rgB _ h3 h4
    · cases hf
  · rcases List.mem_append.1 hf with hf | hf
    · split at hf
      · simp only [List.mem_singleton] at hf; subst hf; exact gword_rgB _ h5 h6
      · cases hf
    · split at hf
      · simp only [List.mem_singleton] at hf; subst hf; exact gword_itoa _
      · cases hf

theorem tx_showL (i : Ins) (hv : valid i) : Tx (showL i) (wds i) := tx_join _ _ (gword_nm _ hv.1 hv.2.1) (gword_flds i hv)

/-! ### Remarks -/

theorem index_absent (l : List UInt8) (c : UInt8) (h : ∀ b ∈ l, b ≠ c) : Lib.indexByte l c = -1 := by
  induction l with
  | nil => rfl
  | cons b r ih =>
    rw [Lib.indexByte, if_neg (by simpa using h b (by simp)), ih fun x hx => h x (by simp [hx])]
    rfl

theorem index_ahead (l t : List UInt8) (c : UInt8) (h : ∀ b ∈ l, b ≠ c) : Lib.indexByte (l ++ c :: t) c = l.length := by
  induction l with
  | nil => simp [Lib.indexByte]
  | cons b r ih =>
    rw [List.cons_append, Lib.indexByte, if_neg (by simpa using h b (by simp)), ih fun x hx => h x (by simp [hx])]
    rw [if_neg (by simp)]
    simp

theorem cut_absent (l : List UInt8) (h : ∀ b ∈ l, b ≠ 59) : (Lib.cut l [59]).1 = l := by
  unfold Lib.cut
  rw [Lib.index_one, index_absent l 59 h]
  rfl

theorem cut_ahead (l t : List UInt8) (h : ∀ b ∈ l, b ≠ 59) : (Lib.cut (l ++ 59 :: t) [59]).1 = l := by
  unfold Lib.cut
  rw [Lib.index_one, index_ahead l t 59 h]
  rw [if_pos (by omega)]
  simp

end Go.Proofs.YtghjjemnegncpaaGreatDoor.Pl
