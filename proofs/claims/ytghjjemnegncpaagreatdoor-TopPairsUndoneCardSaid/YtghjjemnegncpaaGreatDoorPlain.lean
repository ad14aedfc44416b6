/- The machine of this program in plain numbers and lists: instructions, their words, one step, a run. No Go in it. -/
namespace Go.Proofs.YtghjjemnegncpaaGreatDoor.Pl

/-- An instruction, taken apart. -/
structure Ins where
  op : Int
  a : Int
  b : Int
  c : Int
  deriving DecidableEq

/-- The names of the operations. -/
def nm (op : Int) : List UInt8 :=
  if op = 1 then [104, 97, 108, 116] else if op = 2 then [115, 101, 116] else if op = 3 then [104, 105, 103, 104] else if op = 4 then [109, 111, 118, 101]
  else if op = 5 then [97, 100, 100] else if op = 6 then [115, 117, 98] else if op = 7 then [109, 117, 108] else if op = 8 then [100, 105, 118]
  else if op = 9 then [97, 110, 100] else if op = 10 then [111, 114] else if op = 11 then [120, 111, 114] else if op = 12 then [108, 101, 102, 116]
  else if op = 13 then [114, 105, 103, 104, 116] else if op = 14 then [112, 108, 117, 115] else if op = 15 then [108, 111, 97, 100]
  else if op = 16 then [108, 111, 97, 100, 98] else if op = 17 then [115, 116, 111, 114, 101] else if op = 18 then [115, 116, 111, 114, 101, 98]
  else if op = 19 then [106, 117, 109, 112] else if op = 20 then [122, 101, 114, 111] else if op = 21 then [108, 101, 115, 115]
  else if op = 22 then [99, 97, 108, 108] else if op = 23 then [98, 97, 99, 107] else if op = 24 then [115, 121, 115]
  else if op = 25 then [115, 119, 97, 112] else if op = 26 then [104, 111, 109, 101] else []

/-- Their fields. -/
def fl (op : Int) : Int :=
  if op = 1 then 0 else if op = 2 then 5 else if op = 3 then 5 else if op = 4 then 3
  else if op = 5 then 3 else if op = 6 then 3 else if op = 7 then 3 else if op = 8 then 3
  else if op = 9 then 3 else if op = 10 then 3 else if op = 11 then 3 else if op = 12 then 3
  else if op = 13 then 3 else if op = 14 then 7 else if op = 15 then 7
  else if op = 16 then 7 else if op = 17 then 7 else if op = 18 then 7
  else if op = 19 then 4 else if op = 20 then 5 else if op = 21 then 7
  else if op = 22 then 5 else if op = 23 then 1 else if op = 24 then 0
  else if op = 25 then 7 else if op = 26 then 1 else 0

/-- Is it an instruction that has a word? -/
def valid (i : Ins) : Prop :=
  1 ≤ i.op ∧ i.op ≤ 26 ∧ 0 ≤ i.a ∧ i.a < 8 ∧ 0 ≤ i.b ∧ i.b < 8 ∧ -32768 ≤ i.c ∧ i.c ≤ 32767 ∧
  (fl i.op % 2 = 0 → i.a = 0) ∧ (fl i.op / 2 % 2 = 0 → i.b = 0) ∧ (fl i.op / 4 = 0 → i.c = 0)
instance (i : Ins) : Decidable (valid i) := by unfold valid; infer_instance

/-- Its word. -/
def encW (i : Ins) : Int := i.op * 16777216 + i.a * 1048576 + i.b * 65536 + i.c % 65536

theorem fl_out (op : Int) (h : op < 1 ∨ 26 < op) : fl op = 0 := by
  unfold fl
  repeat rw [if_neg (by omega)]

theorem fl_cases_aux : ∀ x : Fin 26, fl ((x.val : Int) + 1) = 0 ∨ fl ((x.val : Int) + 1) = 1 ∨ fl ((x.val : Int) + 1) = 3 ∨ fl ((x.val : Int) + 1) = 4 ∨ fl ((x.val : Int) + 1) = 5 ∨ fl ((x.val : Int) + 1) = 7 := by decide +kernel

theorem fl_cases (op : Int) : fl op = 0 ∨ fl op = 1 ∨ fl op = 3 ∨ fl op = 4 ∨ fl op = 5 ∨ fl op = 7 := by
  by_cases h : op < 1 ∨ 26 < op
  · exact .inl (fl_out op h)
  · have := fl_cases_aux ⟨(op - 1).toNat, by omega⟩
    simp only [show (((op - 1).toNat : Int) + 1) = op by omega] at this
    exact this

theorem nm_ne_aux : ∀ x : Fin 26, (nm ((x.val : Int) + 1)).isEmpty = false := by decide +kernel

theorem nm_ne (op : Int) (h1 : 1 ≤ op) (h2 : op ≤ 26) : (nm op).isEmpty = false := by
  have := nm_ne_aux ⟨(op - 1).toNat, by omega⟩
  simp only [show (((op - 1).toNat : Int) + 1) = op by omega] at this
  exact this

theorem nm_inj_aux : ∀ x y : Fin 26, nm ((x.val : Int) + 1) = nm ((y.val : Int) + 1) → x = y := by decide +kernel

theorem nm_inj (x y : Int) (h1 : 1 ≤ x) (h2 : x ≤ 26) (h3 : 1 ≤ y) (h4 : y ≤ 26) (h : nm x = nm y) : x = y := by
  have := nm_inj_aux ⟨(x - 1).toNat, by omega⟩ ⟨(y - 1).toNat, by omega⟩ (by
    show nm (((x - 1).toNat : Int) + 1) = nm (((y - 1).toNat : Int) + 1)
    rw [show (((x - 1).toNat : Int) + 1) = x by omega, show (((y - 1).toNat : Int) + 1) = y by omega]; exact h)
  have := Fin.mk.inj this
  omega

theorem encW_bd (i : Ins) (h : valid i) : 0 ≤ encW i ∧ encW i < 4294967296 := by
  obtain ⟨h1, h2, h3, h4, h5, h6, h7, h8, _⟩ := h
  unfold encW; omega

theorem encW_parts (i : Ins) (h : valid i) : encW i / 16777216 = i.op ∧ encW i / 1048576 % 16 = i.a ∧ encW i / 65536 % 16 = i.b ∧ (encW i + 32768) % 65536 - 32768 = i.c := by
  obtain ⟨h1, h2, h3, h4, h5, h6, h7, h8, _⟩ := h
  unfold encW; omega

/-! ### The machine -/

def m32 (x : Int) : Int := x % 4294967296
def rg (R : List Int) (k : Int) : Int := R.getD k.toNat 0
def sr (R : List Int) (k v : Int) : List Int := R.set k.toNat v
def and32 (a b : Int) : Int := ((a.toNat &&& b.toNat : Nat) : Int)
def or32 (a b : Int) : Int := ((a.toNat ||| b.toNat : Nat) : Int)
def xor32 (a b : Int) : Int := ((a.toNat ^^^ b.toNat : Nat) : Int)

/-- Where a byte, and a word, can be read and written. -/
def ok1 (D : List Int) (p : Int) : Bool := decide (4096 ≤ p) && decide (p - 4096 < D.length)
def okw (D : List Int) (p : Int) : Bool := decide (p % 4 = 0) && (decide (4096 ≤ p) && decide (p - 4096 + 3 < D.length))
def gb (D : List Int) (p : Int) : Int := D.getD (p - 4096).toNat 0
def gw (D : List Int) (p : Int) : Int := gb D p + 256 * gb D (p + 1) + 65536 * gb D (p + 2) + 16777216 * gb D (p + 3)
def pb (D : List Int) (p v : Int) : List Int := D.set (p - 4096).toNat (v % 256)
def pw (D : List Int) (p v : Int) : List Int := pb (pb (pb (pb D p v) (p + 1) (v / 256)) (p + 2) (v / 65536)) (p + 3) (v / 16777216)

def alu (op a b : Int) : Option Int :=
  if op = 5 then some (m32 (a + b)) else if op = 6 then some (m32 (a - b)) else if op = 7 then some (m32 (a * b))
  else if op = 8 then (if b = 0 then none else some (a / b)) else if op = 9 then some (and32 a b) else if op = 10 then some (or32 a b)
  else if op = 11 then some (xor32 a b) else if op = 12 then some (m32 (a * 2 ^ (b % 32).toNat)) else some (a / 2 ^ (b % 32).toNat)

/-- What an instruction that goes on to the next one does to registers and data; none: a trap. -/
def ex (i : Ins) (R D : List Int) : Option (List Int × List Int) :=
  let p := m32 (rg R i.b + i.c)
  if i.op = 2 then some (sr R i.a (m32 i.c), D)
  else if i.op = 3 then some (sr R i.a (m32 (rg R i.a * 65536) + i.c % 65536), D)
  else if i.op = 4 then some (sr R i.a (rg R i.b), D)
  else if 5 ≤ i.op ∧ i.op ≤ 13 then (alu i.op (rg R i.a) (rg R i.b)).map fun v => (sr R i.a v, D)
  else if i.op = 14 then some (sr R i.a p, D)
  else if i.op = 15 then (if okw D p then some (sr R i.a (gw D p), D) else none)
  else if i.op = 16 then (if ok1 D p then some (sr R i.a (gb D p), D) else none)
  else if i.op = 17 then (if okw D p then some (R, pw D p (rg R i.a)) else none)
  else if i.op = 18 then (if ok1 D p then some (R, pb D p (rg R i.a)) else none)
  else if i.op = 25 then (if okw D p then some (sr R i.a (gw D p), pw D p (rg R i.a)) else none)
  else none

structure St where
  R : List Int
  pc : Int
  D : List Int

/-- One step. -/
def step1 (i : Ins) (s : St) : Option St :=
  if i.op = 19 then some ⟨s.R, m32 (s.pc + i.c), s.D⟩
  else if i.op = 20 then some ⟨s.R, (if rg s.R i.a = 0 then m32 (s.pc + i.c) else m32 (s.pc + 4)), s.D⟩
  else if i.op = 21 then some ⟨s.R, (if rg s.R i.a < rg s.R i.b then m32 (s.pc + i.c) else m32 (s.pc + 4)), s.D⟩
  else if i.op = 22 then some ⟨sr s.R i.a (m32 (s.pc + 4)), m32 (s.pc + i.c), s.D⟩
  else if i.op = 23 then some ⟨s.R, rg s.R i.a, s.D⟩
  else (ex i s.R s.D).map fun x => ⟨x.1, m32 (s.pc + 4), x.2⟩

def step (ws : List Ins) (s : St) : Option St :=
  if s.pc % 4 = 0 ∧ 64 ≤ s.pc ∧ s.pc - 64 < 4 * ws.length then
    match ws[((s.pc - 64) / 4).toNat]? with
    | some i => step1 i s
    | none => none
  else none

def run : Nat → List Ins → St → Option (List Int × List Int)
  | 0, _, _ => none
  | k + 1, ws, s => if s.pc = 64 + 4 * ws.length then some (s.R, s.D) else (step ws s).bind (run k ws)

/-- What registers and data are like. -/
def goodR (R : List Int) : Prop := R.length = 8 ∧ ∀ k : Nat, k < 8 → 0 ≤ R.getD k 0 ∧ R.getD k 0 < 4294967296
def goodD (D : List Int) : Prop := D.length ≤ 4096 ∧ ∀ k : Nat, k < D.length → 0 ≤ D.getD k 0 ∧ D.getD k 0 < 256

theorem m32_bd (x : Int) : 0 ≤ m32 x ∧ m32 x < 4294967296 := by unfold m32; omega
theorem m32_id {x : Int} (h1 : 0 ≤ x) (h2 : x < 4294967296) : m32 x = x := by unfold m32; omega

theorem rg_bd {R : List Int} (h : goodR R) {k : Int} (h1 : 0 ≤ k) (h2 : k < 8) : 0 ≤ rg R k ∧ rg R k < 4294967296 := h.2 k.toNat (by omega)

theorem getD_set (l : List Int) (i : Nat) (v : Int) (k : Nat) : (l.set i v).getD k 0 = if i = k ∧ i < l.length then v else l.getD k 0 := by
  simp only [List.getD_eq_getElem?_getD, List.getElem?_set]
  by_cases h : i = k
  · subst h
    by_cases h2 : i < l.length
    · simp [h2]
    · simp [h2]
  · simp [h]

theorem good_sr {R : List Int} (h : goodR R) (k : Int) {v : Int} (h1 : 0 ≤ v) (h2 : v < 4294967296) : goodR (sr R k v) := by
  refine ⟨by simp [sr, h.1], fun j hj => ?_⟩
  unfold sr
  rw [getD_set]
  split
  · exact ⟨h1, h2⟩
  · exact h.2 j hj

theorem good_pb {D : List Int} (h : goodD D) (p v : Int) : goodD (pb D p v) := by
  refine ⟨by simp [pb, h.1], fun j hj => ?_⟩
  unfold pb at hj ⊢
  rw [getD_set]
  simp only [List.length_set] at hj
  split
  · omega
  · exact h.2 j hj

theorem good_pw {D : List Int} (h : goodD D) (p v : Int) : goodD (pw D p v) := good_pb (good_pb (good_pb (good_pb h _ _) _ _) _ _) _ _

theorem len_pb (D : List Int) (p v : Int) : (pb D p v).length = D.length := by simp [pb]
theorem len_pw (D : List Int) (p v : Int) : (pw D p v).length = D.length := by simp [pw, len_pb]

theorem gb_bd {D : List Int} (h : goodD D) (p : Int) : 0 ≤ gb D p ∧ gb D p < 256 := by
  unfold gb
  by_cases hp : (p - 4096).toNat < D.length
  · exact h.2 _ hp
  · simp [List.getD_eq_getElem?_getD, List.getElem?_eq_none (Nat.le_of_not_lt hp)]

theorem gw_bd {D : List Int} (h : goodD D) (p : Int) : 0 ≤ gw D p ∧ gw D p < 4294967296 := by
  have h0 := gb_bd h p
  have h1 := gb_bd h (p + 1)
  have h2 := gb_bd h (p + 2)
  have h3 := gb_bd h (p + 3)
  unfold gw; omega

theorem and32_bd {a b : Int} (h1 : 0 ≤ a) (h2 : a < 4294967296) : 0 ≤ and32 a b ∧ and32 a b < 4294967296 := by
  unfold and32
  have : a.toNat &&& b.toNat ≤ a.toNat := Nat.and_le_left
  omega
theorem or32_bd {a b : Int} (h2 : a < 4294967296) (h4 : b < 4294967296) : 0 ≤ or32 a b ∧ or32 a b < 4294967296 := by
  unfold or32
  have : a.toNat ||| b.toNat < 2 ^ 32 := Nat.or_lt_two_pow (by omega) (by omega)
  omega
theorem xor32_bd {a b : Int} (h2 : a < 4294967296) (h4 : b < 4294967296) : 0 ≤ xor32 a b ∧ xor32 a b < 4294967296 := by
  unfold xor32
  have : a.toNat ^^^ b.toNat < 2 ^ 32 := Nat.xor_lt_two_pow (by omega) (by omega)
  omega

theorem div_bd {a b : Int} (h1 : 0 ≤ a) (h2 : a < 4294967296) (h3 : 0 ≤ b) : 0 ≤ a / b ∧ a / b < 4294967296 := by
  refine ⟨Int.ediv_nonneg h1 h3, ?_⟩
  have := Int.ediv_le_self b h1
  omega

theorem ite_case {α : Type} {c : Prop} [Decidable c] {a b x : α} (h : (if c then a else b) = x) : (c ∧ a = x) ∨ (¬ c ∧ b = x) := by
  by_cases hc : c
  · rw [if_pos hc] at h; exact .inl ⟨hc, h⟩
  · rw [if_neg hc] at h; exact .inr ⟨hc, h⟩

theorem alu_bd {op a b v : Int} (h1 : 0 ≤ a) (h2 : a < 4294967296) (h3 : 0 ≤ b) (h4 : b < 4294967296) (h : alu op a b = some v) : 0 ≤ v ∧ v < 4294967296 := by
  unfold alu at h
  rcases ite_case h with ⟨_, h⟩ | ⟨_, h⟩
  · cases h; exact m32_bd _
  rcases ite_case h with ⟨_, h⟩ | ⟨_, h⟩
  · cases h; exact m32_bd _
  rcases ite_case h with ⟨_, h⟩ | ⟨_, h⟩
  · cases h; exact m32_bd _
  rcases ite_case h with ⟨_, h⟩ | ⟨_, h⟩
  · rcases ite_case h with ⟨_, h⟩ | ⟨_, h⟩
    · cases h
    · cases h; exact div_bd h1 h2 h3
  rcases ite_case h with ⟨_, h⟩ | ⟨_, h⟩
  · cases h; exact and32_bd h1 h2
  rcases ite_case h with ⟨_, h⟩ | ⟨_, h⟩
  · cases h; exact or32_bd h2 h4
  rcases ite_case h with ⟨_, h⟩ | ⟨_, h⟩
  · cases h; exact xor32_bd h2 h4
  rcases ite_case h with ⟨_, h⟩ | ⟨_, h⟩
  · cases h; exact m32_bd _
  · cases h; exact div_bd h1 h2 (Int.le_of_lt (Int.pow_pos (by decide)))

theorem ex_good {i : Ins} {R D : List Int} {x : List Int × List Int} (hi : 0 ≤ i.a ∧ i.a < 8 ∧ 0 ≤ i.b ∧ i.b < 8) (hR : goodR R) (hD : goodD D) (h : ex i R D = some x) :
    goodR x.1 ∧ goodD x.2 ∧ x.2.length = D.length := by
  have ha := rg_bd hR hi.1 hi.2.1
  have hb := rg_bd hR hi.2.2.1 hi.2.2.2
  unfold ex at h
  dsimp only at h
  rcases ite_case h with ⟨_, h⟩ | ⟨_, h⟩
  · cases h; exact ⟨good_sr hR _ (m32_bd _).1 (m32_bd _).2, hD, rfl⟩
  rcases ite_case h with ⟨_, h⟩ | ⟨_, h⟩
  · cases h
    have hm : 0 ≤ m32 (rg R i.a * 65536) + i.c % 65536 ∧ m32 (rg R i.a * 65536) + i.c % 65536 < 4294967296 := by unfold m32; omega
    exact ⟨good_sr hR _ hm.1 hm.2, hD, rfl⟩
  rcases ite_case h with ⟨_, h⟩ | ⟨_, h⟩
  · cases h; exact ⟨good_sr hR _ hb.1 hb.2, hD, rfl⟩
  rcases ite_case h with ⟨_, h⟩ | ⟨_, h⟩
  · simp only [Option.map_eq_some_iff] at h
    obtain ⟨v, hv, rfl⟩ := h
    have hv := alu_bd ha.1 ha.2 hb.1 hb.2 hv
    exact ⟨good_sr hR _ hv.1 hv.2, hD, rfl⟩
  rcases ite_case h with ⟨_, h⟩ | ⟨_, h⟩
  · cases h; exact ⟨good_sr hR _ (m32_bd _).1 (m32_bd _).2, hD, rfl⟩
  rcases ite_case h with ⟨_, h⟩ | ⟨_, h⟩
  · rcases ite_case h with ⟨_, h⟩ | ⟨_, h⟩
    · cases h; exact ⟨good_sr hR _ (gw_bd hD _).1 (gw_bd hD _).2, hD, rfl⟩
    · cases h
  rcases ite_case h with ⟨_, h⟩ | ⟨_, h⟩
  · rcases ite_case h with ⟨_, h⟩ | ⟨_, h⟩
    · cases h; exact ⟨good_sr hR _ (gb_bd hD _).1 (Int.lt_trans (gb_bd hD _).2 (by decide)), hD, rfl⟩
    · cases h
  rcases ite_case h with ⟨_, h⟩ | ⟨_, h⟩
  · rcases ite_case h with ⟨_, h⟩ | ⟨_, h⟩
    · cases h; exact ⟨hR, good_pw hD _ _, len_pw _ _ _⟩
    · cases h
  rcases ite_case h with ⟨_, h⟩ | ⟨_, h⟩
  · rcases ite_case h with ⟨_, h⟩ | ⟨_, h⟩
    · cases h; exact ⟨hR, good_pb hD _ _, len_pb _ _ _⟩
    · cases h
  rcases ite_case h with ⟨_, h⟩ | ⟨_, h⟩
  · rcases ite_case h with ⟨_, h⟩ | ⟨_, h⟩
    · cases h; exact ⟨good_sr hR _ (gw_bd hD _).1 (gw_bd hD _).2, good_pw hD _ _, len_pw _ _ _⟩
    · cases h
  · cases h

end Go.Proofs.YtghjjemnegncpaaGreatDoor.Pl
