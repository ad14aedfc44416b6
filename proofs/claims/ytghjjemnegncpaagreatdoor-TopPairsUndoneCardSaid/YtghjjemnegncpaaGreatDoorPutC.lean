/- The walk of the change that wPut makes. -/
import Derived.Test.YtghjjemnegncpaaGreatDoorConcat
import Derived.Test.YtghjjemnegncpaaGreatDoorLaws3
import Derived.Deep.DeepMust
set_option linter.unusedSimpArgs false
set_option linter.unusedVariables false
set_option linter.unusedSectionVars false
set_option linter.unnecessarySimpa false
namespace Go.Proofs.YtghjjemnegncpaaGreatDoor
open Go.RowKit

/-- What stands in an instruction's place, or nil. -/
def BySays (byF : Pl.Ins → Option (List Pl.Ins)) (i : Pl.Ins) (e : Ending) (w' : World) : Prop :=
  (byF i = none → e = .returned (.slice none 0 0)) ∧ ∀ m, byF i = some m → ∃ ad c, e = .returned (.slice (some ad) m.length c) ∧ Il w' (.slice (some ad) m.length c) m

/-- A function that says what stands in an instruction's place. -/
def ByOk (w : World) (kb : FuncId) (bcaps : Array Value) (byF : Pl.Ins → Option (List Pl.Ins)) : Prop :=
  ∀ (W : World) (i : Pl.Ins), Pl.valid i → Pl.flat i → Below w.heap.size w W → Calls Tryz.prog kb (#[insV i] ++ bcaps) W fun e w' => BySays byF i e w' ∧ Below W.heap.size W w'

/-- The places for which there are some. -/
def poss (byF : Pl.Ins → Option (List Pl.Ins)) (ws : List Pl.Ins) (k : Nat) : List Nat := (List.range k).filter fun j => (ws[j]?.bind byF).isSome

theorem poss_yes {byF : Pl.Ins → Option (List Pl.Ins)} {ws : List Pl.Ins} {k : Nat} {i : Pl.Ins} {m : List Pl.Ins} (h : ws[k]? = some i) (hb : byF i = some m) : poss byF ws (k + 1) = poss byF ws k ++ [k] := by
  unfold poss
  rw [List.range_succ, List.filter_append]
  simp [h, hb]
theorem poss_no {byF : Pl.Ins → Option (List Pl.Ins)} {ws : List Pl.Ins} {k : Nat} {i : Pl.Ins} (h : ws[k]? = some i) (hb : byF i = none) : poss byF ws (k + 1) = poss byF ws k := by
  unfold poss
  rw [List.range_succ, List.filter_append]
  simp [h, hb]
theorem poss_len (byF : Pl.Ins → Option (List Pl.Ins)) (ws : List Pl.Ins) (k : Nat) : (poss byF ws k).length ≤ k := by
  have := List.length_filter_le (fun j => (ws[j]?.bind byF).isSome) (List.range k)
  simpa [poss] using this
theorem poss_mem {byF : Pl.Ins → Option (List Pl.Ins)} {ws : List Pl.Ins} {k j : Nat} (h : j ∈ poss byF ws k) : j < k ∧ ∃ i m, ws[j]? = some i ∧ byF i = some m := by
  obtain ⟨h1, h2⟩ := List.mem_filter.1 h
  refine ⟨by simpa using h1, ?_⟩
  cases hi : ws[j]? with
  | none => rw [hi] at h2; cases h2
  | some i =>
    rw [hi] at h2
    cases hm : byF i with
    | none => simp [hm] at h2
    | some m => exact ⟨i, m, rfl, hm⟩

def nats (l : List Nat) : List Value := l.map fun (j : Nat) => .int .i64 (j : Int)
theorem nats_app (l : List Nat) (k : Nat) : nats (l ++ [k]) = nats l ++ [.int .i64 (k : Int)] := by simp [nats]
theorem infoInt : (Tryz.prog.info? 3).map (fun i => (i.zero, i.size, i.bytes)) = some (some (.int .i64 0), 1, 8) := by kernel_rfl

theorem owns_cap4 {w : World} {B : Nat} {e : TypeId} {s : Nat} {a : Option Addr} {n c : Nat} {xs : List Value} (H : w.ownsRow B e s (.slice a n c) n xs) : n ≤ c := by
  rcases H.2 with ⟨hv, h0⟩ | ⟨g, cap, cur, hv, hB, hg, hcap, _⟩
  · omega
  · cases hv; exact hcap

theorem il_head {w : World} {a : Option Addr} {n c k : Nat} {ws : List Pl.Ins} (H : Il w (.slice a n c) ws) (hk : k ≤ ws.length) : Il w (.slice (if c = 0 then a else a.map (·.add 0)) k c) (ws.take k) := by
  obtain ⟨a', c', h, hn, hat⟩ := H
  cases h
  have hl : (ws.take k).length = k := by simp; omega
  refine ⟨_, _, by rw [hl], fun h => ?_, fun j i hi => ?_⟩
  · split at h
    · exact hn h
    · cases a with
      | none => exact hn rfl
      | some ad => cases h
  · have hj := (List.getElem?_eq_some_iff.1 hi).1
    rw [hl] at hj
    rw [List.getElem?_take_of_lt hj] at hi
    obtain ⟨b, off, rfl, h0, h1, h2, h3⟩ := hat j i hi
    refine ⟨b, off, ?_, h0, h1, h2, h3⟩
    split
    · rfl
    · simp [Addr.add]
theorem il_tail {w : World} {a : Option Addr} {n c k : Nat} {ws : List Pl.Ins} (H : Il w (.slice a n c) ws) (hk : k ≤ ws.length) (hc : ws.length ≤ c) : Il w (.slice (if c = k then a else a.map (·.add (k * 4))) (n - k) (c - k)) (ws.drop k) := by
  obtain ⟨a', c', h, hn, hat⟩ := H
  cases h
  have hl : (ws.drop k).length = ws.length - k := by simp
  refine ⟨_, _, by rw [hl], fun h => ?_, fun j i hi => ?_⟩
  · split at h
    · have := hn h; omega
    · cases a with
      | none => have := hn rfl; omega
      | some ad => cases h
  · have hj := (List.getElem?_eq_some_iff.1 hi).1
    rw [hl] at hj
    rw [List.getElem?_drop] at hi
    obtain ⟨b, off, rfl, h0, h1, h2, h3⟩ := hat (k + j) i hi
    refine ⟨b, off + k * 4, ?_, ?_, ?_, ?_, ?_⟩
    · rw [if_neg (by omega)]
      simp only [Option.map_some, Option.some.injEq]
      unfold Addr.add
      split <;> simp_all
    · rw [show off + k * 4 + j * 4 = off + (k + j) * 4 by omega]; exact h0
    · rw [show off + k * 4 + j * 4 + 1 = off + (k + j) * 4 + 1 by omega]; exact h1
    · rw [show off + k * 4 + j * 4 + 2 = off + (k + j) * 4 + 2 by omega]; exact h2
    · rw [show off + k * 4 + j * 4 + 3 = off + (k + j) * 4 + 3 by omega]; exact h3

theorem split_at {α : Type} (ws : List α) (j : Nat) (i : α) (h : ws[j]? = some i) : ws = ws.take j ++ i :: ws.drop (j + 1) := by
  obtain ⟨hj, rfl⟩ := List.getElem?_eq_some_iff.1 h
  simp

theorem parts3 {W : World} {g : Nat} {t : TypeId} {v1 v2 v3 : Value} {l1 l2 l3 : List Pl.Ins} (hrow : rowAt W g #[v1, v2, v3] t) (h1 : Il W v1 l1) (h2 : Il W v2 l2) (h3 : Il W v3 l3) : Parts W g [l1, l2, l3] := by
  have aux : ∀ {v : Value} {l : List Pl.Ins} {j : Nat}, W.cell? ⟨g, j, none⟩ = some v → Il W v l → ∃ a c, W.cell? ⟨g, j, none⟩ = some (.slice a l.length c) ∧ Il W (.slice a l.length c) l := by
    intro v l j hc hil
    have h := hil
    obtain ⟨a, c, rfl, _⟩ := h
    exact ⟨a, c, hc, hil⟩
  intro k l hk
  match k, hk with
  | 0, hk => simp at hk; subst hk; exact aux (hrow.cell 0) h1
  | 1, hk => simp at hk; subst hk; exact aux (hrow.cell 1) h2
  | 2, hk => simp at hk; subst hk; exact aux (hrow.cell 2) h3
  | k + 3, hk => simp at hk

set_option maxRecDepth 100000 in
/-- Three slices, one behind the other. -/
theorem concat3 {wr w1 : World} {v1 v3 : Value} {ad : Addr} {cm : Nat} {l1 m l3 : List Pl.Ins} (hb : Below wr.heap.size wr w1) (h1 : Il wr v1 l1) (h2 : Il w1 (.slice (some ad) m.length cm) m) (h3 : Il wr v3 l3) (hl : l1.length + (m.length + l3.length) ≤ 1000) :
    Calls Tryz.prog 26 #[.slice (some ⟨w1.heap.size, 0, none⟩) 3 3] (w1.alloc (.cells #[v1, .slice (some ad) m.length cm, v3] 22)) fun e w' =>
      ∃ v', e = .returned v' ∧ w'.ownsRow w1.heap.size 31 4 v' (l1 ++ m ++ l3).length (icells (l1 ++ m ++ l3)) ∧ Below w1.heap.size w1 w' := by
  have hk : ∀ k, k < w1.heap.size → (w1.alloc (.cells #[v1, .slice (some ad) m.length cm, v3] 22)).heap[k]? = w1.heap[k]? := fun k hk => Below.heap_alloc _ _ k hk
  have hp : Parts (w1.alloc (.cells #[v1, .slice (some ad) m.length cm, v3] 22)) w1.heap.size [l1, m, l3] :=
    parts3 (t := 22) (rowAt.new _ _ _ rfl) ((h1.kept (Below.block hb)).kept hk) (h2.kept hk) ((h3.kept (Below.block hb)).kept hk)
  have hf : [l1, m, l3].flatten = l1 ++ m ++ l3 := by simp
  have h := Concat_ok w1.heap.size 3 3 [l1, m, l3] _ rfl hp (by rw [hf]; simp; omega) (by decide)
  rw [hf] at h
  refine h.mono ?_
  rintro e w' ⟨v', rfl, ho, hb'⟩
  exact ⟨v', rfl, owns_base ho (by simp), (show Below w1.heap.size w1 _ from by (repeat (first | (with_reducible exact Below.refl _ _) | (with_reducible apply Below.drew) | (with_reducible apply bl_drewN) | ((with_reducible apply bl_alloc); (· (first | (simp; done) | (simp; omega) | omega))) | ((with_reducible apply bl_row); (· (first | (simp; done) | (simp; omega) | omega))) | ((with_reducible apply bl_cell); (· (first | (simp; done) | (simp; omega) | omega))) | assumption))).trans (hb'.mono (by simp))⟩

theorem below_of_drew {wr w1 : World} {n : Nat} (h : Below (wr.drewN n).heap.size (wr.drewN n) w1) : Below wr.heap.size wr w1 := ⟨h.os, h.tape, h.output, h.size, h.block⟩

section
variable {w : World} {ws : List Pl.Ins} {gb gw : Nat} {which : Int} {kb : FuncId} {bcaps : Array Value} {byF : Pl.Ins → Option (List Pl.Ins)}
  (hby : w.cell? ⟨gb, 0, none⟩ = some (.func (.func kb) #[] bcaps)) (hwh : w.cell? ⟨gw, 0, none⟩ = some (.int .i64 which)) (hi64 : i64 which)
  (hent : ∀ (args : Array Value) (W : World), (callFunc kb args).run Tryz.prog W = .ok (.enter kb args) W) (HBy : ByOk w kb bcaps byF)
  (hlaw : ∀ i m, Pl.valid i → byF i = some m → Pl.OkPut i m ∧ m ≠ [])
include hby hwh hi64 hent HBy hlaw

set_option maxHeartbeats 6400000 in
set_option maxRecDepth 100000 in
theorem put_change : ChangeOk w ws 44 #[.pointer (some ⟨gb, 0, none⟩), .pointer (some ⟨gw, 0, none⟩)] := by
  intro hv h60 hf W B v hB hBW hbel hown
  have hblt := World.block_lt_of_cell? w _ hby
  have hwlt := World.block_lt_of_cell? w _ hwh
  dsimp only at hblt hwlt
  have hbW := (hbel.cell (p := ⟨gb, 0, none⟩) hblt).trans hby
  have hwW := (hbel.cell (p := ⟨gw, 0, none⟩) hwlt).trans hwh
  have hblW : gb < W.heap.size := by omega
  have hwlW : gw < W.heap.size := by omega
  have hil := owns_il hown
  obtain ⟨va, vc, rfl⟩ := owns_form hown
  have hcap := owns_cap4 hown
  have HIl := Lib.hid hil
  have HV := Lib.hid hv
  have HF := Lib.hid hf
  have HB0 := Lib.hid hbel
  have HBy := Lib.hid HBy
  have HLaw := Lib.hid hlaw
  have HK := Lib.hid (il_at hil)
  have HPl := Lib.hid (poss_len byF ws)
  have hp0 : poss byF ws 0 = [] := rfl
  clear hown hil hv hf hbel hlaw hby hwh
  rw [show (#[Value.slice va ws.length vc] ++ #[Value.pointer (some ⟨gb, 0, none⟩), Value.pointer (some ⟨gw, 0, none⟩)] : Array Value) = #[.slice va ws.length vc, .pointer (some ⟨gb, 0, none⟩), .pointer (some ⟨gw, 0, none⟩)] from rfl]
  obtain ⟨i0, hi, hz0, hz1, hz2⟩ := info_parts infoInt
  go_enter Tryz.func44, Tryz.ntmps44
  go_wp2_with fail
  go_loopw [11, 5] (fun t s wr => ∃ k : Nat, k ≤ ws.length ∧ t = .int .i64 k ∧ wr.ownsRow W.heap.size 3 1 s (poss byF ws k).length (nats (poss byF ws k)) ∧ Below W.heap.size W wr) (fun t _ _ => ws.length - (intOf t).toNat)
  case atStart => exact ⟨0, Nat.zero_le _, rfl, by rw [hp0]; exact World.ownsRow_nil _ _ _ _, Below.refl _ _⟩
  case round =>
    obtain ⟨k, hk, rfl, hown, hbel⟩ := hrel
    have hbr := (hbel.cell (p := ⟨gb, 0, none⟩) hblW).trans hbW
    have hwr := (hbel.cell (p := ⟨gw, 0, none⟩) hwlW).trans hwW
    have hsz := hbel.size
    have hblr : gb < wr.heap.size := by omega
    have hwlr : gw < wr.heap.size := by omega
    by_cases hlt : k < ws.length
    · obtain ⟨i, hik⟩ : ∃ i, ws[k]? = some i := ⟨ws[k], by simp [hlt]⟩
      obtain ⟨b, off, rfl, h0, h1, h2, h3⟩ := HK.out k i hik
      have q0 := (hbel.cell (p := ⟨b, off + k * 4, none⟩) (World.block_lt_of_cell? W _ h0)).trans h0
      have q1 := (hbel.cell (p := ⟨b, off + k * 4 + 1, none⟩) (World.block_lt_of_cell? W _ h1)).trans h1
      have q2 := (hbel.cell (p := ⟨b, off + k * 4 + 2, none⟩) (World.block_lt_of_cell? W _ h2)).trans h2
      have q3 := (hbel.cell (p := ⟨b, off + k * 4 + 3, none⟩) (World.block_lt_of_cell? W _ h3)).trans h3
      have hvi := HV.out i (List.mem_of_getElem? hik)
      have hfi := HF.out i (List.mem_of_getElem? hik)
      have hpl := HPl.out k
      have HO := Lib.hid hown
      have HBl := Lib.hid hbel
      have HC := Lib.hid (HBy.out (wr.alloc (Obj.cells #[.int .i64 i.op, .int .i64 i.a, .int .i64 i.b, .int .i64 i.c] 31)) i hvi hfi ((HB0.out.trans (hbel.mono (by omega))).alloc (by omega) _))
      clear hown hbel h0 h1 h2 h3 hvi hfi
      go_wp2_with fail
      refine HC.out.mono ?_
      rintro e w1 ⟨hsay, hb1⟩
      have hs1 := hb1.size
      simp only [World.size_alloc] at hs1
      have hr1 : Below wr.heap.size wr w1 := (show Below wr.heap.size wr _ from by (repeat (first | (with_reducible exact Below.refl _ _) | (with_reducible apply Below.drew) | (with_reducible apply bl_drewN) | ((with_reducible apply bl_alloc); (· (first | (simp; done) | (simp; omega) | omega))) | ((with_reducible apply bl_row); (· (first | (simp; done) | (simp; omega) | omega))) | ((with_reducible apply bl_cell); (· (first | (simp; done) | (simp; omega) | omega))) | assumption))).trans (hb1.mono (by simp))
      have hO1 := owns_kept HO.out (Below.block hr1)
      have HB1 := Lib.hid (HBl.out.trans (hr1.mono hsz))
      have hs2 := hr1.size
      cases hbi : byF i with
      | none =>
        have he := hsay.1 hbi
        subst he
        have hq := fun W => run_neq_slice_nil_any W 22 31 none 0 0 0 0 Tryz.underlying22
        simp only [Option.isNone_none] at hq
        have HO1 := Lib.hid (poss_no hik hbi ▸ hO1)
        clear hsay hb1 hO1 HC HO HBl q0 q1 q2 q3 hik hbi
        go_wp2_with fail
        exact ⟨⟨k + 1, by omega, by go_num, HO1.out, HB1.out⟩, by simp [intOf]; omega⟩
      | some m =>
        obtain ⟨ad, cm, rfl, _⟩ := hsay.2 m hbi
        have hq := fun W => run_neq_slice_nil_any W 22 31 (some ad) m.length cm 0 0 Tryz.underlying22
        simp only [Option.isNone_some] at hq
        have HP := Lib.hid (poss_yes hik hbi)
        have HO1 := Lib.hid (owns_kept hO1 (w' := w1.alloc (.cells #[.int .i64 (k : Int)] 3)) fun k hk => Below.heap_alloc _ _ k hk)
        clear hsay hb1 hO1 HC HO HBl q0 q1 q2 q3 hik hbi hr1
        go_wp2_with (first | (at_builtin; refine wpList_append_own _ rfl _ _ 27 rfl W.heap.size 3 i0 (.int .i64 0) 1 8 Tryz.underlying27 hi hz0 hz1 hz2 rfl (by decide) _ (poss byF ws k).length _ rfl HO1.out ⟨w1.heap.size, 0, none⟩ 1 1 [.int .i64 (k : Int)] rfl rfl (one_cell _ _ _) (one_one _ _) (by unfold maxLen; omega) (by omega) (by simp; omega) ?_))
        intro v' w2 hown2 hgrow _
        have hb2 : Below W.heap.size W (w1.alloc (.cells #[.int .i64 (k : Int)] 3)) := HB1.out.alloc (by omega) _
        have hb3 := hb2.trans (below_own HO1.out hgrow (by simp; omega))
        rw [← nats_app, ← HP.out] at hown2
        have hl2 : (poss byF ws k).length + 1 = (poss byF ws (k + 1)).length := by rw [HP.out]; simp
        rw [hl2] at hown2
        have HO2 := Lib.hid hown2
        have HB3 := Lib.hid hb3
        clear hown2 hgrow hb2 hb3 HO1 HB1 hl2
        go_wp2_with fail
        exact ⟨⟨k + 1, by omega, by go_num, HO2.out, HB3.out⟩, by simp [intOf]; omega⟩
    · obtain rfl : k = ws.length := by omega
      obtain ⟨sa, sc, rfl⟩ := owns_form hown
      by_cases hp : (poss byF ws ws.length).length = 0
      · rw [hp]
        have HBl := Lib.hid hbel
        clear hown hbel
        go_wp2_with fail
        go_ret
        exact ⟨.inl rfl, HBl.out.mono hBW⟩
      · have hpl := HPl.out ws.length
        have hpk := fun W => wPick_is which (poss byF ws ws.length).length W (by omega) (by omega) hi64
        have hpi : pick which (poss byF ws ws.length).length < (poss byF ws ws.length).length := Nat.mod_lt _ (by omega)
        obtain ⟨gs, cs, hsv, hgB, hgl, hcell⟩ := owns_at hown (by omega)
        injection hsv with e1 e2 e3
        subst e1 e3
        clear e2
        obtain ⟨j, hj⟩ : ∃ j, (poss byF ws ws.length)[pick which (poss byF ws ws.length).length]? = some j := ⟨_, List.getElem?_eq_getElem hpi⟩
        have hc34 := hcell (pick which (poss byF ws ws.length).length) (.int .i64 (j : Int)) (by simp [nats, hj])
        obtain ⟨hjl, i, m, hji, hbi⟩ := poss_mem (List.mem_of_getElem? hj)
        generalize pick which (poss byF ws ws.length).length = pk at *
        generalize (poss byF ws ws.length).length = np at *
        have HPk := Lib.hid hpk
        have hvi := HV.out i (List.mem_of_getElem? hji)
        have hfi := HF.out i (List.mem_of_getElem? hji)
        have HOkp := Lib.hid (HLaw.out i m hvi hbi)
        have hmk := HOkp.out.1.2.1
        have HSp := Lib.hid (split_at ws j i hji)
        obtain ⟨b, off, rfl, h0, h1, h2, h3⟩ := HK.out j i hji
        have q0 := (hbel.cell (p := ⟨b, off + j * 4, none⟩) (World.block_lt_of_cell? W _ h0)).trans h0
        have q1 := (hbel.cell (p := ⟨b, off + j * 4 + 1, none⟩) (World.block_lt_of_cell? W _ h1)).trans h1
        have q2 := (hbel.cell (p := ⟨b, off + j * 4 + 2, none⟩) (World.block_lt_of_cell? W _ h2)).trans h2
        have q3 := (hbel.cell (p := ⟨b, off + j * 4 + 3, none⟩) (World.block_lt_of_cell? W _ h3)).trans h3
        have hilr := HIl.out.kept (Below.block hbel)
        have hih := il_head hilr (k := j) (by omega)
        have hit := il_tail hilr (k := j + 1) (by omega) hcap
        have hsh := fun W => slice_headI (some ⟨b, off, none⟩) ws.length vc j (by omega) W
        have hst2 := fun W => slice_tailI (some ⟨b, off, none⟩) ws.length vc (j + 1) (by omega) hcap W
        rw [show ((j + 1 : Nat) : Int) = IntKind.i64.wrap ((j : Int) + 1) by rw [IntKind.wrap_i64]; omega] at hst2
        generalize (if vc = 0 then some (⟨b, off, none⟩ : Addr) else (some (⟨b, off, none⟩ : Addr)).map (·.add 0)) = vh at hih hsh
        generalize (if vc = j + 1 then some (⟨b, off, none⟩ : Addr) else (some (⟨b, off, none⟩ : Addr)).map (·.add ((j + 1) * 4))) = vt at hit hst2
        have HIh := Lib.hid hih
        have HIt := Lib.hid hit
        have HBl := Lib.hid hbel
        have HC := Lib.hid (show ∀ W' : World, Below wr.heap.size wr W' → Calls Tryz.prog kb (#[.agg #[.int .i64 i.op, .int .i64 i.a, .int .i64 i.b, .int .i64 i.c]] ++ bcaps) W' fun e w' => BySays byF i e w' ∧ Below W'.heap.size W' w' from fun W' hW => HBy.out W' i hvi hfi ((HB0.out.trans (hbel.mono (by omega))).trans (hW.mono (by omega))))
        have HBi := Lib.hid hbi
        have HPO := Lib.hid hpl
        clear hown hcell hbel h0 h1 h2 h3 hvi hfi hih hit hilr hji hj hpk hbi HK HPl hi hz0 hz1 hz2 hpl
        go_wp2_with fail
        refine (HPk.out _).mono ?_
        rintro e w' ⟨rfl, rfl⟩
        go_wp2_with fail
        go_region_with (first | (go_at_call 26; refine (concat3 hr1 HIh.out hilm HIt.out ?_).mono ?_; (· (simp; omega)); rintro e w2 ⟨v', rfl, hown', hb2⟩) | (refine (HC.out _ ?_).mono ?_; (· (repeat (first | (with_reducible exact Below.refl _ _) | (with_reducible apply Below.drew) | (with_reducible apply bl_drewN) | ((with_reducible apply bl_alloc); (· (first | (simp; done) | (simp; omega) | omega))) | ((with_reducible apply bl_row); (· (first | (simp; done) | (simp; omega) | omega))) | ((with_reducible apply bl_cell); (· (first | (simp; done) | (simp; omega) | omega))) | assumption))); rintro e w1 ⟨hsay, hb1⟩; obtain ⟨ad, cm, rfl, hilm⟩ := hsay.2 m HBi.out; have hr1 : Below wr.heap.size wr w1 := below_of_drew hb1; have hsr1 := hr1.size))
        all_goals
          have HO2 := Lib.hid hown'
          have HB2 := Lib.hid (HBl.out.trans ((hr1.trans (hb2.mono hsr1)).mono hsz))
          clear hown' hb2 hr1 hilm hsay hb1 HC HIh HIt
          go_wp2_with fail
          go_ret
          have hvall : ∀ x ∈ ws.take j ++ i :: ws.drop (j + 1), Pl.valid x := fun x hx => HV.out x (by rw [HSp.out]; exact hx)
          have hfall : ∀ x ∈ ws.take j ++ i :: ws.drop (j + 1), Pl.flat x := fun x hx => HF.out x (by rw [HSp.out]; exact hx)
          have hlall : (ws.take j ++ i :: ws.drop (j + 1)).length ≤ 60 := by rw [← HSp.out]; exact h60
          have hsame := Pl.put_same hvall hfall hlall HOkp.out.1
          rw [← HSp.out] at hsame
          refine ⟨.inr ⟨_, _, rfl, ?_, owns_il HO2.out, hsame⟩, HB2.out.mono hBW⟩
          have := HOkp.out.2
          simp [this]
end
end Go.Proofs.YtghjjemnegncpaaGreatDoor
