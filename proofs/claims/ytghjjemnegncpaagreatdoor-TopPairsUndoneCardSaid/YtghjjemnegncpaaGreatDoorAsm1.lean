/- The small walks of asm: register, near, number, put. -/
import Derived.Test.YtghjjemnegncpaaGreatDoorRun
import Derived.Test.YtghjjemnegncpaaGreatDoorText
import Derived.Test.YtghjjemnegncpaaGreatDoorShelf
import Derived.Lib.AtoiErrMem
set_option linter.unusedSimpArgs false
set_option linter.unusedVariables false
set_option linter.unusedSectionVars false
namespace Go.Proofs.YtghjjemnegncpaaGreatDoor
open Go.RowKit

/-- What the library's tables hold, and a number that is asked for. -/
def Env (w : World) : Prop := (∃ m, w.cell? ⟨1, 0, none⟩ = some (.int .i64 m)) ∧ Lib.TabIs Tryz.prog w "strings.asciiSpace" .u8 Lib.asciiSpaceTab ∧ Lib.TabIs Tryz.prog w "internal/strconv.uint64pow10" .u64 Lib.pow10Tab

theorem tab_kept {w w' : World} {name : String} {k : IntKind} {zs : List Int} (H : Lib.TabIs Tryz.prog w name k zs) (h : ∀ k, k < w.heap.size → w'.heap[k]? = w.heap[k]?) : Lib.TabIs Tryz.prog w' name k zs := by
  unfold Lib.TabIs World.var? at *
  cases hg : Tryz.prog.globalNamed name with
  | none => simp [hg] at H
  | some g =>
    simp only [hg, Option.bind_some] at H ⊢
    have hlt : g < w.heap.size := by
      rcases Nat.lt_or_ge g w.heap.size with h' | h'
      · exact h'
      · rw [Array.getElem?_eq_none h'] at H; simp at H
    rw [h g hlt]
    exact H

theorem Env.kept {w w' : World} (H : Env w) (h : ∀ k, k < w.heap.size → w'.heap[k]? = w.heap[k]?) : Env w' := by
  obtain ⟨⟨m, hm⟩, h1, h2⟩ := H
  exact ⟨⟨m, cell_kept h hm⟩, tab_kept h1 h, tab_kept h2 h⟩
theorem Env.below {w w' : World} (H : Env w) (h : Below w.heap.size w w') : Env w' := H.kept (Below.block h)

theorem grow_below (w : World) (k : Nat) (os : Array Obj) : Below w.heap.size w (Sort.grow (w.drewN k) os) :=
  ⟨rfl, rfl, rfl, by simp, fun j hj => Sort.heap_grow_old (w.drewN k) os hj⟩

set_option maxHeartbeats 800000 in
set_option maxRecDepth 100000 in
theorem register_ok (k : Int) (w : World) (h1 : 0 ≤ k) (h2 : k < 8) :
    Calls Tryz.prog 109 #[str (Pl.rgB k)] w fun e w' => e = .returned (.int .i64 k) ∧ w' = w := by
  obtain ⟨n, rfl⟩ := Int.eq_ofNat_of_zero_le h1
  have hn : n = 0 ∨ n = 1 ∨ n = 2 ∨ n = 3 ∨ n = 4 ∨ n = 5 ∨ n = 6 ∨ n = 7 := by omega
  clear h1 h2
  rcases hn with rfl | rfl | rfl | rfl | rfl | rfl | rfl | rfl
  all_goals
    unfold Pl.rgB
    go_enter Tryz.func109, Tryz.ntmps109
    go_wp2
    go_ret
    exact ⟨rfl, rfl⟩

set_option maxHeartbeats 800000 in
set_option maxRecDepth 100000 in
theorem near_is (op : Int) (w : World) : Calls Tryz.prog 110 #[.int .i64 op] w fun e w' => (∃ b, e = .returned (.bool b)) ∧ w = w' := by
  go_enter Tryz.func110, Tryz.ntmps110
  go_wp2
  all_goals
    go_ret
    exact ⟨⟨_, rfl⟩, rfl⟩

theorem str_size (l : List UInt8) : (⟨l.toArray⟩ : ByteArray).size = l.length := by simp [ByteArray.size]

set_option maxHeartbeats 800000 in
set_option maxRecDepth 100000 in
theorem number_ok (c lo hi : Int) (w : World) (hE : Env w) (h1 : lo ≤ c) (h2 : c ≤ hi) (h3 : -32768 ≤ c ∧ c ≤ 32767) :
    Calls Tryz.prog 107 #[str (Lib.itoa c), .int .i64 lo, .int .i64 hi] w fun e w' => e = .returned (.tuple #[.int .i64 c, .bool true]) ∧ Below w.heap.size w w' := by
  have hA := Tryz.strconv_Atoi ⟨(Lib.itoa c).toArray⟩ c (by rw [str_size]; have := Pl.itoa_len c (by omega) (by omega); omega) (by simpa using Pl.atoi_itoa c) w
  have HA := Lib.hid hA
  clear hA
  have HI := Lib.hid fun W HW => Tryz.strconv_Itoa c (by omega) (by omega) W HW
  have HE := Lib.hid hE
  clear hE
  generalize hl : (Lib.itoa c) = l at *
  clear hl
  go_enter Tryz.func107, Tryz.ntmps107
  go_wp2_with fail
  refine HA.out.mono ?_
  rintro e w1 ⟨rfl, t, rfl⟩
  have hb := Lib.bytesWorld_below w 5 t
  have HE1 := Lib.hid (HE.out.below hb).2.2
  have HB := Lib.hid hb
  clear hb HE
  generalize Lib.bytesWorld w 5 t = w1 at *
  go_wp2_with fail
  refine (HI.out _ HE1.out).mono ?_
  rintro e w2 ⟨rfl, k, os, rfl⟩
  have hb := grow_below w1 k os
  have HB2 := Lib.hid hb
  clear hb
  generalize Sort.grow (w1.drewN k) os = w2 at *
  go_wp2
  go_ret2
  exact ⟨rfl, HB.out.trans (HB2.out.mono HB.out.size)⟩

/-- A word's value. -/
def wv (x : Int) : Value := .int .u32 x
/-- Marks as cells. -/
def mcells (ms : List (List UInt8 × Int)) : List Value := (ms.map fun m => [str m.1, .int .i64 m.2]).flatten

/-- A unit of a text, as it lies in memory. -/
def UnitAt (w : World) (u B : Nat) (words : List Int) (ms : List (List UInt8 × Int)) : Prop :=
  ∃ cv mv, rowAt w u #[cv, mv, .slice none 0 0] 57 ∧ B ≤ u ∧ w.ownsRow B 23 1 cv words.length (words.map (Value.int .u32)) ∧ w.ownsRow B 131 2 mv ms.length (mcells ms)

/-- What a walk over a unit leaves as it was. -/
def Fr (B : Nat) (w w' : World) : Prop := Below B w w' ∧ ∀ g cs t, rowAt w g cs t → t ≠ 23 → t ≠ 57 → t ≠ 131 → rowAt w' g cs t

theorem Fr.refl (B : Nat) (w : World) : Fr B w w := ⟨Below.refl _ _, fun _ _ _ h _ _ _ => h⟩
theorem Fr.trans {B : Nat} {w w1 w2 : World} (h : Fr B w w1) (h2 : Fr B w1 w2) : Fr B w w2 := ⟨h.1.trans h2.1, fun g cs t hr h3 h4 h5 => h2.2 g cs t (h.2 g cs t hr h3 h4 h5) h3 h4 h5⟩
theorem Fr.of {B : Nat} {w w' : World} (h : Below w.heap.size w w') (hB : B ≤ w.heap.size) : Fr B w w' := ⟨h.mono hB, fun _ _ _ hr _ _ _ => rowAt.below hr h hr.lt⟩

theorem UnitAt.kept {w w' : World} {u B : Nat} {words : List Int} {ms : List (List UInt8 × Int)} (H : UnitAt w u B words ms) (h : ∀ k, k < w.heap.size → w'.heap[k]? = w.heap[k]?) : UnitAt w' u B words ms := by
  obtain ⟨cv, mv, h1, h2, h3, h4⟩ := H
  exact ⟨cv, mv, (h u h1.lt).trans h1, h2, owns_kept h3 h, owns_kept h4 h⟩

/-- A slice of strings that reads so. -/
def Ss (w : World) (v : Value) (fs : List (List UInt8)) : Prop :=
  ∃ b off c, v = .slice (some ⟨b, off, none⟩) fs.length c ∧ fs.length ≤ c ∧ c < 4611686018427387904 ∧ b < w.heap.size ∧ ∀ k f, fs[k]? = some f → w.cell? ⟨b, off + k, none⟩ = some (str f)

theorem Ss.kept {w w' : World} {v : Value} {fs : List (List UInt8)} (H : Ss w v fs) (h : ∀ k, k < w.heap.size → w'.heap[k]? = w.heap[k]?) (hs : w.heap.size ≤ w'.heap.size) : Ss w' v fs := by
  obtain ⟨b, off, c, h1, h2, h3, h5, h4⟩ := H
  exact ⟨b, off, c, h1, h2, h3, by omega, fun k f hk => cell_kept h (h4 k f hk)⟩

theorem rowAt_type {w : World} {g : Nat} {cs cs2 : Array Value} {t t2 : TypeId} (h : rowAt w g cs t) (h2 : rowAt w g cs2 t2) : t = t2 := by
  have e := h.symm.trans h2
  injection e with e
  injection e with _ e

theorem owns_form {w : World} {B : Nat} {e : TypeId} {s : Nat} {v : Value} {n : Nat} {xs : List Value} (H : w.ownsRow B e s v n xs) : ∃ a c, v = .slice a n c := by
  rcases H.2 with ⟨hv, hn⟩ | ⟨g, cap, cur, hv, _⟩
  · exact ⟨none, 0, by rw [hv, hn]⟩
  · exact ⟨_, _, hv⟩

theorem owns_block {w : World} {B : Nat} {e : TypeId} {s : Nat} {v : Value} {n : Nat} {xs : List Value} (H : w.ownsRow B e s v n xs) {g : Nat} {cs : Array Value} {t : TypeId} (hr : rowAt w g cs t) (hne : t ≠ e) : some g ≠ v.ownBlock := by
  rcases H.2 with ⟨hv, _⟩ | ⟨g2, cap, cur, hv, _, hg, _⟩
  · rw [hv]; exact fun e => by cases e
  · rw [hv]
    intro e
    have e := Option.some.inj e
    dsimp only at e
    subst e
    exact hne (rowAt_type hr hg)

theorem other_row {w w' : World} {B : Nat} {e : TypeId} {s : Nat} {v : Value} {n : Nat} {xs : List Value} (H : w.ownsRow B e s v n xs) (hg : w.grownBy w' v.ownBlock) {g : Nat} {cs : Array Value} {t : TypeId} (hr : rowAt w g cs t) (hne : t ≠ e) : rowAt w' g cs t :=
  rowAt.grown hr hg (owns_block H hr hne)

theorem other_owns {w w' : World} {B : Nat} {e : TypeId} {s : Nat} {v : Value} {n : Nat} {xs : List Value} (H : w.ownsRow B e s v n xs) (hg : w.grownBy w' v.ownBlock)
    {B2 : Nat} {e2 : TypeId} {s2 : Nat} {v2 : Value} {n2 : Nat} {xs2 : List Value} (H2 : w.ownsRow B2 e2 s2 v2 n2 xs2) (hne : e2 ≠ e) : w'.ownsRow B2 e2 s2 v2 n2 xs2 := by
  refine ⟨H2.1, ?_⟩
  rcases H2.2 with h1 | ⟨g, cap, cur, hv, hB, hr, rest⟩
  · exact .inl h1
  · exact .inr ⟨g, cap, cur, hv, hB, other_row H hg hr hne, rest⟩

theorem owns_set {w : World} {B : Nat} {e : TypeId} {s : Nat} {v : Value} {n : Nat} {xs : List Value} (H : w.ownsRow B e s v n xs) {u : Nat} {cs : Array Value} {t : TypeId} (hr : rowAt w u cs t) (hne : t ≠ e) (j : Nat) (x : Value) :
    (w.setCell ⟨u, j, none⟩ x).ownsRow B e s v n xs := by
  refine ⟨H.1, ?_⟩
  rcases H.2 with h1 | ⟨g, cap, cur, hv, hB, hg, rest⟩
  · exact .inl h1
  · refine .inr ⟨g, cap, cur, hv, hB, rowAt.other hg ?_ x, rest⟩
    intro e
    dsimp only at e
    subst e
    exact hne (rowAt_type hr hg)

theorem append_ints (words : List Int) (x : Int) : words.map (Value.int .u32) ++ [Value.int .u32 x] = (words ++ [x]).map (Value.int .u32) := by simp

set_option maxHeartbeats 1600000 in
set_option maxRecDepth 100000 in
theorem put_word (u B : Nat) (words : List Int) (ms : List (List UInt8 × Int)) (x kind : Int) (w : World) (H : UnitAt w u B words ms) (hl : words.length ≤ 1000) :
    Calls Tryz.prog 106 #[.pointer (some ⟨u, 0, none⟩), .int .u32 x, .string ⟨#[]⟩, .int .i64 kind] w fun e w' => e = .returned (.tuple #[]) ∧ UnitAt w' u B (words ++ [x]) ms ∧ Fr B w w' := by
  obtain ⟨cv, mv, hr, hB, hc, hm⟩ := H
  obtain ⟨i0, hi, hz0, hz1, hz2⟩ := info_parts info32
  have hu := hr.lt
  have c0 : w.cell? ⟨u, 0, none⟩ = some cv := hr.cell 0
  have HC := Lib.hid hc
  have HM := Lib.hid hm
  clear hc hm
  go_enter Tryz.func106, Tryz.ntmps106
  have hO1 : (w.alloc (.cells #[.int .u32 x] 23)).ownsRow B 23 1 cv words.length (words.map (Value.int .u32)) := owns_kept HC.out fun j hj => Below.heap_alloc _ _ _ hj
  have HO1 := Lib.hid hO1
  clear hO1
  go_wp2_with (first | (at_builtin; refine wpList_append_own _ rfl _ _ 41 rfl B 23 i0 (.int .u32 0) 1 4 Tryz.underlying41 hi hz0 hz1 hz2 rfl (by decide) _ words.length _ rfl HO1.out ⟨w.heap.size, 0, none⟩ 1 1 [.int .u32 x] rfl rfl (one_cell _ _ _) (one_one _ _) (by unfold maxLen; omega) (by omega) (by simp; omega) ?_))
  intro v' w2 hown hgrow _
  obtain ⟨va, vc, hv'⟩ := owns_form hown
  subst hv'
  have hr2 : rowAt w2 u #[cv, mv, .slice none 0 0] 57 := other_row HO1.out hgrow (by (repeat (first | ((with_reducible apply rowAt.new); simp; done) | (with_reducible apply rowAt.drew) | (with_reducible apply rowAt.drewN) | (with_reducible apply rowAt.alloc) | (with_reducible apply rowAt.setRow_same) | ((with_reducible apply rowAt.so); (· (first | (simp; done) | (simp; omega) | omega))) | (with_reducible apply rowAt.set10) | (with_reducible apply rowAt.set8) | (with_reducible apply rowAt.set4) | (with_reducible apply rowAt.set2) | (with_reducible apply rowAt.set) | ((with_reducible apply rowAt.co); (· (first | (simp; done) | (simp; omega) | omega))) | assumption))) (by decide)
  have hu2 := hr2.lt
  have c2 : w2.cell? ⟨u, 0, none⟩ = some cv := hr2.cell 0
  have f2 : w2.frozen? ⟨u, 0, none⟩ = false := hr2.frozen 0
  have hm2 : w2.ownsRow B 131 2 mv ms.length (mcells ms) := other_owns HO1.out hgrow (owns_kept HM.out fun j hj => Below.heap_alloc _ _ _ hj) (by decide)
  have hb2 : Below B w w2 := (show Below B w (w.alloc (.cells #[.int .u32 x] 23)) from by (repeat (first | (with_reducible exact Below.refl _ _) | (with_reducible apply Below.drew) | (with_reducible apply bl_drewN) | ((with_reducible apply bl_alloc); (· (first | (simp; done) | (simp; omega) | omega))) | ((with_reducible apply bl_row); (· (first | (simp; done) | (simp; omega) | omega))) | ((with_reducible apply bl_cell); (· (first | (simp; done) | (simp; omega) | omega))) | assumption))).trans (below_own HO1.out hgrow (by simp; omega))
  have hfr : ∀ g cs t, rowAt w g cs t → t ≠ 23 → t ≠ 57 → t ≠ 131 → rowAt (w2.setCell ⟨u, 0, none⟩ (.slice va (words.length + 1) vc)) g cs t := fun g cs t hg h1 h2 h3 =>
    (other_row HO1.out hgrow (hg.alloc _) h1).other (fun e => h2 (by dsimp only at e; subst e; exact rowAt_type hg hr)) _
  have hown' : (w2.setCell ⟨u, 0, none⟩ (.slice va (words.length + 1) vc)).ownsRow B 23 1 (.slice va (words.length + 1) vc) (words ++ [x]).length ((words ++ [x]).map (Value.int .u32)) := by
    rw [← append_ints, List.length_append]
    exact owns_set hown hr2 (by decide) _ _
  have hX : UnitAt (w2.setCell ⟨u, 0, none⟩ (.slice va (words.length + 1) vc)) u B (words ++ [x]) ms := ⟨_, mv, hr2.set 0 _, hB, hown', owns_set hm2 hr2 (by decide) _ _⟩
  have hY : Fr B w (w2.setCell ⟨u, 0, none⟩ (.slice va (words.length + 1) vc)) := ⟨by (repeat (first | (with_reducible exact Below.refl _ _) | (with_reducible apply Below.drew) | (with_reducible apply bl_drewN) | ((with_reducible apply bl_alloc); (· (first | (simp; done) | (simp; omega) | omega))) | ((with_reducible apply bl_row); (· (first | (simp; done) | (simp; omega) | omega))) | ((with_reducible apply bl_cell); (· (first | (simp; done) | (simp; omega) | omega))) | assumption)), hfr⟩
  have HX := Lib.hid hX
  have HY := Lib.hid hY
  clear hX hY hown' hfr hb2 hm2 hgrow hown HO1 HC HM
  go_wp2
  refine bodyPost_end (results_none rfl _ _ _) rfl ⟨rfl, HX.out, HY.out⟩
end Go.Proofs.YtghjjemnegncpaaGreatDoor
