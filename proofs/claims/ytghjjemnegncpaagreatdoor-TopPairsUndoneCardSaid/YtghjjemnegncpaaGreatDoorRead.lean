/- The walk of asm.Read over lines that hold instructions, or nothing. -/
import Derived.Test.YtghjjemnegncpaaGreatDoorSettle
import Derived.Test.YtghjjemnegncpaaGreatDoorLines
set_option linter.unusedSimpArgs false
set_option linter.unusedVariables false
set_option linter.unusedSectionVars false
set_option linter.unnecessarySimpa false
namespace Go.Proofs.YtghjjemnegncpaaGreatDoor
open Go.RowKit

/-- What a line of a text adds. -/
def LineOf (s : List UInt8) (is : List Pl.Ins) : Prop :=
  ∀ (w : World) (u B : Nat) (words : List Int), Env w → UnitAt w u B words [] → words.length + is.length ≤ 128 → B ≤ w.heap.size →
    Calls Tryz.prog 61 #[.pointer (some ⟨u, 0, none⟩), str s] w fun e w' => e = .returned (.int .i64 0) ∧ UnitAt w' u B (words ++ is.map Pl.encW) [] ∧ Fr B w w'

theorem LineOf.instr (i : Pl.Ins) (hv : Pl.valid i) {s l : List UInt8} (hs : ∀ b ∈ s, okB b) (hlen : s.length ≤ 2000) (hcut : (Lib.cut s [59]).1 = l) (htx : Pl.Tx l (Pl.wds i)) : LineOf s [i] := by
  intro w u B words hE hU hl hB
  exact line_instr hE hU (by simp at hl; omega) hB hs hlen hcut i hv htx

theorem sizeUnit : (Tryz.prog.info? 57).map (·.size) = some 3 := by kernel_rfl

theorem read_end {R : Ending → World → Prop} {a : Act} {w : World} {g : Nat} {t : TypeId} {cs : Array Value} {v1 v2 : Value} (hp : a.tmps.getD 2 undef = .pointer (some ⟨g, 0, none⟩)) (h1 : a.tmps.getD 3 undef = v1) (h2 : a.tmps.getD 4 undef = v2)
    (hg : rowAt w g cs t) (hn : cs.size = 3) (hdf : a.defers = []) (hR : R (.returned (.tuple #[.agg cs, v1, v2])) w) : bodyPost Tryz.prog Tryz.f37 R .ret a w :=
  post_ctt (p := 2) (u := 3) (v := 4) (ty := 57) rfl Tryz.underlying57 rfl sizeUnit hp h1 h2 hg hn hdf hR

/-- What Read comes to: these words, and nothing needed. -/
def ReadIs (B : Nat) (ws : List Pl.Ins) (e : Ending) (w' : World) : Prop :=
  ∃ cv ma mc, e = .returned (.tuple #[.agg #[cv, .slice ma 0 mc, .slice none 0 0], .int .i64 0, .int .i64 0]) ∧ w'.ownsRow B 23 1 cv ws.length (encs ws)

theorem owns_base {w : World} {B B' : Nat} {e : TypeId} {s : Nat} {v : Value} {n : Nat} {xs : List Value} (H : w.ownsRow B e s v n xs) (h : B' ≤ B) : w.ownsRow B' e s v n xs := by
  refine ⟨H.1, ?_⟩
  rcases H.2 with h1 | ⟨g, cap, cur, hv, hB, rest⟩
  · exact .inl h1
  · exact .inr ⟨g, cap, cur, hv, by omega, rest⟩

theorem flat_take {α : Type} (Is : List (List α)) (k : Nat) (is : List α) (h : Is[k]? = some is) : (Is.take (k + 1)).flatten = (Is.take k).flatten ++ is := by
  rw [List.take_add_one, h]
  simp
theorem flat_len {α : Type} : ∀ (Is : List (List α)) (k : Nat), (Is.take k).flatten.length ≤ Is.flatten.length
  | [], k => by simp
  | a :: r, 0 => by simp
  | a :: r, k + 1 => by
    have := flat_len r k
    simp only [List.take_succ_cons, List.flatten_cons, List.length_append]
    omega

section
variable {w : World} {L : List (List UInt8)} {Is : List (List Pl.Ins)} (hE : Env w) (hL : L ≠ []) (hn : Is.length = L.length) (hnl : ∀ l ∈ L, ∀ b ∈ l, b ≠ 10) (hk : ∀ (k : Nat) (s : List UInt8) (is : List Pl.Ins), L[k]? = some s → Is[k]? = some is → LineOf s is)
  (hw : Is.flatten.length ≤ 128) (hs : (Pl.joinN L).length ≤ 2000)
include hE hL hn hnl hk hw hs

set_option maxHeartbeats 1600000 in
set_option maxRecDepth 100000 in
theorem Read_ok : Calls Tryz.prog 37 #[str (Pl.joinN L)] w fun e w' => ReadIs w.heap.size Is.flatten e w' ∧ Below w.heap.size w w' := by
  obtain ⟨hc1, hc2⟩ := Pl.split_join L hL hnl
  have HE := Lib.hid hE
  have HSp := Lib.hid fun W m hm => Tryz.strings_Split (Pl.bs (Pl.joinN L)) (Pl.bs [10]) m W (by rw [Pl.bs_size]; omega) hm (by decide)
  have HK := Lib.hid hk
  have HW := Lib.hid hw
  have HN := Lib.hid hn
  clear hE hk hw hnl hL hn
  have hLs : L.length ≤ 2001 := by
    have := Lib.countB_le (Pl.bs [10]) (by decide) _ (Pl.bs (Pl.joinN L)) (Nat.le_refl _)
    rw [Pl.bs_size] at this
    omega
  go_enter Tryz.func37, Tryz.ntmps37
  go_wp2_with fail
  have hE2 := HE.out.kept (w' := (w.alloc (Obj.cells #[.slice none 0 0, .slice none 0 0, .slice none 0 0] 57)).alloc (Obj.cells #[.slice none 0 0, .slice none 0 0, .slice none 0 0] 57)) (Below.block (B := w.heap.size) (by (repeat (first | (with_reducible exact Below.refl _ _) | (with_reducible apply Below.drew) | (with_reducible apply bl_drewN) | ((with_reducible apply bl_alloc); (· (first | (simp; done) | (simp; omega) | omega))) | ((with_reducible apply bl_row); (· (first | (simp; done) | (simp; omega) | omega))) | ((with_reducible apply bl_cell); (· (first | (simp; done) | (simp; omega) | omega))) | assumption))))
  obtain ⟨m, hm⟩ := hE2.1
  refine (HSp.out _ m hm).mono ?_
  clear hm HSp hE2
  rintro e w' ⟨rfl, rfl⟩
  rw [hc1, hc2]
  have hU : UnitAt (((w.alloc (Obj.cells #[.slice none 0 0, .slice none 0 0, .slice none 0 0] 57)).alloc (Obj.cells #[.slice none 0 0, .slice none 0 0, .slice none 0 0] 57)).alloc (Obj.cells (List.map Value.string (List.map Pl.bs L)).toArray 9)) (w.heap.size + 1) (w.heap.size + 1) [] [] :=
    ⟨.slice none 0 0, .slice none 0 0, by (repeat (first | ((with_reducible apply rowAt.new); simp; done) | (with_reducible apply rowAt.drew) | (with_reducible apply rowAt.drewN) | (with_reducible apply rowAt.alloc) | (with_reducible apply rowAt.setRow_same) | ((with_reducible apply rowAt.so); (· (first | (simp; done) | (simp; omega) | omega))) | (with_reducible apply rowAt.set10) | (with_reducible apply rowAt.set8) | (with_reducible apply rowAt.set4) | (with_reducible apply rowAt.set2) | (with_reducible apply rowAt.set) | ((with_reducible apply rowAt.co); (· (first | (simp; done) | (simp; omega) | omega))) | assumption)), Nat.le_refl _, World.ownsRow_nil _ _ _ _, World.ownsRow_nil _ _ _ _⟩
  have hr : rowAt (((w.alloc (Obj.cells #[.slice none 0 0, .slice none 0 0, .slice none 0 0] 57)).alloc (Obj.cells #[.slice none 0 0, .slice none 0 0, .slice none 0 0] 57)).alloc (Obj.cells (List.map Value.string (List.map Pl.bs L)).toArray 9)) (w.heap.size + 1 + 1) (List.map Value.string (List.map Pl.bs L)).toArray 9 := by (repeat (first | ((with_reducible apply rowAt.new); simp; done) | (with_reducible apply rowAt.drew) | (with_reducible apply rowAt.drewN) | (with_reducible apply rowAt.alloc) | (with_reducible apply rowAt.setRow_same) | ((with_reducible apply rowAt.so); (· (first | (simp; done) | (simp; omega) | omega))) | (with_reducible apply rowAt.set10) | (with_reducible apply rowAt.set8) | (with_reducible apply rowAt.set4) | (with_reducible apply rowAt.set2) | (with_reducible apply rowAt.set) | ((with_reducible apply rowAt.co); (· (first | (simp; done) | (simp; omega) | omega))) | assumption))
  have ht : rowAt (((w.alloc (Obj.cells #[.slice none 0 0, .slice none 0 0, .slice none 0 0] 57)).alloc (Obj.cells #[.slice none 0 0, .slice none 0 0, .slice none 0 0] 57)).alloc (Obj.cells (List.map Value.string (List.map Pl.bs L)).toArray 9)) w.heap.size #[.slice none 0 0, .slice none 0 0, .slice none 0 0] 57 := by (repeat (first | ((with_reducible apply rowAt.new); simp; done) | (with_reducible apply rowAt.drew) | (with_reducible apply rowAt.drewN) | (with_reducible apply rowAt.alloc) | (with_reducible apply rowAt.setRow_same) | ((with_reducible apply rowAt.so); (· (first | (simp; done) | (simp; omega) | omega))) | (with_reducible apply rowAt.set10) | (with_reducible apply rowAt.set8) | (with_reducible apply rowAt.set4) | (with_reducible apply rowAt.set2) | (with_reducible apply rowAt.set) | ((with_reducible apply rowAt.co); (· (first | (simp; done) | (simp; omega) | omega))) | assumption))
  have hb : Below w.heap.size w (((w.alloc (Obj.cells #[.slice none 0 0, .slice none 0 0, .slice none 0 0] 57)).alloc (Obj.cells #[.slice none 0 0, .slice none 0 0, .slice none 0 0] 57)).alloc (Obj.cells (List.map Value.string (List.map Pl.bs L)).toArray 9)) := by (repeat (first | (with_reducible exact Below.refl _ _) | (with_reducible apply Below.drew) | (with_reducible apply bl_drewN) | ((with_reducible apply bl_alloc); (· (first | (simp; done) | (simp; omega) | omega))) | ((with_reducible apply bl_row); (· (first | (simp; done) | (simp; omega) | omega))) | ((with_reducible apply bl_cell); (· (first | (simp; done) | (simp; omega) | omega))) | assumption))
  simp only [World.size_alloc]
  generalize (((w.alloc (Obj.cells #[.slice none 0 0, .slice none 0 0, .slice none 0 0] 57)).alloc (Obj.cells #[.slice none 0 0, .slice none 0 0, .slice none 0 0] 57)).alloc (Obj.cells (List.map Value.string (List.map Pl.bs L)).toArray 9)) = w1 at *
  clear hc2
  have HU := Lib.hid hU
  have HR := Lib.hid hr
  have HT := Lib.hid ht
  have HB := Lib.hid hb
  have hw1 := hr.lt
  clear hU hr ht hb
  go_wp2_with fail
  go_loopw [18] (fun t wr => ∃ k : Nat, k ≤ L.length ∧ t = .int .i64 k ∧ UnitAt wr (w.heap.size + 1) (w.heap.size + 1) ((Is.take k).flatten.map Pl.encW) [] ∧ Fr (w.heap.size + 1) w1 wr) (fun t _ => L.length - (intOf t).toNat)
  case atStart => exact ⟨0, Nat.zero_le _, rfl, HU.out, Fr.refl _ _⟩
  case round =>
    obtain ⟨k, hk, rfl, hu, hfr⟩ := hrel
    have hrr := hfr.2 _ _ _ HR.out (by decide) (by decide) (by decide)
    have hrt : rowAt wr w.heap.size #[.slice none 0 0, .slice none 0 0, .slice none 0 0] 57 := rowAt.below HT.out hfr.1 (by omega)
    have hbw : Below w.heap.size w wr := HB.out.trans (hfr.1.mono (by omega))
    have hEr := HE.out.kept (Below.block hbw)
    have hsz := hrr.lt
    by_cases hlt : k < L.length
    · obtain ⟨s, hs⟩ : ∃ s, L[k]? = some s := ⟨L[k], by simp [hlt]⟩
      obtain ⟨is, his⟩ : ∃ is, Is[k]? = some is := ⟨Is[k]'(by rw [HN.out]; exact hlt), by simp [HN.out, hlt]⟩
      have hfl := flat_take Is k is his
      have hln := HK.out k s is hs his wr _ _ _ hEr hu (by
        have := HW.out
        have h2 := flat_len Is (k + 1)
        rw [hfl, List.length_append] at h2
        rw [List.length_map]
        omega) (by omega)
      have HLn := Lib.hid hln
      have cs : wr.cell? ⟨w.heap.size + 1 + 1, k, none⟩ = some (str s) := by
        rw [hrr.cell k]
        simp [hs, Pl.bs]
      have HFr := Lib.hid hfr
      clear hln hu hfr hrr hrt hbw hEr hs
      go_wp2_with fail
      refine HLn.out.mono ?_
      rintro e w2 ⟨rfl, hu2, hfr2⟩
      have HU2 := Lib.hid hu2
      have HF2 := Lib.hid (HFr.out.trans hfr2)
      clear hu2 hfr2
      go_wp2
      exact ⟨⟨k + 1, by omega, by go_num, by rw [hfl, List.map_append]; exact HU2.out, HF2.out⟩, by simp [intOf]; omega⟩
    · obtain rfl : k = L.length := by omega
      have hset := settle_none hu (by omega)
      rw [show Is.take L.length = Is from List.take_of_length_le (by rw [HN.out]; exact Nat.le_refl _)] at hset
      have HS := Lib.hid hset
      have HB1 := Lib.hid hbw
      have HRT := Lib.hid hrt
      clear hset hu hfr hrr hrt hbw hEr
      go_wp2_with fail
      refine HS.out.mono ?_
      rintro e w2 ⟨rfl, ⟨cv, mv, hru, hBu, hcv, hmv⟩, hfr2⟩
      generalize hnn : (List.map Pl.encW Is.flatten).length = nn at hcv
      have HNN := Lib.hid hnn
      clear hnn
      obtain ⟨ca, cc, rfl⟩ := owns_form hcv
      obtain ⟨ma, mc, rfl⟩ := owns_form hmv
      have hrt2 : rowAt w2 w.heap.size #[.slice none 0 0, .slice none 0 0, .slice none 0 0] 57 := rowAt.below HRT.out hfr2.1 (by omega)
      have hb2 : Below w.heap.size w w2 := HB1.out.trans (hfr2.1.mono (by omega))
      have d0 : w2.cell? ⟨w.heap.size + 1, 0, none⟩ = some (.slice ca nn cc) := hru.cell 0
      have d1 : w2.cell? ⟨w.heap.size + 1, 1, none⟩ = some (.slice ma 0 mc) := hru.cell 1
      have d2 : w2.cell? ⟨w.heap.size + 1, 2, none⟩ = some (.slice none 0 0) := hru.cell 2
      have e0 : w2.cell? ⟨w.heap.size, 0, none⟩ = some (.slice none 0 0) := hrt2.cell 0
      have e1 : w2.cell? ⟨w.heap.size, 1, none⟩ = some (.slice none 0 0) := hrt2.cell 1
      have e2 : w2.cell? ⟨w.heap.size, 2, none⟩ = some (.slice none 0 0) := hrt2.cell 2
      have f0 : w2.frozen? ⟨w.heap.size, 0, none⟩ = false := hrt2.frozen 0
      have f1 : w2.frozen? ⟨w.heap.size, 1, none⟩ = false := hrt2.frozen 1
      have f2 : w2.frozen? ⟨w.heap.size, 2, none⟩ = false := hrt2.frozen 2
      have HCV := Lib.hid hcv
      have HB2 := Lib.hid hb2
      clear hfr2 hmv hcv hb2 hru
      go_wp2_with fail
      refine read_end (t := 57) (cs := #[.slice ca nn cc, .slice ma 0 mc, .slice none 0 0]) rfl rfl rfl (((hrt2.set 0 _).set 1 _).set 2 _) rfl rfl ⟨⟨_, _, _, rfl, ?_⟩, ?_⟩
      · have h := owns_set (owns_set (owns_set HCV.out hrt2 (by decide) 0 (.slice ca nn cc)) (hrt2.set 0 _) (by decide) 1 (.slice ma 0 mc)) ((hrt2.set 0 _).set 1 _) (by decide) 2 (.slice none 0 0)
        have h2 := owns_base h (B' := w.heap.size) (by omega)
        rw [← HNN.out, List.length_map, List.map_map] at h2
        rw [← HNN.out, List.length_map]
        simpa [encs, Function.comp_def] using h2
      · have hb2 := HB2.out
        (repeat (first | (with_reducible exact Below.refl _ _) | (with_reducible apply Below.drew) | (with_reducible apply bl_drewN) | ((with_reducible apply bl_alloc); (· (first | (simp; done) | (simp; omega) | omega))) | ((with_reducible apply bl_row); (· (first | (simp; done) | (simp; omega) | omega))) | ((with_reducible apply bl_cell); (· (first | (simp; done) | (simp; omega) | omega))) | assumption))
end
end Go.Proofs.YtghjjemnegncpaaGreatDoor
