/- The walks of slices.Grow (of nil) and slices.Concat, of instructions. -/
import Derived.Test.YtghjjemnegncpaaGreatDoorSameM
import Derived.Lib.AppendZeros
set_option linter.unusedSimpArgs false
set_option linter.unusedVariables false
set_option linter.unusedSectionVars false
set_option linter.unnecessarySimpa false
namespace Go.Proofs.YtghjjemnegncpaaGreatDoor
open Go.RowKit

theorem cells31 : ∀ W : World, (Go.sizeOf 31).run Tryz.prog W = .ok 4 W := fun _ => by kernel_rfl

theorem slice_headI (a : Option Addr) (n c k : Nat) (h : k ≤ c) (W : World) : (Instr.slice 22 (.slice a n c) none (some (.int .i64 k)) none).run Tryz.prog W = .ok (.slice (if c = 0 then a else a.map (·.add 0)) k c) W := by
  have h1 : (0 : Int) ≤ (k : Int) ∧ (k : Int) ≤ (c : Int) := by omega
  simp [Instr.slice, Instr.sliceBounds, Instr.sliceBound, run_underlying Tryz.underlying22, cells31, asIntOf, h1]
  intro h'; omega
theorem slice_tailI (a : Option Addr) (n c k : Nat) (h : k ≤ n) (hc : n ≤ c) (W : World) : (Instr.slice 22 (.slice a n c) (some (.int .i64 k)) none none).run Tryz.prog W = .ok (.slice (if c = k then a else a.map (·.add (k * 4))) (n - k) (c - k)) W := by
  have h1 : (0 : Int) ≤ (k : Int) ∧ (k : Int) ≤ (n : Int) := by omega
  simp [Instr.slice, Instr.sliceBounds, Instr.sliceBound, run_underlying Tryz.underlying22, cells31, asIntOf, h1]
  intro h'; omega

set_option maxHeartbeats 1600000 in
set_option maxRecDepth 100000 in
theorem Grow_nil (n : Nat) (w : World) (hn : n ≤ 1000) :
    Calls Tryz.prog 46 #[.slice none 0 0, .int .i64 n] w fun e w' => ∃ v', e = .returned v' ∧ w'.ownsRow w.heap.size 31 4 v' 0 [] ∧ Below w.heap.size w w' := by
  obtain ⟨i0, hi, hz0, hz1, hz2⟩ := info_parts infoIns
  by_cases h0 : 0 < n
  · have hs0 := slice_headI none 0 0 0 (Nat.le_refl _)
    have happ := Lib.run_append_nil_zeros (P := Tryz.prog) w 22 3 22 31 i0 _ .i64 .i64 Tryz.underlying22 Tryz.underlying3 hi hz0 n h0 (by rw [hz1]; decide) (by omega) (by rw [hz2]; omega)
    have hge := grownCap_ge w n 0 31
    have hle := grownCap_le_maxLen w n 0 31 (by unfold maxLen; omega)
    generalize grownCap w n 0 31 = cap at happ hge hle
    generalize hZ : (Builtin.zeroCells (Value.agg #[.int .i64 0, .int .i64 0, .int .i64 0, .int .i64 0]).cells n ++ Builtin.zeroCells (Value.agg #[.int .i64 0, .int .i64 0, .int .i64 0, .int .i64 0]).cells (cap - n)) = Z at happ
    have hZs : Z.size = cap * 4 := by rw [← hZ]; simp [size_zeroCells, Value.cells]; omega
    clear hZ
    have hs1 := fun W => slice_headI (some ⟨w.heap.size, 0, none⟩) n cap 0 (by omega) W
    rw [if_neg (by omega), Option.map_some, add_at] at hs1
    simp only [if_true] at hs0
    have hrow : rowAt (w.drew.alloc (.cells Z 31)) w.heap.size Z 31 := rowAt.new _ _ _ rfl
    have hbl : Below w.heap.size w (w.drew.alloc (.cells Z 31)) := by (repeat (first | (with_reducible exact Below.refl _ _) | (with_reducible apply Below.drew) | (with_reducible apply bl_drewN) | ((with_reducible apply bl_alloc); (· (first | (simp; done) | (simp; omega) | omega))) | ((with_reducible apply bl_row); (· (first | (simp; done) | (simp; omega) | omega))) | ((with_reducible apply bl_cell); (· (first | (simp; done) | (simp; omega) | omega))) | assumption))
    have HX := Lib.hid hrow
    have HB := Lib.hid hbl
    clear hrow hbl
    go_enter Tryz.func46, Tryz.ntmps46
    go_wp2_with (first | (at_builtin; refine Lib.wpList_append_run _ rfl _ _ _ _ rfl _ _ rfl rfl _ _ happ ?_))
    go_wp2
    go_ret
    exact ⟨_, rfl, ⟨rfl, .inr ⟨w.heap.size, cap, Z, rfl, Nat.le_refl _, HX.out, Nat.zero_le _, hle, hZs, rfl⟩⟩, HB.out⟩
  · obtain rfl : n = 0 := by omega
    go_enter Tryz.func46, Tryz.ntmps46
    go_wp2
    go_ret
    exact ⟨_, rfl, World.ownsRow_nil _ _ _ _, Below.refl _ _⟩

theorem own_more {w w1 w2 : World} {B n : Nat} {e : TypeId} {s : Nat} {v : Value} {xs : List Value} (hB : B ≤ w.heap.size) (HO : w.ownsRow B e s v n xs) (hgrow : w.grownBy w2 v.ownBlock) : Below B w w2 := below_own HO hgrow hB

/-- Slices of instructions, one behind the other in a row of cells. -/
def Parts (w : World) (g : Nat) (Ls : List (List Pl.Ins)) : Prop := ∀ k l, Ls[k]? = some l → ∃ a c, w.cell? ⟨g, k, none⟩ = some (.slice a l.length c) ∧ Il w (.slice a l.length c) l

theorem Parts.kept {w w' : World} {g : Nat} {Ls : List (List Pl.Ins)} (H : Parts w g Ls) (h : ∀ k, k < w.heap.size → w'.heap[k]? = w.heap[k]?) : Parts w' g Ls := fun k l hk => by
  obtain ⟨a, c, h1, h2⟩ := H k l hk
  exact ⟨a, c, cell_kept h h1, h2.kept h⟩

theorem il_none {w : World} {n c : Nat} {l : List Pl.Ins} (H : Il w (.slice none n c) l) : l = [] ∧ c = 0 := by
  obtain ⟨a, c', h, hn, hk⟩ := H
  cases h
  refine ⟨?_, hn rfl⟩
  cases l with
  | nil => rfl
  | cons x r => obtain ⟨b, off, h, _⟩ := hk 0 x rfl; cases h

theorem icells_flat_step (Ls : List (List Pl.Ins)) (k : Nat) (l : List Pl.Ins) (h : Ls[k]? = some l) : icells (Ls.take k).flatten ++ icells l = icells (Ls.take (k + 1)).flatten := by
  rw [flat_take Ls k l h, icells_app]

set_option maxHeartbeats 3200000 in
set_option maxRecDepth 100000 in
theorem Concat_ok (g n c : Nat) (Ls : List (List Pl.Ins)) (w : World) (hn : Ls.length = n) (H : Parts w g Ls) (hl : Ls.flatten.length ≤ 1000) (hn10 : n ≤ 100) :
    Calls Tryz.prog 26 #[.slice (some ⟨g, 0, none⟩) n c] w fun e w' => ∃ v', e = .returned v' ∧ w'.ownsRow w.heap.size 31 4 v' Ls.flatten.length (icells Ls.flatten) ∧ Below w.heap.size w w' := by
  have HP := Lib.hid H
  have HN := Lib.hid hn
  have HL := Lib.hid hl
  clear H hn hl
  obtain ⟨i0, hi, hz0, hz1, hz2⟩ := info_parts infoIns
  go_enter Tryz.func26, Tryz.ntmps26
  go_wp2_with fail
  obtain ⟨tot, htot⟩ : ∃ tot : Nat → Nat, ∀ k, tot k = (Ls.take k).flatten.length := ⟨_, fun _ => rfl⟩
  have HT := Lib.hid htot
  have ht0 : tot 0 = 0 := by rw [htot]; rfl
  have htn : tot n = Ls.flatten.length := by rw [htot, ← HN.out, List.take_length]
  have hstep : ∀ k l, Ls[k]? = some l → tot (k + 1) = tot k + l.length := fun k l h => by rw [htot, htot, flat_take Ls k l h, List.length_append]
  have hle : ∀ k, tot k ≤ 1000 := fun k => by rw [htot]; have := flat_len Ls k; have := HL.out; omega
  have HTN := Lib.hid htn
  have HST := Lib.hid hstep
  have HLE := Lib.hid hle
  clear htot htn hstep hle
  go_loop [11, 3] (fun t s => ∃ k : Nat, k ≤ n ∧ t = .int .i64 k ∧ s = .int .i64 (tot k)) (fun t _ => n - (intOf t).toNat)
  case atStart => exact ⟨0, Nat.zero_le _, rfl, by rw [ht0]; rfl⟩
  case round =>
    obtain ⟨k, hk, rfl, rfl⟩ := hrel
    by_cases hlt : k < n
    · obtain ⟨l, hkl⟩ : ∃ l, Ls[k]? = some l := ⟨Ls[k]'(by rw [HN.out]; exact hlt), by simp [HN.out, hlt]⟩
      obtain ⟨a, cc, hc, _⟩ := HP.out k l hkl
      have h1 := HLE.out (k + 1)
      have h2 := HST.out k l hkl
      rw [h2] at h1
      have H2 := Lib.hid h2
      clear h2 hkl
      go_wp2
      exact ⟨⟨k + 1, by omega, by go_num, by rw [H2.out]; go_num⟩, by simp [intOf]; omega⟩
    · obtain rfl : k = n := by omega
      have h2 := HLE.out k
      have HGr := Lib.hid fun W => Grow_nil (tot k) W h2
      go_wp2_with fail
      refine (HGr.out _).mono ?_
      rintro e w1 ⟨v1, rfl, hown1, hb1⟩
      have HO1 := Lib.hid hown1
      have HB1 := Lib.hid hb1
      have HP1 := Lib.hid (HP.out.kept (Below.block hb1))
      have hsz1 := hb1.size
      clear hown1 hb1 HGr
      go_wp2_with fail
      go_loopw [27, 6] (fun t v wr => ∃ j : Nat, j ≤ k ∧ t = .int .i64 j ∧ wr.ownsRow w.heap.size 31 4 v (tot j) (icells (Ls.take j).flatten) ∧ Below w.heap.size w wr) (fun t _ _ => k - (intOf t).toNat)
      case atStart => exact ⟨0, Nat.zero_le _, rfl, by rw [ht0]; exact HO1.out, HB1.out⟩
      case round =>
        obtain ⟨j, hj, rfl, hown, hbel⟩ := hrel
        by_cases hlt : j < k
        · obtain ⟨l, hjl⟩ : ∃ l, Ls[j]? = some l := ⟨Ls[j]'(by rw [HN.out]; exact hlt), by simp [HN.out, hlt]⟩
          obtain ⟨a, cc, hc, hil⟩ := (HP.out.kept (Below.block hbel)) j l hjl
          have h1 := HLE.out (j + 1)
          have h2 := HST.out j l hjl
          rw [h2] at h1
          have hcat := icells_flat_step Ls j l hjl
          have hsB := hbel.size
          cases a with
          | none =>
            obtain ⟨rfl, rfl⟩ := il_none hil
            have HO := Lib.hid hown
            have HBl := Lib.hid hbel
            have HC := Lib.hid hcat
            have H2 := Lib.hid h2
            clear hown hbel hcat h2 hil hjl
            go_wp2_with (first | (at_builtin; refine wpList_append_own_none rfl _ _ 22 rfl w.heap.size 31 i0 4 Tryz.underlying22 hi _ (tot j) _ rfl HO.out rfl ?_))
            have HO2 := Lib.hid (HC.out ▸ (show wr.ownsRow w.heap.size 31 4 u6 (tot j) (icells (Ls.take j).flatten ++ icells []) from by rw [show icells [] = [] from rfl, List.append_nil]; exact HO.out))
            exact ⟨⟨j + 1, by omega, by go_num, by rw [H2.out]; exact HO2.out, HBl.out⟩, by simp [intOf]; omega⟩
          | some ad =>
            have hcl := (il_cells hil).2
            have HCL := Lib.hid hcl
            have HO := Lib.hid hown
            have HBl := Lib.hid hbel
            have HC := Lib.hid hcat
            have H2 := Lib.hid h2
            have hil4 := icells_len l
            clear hown hbel hcat h2 hil hcl hjl
            go_wp2_with (first | (at_builtin; refine wpList_append_own _ rfl _ _ 22 rfl w.heap.size 31 i0 (.agg #[.int .i64 0, .int .i64 0, .int .i64 0, .int .i64 0]) 4 32 Tryz.underlying22 hi hz0 hz1 hz2 rfl (by decide) _ (tot j) _ rfl HO.out ad l.length cc (icells l) rfl hil4 HCL.out (icells_one _) (by unfold maxLen; omega) (by omega) hsB ?_))
            intro v' w2 hown2 hgrow _
            have hb2 := HBl.out.trans (below_own HO.out hgrow hsB)
            have HO2 := Lib.hid (HC.out ▸ hown2)
            have HB2 := Lib.hid hb2
            clear hown2 hgrow hb2 HO HBl HCL
            go_wp2_with fail
            exact ⟨⟨j + 1, by omega, by go_num, by rw [H2.out]; exact HO2.out, HB2.out⟩, by simp [intOf]; omega⟩
        · obtain rfl : j = k := by omega
          rw [show Ls.take j = Ls from List.take_of_length_le (by rw [HN.out]; exact Nat.le_refl _), HTN.out] at hown
          have HO := Lib.hid hown
          have HBl := Lib.hid hbel
          clear hown hbel
          go_wp2
          go_ret
          exact ⟨_, rfl, HO.out, HBl.out⟩
end Go.Proofs.YtghjjemnegncpaaGreatDoor
