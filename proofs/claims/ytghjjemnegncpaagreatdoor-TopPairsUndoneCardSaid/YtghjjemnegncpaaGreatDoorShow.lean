/- The walk of asm.Show, of a word that is an instruction's. -/
import Derived.Test.YtghjjemnegncpaaGreatDoorRead
set_option linter.unusedSimpArgs false
set_option linter.unusedVariables false
set_option linter.unusedSectionVars false
set_option linter.unnecessarySimpa false
namespace Go.Proofs.YtghjjemnegncpaaGreatDoor
open Go.RowKit

theorem bs_add (l r : List UInt8) : (⟨l.toArray⟩ : ByteArray) ++ ⟨r.toArray⟩ = ⟨(l ++ r).toArray⟩ := by
  rw [ByteArray.mk_append_mk]
theorem itoa_digit (a : Int) (h1 : 0 ≤ a) (h2 : a < 8) : Lib.itoa a = [UInt8.ofNat (48 + a.toNat)] := by
  unfold Lib.itoa
  rw [if_neg (by omega)]
  exact Lib.decDigits_one (by omega)

/-- strconv.Itoa, of a small number. -/
theorem Itoa_ok (c : Int) (w : World) (h1 : -32768 ≤ c) (h2 : c ≤ 32767) (hE : Env w) : Calls Tryz.prog 50 #[.int .i64 c] w fun e w' => e = .returned (.string ⟨(Lib.itoa c).toArray⟩) ∧ Below w.heap.size w w' := by
  refine (Tryz.strconv_Itoa c (by omega) (by omega) w hE.2.2).mono ?_
  rintro e w' ⟨rfl, k, os, rfl⟩
  exact ⟨rfl, grow_below w k os⟩

theorem itoa_size (c : Int) (h1 : -32768 ≤ c) (h2 : c ≤ 32767) : (⟨(Lib.itoa c).toArray⟩ : ByteArray).size ≤ 7 := by
  rw [str_size]
  exact Pl.itoa_len c (by omega) (by omega)

set_option maxHeartbeats 3200000 in
set_option maxRecDepth 100000 in
theorem Show_ok (i : Pl.Ins) (w : World) (hv : Pl.valid i) (hE : Env w) : Calls Tryz.prog 34 #[.int .u32 (Pl.encW i)] w fun e w' => e = .returned (str (Pl.showL i)) ∧ Below w.heap.size w w' := by
  have HD := Lib.hid fun W => Decode_ok i W hv
  have HN0 := Lib.hid fun W => Name_ok i.op W hv.1 hv.2.1
  have HF0 := Lib.hid fun W => Fields_ok i.op W hv.1 hv.2.1
  have hnm := (Pl.nm_facts i.op hv.1 hv.2.1).2.2
  have HE := Lib.hid hE
  have HA := Lib.hid (itoa_digit i.a hv.2.2.1 hv.2.2.2.1)
  have HB := Lib.hid (itoa_digit i.b hv.2.2.2.2.1 hv.2.2.2.2.2.1)
  have HIa0 := Lib.hid fun W hW => Itoa_ok i.a W (by have := hv.2.2.1; omega) (by have := hv.2.2.2.1; omega) hW
  have HIb0 := Lib.hid fun W hW => Itoa_ok i.b W (by have := hv.2.2.2.2.1; omega) (by have := hv.2.2.2.2.2.1; omega) hW
  have HIc0 := Lib.hid fun W hW => Itoa_ok i.c W hv.2.2.2.2.2.2.1 hv.2.2.2.2.2.2.2.1 hW
  have sa := itoa_size i.a (by have := hv.2.2.1; omega) (by have := hv.2.2.2.1; omega)
  have sb := itoa_size i.b (by have := hv.2.2.2.2.1; omega) (by have := hv.2.2.2.2.2.1; omega)
  have sc := itoa_size i.c hv.2.2.2.2.2.2.1 hv.2.2.2.2.2.2.2.1
  have sn : (⟨(Pl.nm i.op).toArray⟩ : ByteArray).size ≤ 6 := by rw [str_size]; exact hnm
  obtain ⟨nb, hnb⟩ : ∃ nb : ByteArray, nb = ⟨(Pl.nm i.op).toArray⟩ := ⟨_, rfl⟩
  obtain ⟨ab, hab⟩ : ∃ ab : ByteArray, ab = ⟨(Lib.itoa i.a).toArray⟩ := ⟨_, rfl⟩
  obtain ⟨bb, hbb⟩ : ∃ bb : ByteArray, bb = ⟨(Lib.itoa i.b).toArray⟩ := ⟨_, rfl⟩
  obtain ⟨cb, hcb⟩ : ∃ cb : ByteArray, cb = ⟨(Lib.itoa i.c).toArray⟩ := ⟨_, rfl⟩
  rw [← hnb] at sn
  rw [← hab] at sa
  rw [← hbb] at sb
  rw [← hcb] at sc
  have HN := Lib.hid (show ∀ W, Calls Tryz.prog 51 #[.int .i64 i.op] W fun e w' => e = .returned (.tuple #[.string nb, .int .i64 0]) ∧ W = w' from fun W => by rw [hnb]; exact HN0.out W)
  have HIa := Lib.hid (show ∀ W, Env W → Calls Tryz.prog 50 #[.int .i64 i.a] W fun e w' => e = .returned (.string ab) ∧ Below W.heap.size W w' from fun W h => by rw [hab]; exact HIa0.out W h)
  have HIb := Lib.hid (show ∀ W, Env W → Calls Tryz.prog 50 #[.int .i64 i.b] W fun e w' => e = .returned (.string bb) ∧ Below W.heap.size W w' from fun W h => by rw [hbb]; exact HIb0.out W h)
  have HIc := Lib.hid (show ∀ W, Env W → Calls Tryz.prog 50 #[.int .i64 i.c] W fun e w' => e = .returned (.string cb) ∧ Below W.heap.size W w' from fun W h => by rw [hcb]; exact HIc0.out W h)
  have Hn := Lib.hid hnb
  have Ha := Lib.hid hab
  have Hb := Lib.hid hbb
  have Hc := Lib.hid hcb
  clear hnb hab hbb hcb HN0 HIa0 HIb0 HIc0 hnm hv hE
  go_enter Tryz.func34, Tryz.ntmps34
  go_wp2_with fail
  refine (HD.out _).mono ?_
  rintro e w1 ⟨rfl, hb1⟩
  have hrow : rowAt (w1.alloc (Obj.cells #[.int .i64 i.op, .int .i64 i.a, .int .i64 i.b, .int .i64 i.c] 31)) w1.heap.size #[.int .i64 i.op, .int .i64 i.a, .int .i64 i.b, .int .i64 i.c] 31 := rowAt.new _ _ _ rfl
  have hs1 := hb1.size
  have hb2 : Below w.heap.size w (w1.alloc (Obj.cells #[.int .i64 i.op, .int .i64 i.a, .int .i64 i.b, .int .i64 i.c] 31)) := by (repeat (first | (with_reducible exact Below.refl _ _) | (with_reducible apply Below.drew) | (with_reducible apply bl_drewN) | ((with_reducible apply bl_alloc); (· (first | (simp; done) | (simp; omega) | omega))) | ((with_reducible apply bl_row); (· (first | (simp; done) | (simp; omega) | omega))) | ((with_reducible apply bl_cell); (· (first | (simp; done) | (simp; omega) | omega))) | assumption))
  go_wp2_with fail
  generalize w1.alloc (Obj.cells #[.int .i64 i.op, .int .i64 i.a, .int .i64 i.b, .int .i64 i.c] 31) = w2 at *
  generalize w1.heap.size = g at *
  have hg2 := hrow.lt
  have q0 : w2.cell? ⟨g, 0, none⟩ = some (.int .i64 i.op) := hrow.cell 0
  have q1 : w2.cell? ⟨g, 1, none⟩ = some (.int .i64 i.a) := hrow.cell 1
  have q2 : w2.cell? ⟨g, 2, none⟩ = some (.int .i64 i.b) := hrow.cell 2
  have q3 : w2.cell? ⟨g, 3, none⟩ = some (.int .i64 i.c) := hrow.cell 3
  have HB2 := Lib.hid hb2
  clear hb1 hb2
  go_wp2_with fail
  refine (HN.out _).mono ?_
  rintro e w' ⟨rfl, rfl⟩
  go_wp2_with fail
  refine (HF0.out _).mono ?_
  rintro e w' ⟨rfl, rfl⟩
  rcases Pl.fl_cases i.op with hf | hf | hf | hf | hf | hf
  · rw [hf]
    go_wp2_with fail
    go_ret
    refine ⟨?_, HB2.out⟩
    simp [Pl.showL, Pl.flds, hf, Pl.rgB, Hn.out, HA.out, HB.out, ByteArray.mk_append_mk]
  · rw [hf]
    go_wp2_with fail
    refine (HIa.out w2 (HE.out.kept (Below.block HB2.out))).mono ?_
    rintro e w3 ⟨rfl, hb⟩
    have hrow3 := rowAt.below hrow hb hrow.lt
    have HB3 := Lib.hid (HB2.out.trans (hb.mono HB2.out.size))
    clear hb q1 q2 q3
    have hl0 := hrow3.lt
    have p1 : w3.cell? ⟨g, 1, none⟩ = some (.int .i64 i.a) := hrow3.cell 1
    have p2 : w3.cell? ⟨g, 2, none⟩ = some (.int .i64 i.b) := hrow3.cell 2
    have p3 : w3.cell? ⟨g, 3, none⟩ = some (.int .i64 i.c) := hrow3.cell 3
    go_wp2_with fail
    go_ret
    refine ⟨?_, HB3.out⟩
    simp [Pl.showL, Pl.flds, hf, Pl.rgB, Hn.out, Ha.out, HA.out, HB.out, ByteArray.mk_append_mk]
  · rw [hf]
    go_wp2_with fail
    refine (HIa.out w2 (HE.out.kept (Below.block HB2.out))).mono ?_
    rintro e w3 ⟨rfl, hb⟩
    have hrow3 := rowAt.below hrow hb hrow.lt
    have HB3 := Lib.hid (HB2.out.trans (hb.mono HB2.out.size))
    clear hb q1 q2 q3
    have hl0 := hrow3.lt
    have p1 : w3.cell? ⟨g, 1, none⟩ = some (.int .i64 i.a) := hrow3.cell 1
    have p2 : w3.cell? ⟨g, 2, none⟩ = some (.int .i64 i.b) := hrow3.cell 2
    have p3 : w3.cell? ⟨g, 3, none⟩ = some (.int .i64 i.c) := hrow3.cell 3
    go_wp2_with fail
    refine (HIb.out w3 (HE.out.kept (Below.block HB3.out))).mono ?_
    rintro e w4 ⟨rfl, hb⟩
    have hrow4 := rowAt.below hrow3 hb hrow3.lt
    have HB4 := Lib.hid (HB3.out.trans (hb.mono HB3.out.size))
    clear hb p1 p2 p3
    have hl1 := hrow4.lt
    have p1 : w4.cell? ⟨g, 1, none⟩ = some (.int .i64 i.a) := hrow4.cell 1
    have p2 : w4.cell? ⟨g, 2, none⟩ = some (.int .i64 i.b) := hrow4.cell 2
    have p3 : w4.cell? ⟨g, 3, none⟩ = some (.int .i64 i.c) := hrow4.cell 3
    go_wp2_with fail
    go_ret
    refine ⟨?_, HB4.out⟩
    simp [Pl.showL, Pl.flds, hf, Pl.rgB, Hn.out, Ha.out, Hb.out, HA.out, HB.out, ByteArray.mk_append_mk]
  · rw [hf]
    go_wp2_with fail
    refine (HIc.out w2 (HE.out.kept (Below.block HB2.out))).mono ?_
    rintro e w3 ⟨rfl, hb⟩
    have hrow3 := rowAt.below hrow hb hrow.lt
    have HB3 := Lib.hid (HB2.out.trans (hb.mono HB2.out.size))
    clear hb q1 q2 q3
    have hl0 := hrow3.lt
    have p1 : w3.cell? ⟨g, 1, none⟩ = some (.int .i64 i.a) := hrow3.cell 1
    have p2 : w3.cell? ⟨g, 2, none⟩ = some (.int .i64 i.b) := hrow3.cell 2
    have p3 : w3.cell? ⟨g, 3, none⟩ = some (.int .i64 i.c) := hrow3.cell 3
    go_wp2_with fail
    go_ret
    refine ⟨?_, HB3.out⟩
    simp [Pl.showL, Pl.flds, hf, Pl.rgB, Hn.out, Hc.out, HA.out, HB.out, ByteArray.mk_append_mk]
  · rw [hf]
    go_wp2_with fail
    refine (HIa.out w2 (HE.out.kept (Below.block HB2.out))).mono ?_
    rintro e w3 ⟨rfl, hb⟩
    have hrow3 := rowAt.below hrow hb hrow.lt
    have HB3 := Lib.hid (HB2.out.trans (hb.mono HB2.out.size))
    clear hb q1 q2 q3
    have hl0 := hrow3.lt
    have p1 : w3.cell? ⟨g, 1, none⟩ = some (.int .i64 i.a) := hrow3.cell 1
    have p2 : w3.cell? ⟨g, 2, none⟩ = some (.int .i64 i.b) := hrow3.cell 2
    have p3 : w3.cell? ⟨g, 3, none⟩ = some (.int .i64 i.c) := hrow3.cell 3
    go_wp2_with fail
    refine (HIc.out w3 (HE.out.kept (Below.block HB3.out))).mono ?_
    rintro e w4 ⟨rfl, hb⟩
    have hrow4 := rowAt.below hrow3 hb hrow3.lt
    have HB4 := Lib.hid (HB3.out.trans (hb.mono HB3.out.size))
    clear hb p1 p2 p3
    have hl1 := hrow4.lt
    have p1 : w4.cell? ⟨g, 1, none⟩ = some (.int .i64 i.a) := hrow4.cell 1
    have p2 : w4.cell? ⟨g, 2, none⟩ = some (.int .i64 i.b) := hrow4.cell 2
    have p3 : w4.cell? ⟨g, 3, none⟩ = some (.int .i64 i.c) := hrow4.cell 3
    go_wp2_with fail
    go_ret
    refine ⟨?_, HB4.out⟩
    simp [Pl.showL, Pl.flds, hf, Pl.rgB, Hn.out, Ha.out, Hc.out, HA.out, HB.out, ByteArray.mk_append_mk]
  · rw [hf]
    go_wp2_with fail
    refine (HIa.out w2 (HE.out.kept (Below.block HB2.out))).mono ?_
    rintro e w3 ⟨rfl, hb⟩
    have hrow3 := rowAt.below hrow hb hrow.lt
    have HB3 := Lib.hid (HB2.out.trans (hb.mono HB2.out.size))
    clear hb q1 q2 q3
    have hl0 := hrow3.lt
    have p1 : w3.cell? ⟨g, 1, none⟩ = some (.int .i64 i.a) := hrow3.cell 1
    have p2 : w3.cell? ⟨g, 2, none⟩ = some (.int .i64 i.b) := hrow3.cell 2
    have p3 : w3.cell? ⟨g, 3, none⟩ = some (.int .i64 i.c) := hrow3.cell 3
    go_wp2_with fail
    refine (HIb.out w3 (HE.out.kept (Below.block HB3.out))).mono ?_
    rintro e w4 ⟨rfl, hb⟩
    have hrow4 := rowAt.below hrow3 hb hrow3.lt
    have HB4 := Lib.hid (HB3.out.trans (hb.mono HB3.out.size))
    clear hb p1 p2 p3
    have hl1 := hrow4.lt
    have p1 : w4.cell? ⟨g, 1, none⟩ = some (.int .i64 i.a) := hrow4.cell 1
    have p2 : w4.cell? ⟨g, 2, none⟩ = some (.int .i64 i.b) := hrow4.cell 2
    have p3 : w4.cell? ⟨g, 3, none⟩ = some (.int .i64 i.c) := hrow4.cell 3
    go_wp2_with fail
    refine (HIc.out w4 (HE.out.kept (Below.block HB4.out))).mono ?_
    rintro e w5 ⟨rfl, hb⟩
    have hrow5 := rowAt.below hrow4 hb hrow4.lt
    have HB5 := Lib.hid (HB4.out.trans (hb.mono HB4.out.size))
    clear hb p1 p2 p3
    have hl2 := hrow5.lt
    have p1 : w5.cell? ⟨g, 1, none⟩ = some (.int .i64 i.a) := hrow5.cell 1
    have p2 : w5.cell? ⟨g, 2, none⟩ = some (.int .i64 i.b) := hrow5.cell 2
    have p3 : w5.cell? ⟨g, 3, none⟩ = some (.int .i64 i.c) := hrow5.cell 3
    go_wp2_with fail
    go_ret
    refine ⟨?_, HB5.out⟩
    simp [Pl.showL, Pl.flds, hf, Pl.rgB, Hn.out, Ha.out, Hb.out, Hc.out, HA.out, HB.out, ByteArray.mk_append_mk]
end Go.Proofs.YtghjjemnegncpaaGreatDoor
