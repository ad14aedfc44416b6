/- wSame whole; wPut. -/
import Derived.Test.YtghjjemnegncpaaGreatDoorPutC
import Derived.Deep.RegionWith
import Derived.BigRegion
set_option linter.unusedSimpArgs false
set_option linter.unusedVariables false
set_option linter.unusedSectionVars false
set_option linter.unnecessarySimpa false
namespace Go.Proofs.YtghjjemnegncpaaGreatDoor
open Go.RowKit

theorem Given.kept {w w' : World} {lv dv : Value} {ws : List Pl.Ins} {R D : List Int} (G : Given w lv dv ws R D) (hb : Below w.heap.size w w') : Given w' lv dv ws R D :=
  ⟨G.env.below hb, G.list.kept (Below.block hb), G.len, G.ops, G.regs, G.data.kept (Below.block hb), G.dlen, G.bytes⟩

theorem same_ok {w : World} {lv dv : Value} {ws : List Pl.Ins} {R D : List Int} {k : FuncId} {caps : Array Value} (G : Given w lv dv ws R D) (hch : ChangeOk w ws k caps)
    (hent : ∀ (args : Array Value) (W : World), (callFunc k args).run Tryz.prog W = .ok (.enter k args) W) :
    Calls Tryz.prog 13 #[lv, .agg (arr R), dv, .func (.func k) #[] caps] w fun e w' => e = .returned (.bool true) ∧ Below w.heap.size w w' := by
  by_cases hv : ∀ i ∈ ws, Pl.valid i
  · by_cases h60 : 60 < ws.length
    · exact same_big G hv h60
    · by_cases hd : 4096 < D.length
      · exact same_big2 G hv h60 hd
      · by_cases hf : ∀ i ∈ ws, Pl.flat i
        · exact same_main G hv (by omega) (by omega) hf hch hent
        · exact same_odd G hv (by omega) (by omega) hf
  · exact same_bad G hv

theorem ent_put (args : Array Value) (W : World) : (callFunc 44 args).run Tryz.prog W = .ok (.enter 44 args) W := enters Tryz.func44 (by kernel_rfl) rfl args W

/-- wSame, of a change that wPut makes. -/
theorem put_same_ok {w : World} {lv dv : Value} {ws : List Pl.Ins} {R D : List Int} {gb gw : Nat} {which : Int} {kb : FuncId} {bcaps : Array Value} {byF : Pl.Ins → Option (List Pl.Ins)} (G : Given w lv dv ws R D)
    (hby : w.cell? ⟨gb, 0, none⟩ = some (.func (.func kb) #[] bcaps)) (hwh : w.cell? ⟨gw, 0, none⟩ = some (.int .i64 which)) (hi64 : i64 which)
    (hent : ∀ (args : Array Value) (W : World), (callFunc kb args).run Tryz.prog W = .ok (.enter kb args) W) (HBy : ByOk w kb bcaps byF)
    (hlaw : ∀ i m, Pl.valid i → byF i = some m → Pl.OkPut i m ∧ m ≠ []) :
    Calls Tryz.prog 13 #[lv, .agg (arr R), dv, .func (.func 44) #[] #[.pointer (some ⟨gb, 0, none⟩), .pointer (some ⟨gw, 0, none⟩)]] w fun e w' => e = .returned (.bool true) ∧ Below w.heap.size w w' :=
  same_ok G (put_change hby hwh hi64 hent HBy hlaw) ent_put

set_option maxHeartbeats 800000 in
set_option maxRecDepth 100000 in
theorem wPut_ok (which : Int) (kb : FuncId) (bcaps : Array Value) (w : World) : Calls Tryz.prog 18 #[.int .i64 which, .func (.func kb) #[] bcaps] w fun e w' =>
    ∃ gb gw, e = .returned (.func (.func 44) #[] #[.pointer (some ⟨gb, 0, none⟩), .pointer (some ⟨gw, 0, none⟩)]) ∧ w'.cell? ⟨gb, 0, none⟩ = some (.func (.func kb) #[] bcaps) ∧ w'.cell? ⟨gw, 0, none⟩ = some (.int .i64 which) ∧ Below w.heap.size w w' := by
  have hmf : ∀ (fn : Fn) (first cap : Array Value) (w : World), (Instr.makeFunc fn first cap).run Tryz.prog w = .ok (.func fn first cap) w := fun _ _ _ _ => rfl
  go_enter Tryz.func18, Tryz.ntmps18
  go_wp2
  go_ret
  refine ⟨_, _, rfl, ?_, ?_, by (repeat (first | (with_reducible exact Below.refl _ _) | (with_reducible apply Below.drew) | (with_reducible apply bl_drewN) | ((with_reducible apply bl_alloc); (· (first | (simp; done) | (simp; omega) | omega))) | ((with_reducible apply bl_row); (· (first | (simp; done) | (simp; omega) | omega))) | ((with_reducible apply bl_cell); (· (first | (simp; done) | (simp; omega) | omega))) | assumption))⟩
  · simp
  · simp

/-- Behind wPut: what lay in the two blocks ahead of it. -/
theorem after_put {w w1 : World} {x v0 v1 v2 v3 v4 v5 v6 v7 : Value} {t tb : TypeId} {n : Nat} (h : Below (((w.alloc (.cells #[v0, v1, v2, v3, v4, v5, v6, v7] t)).alloc (.cells #[x] tb)).drewN n).heap.size (((w.alloc (.cells #[v0, v1, v2, v3, v4, v5, v6, v7] t)).alloc (.cells #[x] tb)).drewN n) w1) :
    Below w.heap.size w w1 ∧ w.heap.size + 1 < w1.heap.size ∧ w1.cell? ⟨w.heap.size + 1, 0, none⟩ = some x ∧ w1.cell? ⟨w.heap.size, 0, none⟩ = some v0 ∧ w1.cell? ⟨w.heap.size, 1, none⟩ = some v1 ∧ w1.cell? ⟨w.heap.size, 2, none⟩ = some v2 ∧ w1.cell? ⟨w.heap.size, 3, none⟩ = some v3 ∧
    w1.cell? ⟨w.heap.size, 4, none⟩ = some v4 ∧ w1.cell? ⟨w.heap.size, 5, none⟩ = some v5 ∧ w1.cell? ⟨w.heap.size, 6, none⟩ = some v6 ∧ w1.cell? ⟨w.heap.size, 7, none⟩ = some v7 := by
  have hb : Below (w.heap.size + 1 + 1) ((w.alloc (.cells #[v0, v1, v2, v3, v4, v5, v6, v7] t)).alloc (.cells #[x] tb)) w1 := ⟨h.os, h.tape, h.output, by have := h.size; simpa using this, fun k hk => h.block k (by simpa using hk)⟩
  have r0 : rowAt w1 w.heap.size #[v0, v1, v2, v3, v4, v5, v6, v7] t := rowAt.below (by (repeat (first | ((with_reducible apply rowAt.new); simp; done) | (with_reducible apply rowAt.drew) | (with_reducible apply rowAt.drewN) | (with_reducible apply rowAt.alloc) | (with_reducible apply rowAt.setRow_same) | ((with_reducible apply rowAt.so); (· (first | (simp; done) | (simp; omega) | omega))) | (with_reducible apply rowAt.set10) | (with_reducible apply rowAt.set8) | (with_reducible apply rowAt.set4) | (with_reducible apply rowAt.set2) | (with_reducible apply rowAt.set) | ((with_reducible apply rowAt.co); (· (first | (simp; done) | (simp; omega) | omega))) | assumption))) hb (by omega)
  have r1 : rowAt w1 (w.heap.size + 1) #[x] tb := rowAt.below (by (repeat (first | ((with_reducible apply rowAt.new); simp; done) | (with_reducible apply rowAt.drew) | (with_reducible apply rowAt.drewN) | (with_reducible apply rowAt.alloc) | (with_reducible apply rowAt.setRow_same) | ((with_reducible apply rowAt.so); (· (first | (simp; done) | (simp; omega) | omega))) | (with_reducible apply rowAt.set10) | (with_reducible apply rowAt.set8) | (with_reducible apply rowAt.set4) | (with_reducible apply rowAt.set2) | (with_reducible apply rowAt.set) | ((with_reducible apply rowAt.co); (· (first | (simp; done) | (simp; omega) | omega))) | assumption))) hb (by omega)
  exact ⟨(show Below w.heap.size w _ from by (repeat (first | (with_reducible exact Below.refl _ _) | (with_reducible apply Below.drew) | (with_reducible apply bl_drewN) | ((with_reducible apply bl_alloc); (· (first | (simp; done) | (simp; omega) | omega))) | ((with_reducible apply bl_row); (· (first | (simp; done) | (simp; omega) | omega))) | ((with_reducible apply bl_cell); (· (first | (simp; done) | (simp; omega) | omega))) | assumption))).trans (hb.mono (by omega)), r1.lt, r1.cell 0, r0.cell 0, r0.cell 1, r0.cell 2, r0.cell 3, r0.cell 4, r0.cell 5, r0.cell 6, r0.cell 7⟩

/-- New blocks that hold instructions. -/
theorem il_new1 {w : World} {g : Nat} {t : TypeId} {i : Pl.Ins} (h : rowAt w g #[.int .i64 i.op, .int .i64 i.a, .int .i64 i.b, .int .i64 i.c] t) : Il w (.slice (some ⟨g, 0, none⟩) 1 1) [i] := by
  refine ⟨_, _, rfl, fun h => (by cases h), fun k j hk => ⟨g, 0, rfl, ?_⟩⟩
  match k, hk with
  | 0, hk => simp at hk; subst hk; exact ⟨h.cell 0, h.cell 1, h.cell 2, h.cell 3⟩
  | k + 1, hk => simp at hk
theorem il_new2 {w : World} {g : Nat} {t : TypeId} {i j : Pl.Ins} (h : rowAt w g #[.int .i64 i.op, .int .i64 i.a, .int .i64 i.b, .int .i64 i.c, .int .i64 j.op, .int .i64 j.a, .int .i64 j.b, .int .i64 j.c] t) : Il w (.slice (some ⟨g, 0, none⟩) 2 2) [i, j] := by
  refine ⟨_, _, rfl, fun h => (by cases h), fun k x hk => ⟨g, 0, rfl, ?_⟩⟩
  match k, hk with
  | 0, hk => simp at hk; subst hk; exact ⟨h.cell 0, h.cell 1, h.cell 2, h.cell 3⟩
  | 1, hk => simp at hk; subst hk; exact ⟨h.cell 4, h.cell 5, h.cell 6, h.cell 7⟩
  | k + 2, hk => simp at hk
theorem il_new3 {w : World} {g : Nat} {t : TypeId} {i j l : Pl.Ins} (h : rowAt w g #[.int .i64 i.op, .int .i64 i.a, .int .i64 i.b, .int .i64 i.c, .int .i64 j.op, .int .i64 j.a, .int .i64 j.b, .int .i64 j.c, .int .i64 l.op, .int .i64 l.a, .int .i64 l.b, .int .i64 l.c] t) : Il w (.slice (some ⟨g, 0, none⟩) 3 3) [i, j, l] := by
  refine ⟨_, _, rfl, fun h => (by cases h), fun k x hk => ⟨g, 0, rfl, ?_⟩⟩
  match k, hk with
  | 0, hk => simp at hk; subst hk; exact ⟨h.cell 0, h.cell 1, h.cell 2, h.cell 3⟩
  | 1, hk => simp at hk; subst hk; exact ⟨h.cell 4, h.cell 5, h.cell 6, h.cell 7⟩
  | 2, hk => simp at hk; subst hk; exact ⟨h.cell 8, h.cell 9, h.cell 10, h.cell 11⟩
  | k + 3, hk => simp at hk

/-- What a function says, by cases. -/
theorem says_none {byF : Pl.Ins → Option (List Pl.Ins)} {i : Pl.Ins} {w' : World} (h : byF i = none) : BySays byF i (.returned (.slice none 0 0)) w' := ⟨fun _ => rfl, fun m hm => by rw [h] at hm; cases hm⟩
theorem says_some {byF : Pl.Ins → Option (List Pl.Ins)} {i : Pl.Ins} {w' : World} {ad : Addr} {n c : Nat} {m : List Pl.Ins} (h : byF i = some m) (hn : n = m.length) (hil : Il w' (.slice (some ad) n c) m) : BySays byF i (.returned (.slice (some ad) n c)) w' :=
  ⟨fun hx => (by rw [h] at hx; cases hx), fun m' hm => (by rw [h] at hm; cases hm; subst hn; exact ⟨ad, c, rfl, hil⟩)⟩
end Go.Proofs.YtghjjemnegncpaaGreatDoor
