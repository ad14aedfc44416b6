/- Small laws: what lies in a block behind stores, and results that lie in memory. -/
import Derived.Test.YtghjjemnegncpaaGreatDoorPlain
import Derived.WalkKit
import Derived.WalkSpells
import Derived.WalkLawsBesides
import Derived.Lib.Hide
import Derived.Lib.EndianBits
namespace Go.Proofs.YtghjjemnegncpaaGreatDoor
open Go.RowKit

/-- The walk's rules behind a contract that ends in 'Below'. -/
theorem bcell {W w1 : World} (hb : Below W.heap.size W w1) : (∀ b o, b < W.heap.size → w1.cell? ⟨b, o, none⟩ = W.cell? ⟨b, o, none⟩) ∧ (∀ b o, b < W.heap.size → w1.frozen? ⟨b, o, none⟩ = W.frozen? ⟨b, o, none⟩) :=
  ⟨fun b o h => hb.cell (p := ⟨b, o, none⟩) h, fun b o h => hb.frozen (p := ⟨b, o, none⟩) h⟩

/-- A string that has these bytes. -/
abbrev str (l : List UInt8) : Value := .string ⟨l.toArray⟩

/-- An instruction as a value. -/
abbrev insV (i : Pl.Ins) : Value := .agg #[.int .i64 i.op, .int .i64 i.a, .int .i64 i.b, .int .i64 i.c]

/-- Block g is a row of these cells. -/
def rowAt (w : World) (g : Nat) (cs : Array Value) (t : TypeId) : Prop := w.heap[g]? = some (.cells cs t (0, 0))

theorem rowAt.lt {w : World} {g : Nat} {cs : Array Value} {t : TypeId} (h : rowAt w g cs t) : g < w.heap.size := (Array.getElem?_eq_some_iff.1 h).1
theorem rowAt.cell {w : World} {g : Nat} {cs : Array Value} {t : TypeId} (h : rowAt w g cs t) (j : Nat) : w.cell? ⟨g, j, none⟩ = cs[j]? := cell_of_row w g j cs t (0, 0) h
theorem rowAt.frozen {w : World} {g : Nat} {cs : Array Value} {t : TypeId} (h : rowAt w g cs t) (j : Nat) : w.frozen? ⟨g, j, none⟩ = false := frozen_of_row w g j cs t h
theorem rowAt.set {w : World} {g : Nat} {cs : Array Value} {t : TypeId} (h : rowAt w g cs t) (j : Nat) (v : Value) : rowAt (w.setCell ⟨g, j, none⟩ v) g (cs.setIfInBounds j v) t := heap_setCell_same w g j cs t v h
theorem rowAt.other {w : World} {g : Nat} {cs : Array Value} {t : TypeId} (h : rowAt w g cs t) {a : Addr} (ha : g ≠ a.block) (v : Value) : rowAt (w.setCell a v) g cs t := (heap_setCell_other w a g v ha).trans h
theorem rowAt.alloc {w : World} {g : Nat} {cs : Array Value} {t : TypeId} (h : rowAt w g cs t) (o : Obj) : rowAt (w.alloc o) g cs t := (Below.heap_alloc w o g h.lt).trans h
theorem rowAt.new (w : World) (cs : Array Value) (t : TypeId) {g : Nat} (hg : g = w.heap.size) : rowAt (w.alloc (.cells cs t)) g cs t := by
  subst hg
  show (w.heap.push _)[w.heap.size]? = _
  simp
theorem rowAt.drew {w : World} {g : Nat} {cs : Array Value} {t : TypeId} (h : rowAt w g cs t) : rowAt w.drew g cs t := h
theorem rowAt.below {w w' : World} {B g : Nat} {cs : Array Value} {t : TypeId} (h : rowAt w g cs t) (hb : Below B w w') (hg : g < B) : rowAt w' g cs t := (hb.block g hg).trans h
theorem rowAt.grown {w w' : World} {row : Option Nat} {g : Nat} {cs : Array Value} {t : TypeId} (h : rowAt w g cs t) (hg : w.grownBy w' row) (hne : some g ≠ row) : rowAt w' g cs t := (hg.block g h.lt hne).trans h

theorem rowAt.set4 {w : World} {g : Nat} {x0 x1 x2 x3 : Value} {t : TypeId} (h : rowAt w g #[x0, x1, x2, x3] t) (a b c d : Value) :
    rowAt ((((w.setCell ⟨g, 0, none⟩ a).setCell ⟨g, 1, none⟩ b).setCell ⟨g, 2, none⟩ c).setCell ⟨g, 3, none⟩ d) g #[a, b, c, d] t :=
  (((h.set 0 a).set 1 b).set 2 c).set 3 d
theorem rowAt.set2 {w : World} {g : Nat} {x0 x1 : Value} {t : TypeId} (h : rowAt w g #[x0, x1] t) (a b : Value) :
    rowAt ((w.setCell ⟨g, 0, none⟩ a).setCell ⟨g, 1, none⟩ b) g #[a, b] t := (h.set 0 a).set 1 b

section
variable {P : Program}
/-- A result in memory, and one in a slot. -/
theorem res_cell_tmp {fn : Func} {p u : Tmp} {ty : TypeId} (h : fn.results = #[.cell p ty, .tmp u]) (tmps : Array Value) (w : World) (g : Nat) (t : TypeId) (cs : Array Value) (d : TypeDesc)
    (hp : tmps.getD p undef = .pointer (some ⟨g, 0, none⟩)) (hg : rowAt w g cs t)
    (hu : P.underlying ty = some d) (hd : (match d with | .struct _ | .array _ _ => true | _ => false) = true) (hi : (P.info? ty).map (·.size) = some cs.size) :
    (results fn tmps).run P w = .ok (.tuple #[.agg cs, tmps.getD u undef]) w := by
  rw [results_cell_tmp h, hp]
  simp [asAddr, Result.andThen, run_loadVar_row w g t ty cs _ d hg hu hd hi]
theorem res_tmp_cell {fn : Func} {p u : Tmp} {ty : TypeId} (h : fn.results = #[.tmp u, .cell p ty]) (tmps : Array Value) (w : World) (g : Nat) (t : TypeId) (cs : Array Value) (d : TypeDesc)
    (hp : tmps.getD p undef = .pointer (some ⟨g, 0, none⟩)) (hg : rowAt w g cs t)
    (hu : P.underlying ty = some d) (hd : (match d with | .struct _ | .array _ _ => true | _ => false) = true) (hi : (P.info? ty).map (·.size) = some cs.size) :
    (results fn tmps).run P w = .ok (.tuple #[tmps.getD u undef, .agg cs]) w := by
  have hp' : tmps[p]?.getD undef = .pointer (some ⟨g, 0, none⟩) := by simpa using hp
  simp [results, h, hp', asAddr, run_loadVar_row w g t ty cs _ d hg hu hd hi]
theorem res_cell_cell {fn : Func} {p u : Tmp} {ty tu : TypeId} (h : fn.results = #[.cell p ty, .cell u tu]) (tmps : Array Value) (w : World) (g g2 : Nat) (t t2 : TypeId) (cs cs2 : Array Value) (d d2 : TypeDesc)
    (hp : tmps.getD p undef = .pointer (some ⟨g, 0, none⟩)) (hg : rowAt w g cs t)
    (hu : P.underlying ty = some d) (hd : (match d with | .struct _ | .array _ _ => true | _ => false) = true) (hi : (P.info? ty).map (·.size) = some cs.size)
    (hp2 : tmps.getD u undef = .pointer (some ⟨g2, 0, none⟩)) (hg2 : rowAt w g2 cs2 t2)
    (hu2 : P.underlying tu = some d2) (hd2 : (match d2 with | .struct _ | .array _ _ => true | _ => false) = true) (hi2 : (P.info? tu).map (·.size) = some cs2.size) :
    (results fn tmps).run P w = .ok (.tuple #[.agg cs, .agg cs2]) w := by
  have hp' : tmps[p]?.getD undef = .pointer (some ⟨g, 0, none⟩) := by simpa using hp
  have hp2' : tmps[u]?.getD undef = .pointer (some ⟨g2, 0, none⟩) := by simpa using hp2
  simp [results, h, hp', hp2', asAddr, run_loadVar_row w g t ty cs _ d hg hu hd hi, run_loadVar_row w g2 t2 tu cs2 _ d2 hg2 hu2 hd2 hi2]
theorem res_cell_tmp2 {fn : Func} {p u v : Tmp} {ty : TypeId} (h : fn.results = #[.cell p ty, .tmp u, .tmp v]) (tmps : Array Value) (w : World) (g : Nat) (t : TypeId) (cs : Array Value) (d : TypeDesc)
    (hp : tmps.getD p undef = .pointer (some ⟨g, 0, none⟩)) (hg : rowAt w g cs t)
    (hu : P.underlying ty = some d) (hd : (match d with | .struct _ | .array _ _ => true | _ => false) = true) (hi : (P.info? ty).map (·.size) = some cs.size) :
    (results fn tmps).run P w = .ok (.tuple #[.agg cs, tmps.getD u undef, tmps.getD v undef]) w := by
  have hp' : tmps[p]?.getD undef = .pointer (some ⟨g, 0, none⟩) := by simpa using hp
  simp [results, h, hp', asAddr, run_loadVar_row w g t ty cs _ d hg hu hd hi]
end

/-- The registers of a processor in ring 1, as they lie in memory. -/
def regs (R : List Int) (pc : Int) : Array Value := (R.map (Value.int .u32) ++ [Value.int .u32 pc, Value.int .i64 1]).toArray
theorem regs_size {R : List Int} {pc : Int} (h : R.length = 8) : (regs R pc).size = 10 := by simp [regs, h]
theorem regs_at {R : List Int} {pc : Int} (h : R.length = 8) {k : Int} (h1 : 0 ≤ k) (h2 : k < 8) : (regs R pc)[k.toNat]? = some (.int .u32 (Pl.rg R k)) := by
  have hk : k.toNat < R.length := by omega
  simp [regs, List.getElem?_append, hk, Pl.rg]
theorem regs_pc {R : List Int} {pc : Int} (h : R.length = 8) : (regs R pc)[8]? = some (.int .u32 pc) := by
  simp [regs, h]
theorem regs_ring {R : List Int} {pc : Int} (h : R.length = 8) : (regs R pc)[9]? = some (.int .i64 1) := by
  simp [regs, h]
theorem regs_set {R : List Int} {pc : Int} (h : R.length = 8) {k : Int} (h1 : 0 ≤ k) (h2 : k < 8) (v : Int) : (regs R pc).setIfInBounds k.toNat (.int .u32 v) = regs (Pl.sr R k v) pc := by
  have hk : k.toNat < R.length := by omega
  simp [regs, Pl.sr, hk, List.map_set]
theorem regs_setpc {R : List Int} {pc : Int} (h : R.length = 8) (v : Int) : (regs R pc).setIfInBounds 8 (.int .u32 v) = regs R v := by
  simp [regs, h]
theorem regs_one (R : List Int) (pc : Int) : (regs R pc).all (·.oneCell') = true := by
  simp [regs, Value.oneCell']


end Go.Proofs.YtghjjemnegncpaaGreatDoor
