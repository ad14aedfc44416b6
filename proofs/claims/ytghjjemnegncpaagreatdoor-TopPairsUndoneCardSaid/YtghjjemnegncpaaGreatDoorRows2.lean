/- Whole structs out of memory and into it; what a store of one leaves. -/
import Derived.Test.YtghjjemnegncpaaGreatDoorHelp
import Derived.Deep.QuietTactic
import Derived.BigQuiet
import Derived.BigRegion
import Derived.KernelRfl
namespace Go.Proofs.YtghjjemnegncpaaGreatDoor
open Go.RowKit

theorem regs_sz (R : List Int) (pc : Int) : (regs R pc).size = R.length + 2 := by simp [regs]
theorem sr_len (R : List Int) (k v : Int) : (Pl.sr R k v).length = R.length := by simp [Pl.sr]

theorem rowAt.setRow_same {w : World} {g : Nat} {old : Array Value} {t : TypeId} (h : rowAt w g old t) (cs : Array Value) : rowAt (w.setRow g cs) g cs t := setRow_heap w g old cs t (0, 0) h
theorem rowAt.setRow_other {w : World} {g g2 : Nat} {old : Array Value} {t : TypeId} (h : rowAt w g old t) (hne : g ≠ g2) (cs : Array Value) : rowAt (w.setRow g2 cs) g old t := (Go.setRow_other w g2 g cs hne).trans h
theorem rowAt.so {w : World} {g g2 : Nat} {old : Array Value} {t : TypeId} (cs : Array Value) (hne : g ≠ g2) (h : rowAt w g old t) : rowAt (w.setRow g2 cs) g old t := h.setRow_other hne cs
theorem rowAt.co {w : World} {g : Nat} {cs : Array Value} {t : TypeId} {a : Addr} (v : Value) (ha : g ≠ a.block) (h : rowAt w g cs t) : rowAt (w.setCell a v) g cs t := h.other ha v
theorem below_setRow {B : Nat} {a w : World} (h : Below B a w) {g : Nat} (hg : B ≤ g) (cs : Array Value) : Below B a (w.setRow g cs) :=
  h.trans ⟨rfl, rfl, rfl, by simp, fun k hk => setRow_other w g k cs (by omega)⟩

theorem bl_row {B : Nat} {a w : World} {g : Nat} {cs : Array Value} (hg : B ≤ g) (h : Below B a w) : Below B a (w.setRow g cs) := below_setRow h hg cs
theorem bl_alloc {B : Nat} {a w : World} {o : Obj} (hg : B ≤ w.heap.size) (h : Below B a w) : Below B a (w.alloc o) := h.alloc hg o
theorem bl_cell {B : Nat} {a w : World} {p : Addr} {v : Value} (hg : B ≤ p.block) (h : Below B a w) : Below B a (w.setCell p v) := h.setCell hg v
theorem bl_trans {B B' : Nat} {a w w' : World} (hb : Below B' w w') (hB : B ≤ B') (h : Below B a w) : Below B a w' := h.trans (hb.mono hB)

theorem gb_refl (w : World) (r : Option Nat) : w.grownBy w r := ⟨rfl, rfl, rfl, Nat.le_refl _, fun _ _ _ => rfl⟩
theorem gb_trans {w w1 w2 : World} {r : Option Nat} (h2 : w1.grownBy w2 r) (h1 : w.grownBy w1 r) : w.grownBy w2 r :=
  ⟨h2.os.trans h1.os, h2.tape.trans h1.tape, h2.output.trans h1.output, Nat.le_trans h1.size h2.size, fun k hk hr => (h2.block k (Nat.lt_of_lt_of_le hk h1.size) hr).trans (h1.block k hk hr)⟩
theorem gb_drew {w w1 : World} {r : Option Nat} (h : w.grownBy w1 r) : w.grownBy w1.drew r := gb_trans (w1 := w1) ⟨rfl, rfl, rfl, Nat.le_refl _, fun _ _ _ => rfl⟩ h
theorem gb_alloc {w w1 : World} {r : Option Nat} {o : Obj} (h : w.grownBy w1 r) : w.grownBy (w1.alloc o) r := gb_trans (World.grownBy_alloc w1 o r) h
theorem gb_cell {w w1 : World} {r : Option Nat} {p : Addr} {v : Value} (hp : some p.block = r ∨ w.heap.size ≤ p.block) (h : w.grownBy w1 r) : w.grownBy (w1.setCell p v) r :=
  ⟨h.os, h.tape, h.output, by simpa [World.setCell] using h.size, fun k hk hr => (Below.heap_setCell w1 p v k (by
    rintro rfl
    rcases hp with hp | hp
    · exact hr hp
    · omega)).trans (h.block k hk hr)⟩
theorem gb_row {w w1 : World} {r : Option Nat} {g : Nat} {cs : Array Value} (hp : some g = r ∨ w.heap.size ≤ g) (h : w.grownBy w1 r) : w.grownBy (w1.setRow g cs) r :=
  ⟨h.os, h.tape, h.output, by simpa using h.size, fun k hk hr => (Go.setRow_other w1 g k cs (by
    rintro rfl
    rcases hp with hp | hp
    · exact hr hp
    · omega)).trans (h.block k hk hr)⟩
theorem gb_below {w w1 w2 : World} {r : Option Nat} {B : Nat} (hb : Below B w1 w2) (hB : w.heap.size ≤ B) (h : w.grownBy w1 r) : w.grownBy w2 r :=
  ⟨hb.os.trans h.os, hb.tape.trans h.tape, hb.output.trans h.output, Nat.le_trans h.size hb.size, fun k hk hr => (hb.block k (by omega)).trans (h.block k hk hr)⟩
/-- What new blocks alone may have turned may be written for nothing. -/
theorem gb_new {w w1 : World} {r : Option Nat} (h : Below w.heap.size w w1) : w.grownBy w1 r := gb_below h (Nat.le_refl _) (gb_refl w r)

theorem rowAt.drewN {w : World} {g : Nat} {cs : Array Value} {t : TypeId} {n : Nat} (h : rowAt w g cs t) : rowAt (w.drewN n) g cs t := h
theorem gb_drewN {w w1 : World} {r : Option Nat} {n : Nat} (h : w.grownBy w1 r) : w.grownBy (w1.drewN n) r := gb_trans (w1 := w1) ⟨rfl, rfl, rfl, Nat.le_refl _, fun _ _ _ => rfl⟩ h
theorem bl_drewN {B : Nat} {w w1 : World} {n : Nat} (h : Below B w w1) : Below B w (w1.drewN n) := ⟨h.os, h.tape, h.output, h.size, h.block⟩

section
variable {P : Program} {ops : Array Oper} {rest : List Oper} {o : Oper} {a : Act} {w : World} {Q : Exit → Act → World → Prop}
/-- A whole struct out of memory, and into it. -/
theorem load_row (hgd : o.guard = none) (ty : TypeId) (x : Operand) (ho : o.op = .load ty x) (g : Nat) (hx : a.eval x = .pointer (some ⟨g, 0, none⟩)) {t : TypeId} {cs : Array Value} {d : TypeDesc} (hg : rowAt w g cs t)
    (hu : P.underlying ty = some d) (hd : (match d with | .struct _ | .array _ _ => true | _ => false) = true) (hi : (P.info? ty).map (·.size) = some cs.size)
    (h : wpList P ops Q rest (a.put o.dst (.agg cs)) w) : wpList P ops Q (o :: rest) a w :=
  wpList_load_row hgd ty x ho g hx t cs (0, 0) d hg hu hd hi h
theorem store_row (hgd : o.guard = none) (ty : TypeId) (x y : Operand) (ho : o.op = .store ty x y) (g : Nat) (cells : Array Value) (hx : a.eval x = .pointer (some ⟨g, 0, none⟩)) (hy : a.eval y = .agg cells)
    {t : TypeId} {old : Array Value} (hg : rowAt w g old t) (hi : (P.info? ty).map (·.size) = some cells.size) (hold : old.size = cells.size) (h1 : cells.all (·.oneCell') = true)
    (h : wpList P ops Q rest (a.put o.dst undef) (w.setRow g cells)) : wpList P ops Q (o :: rest) a w :=
  wpList_store_row hgd ty x y ho g cells hx hy t old hg hi hold h1 h
end

section
variable {P : Program} {fn : Func} {R : Ending → World → Prop} {x : Exit} {a : Act} {w : World}
/-- A function's end: two structs. -/
theorem post_cc {p u : Tmp} {ty tu : TypeId} {d d2 : TypeDesc} {n n2 : Nat} (h : fn.results = #[.cell p ty, .cell u tu]) (hu : P.underlying ty = some d) (hd : (match d with | .struct _ | .array _ _ => true | _ => false) = true)
    (hi : (P.info? ty).map (·.size) = some n) (hu2 : P.underlying tu = some d2) (hd2 : (match d2 with | .struct _ | .array _ _ => true | _ => false) = true) (hi2 : (P.info? tu).map (·.size) = some n2)
    {g g2 : Nat} {t t2 : TypeId} {cs cs2 : Array Value} (hp : a.tmps.getD p undef = .pointer (some ⟨g, 0, none⟩)) (hp2 : a.tmps.getD u undef = .pointer (some ⟨g2, 0, none⟩))
    (hg : rowAt w g cs t) (hn : cs.size = n) (hg2 : rowAt w g2 cs2 t2) (hn2 : cs2.size = n2) (hdf : a.defers = []) (hR : R (.returned (.tuple #[.agg cs, .agg cs2])) w) : bodyPost P fn R .ret a w :=
  bodyPost_ret (res_cell_cell h a.tmps w g g2 t t2 cs cs2 d d2 hp hg hu hd (by rw [hi, hn]) hp2 hg2 hu2 hd2 (by rw [hi2, hn2])) hdf hR
/-- A struct, and what lies in a slot. -/
theorem post_ct {p u : Tmp} {ty : TypeId} {d : TypeDesc} {n : Nat} (h : fn.results = #[.cell p ty, .tmp u]) (hu : P.underlying ty = some d) (hd : (match d with | .struct _ | .array _ _ => true | _ => false) = true)
    (hi : (P.info? ty).map (·.size) = some n)
    {g : Nat} {t : TypeId} {cs : Array Value} {v : Value} (hp : a.tmps.getD p undef = .pointer (some ⟨g, 0, none⟩)) (hv : a.tmps.getD u undef = v)
    (hg : rowAt w g cs t) (hn : cs.size = n) (hdf : a.defers = []) (hR : R (.returned (.tuple #[.agg cs, v])) w) : bodyPost P fn R .ret a w :=
  bodyPost_ret (res_cell_tmp h a.tmps w g t cs d hp hg hu hd (by rw [hi, hn])) hdf (by rw [hv]; exact hR)
theorem post_tc {p u : Tmp} {ty : TypeId} {d : TypeDesc} {n : Nat} (h : fn.results = #[.tmp u, .cell p ty]) (hu : P.underlying ty = some d) (hd : (match d with | .struct _ | .array _ _ => true | _ => false) = true)
    (hi : (P.info? ty).map (·.size) = some n)
    {g : Nat} {t : TypeId} {cs : Array Value} {v : Value} (hp : a.tmps.getD p undef = .pointer (some ⟨g, 0, none⟩)) (hv : a.tmps.getD u undef = v)
    (hg : rowAt w g cs t) (hn : cs.size = n) (hdf : a.defers = []) (hR : R (.returned (.tuple #[v, .agg cs])) w) : bodyPost P fn R .ret a w :=
  bodyPost_ret (res_tmp_cell h a.tmps w g t cs d hp hg hu hd (by rw [hi, hn])) hdf (by rw [hv]; exact hR)
theorem post_c {p : Tmp} {ty : TypeId} {d : TypeDesc} {n : Nat} (h : fn.results = #[.cell p ty]) (hu : P.underlying ty = some d) (hd : (match d with | .struct _ | .array _ _ => true | _ => false) = true)
    (hi : (P.info? ty).map (·.size) = some n)
    {g : Nat} {t : TypeId} {cs : Array Value} (hp : a.tmps.getD p undef = .pointer (some ⟨g, 0, none⟩))
    (hg : rowAt w g cs t) (hn : cs.size = n) (hdf : a.defers = []) (hR : R (.returned (.agg cs)) w) : bodyPost P fn R .ret a w :=
  bodyPost_ret (results_cell_row h a.tmps w g t cs (0, 0) d hp hg hu hd (by rw [hi, hn])) hdf hR
theorem post_ctt {p u v : Tmp} {ty : TypeId} {d : TypeDesc} {n : Nat} (h : fn.results = #[.cell p ty, .tmp u, .tmp v]) (hu : P.underlying ty = some d) (hd : (match d with | .struct _ | .array _ _ => true | _ => false) = true)
    (hi : (P.info? ty).map (·.size) = some n)
    {g : Nat} {t : TypeId} {cs : Array Value} {y z : Value} (hp : a.tmps.getD p undef = .pointer (some ⟨g, 0, none⟩)) (hy : a.tmps.getD u undef = y) (hz : a.tmps.getD v undef = z)
    (hg : rowAt w g cs t) (hn : cs.size = n) (hdf : a.defers = []) (hR : R (.returned (.tuple #[.agg cs, y, z])) w) : bodyPost P fn R .ret a w :=
  bodyPost_ret (res_cell_tmp2 h a.tmps w g t cs d hp hg hu hd (by rw [hi, hn])) hdf (by rw [hy, hz]; exact hR)
end

end Go.Proofs.YtghjjemnegncpaaGreatDoor
