/- What the rows of this seat share: what the listed variables give, the witness's world, arguments opened, what stays as it was. -/
import Derived.Test.YtghjjemnegncpaaGreatDoorCards
import Derived.Test.YtghjjemnegncpaaGreatDoorTie
import Derived.Test.YtghjjemnegncpaaGreatDoorAsm1
import Derived.ProofKit
import Derived.OpenShut
import Derived.Deep.DeepHandedRow
import Derived.Deep.Slices
import Derived.Lib.LaidTab
import Derived.LaidSub
import Derived.Lay
import Derived.HandedShaped
import Derived.Carry
import Derived.Lib.SmallJoins
set_option linter.unusedSimpArgs false
set_option linter.unusedVariables false
set_option maxRecDepth 100000
namespace Go.Proofs.YtghjjemnegncpaaGreatDoor
open Go.ChangeShapes Go.WideShapes Go.ChangeAt Go.RowKit

theorem own : ownKnob Tryz.prog.godebug = none := by kernel_rfl

/-! ### What the list and the shape give -/
theorem gSpace : Tryz.prog.globalNamed "strings.asciiSpace" = some 0 := by kernel_rfl
theorem gPow : Tryz.prog.globalNamed "internal/strconv.uint64pow10" = some 5 := by kernel_rfl
theorem tSpace : (Tryz.prog.globals[0]?).map (·.type) = some 154 := by kernel_rfl
theorem tPow : (Tryz.prog.globals[5]?).map (·.type) = some 183 := by kernel_rfl
theorem cSpace : Tryz.prog.cellsOf 154 = 256 := by kernel_rfl
theorem cPow : Tryz.prog.cellsOf 183 = 20 := by kernel_rfl
theorem cU8 : Tryz.prog.cellsOf 5 = 1 := by kernel_rfl
theorem cU64 : Tryz.prog.cellsOf 118 = 1 := by kernel_rfl

/-- The list of every row of this seat. -/
abbrev theList : List (String × DataW Unit) := Rows.topLinesSwappedRow.laid
theorem plain1 (P : Program) (n : String) (d : DataW Unit) (W : World) (h : d.handleName?.isNone = true) (H : laidMetH P [(n, d)] W) : laidMet P [(n, d)] W := by
  rwa [MakeChecks.laidMetH_plain _ _ _ (by simp [h])] at H

theorem env_of {W : World} (h : laidMetH Tryz.prog theList W) (hsh : W.ShapedOpen Tryz.prog) : Env W := by
  refine ⟨?_, ?_, ?_⟩
  · obtain ⟨m, hm⟩ := cell_of_shapedOpen_int (P := Tryz.prog) (g := 1) (t := 3) (zero := #[.int .i64 0]) hsh (of_decide_eq_true (by kernel_rfl)) (by kernel_rfl) rfl (by kernel_rfl) (by kernel_rfl) Tryz.underlying3
    exact ⟨m, hm⟩
  · have h1 := laidMetH.filter (fun x => x.1 == "strings.asciiSpace") h
    rw [show theList.filter (fun x => x.1 == "strings.asciiSpace") = [("strings.asciiSpace", Lib.tabData .u8 Lib.asciiSpaceTab)] by kernel_rfl] at h1
    exact Lib.tabIs_of_head gSpace tSpace Tryz.underlying154 Tryz.underlying5 cU8 cSpace (plain1 _ _ _ _ rfl h1)
  · have h1 := laidMetH.filter (fun x => x.1 == "internal/strconv.uint64pow10") h
    rw [show theList.filter (fun x => x.1 == "internal/strconv.uint64pow10") = [("internal/strconv.uint64pow10", Lib.tabData .u64 Lib.pow10Tab)] by kernel_rfl] at h1
    exact Lib.tabIs_of_head gPow tPow Tryz.underlying183 Tryz.underlying118 cU64 cPow (plain1 _ _ _ _ rfl h1)

/-! ### The witness's world -/
noncomputable def startW (os : Os) : World := World.laidAll Tryz.prog os theList

/-- 'There is an input that fits', at a world that is written out. -/
theorem witness_at0 {H : Type} {enc : TypeId × Value → H} {C : Checked} {os : Os} {f : FuncId} {fn : Func} {s : OpenSpec} {conds : List PathCond} {apart : Bool} {laid : List (String × DataW Unit)} (w0 : World) (args : Array Value) (hos : w0.os = os)
    (hsh : (w0.forCall (fun _ _ => 0) ⟨#[], args, []⟩).Shaped C.prog)
    (hok : Input.okWideB C.prog (w0.forCall (fun _ _ => 0) ⟨#[], args, []⟩) f ⟨#[], args, []⟩ = true)
    (hrow : s.preRow enc C.prog fn conds apart laid (w0.forCall (fun _ _ => 0) ⟨#[], args, []⟩).memory args) :
    ∃ (w : World) (tape : Tape) (i : Input), w.os = os ∧ (w.forCall tape i).Shaped C.prog ∧ i.vars = [] ∧ Input.okWide C.prog (w.forCall tape i) .any w.heap.size f i ∧
      s.preRow enc C.prog fn conds apart laid (w.forCall tape i).memory i.args ∧ ({} : Assume).holds C.prog (lone (Frame.enter C.prog f i.args .normal) [] (w.forCall tape i)) :=
  ⟨w0, fun _ _ => 0, ⟨#[], args, []⟩, hos, hsh, (Input.okWide_of_okWideB (base := 0) hok).1, (Input.okWide_of_okWideB hok).2, hrow, by
    simp only [Assume.holds]
    exact ⟨by simp, by simp, fun _ => Modest.zero, by simp, by simp⟩⟩

theorem start_met (os : Os) (args : Array Value) : laidMetH Tryz.prog theList ((startW os).forCall (fun _ _ => 0) ⟨#[], args, []⟩).memory := by
  rw [MakeChecks.laidMetH_plain _ _ _ (by kernel_rfl)]
  exact laidMet_laidAll _ (by kernel_rfl) (by kernel_rfl)

/-! ### What stays as it was -/
theorem laidOut : laidOutB Tryz.prog = true := by kernel_rfl
theorem trodAll_below {H : Type} {enc : TypeId × Value → H} {P : Program} (hl : laidOutB P = true) {W W' : World} (hb : Below W.heap.size W W') : ∀ {ts : List TypeId} {vs : List Value} {ds : List (DataW H)} {p : List MemPlace},
    (ts.all fun t => P.readableRec t && decide (t < P.types.size)) = true → DataW.TrodAll enc P W 0 (fun _ => true) true ts vs ds p → (∀ x ∈ p, x.block < W.heap.size) → DataW.TrodAll enc P W' 0 (fun b => decide (b < W.heap.size)) true ts vs ds p
  | [], [], [], _, _, h, _ => h
  | [], [], _ :: _, _, _, h, _ => h.elim
  | [], _ :: _, _, _, _, h, _ => h.elim
  | _ :: _, [], _, _, _, h, _ => h.elim
  | _ :: _, _ :: _, [], _, _, h, _ => h.elim
  | t :: ts, v :: vs, d :: ds, p, hr, h, hlt => by
    obtain ⟨p0, q0, h0, h1, rfl⟩ := h
    simp only [List.all_cons, Bool.and_eq_true, decide_eq_true_eq] at hr
    exact ⟨p0, q0, Below.trod hl hr.1.1 hr.1.2 h0 hb (fun x hx => hlt x (by simp [hx])), trodAll_below hl hb (by simpa using hr.2) h1 (fun x hx => hlt x (by simp [hx])), rfl⟩

/-- The end of every law: 'true', and nothing that was there has turned. -/
theorem law_post {H : Type} {enc : TypeId × Value → H} {fn : Func} {s : ChangeSpec} {W W' : World} {args : Array Value} {ds gs : List (DataW H)} {p : List MemPlace}
    (hW : DataW.Whole enc Tryz.prog fn.params.toList s.vars false W args.toList ds gs p) (hv : s.vars = []) (hres : fn.resultTypes = #[4]) (hr : (fn.params.toList.all fun t => Tryz.prog.readableRec t && decide (t < Tryz.prog.types.size)) = true)
    (hs1 : (s.fn H (ds ++ gs)).results = [.lit (.bool true)]) (hs2 : (s.fn H (ds ++ gs)).args = ds) (hs3 : (s.fn H (ds ++ gs)).vars = []) (hb : Below W.heap.size W W') :
    s.post enc Tryz.prog fn false true false false W args (.bool true) W' := by
  have hW' := hW
  obtain ⟨p0, q0, hA, hV, hp, hfz, hnd⟩ := hW
  have hlt : ∀ x ∈ p0, x.block < W.heap.size := fun x hx => hW'.lt x (by rw [hp]; simp [hx])
  refine ⟨ds, gs, p, [], p0, [], hW', ?_, ?_, ?_, hb.frame _, fun h => by cases h⟩
  · rw [hs1, hres]
    exact trodAll_mk1 (shut_bool Tryz.underlying4 _)
  · rw [hs2]
    exact trodAll_below laidOut hb hr hA hlt
  · rw [hs3, hv]
    rfl

/-! ### Arguments, opened -/
section
variable {H : Type} {enc : TypeId × Value → H} {W : World} {base : Nat} {r : Reach} {v : Value} {d : DataW H} {p : List MemPlace}

theorem add_off (b off k : Nat) : (⟨b, off, none⟩ : Addr).add k = ⟨b, off + k, none⟩ := by unfold Addr.add; split <;> simp_all

theorem okWide_array {P : Program} {n : Nat} {e t : TypeId} (ht : P.underlying t = some (.array n e)) (h : Value.okWide P W r base t v) : ∃ cs, v = .agg cs ∧ cs.size = P.cellsOf t := by
  simp only [Value.okWide, ht] at h
  obtain ⟨cs, h1, h2, _⟩ := h
  exact ⟨cs, h1, h2⟩

theorem trod_struct4 {P : Program} {sp : Nat → Bool} {held : Bool} {t : TypeId} {f0 f1 f2 f3 : Field} {fuel : Nat} {cs : List Value} {x : DataW H × List MemPlace} (ht : P.underlying t = some (.struct #[f0, f1, f2, f3])) (h : DataW.trod enc P W base sp held fuel t cs = some x) :
    ∃ y0 y1 y2 y3 n, cs.length = P.cellsOf t ∧ DataW.trod enc P W base sp held n f0.type ((cs.drop f0.offset).take (P.cellsOf f0.type)) = some y0 ∧ DataW.trod enc P W base sp held n f1.type ((cs.drop f1.offset).take (P.cellsOf f1.type)) = some y1 ∧
      DataW.trod enc P W base sp held n f2.type ((cs.drop f2.offset).take (P.cellsOf f2.type)) = some y2 ∧ DataW.trod enc P W base sp held n f3.type ((cs.drop f3.offset).take (P.cellsOf f3.type)) = some y3 := by
  obtain ⟨xs, n, _, rfl, hl, hlen, hf⟩ := DataW.trod_struct ht h
  match xs, hlen with
  | [y0, y1, y2, y3], _ => exact ⟨y0, y1, y2, y3, n, hl, by simpa using hf 0 f0 rfl, by simpa using hf 1 f1 rfl, by simpa using hf 2 f2 rfl, by simpa using hf 3 f3 rfl⟩

theorem cInt : Tryz.prog.cellsOf 3 = 1 := by kernel_rfl
theorem cIns : Tryz.prog.cellsOf 31 = 4 := by kernel_rfl
theorem bIns : Tryz.prog.bytesOf 31 = 32 := by kernel_rfl
theorem bU8 : Tryz.prog.bytesOf 5 = 1 := by kernel_rfl
theorem cArr : Tryz.prog.cellsOf 24 = 8 := by kernel_rfl
theorem cU32 : Tryz.prog.cellsOf 23 = 1 := by kernel_rfl

theorem one_of_drop {cs : List Value} {k : Nat} {x : Value} (h : (cs.drop k).take 1 = [x]) : cs[k]? = some x := by
  have := congrArg (·[0]?) h
  simpa [List.getElem?_take, List.getElem?_drop] using this

/-- The four cells of an instruction. -/
theorem ins_cells {sp : Nat → Bool} {held : Bool} {fuel : Nat} {cs : List Value} {x : DataW H × List MemPlace} (h : DataW.trod enc Tryz.prog W base sp held fuel 31 cs = some x) :
    ∃ i : Pl.Ins, cs[0]? = some (.int .i64 i.op) ∧ cs[1]? = some (.int .i64 i.a) ∧ cs[2]? = some (.int .i64 i.b) ∧ cs[3]? = some (.int .i64 i.c) ∧ i64 i.op := by
  obtain ⟨y0, y1, y2, y3, n, _, h0, h1, h2, h3⟩ := trod_struct4 Tryz.underlying31 h
  obtain ⟨z0, e0, _, w0⟩ := DataW.trod_int Tryz.underlying3 h0
  obtain ⟨z1, e1, _, _⟩ := DataW.trod_int Tryz.underlying3 h1
  obtain ⟨z2, e2, _, _⟩ := DataW.trod_int Tryz.underlying3 h2
  obtain ⟨z3, e3, _, _⟩ := DataW.trod_int Tryz.underlying3 h3
  dsimp only at e0 e1 e2 e3
  rw [cInt] at e0 e1 e2 e3
  exact ⟨⟨z0, z1, z2, z3⟩, one_of_drop e0, one_of_drop e1, one_of_drop e2, one_of_drop e3, bounds_i64 w0⟩

theorem open_ins {ts : List TypeId} {ds : List (DataW H)} {j : Nat} (hok : Value.okWide Tryz.prog W r base 22 v) (h : DataW.Trod enc Tryz.prog W 0 (fun _ => true) true 22 v d p)
    (hsz : (DataW.weightsEach Tryz.prog ts ds).all (· ≤ reachBytes) = true) (ht : ts[j]? = some 22) (hd : ds[j]? = some d) :
    ∃ ws, Il W v ws ∧ ws.length ≤ 4398046511104 ∧ ∀ i ∈ ws, i64 i.op := by
  obtain ⟨a0, len0, cap0, rfl⟩ := okWide_slice Tryz.underlying22 hok
  obtain ⟨fuel, hf⟩ := h
  rcases Go.Deep.open_slice Tryz.underlying22 hf with ⟨hcs, hx⟩ | ⟨a, len, cap, m, n, D, Q, hcs, _, hl, hm, hmm, hx, hcell⟩
  · have hcs : (.slice a0 len0 cap0 : Value) = .slice none 0 0 := by simpa [Value.cells] using hcs
    rw [hcs]
    exact ⟨[], ⟨none, 0, rfl, fun _ => rfl, fun k i hi => by simp at hi⟩, by simp, fun i hi => by cases hi⟩
  · have hcs : (.slice a0 len0 cap0 : Value) = .slice (some a) len cap := by simpa [Value.cells] using hcs
    rw [hcs]
    have hmc : m = cap := by rw [hmm]; simp
    have each : ∀ i, i < len → ∃ x : Pl.Ins, ∃ b off, a = ⟨b, off, none⟩ ∧ W.cell? ⟨b, off + i * 4, none⟩ = some (.int .i64 x.op) ∧ W.cell? ⟨b, off + i * 4 + 1, none⟩ = some (.int .i64 x.a) ∧ W.cell? ⟨b, off + i * 4 + 2, none⟩ = some (.int .i64 x.b) ∧
        W.cell? ⟨b, off + i * 4 + 3, none⟩ = some (.int .i64 x.c) ∧ i64 x.op := by
      intro i hi
      obtain ⟨cs, h1, h2⟩ := hcell i (by omega)
      rw [cIns] at h1
      obtain ⟨_, hlen, hat⟩ := World.cells?_some h1
      obtain ⟨x, e0, e1, e2, e3, hop⟩ := ins_cells h2
      have c0 := (hat 0 (by omega)).trans e0
      have c1 := (hat 1 (by omega)).trans e1
      have c2 := (hat 2 (by omega)).trans e2
      have c3 := (hat 3 (by omega)).trans e3
      obtain ⟨cs0, g1, g2⟩ := hcell 0 (by omega)
      rw [cIns] at g1
      obtain ⟨_, _, gat⟩ := World.cells?_some g1
      obtain ⟨x0, f0, _⟩ := ins_cells g2
      have hs := World.cell?_spot ((gat 0 (by omega)).trans f0)
      rw [Nat.zero_mul] at hs
      obtain ⟨b, off, s⟩ := a
      have hs0 : s = none := by simpa [Addr.add] using hs
      subst hs0
      rw [add_off, add_off] at c0 c1 c2 c3
      exact ⟨x, b, off, rfl, c0, c1, c2, c3, hop⟩
    obtain ⟨F, hF⟩ : ∃ F : Nat → Pl.Ins, ∀ i, i < len → ∃ b off, a = ⟨b, off, none⟩ ∧ W.cell? ⟨b, off + i * 4, none⟩ = some (.int .i64 (F i).op) ∧ W.cell? ⟨b, off + i * 4 + 1, none⟩ = some (.int .i64 (F i).a) ∧ W.cell? ⟨b, off + i * 4 + 2, none⟩ = some (.int .i64 (F i).b) ∧
        W.cell? ⟨b, off + i * 4 + 3, none⟩ = some (.int .i64 (F i).c) ∧ i64 (F i).op := by
      classical
      refine ⟨fun i => if h : i < len then Classical.choose (each i h) else ⟨0, 0, 0, 0⟩, fun i hi => ?_⟩
      simp only [dif_pos hi]
      exact Classical.choose_spec (each i hi)
    have hll : ((List.range len).map F).length = len := by simp
    refine ⟨(List.range len).map F, ⟨some a, cap, by rw [hll], fun h => (by cases h), fun k i hi => ?_⟩, ?_, fun i hi => ?_⟩
    · have hk : k < len := by have := (List.getElem?_eq_some_iff.1 hi).1; rwa [hll] at this
      have hi2 : F k = i := by simpa [hk] using hi
      obtain ⟨b, off, rfl, c0, c1, c2, c3, _⟩ := hF k hk
      rw [hi2] at c0 c1 c2 c3
      exact ⟨b, off, rfl, c0, c1, c2, c3⟩
    · have := sized_slice hsz ht (by rw [hd]; rw [Prod.ext_iff] at hx; rw [show d = _ from hx.1]) Tryz.underlying22
      rw [bIns] at this
      simp only [List.length_map, List.length_range] at this
      rw [hll]
      unfold reachBytes at this
      omega
    · obtain ⟨k, hk, rfl⟩ := List.mem_map.1 hi
      obtain ⟨_, _, _, _, _, _, _, h⟩ := hF k (by simpa using hk)
      exact h

theorem open_bytes {ts : List TypeId} {ds : List (DataW H)} {j : Nat} (hok : Value.okWide Tryz.prog W r base 25 v) (h : DataW.Trod enc Tryz.prog W 0 (fun _ => true) true 25 v d p)
    (hsz : (DataW.weightsEach Tryz.prog ts ds).all (· ≤ reachBytes) = true) (ht : ts[j]? = some 25) (hd : ds[j]? = some d) :
    ∃ D, Bd W v D ∧ D.length ≤ 140737488355328 ∧ ∀ k : Nat, k < D.length → 0 ≤ D.getD k 0 ∧ D.getD k 0 < 256 := by
  obtain ⟨a0, len0, cap0, rfl⟩ := okWide_slice Tryz.underlying25 hok
  obtain ⟨fuel, hf⟩ := h
  rcases open_ints Tryz.underlying25 Tryz.underlying5 cU8 hf with ⟨hcs, hx⟩ | ⟨a, len, cap, zs, hcs, _, hl, hm, hz, hx, hcell, hwz⟩
  · have hcs : (.slice a0 len0 cap0 : Value) = .slice none 0 0 := by simpa [Value.cells] using hcs
    rw [hcs]
    exact ⟨[], ⟨none, 0, rfl, fun _ => rfl, fun k hk => by simp at hk⟩, by simp, fun k hk => by simp at hk⟩
  · have hcs : (.slice a0 len0 cap0 : Value) = .slice (some a) len cap := by simpa [Value.cells] using hcs
    rw [hcs]
    have hzl : zs.length = cap := by rw [hz]; simp
    have htl : (zs.take len).length = len := by simp; omega
    have hget : ∀ k, k < len → (zs.take len).getD k 0 = zs.getD k 0 := fun k hk => by simp [List.getD_eq_getElem?_getD, List.getElem?_take, hk]
    refine ⟨zs.take len, ⟨some a, cap, by rw [htl], fun h => (by cases h), fun k hk => ⟨a, rfl, ?_⟩⟩, ?_, fun k hk => ?_⟩
    · rw [htl] at hk
      rw [hget k hk]
      exact hcell k (by omega)
    · have := sized_slice hsz ht (by rw [hd]; rw [Prod.ext_iff] at hx; rw [show d = _ from hx.1]) Tryz.underlying25
      rw [bU8] at this
      simp only [lits, List.length_map, List.length_take, List.length_drop] at this
      rw [htl]
      unfold reachBytes at this
      omega
    · rw [htl] at hk
      rw [hget k hk]
      have := range_u8 hwz k
      rw [List.getD_eq_getElem?_getD]
      omega

theorem open_regs (hok : Value.okWide Tryz.prog W r base 24 v) (h : DataW.Trod enc Tryz.prog W 0 (fun _ => true) true 24 v d p) : ∃ R, v = .agg (arr R) ∧ Pl.goodR R := by
  obtain ⟨cs, rfl, hsz⟩ := okWide_array Tryz.underlying24 hok
  obtain ⟨fuel, hf⟩ := h
  obtain ⟨xs, m, _, _, hl, hn, hat⟩ := DataW.trod_array Tryz.underlying24 hf
  have hcl : cs.toList.length = 8 := by rw [← cArr, ← hsz]; simp
  have each : ∀ i, i < 8 → ∃ z : Int, cs.toList[i]? = some (.int .u32 z) ∧ 0 ≤ z ∧ z < 4294967296 := by
    intro i hi
    have h1 := hat i hi
    obtain ⟨y, hy⟩ : ∃ y, xs[i]? = some y := ⟨xs[i]'(by omega), by simp [show i < xs.length by omega]⟩
    rw [hy] at h1
    obtain ⟨z, e, _, wz⟩ := DataW.trod_int Tryz.underlying23 h1
    rw [cU32, Nat.mul_one] at e
    have := bounds_u32 wz
    exact ⟨z, one_of_drop e, this.1, by omega⟩
  obtain ⟨F, hF⟩ := Go.Deep.choose_lt each
  have hR : cs.toList = (List.range 8).map (fun i => Value.int .u32 (F i)) := by
    apply List.ext_getElem?
    intro i
    by_cases hi : i < 8
    · rw [(hF i hi).1]
      simp [hi]
    · rw [List.getElem?_eq_none (by omega), List.getElem?_eq_none (by simp; omega)]
  refine ⟨(List.range 8).map F, ?_, by simp, fun k hk => ?_⟩
  · unfold arr
    congr 1
    apply Array.ext'
    rw [hR]
    simp [Function.comp_def]
  · have := (hF k hk).2
    simpa [List.getD_eq_getElem?_getD, hk] using this
end
end Go.Proofs.YtghjjemnegncpaaGreatDoor
