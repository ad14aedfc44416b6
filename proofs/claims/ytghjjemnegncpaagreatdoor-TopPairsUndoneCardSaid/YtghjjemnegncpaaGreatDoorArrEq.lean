/- Two arrays of registers held against each other. -/
import Derived.Test.YtghjjemnegncpaaGreatDoorRun
import Derived.Laws.StructEq
set_option linter.unusedSimpArgs false
set_option linter.unusedVariables false
namespace Go.Proofs.YtghjjemnegncpaaGreatDoor
open Go.RowKit

theorem all_range_ints : ∀ (xs ys : List Int), xs.length = ys.length → ((List.range xs.length).all fun i => xs.getD i 0 == ys.getD i 0) = (xs == ys)
  | [], [], _ => rfl
  | x :: xs, y :: ys, h => by
    have ih := all_range_ints xs ys (by simpa using h)
    rw [List.length_cons, List.range_succ_eq_map, List.all_cons, List.all_map]
    simp only [List.getD_cons_zero, Function.comp_def, List.getD_cons_succ, ih]
    simp [List.cons_beq_cons]
  | [], _ :: _, h => by simp at h
  | _ :: _, [], h => by simp at h

theorem equal_ints {P : Program} (w : World) (d : Nat) (t e : TypeId) (n : Nat) (K : IntKind) (ht : P.underlying t = some (.array n e)) (he : P.underlying e = some (.int K)) (hsz : ∀ w, (sizeOf e).run P w = .ok 1 w)
    (xs ys : List Int) (hx : xs.length = n) (hy : ys.length = n) :
    (Op.equalIn (d + 2) t (.agg (xs.map (Value.int K)).toArray) (.agg (ys.map (Value.int K)).toArray)).run P w = .ok (xs == ys) w := by
  rw [← all_range_ints xs ys (hx.trans hy.symm), hx, List.range_eq_range', Op.equalIn]
  simp only [Sem.run_bind, run_underlying ht, Result.andThen_ok, hsz, Std.Legacy.Range.forIn_eq_forIn_range', Std.Legacy.Range.size, Nat.sub_zero, Nat.add_sub_cancel, Nat.div_one]
  have hl : ∀ i ∈ List.range' 0 n 1, i < n := fun i hi => by simpa using (List.mem_range'_1.1 hi).2
  generalize List.range' 0 n 1 = l at hl ⊢
  induction l with
  | nil => simp
  | cons i l ih =>
    have hi : i < n := hl i (by simp)
    have px : (part e (xs.map (Value.int K)).toArray (i * 1)).run P w = .ok (.int K (xs.getD i 0)) w := by
      simp [part, isAgg, run_underlying he, List.getD, List.getElem?_eq_getElem (show i < xs.length by omega)]
    have py : (part e (ys.map (Value.int K)).toArray (i * 1)).run P w = .ok (.int K (ys.getD i 0)) w := by
      simp [part, isAgg, run_underlying he, List.getD, List.getElem?_eq_getElem (show i < ys.length by omega)]
    have pe : (Op.equalIn (d + 1) e (.int K (xs.getD i 0)) (.int K (ys.getD i 0))).run P w = .ok (xs.getD i 0 == ys.getD i 0) w := by
      rw [run_equalIn_int w d e K K _ _ he]
    simp only [List.forIn_cons, Sem.run_bind, px, py, pe, Result.andThen_ok, List.all_cons]
    cases hb : (xs.getD i 0 == ys.getD i 0)
    · simp
    · simp only [Bool.not_true, Bool.false_eq_true, if_false, Sem.run_pure, Result.andThen_ok, Bool.true_and]
      exact ih fun j hj => hl j (by simp [hj])

/-- Registers against registers. -/
theorem equal_regs (w : World) (xs ys : List Int) (hx : xs.length = 8) (hy : ys.length = 8) :
    (Op.equalIn 10000 24 (.agg (arr xs)) (.agg (arr ys))).run Tryz.prog w = .ok (xs == ys) w :=
  equal_ints w 9998 24 23 8 .u32 Tryz.underlying24 Tryz.underlying23 (fun _ => by kernel_rfl) xs ys hx hy
theorem equal_regs_same (w : World) (s0 s1 s2 s3 s4 s5 s6 s7 : Int) :
    (Op.equalIn 10000 24 (.agg #[.int .u32 s0, .int .u32 s1, .int .u32 s2, .int .u32 s3, .int .u32 s4, .int .u32 s5, .int .u32 s6, .int .u32 s7]) (.agg #[.int .u32 s0, .int .u32 s1, .int .u32 s2, .int .u32 s3, .int .u32 s4, .int .u32 s5, .int .u32 s6, .int .u32 s7])).run Tryz.prog w = .ok true w := by
  have := equal_regs w [s0, s1, s2, s3, s4, s5, s6, s7] [s0, s1, s2, s3, s4, s5, s6, s7] rfl rfl
  rw [arr8] at this
  rw [this]
  simp
end Go.Proofs.YtghjjemnegncpaaGreatDoor
