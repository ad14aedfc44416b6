/- Whatever the input, TopCodesJoined returns true, and each argument reads afterwards as it read before. Conditions: those of the given card alone (the listed package-level variables begin as the program's text lays them; each argument within the form's reach). -/
import Derived.Test.YtghjjemnegncpaaDoorRow
import Derived.Test.YtghjjemnegncpaaDoorJoinedM
set_option linter.unusedSimpArgs false
set_option linter.unusedVariables false
set_option maxRecDepth 100000
namespace Go.Proofs.YtghjjemnegncpaaDoor
open Go.ChangeShapes Go.WideShapes Go.ChangeAt Go.RowKit

theorem joined_ok {w : World} {lv dv : Value} {ws : List Pl.Ins} {R D : List Int} {at_ : Int} (G : Given w lv dv ws R D) (hat : i64 at_) :
    Calls Tryd.prog 3 #[lv, .agg (arr R), dv, .int .i64 at_] w fun e w' => e = .returned (.bool true) ∧ Below w.heap.size w w' := by
  by_cases hv : ∀ i ∈ ws, Pl.valid i
  · by_cases h60 : 60 < ws.length
    · exact joined_big G hat hv h60
    · by_cases hd : 4096 < D.length
      · exact joined_big2 G hat hv h60 hd
      · by_cases hf : ∀ i ∈ ws, Pl.flat i
        · exact joined_main G hat hv (by omega) (by omega) hf
        · exact joined_odd G hat hv (by omega) (by omega) hf
  · exact joined_bad G hat hv

theorem joined_contract (H : Type) (enc : TypeId × Value → H) (W : World) (base : Nat) (args : Array Value) (ds gs : List (DataW H)) (before : List MemPlace)
    (hval : ∀ (j : Nat) t v, Tryd.f3.params[j]? = some t → args[j]? = some v → Value.okWide Tryd.prog W .any base t v)
    (hW : DataW.Whole enc Tryd.prog Tryd.f3.params.toList Rows.topCodesJoinedSpec.vars false W args.toList ds gs before)
    (hsz : (DataW.weightsEach Tryd.prog (Tryd.f3.params.toList ++ (OpenSpec.ofChange Rows.topCodesJoinedSpec).bare.plain.varTypes Tryd.prog) (ds ++ gs)).all (· ≤ reachBytes) = true)
    (hL : laidMetH Tryd.prog Rows.topCodesJoinedRow.laid W) (hsh : W.ShapedOpen Tryd.prog) :
    Calls Tryd.prog 3 args W fun e W' => ∃ v, e = .returned v ∧ Rows.topCodesJoinedSpec.post enc Tryd.prog Tryd.f3 false true false false W args v W' := by
  have hW' := hW
  obtain ⟨p, q, hA0, hV, rfl, hfz, hnd⟩ := hW
  have hA : DataW.TrodAll enc Tryd.prog W 0 (fun _ => true) true Tryd.f3.params.toList args.toList ds p := hA0
  rw [Tryd.params3] at hA hval hsz
  obtain ⟨v0, v1, v2, v3, d0, d1, d2, d3, p0, p1, p2, p3, rfl, rfl, rfl, h0, h1, h2, h3⟩ := trodAll_four hA
  obtain ⟨rfl, rfl⟩ := trodVars_none hV
  have hsz' : (DataW.weightsEach Tryd.prog [22, 24, 25, 3] [d0, d1, d2, d3]).all (· ≤ reachBytes) = true := hsz
  obtain ⟨ws, il, hlen, hop⟩ := open_ins (j := 0) (hval 0 22 v0 rfl rfl) h0 hsz' rfl rfl
  obtain ⟨R, rfl, hR⟩ := open_regs (hval 1 24 v1 rfl rfl) h1
  obtain ⟨D, bd, hdl, hdb⟩ := open_bytes (j := 2) (hval 2 25 v2 rfl rfl) h2 hsz' rfl rfl
  obtain ⟨at_, rfl, rfl, _, wx⟩ := open_int Tryd.underlying3 (hval 3 3 v3 rfl rfl) h3
  have G : Given W v0 v2 ws R D := ⟨env_of hL hsh, il, hlen, hop, hR, bd, hdl, hdb⟩
  refine (joined_ok G (bounds_i64 wx)).mono fun e W' ⟨he, hb⟩ => ?_
  subst he
  exact ⟨_, rfl, law_post hW' rfl rfl (by kernel_rfl) rfl rfl rfl hb⟩

noncomputable abbrev joinedArgs : Array Value := #[.slice none 0 0, .agg #[.int .u32 0, .int .u32 0, .int .u32 0, .int .u32 0, .int .u32 0, .int .u32 0, .int .u32 0, .int .u32 0], .slice none 0 0, .int .i64 0]
theorem joined_reads (os : Os) {H : Type} (enc : TypeId × Value → H) : ∃ places, DataW.whole enc Tryd.prog ((startW os).forCall (fun _ _ => 0) ⟨#[], joinedArgs, []⟩).memory Tryd.f3.params.toList Rows.topCodesJoinedSpec.vars false joinedArgs.toList 8 =
    some ([.nil, .agg [.lit (.int .u32 0), .lit (.int .u32 0), .lit (.int .u32 0), .lit (.int .u32 0), .lit (.int .u32 0), .lit (.int .u32 0), .lit (.int .u32 0), .lit (.int .u32 0)], .nil, .lit (.int .i64 0)], [], places) :=
  ⟨[], by kernel_rfl⟩

theorem joined_lifted (os : Os) (started : os.Started) (H : Type) (enc : TypeId × Value → H) (F : Stop.Interp) :
    ReturnsInHanded {} Tryd.checked os 3 .any ((OpenSpec.ofChange Rows.topCodesJoinedSpec).preRow enc Tryd.prog Tryd.f3 Rows.topCodesJoinedRow.domain false Rows.topCodesJoinedRow.laid)
      (((OpenSpec.ofChange Rows.topCodesJoinedSpec).at F).post enc Tryd.prog Tryd.f3 false true false false) := by
  obtain ⟨places, hx⟩ := joined_reads os enc
  refine returnsInHanded_of_row (C := Tryd.checked) (s := OpenSpec.ofChange Rows.topCodesJoinedSpec) own started (by kernel_rfl) Tryd.func3
    (witness_at0 (enc := enc) (C := Tryd.checked) (startW os) joinedArgs (World.laidAll_os _ _ _) (World.shaped_of_ZipB (by kernel_rfl) (by kernel_rfl)) (by kernel_rfl)
      (OpenSpec.preRow_of_cond 8 hx (by kernel_rfl) (fun k hk => by cases hk) (by kernel_rfl) (start_met os _))) ?_
  intro W base args ds gs before hval hW _ _ hsz hL hsh _
  exact joined_contract H enc W base args ds gs before hval hW hsz hL hsh

theorem joined_said : Rows.TopCodesJoinedSaid :=
  OpenClaim.holds_of_cond 3 Tryd.f3 rfl rfl rfl rfl rfl rfl rfl ⟨rfl, rfl, rfl, rfl, rfl⟩ rfl rfl rfl rfl rfl (by kernel_rfl) Tryd.func3 (by kernel_rfl)
    (of_decide_eq_true (by kernel_rfl)) (by unfold Func.isWrapper; first | (rw [if_pos (by decide +kernel)]; kernel_rfl) | (rw [if_neg (by decide +kernel)]; exact ⟨rfl, rfl⟩))
    (fun os started H enc _ F => by rw [OpenClaim.pre_eq_preRow]; exact joined_lifted os started H enc F)

theorem joined_plain (f : FuncId) (fn : Func) (hf : Tryd.pinned.checked.prog.funcNamed "ringhall/ringtop.TopCodesJoined" = some f) (hfn : Tryd.pinned.checked.prog.funcs[f]? = some fn) :
    true = Tryd.pinned.checked.prog.looks [] ∧ ∀ (j : Nat) t, fn.params[j]? = some t → Tryd.pinned.checked.prog.wantsStandIn t = false := by
  obtain rfl : f = 3 := Option.some.inj ((show Tryd.prog.funcNamed "ringhall/ringtop.TopCodesJoined" = some 3 by kernel_rfl).symm.trans hf) |>.symm
  obtain rfl : fn = Tryd.f3 := (Option.some.inj (Tryd.func3.symm.trans hfn)).symm
  refine ⟨by kernel_rfl, fun j t ht => ?_⟩
  rw [Tryd.params3] at ht
  have hm := Array.mem_of_getElem? ht
  simp only [Array.mem_def, List.mem_cons, List.not_mem_nil, or_false] at hm
  rcases hm with rfl | rfl | rfl | rfl
  · exact (show Tryd.prog.wantsStandIn 22 = false by kernel_rfl)
  · exact (show Tryd.prog.wantsStandIn 24 = false by kernel_rfl)
  · exact (show Tryd.prog.wantsStandIn 25 = false by kernel_rfl)
  · exact (show Tryd.prog.wantsStandIn 3 = false by kernel_rfl)

/-- The card: whatever the input, TopCodesJoined answers true, and each argument reads as it read before. -/
theorem joined_card : Rows.TopCodesJoinedCardSaid :=
  Claim7.holds_tied_plain_at .later [] _ _ _ _ joined_said (fun _ h => by cases h) (by kernel_rfl) (fun _ h => by cases h) topCodesJoined_row_tie rfl ⟨rfl, rfl⟩ (by kernel_rfl) rfl joined_plain (by kernel_rfl)
end Go.Proofs.YtghjjemnegncpaaDoor
