/- The walk of code.Decode at a word that Encode gave. -/
import Derived.Test.YtghjjemnegncpaaGreatDoorCode
import Derived.Test.YtghjjemnegncpaaGreatDoorOther
namespace Go.Proofs.YtghjjemnegncpaaGreatDoor
open Go.RowKit

theorem dec_val (i : Pl.Ins) (hv : Pl.valid i) : Pl.encW i / 16777216 = i.op ∧ wrap64 (bits BinOp.and IntKind.u32 (Pl.encW i / 1048576) 15) = i.a ∧ wrap64 (bits BinOp.and IntKind.u32 (Pl.encW i / 65536) 15) = i.b ∧
    wrap64 (IntKind.i16.wrap (Pl.encW i)) = i.c := by
  have hp := Pl.encW_parts i hv
  have hb := Pl.encW_bd i hv
  obtain ⟨h1, h2, h3, h4, h5, h6, h7, h8, _⟩ := hv
  have ea : bits BinOp.and IntKind.u32 (Pl.encW i / 1048576) 15 = i.a := by
    rw [show (15 : Int) = 2 ^ 4 - 1 from rfl, bits_mask .u32 32 (by decide) wraps_u32 4 (by decide) _ (by omega) (by omega)]; exact hp.2.1
  have eb : bits BinOp.and IntKind.u32 (Pl.encW i / 65536) 15 = i.b := by
    rw [show (15 : Int) = 2 ^ 4 - 1 from rfl, bits_mask .u32 32 (by decide) wraps_u32 4 (by decide) _ (by omega) (by omega)]; exact hp.2.2.1
  refine ⟨hp.1, ?_, ?_, ?_⟩
  · rw [ea]; unfold wrap64; omega
  · rw [eb]; unfold wrap64; omega
  · have : IntKind.i16.wrap (Pl.encW i) = i.c := by
      rw [← hp.2.2.2]
      simp only [IntKind.wrap, IntKind.bits, IntKind.signed, Bool.true_and]
      split <;> simp_all <;> omega
    rw [this]; unfold wrap64; omega

theorem dec_end {R : Ending → World → Prop} {a : Act} {w : World} {g : Nat} {t : TypeId} {cs : Array Value} {v : Value} (hp : a.tmps.getD 2 undef = .pointer (some ⟨g, 0, none⟩)) (hv : a.tmps.getD 3 undef = v)
    (hg : rowAt w g cs t) (hn : cs.size = 4) (hdf : a.defers = []) (hR : R (.returned (.tuple #[.agg cs, v])) w) : bodyPost Tryz.prog Tryz.f49 R .ret a w :=
  post_ct (p := 2) (u := 3) (ty := 31) rfl Tryz.underlying31 rfl sizeIns hp hv hg hn hdf hR

set_option maxHeartbeats 800000 in
theorem Decode_ok (i : Pl.Ins) (w : World) (hv : Pl.valid i) :
    Calls Tryz.prog 49 #[.int .u32 (Pl.encW i)] w fun e w' => e = .returned (.tuple #[insV i, .int .i64 0]) ∧ Below w.heap.size w w' := by
  have hb := Pl.encW_bd i hv
  have HD := Lib.hid (dec_val i hv)
  have HE := Lib.hid fun w => Encode_ok i w hv
  clear hv
  go_enter Tryz.func49, Tryz.ntmps49
  go_wp2_with fail
  simp only [HD.out.1, HD.out.2.1, HD.out.2.2.1, HD.out.2.2.2]
  refine (HE.out _).mono ?_
  rintro e w1 ⟨rfl, hb1⟩
  obtain ⟨hc, hf⟩ := bcell hb1
  have hz := hb1.size
  simp only [World.size_alloc] at hc hf hz
  go_wp2_with fail
  have hr0 : rowAt w1 w.heap.size #[.int .i64 0, .int .i64 0, .int .i64 0, .int .i64 0] 31 := rowAt.below (by (repeat (first | ((with_reducible apply rowAt.new); simp; done) | (with_reducible apply rowAt.drew) | (with_reducible apply rowAt.drewN) | (with_reducible apply rowAt.alloc) | (with_reducible apply rowAt.setRow_same) | ((with_reducible apply rowAt.so); (· (first | (simp; done) | (simp; omega) | omega))) | (with_reducible apply rowAt.set10) | (with_reducible apply rowAt.set8) | (with_reducible apply rowAt.set4) | (with_reducible apply rowAt.set2) | (with_reducible apply rowAt.set) | ((with_reducible apply rowAt.co); (· (first | (simp; done) | (simp; omega) | omega))) | assumption))) hb1 (by simp; try omega)
  refine dec_end (t := 31) (cs := #[.int .i64 i.op, .int .i64 i.a, .int .i64 i.b, .int .i64 i.c]) rfl rfl ?_ rfl rfl ⟨rfl, ?_⟩
  · (repeat (first | ((with_reducible apply rowAt.new); simp; done) | (with_reducible apply rowAt.drew) | (with_reducible apply rowAt.drewN) | (with_reducible apply rowAt.alloc) | (with_reducible apply rowAt.setRow_same) | ((with_reducible apply rowAt.so); (· (first | (simp; done) | (simp; omega) | omega))) | (with_reducible apply rowAt.set10) | (with_reducible apply rowAt.set8) | (with_reducible apply rowAt.set4) | (with_reducible apply rowAt.set2) | (with_reducible apply rowAt.set) | ((with_reducible apply rowAt.co); (· (first | (simp; done) | (simp; omega) | omega))) | assumption))
  · have hb2 : Below w.heap.size w w1 := (show Below w.heap.size w _ from by (repeat (first | (with_reducible exact Below.refl _ _) | (with_reducible apply Below.drew) | (with_reducible apply bl_drewN) | ((with_reducible apply bl_alloc); (· (first | (simp; done) | (simp; omega) | omega))) | ((with_reducible apply bl_row); (· (first | (simp; done) | (simp; omega) | omega))) | ((with_reducible apply bl_cell); (· (first | (simp; done) | (simp; omega) | omega))) | assumption))).trans (hb1.mono (by simp; try omega))
    (repeat (first | (with_reducible exact Below.refl _ _) | (with_reducible apply Below.drew) | (with_reducible apply bl_drewN) | ((with_reducible apply bl_alloc); (· (first | (simp; done) | (simp; omega) | omega))) | ((with_reducible apply bl_row); (· (first | (simp; done) | (simp; omega) | omega))) | ((with_reducible apply bl_cell); (· (first | (simp; done) | (simp; omega) | omega))) | assumption))
end Go.Proofs.YtghjjemnegncpaaGreatDoor
