/- Lines of a text, in plain lists. -/
import Derived.Test.YtghjjemnegncpaaGreatDoorText
import Derived.Lib.SplitLaws
import Derived.Lib.CountLaws
set_option linter.unusedSimpArgs false
set_option linter.unusedVariables false
namespace Go.Proofs.YtghjjemnegncpaaGreatDoor.Pl
open Go

/-- Lines with a newline between. -/
def joinN : List (List UInt8) → List UInt8
  | [] => []
  | [l] => l
  | l :: r => l ++ 10 :: joinN r

theorem joinN_cons (l : List UInt8) (x : List UInt8) (r : List (List UInt8)) : joinN (l :: x :: r) = l ++ 10 :: joinN (x :: r) := rfl

abbrev bs (l : List UInt8) : ByteArray := ⟨l.toArray⟩
theorem bs_size (l : List UInt8) : (bs l).size = l.length := by simp [ByteArray.size]
theorem bs_extract_head (l r : List UInt8) : (bs (l ++ r)).extract 0 l.length = bs l := by
  unfold bs
  rw [ByteArray.extract_mk]
  simp
theorem bs_extract_tail (l r : List UInt8) (b : UInt8) : (bs (l ++ b :: r)).extract (l.length + 1) (l ++ b :: r).length = bs r := by
  unfold bs
  rw [ByteArray.extract_mk]
  congr 1
  apply Array.ext'
  simp [List.extract_toArray]
  exact List.take_of_length_le (by omega)

theorem idx_line (l : List UInt8) (h : ∀ b ∈ l, b ≠ 10) : Lib.indexB (bs l) (bs [10]) = -1 := by
  show Lib.index _ _ = _
  simp only [bs]
  rw [Lib.index_one, index_absent l 10 h]
theorem idx_more (l r : List UInt8) (h : ∀ b ∈ l, b ≠ 10) : Lib.indexB (bs (l ++ 10 :: r)) (bs [10]) = (l.length : Nat) := by
  show Lib.index _ _ = _
  simp only [bs]
  rw [Lib.index_one, index_ahead l r 10 h]

theorem split_join : ∀ (L : List (List UInt8)), L ≠ [] → (∀ l ∈ L, ∀ b ∈ l, b ≠ 10) →
    Lib.countB (bs (joinN L)) (bs [10]) + 1 = L.length ∧ Lib.splitB (bs [10]) 0 (Lib.countB (bs (joinN L)) (bs [10])) (bs (joinN L)) = L.map bs
  | [], h, _ => absurd rfl h
  | [l], _, hl => by
    have hi := idx_line l (hl l (by simp))
    have hc := Lib.countB_miss (bs l) (bs [10]) hi
    simp only [joinN]
    rw [hc]
    exact ⟨rfl, Lib.splitB_miss _ _ _ _ hi⟩
  | l :: x :: r, _, hl => by
    have ih := split_join (x :: r) (by simp) fun y hy => hl y (by simp [hy])
    have hi := idx_more l (joinN (x :: r)) (hl l (by simp))
    rw [joinN_cons]
    have e1 : (bs (l ++ 10 :: joinN (x :: r))).extract (l.length + (bs [10]).size) (bs (l ++ 10 :: joinN (x :: r))).size = bs (joinN (x :: r)) := by
      rw [bs_size, bs_size]
      exact bs_extract_tail _ _ _
    have hc := Lib.countB_hit (bs (l ++ 10 :: joinN (x :: r))) (bs [10]) l.length (by rw [bs_size]; simp) hi
    rw [e1] at hc
    rw [hc]
    refine ⟨by have := ih.1; simp at this ⊢; omega, ?_⟩
    rw [Nat.add_comm, Lib.splitB_hit _ _ _ _ l.length hi, e1, ih.2, Nat.add_zero, bs_extract_head]
    simp
end Go.Proofs.YtghjjemnegncpaaGreatDoor.Pl
