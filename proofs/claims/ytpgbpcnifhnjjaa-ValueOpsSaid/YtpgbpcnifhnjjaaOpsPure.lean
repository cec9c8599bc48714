/- value.Op and the document's Op come to the same number, at any sign and any two values. -/
import Derived.Test.YtpgbpcnifhnjjaaSignPure
import Derived.Test.YtpgbpcnifhnjjaaRingPure
import Derived.Test.YtpgbpcnifhnjjaaRefOpN
import Derived.Test.YtpgbpcnifhnjjaaHoldsN
namespace Go.Proofs.Ytpgbpcnifhnjjaa.PValueOps
open Go.RowKit Go.Proofs.YtpgbpcnifhnjjaaW.PrintWords
theorem refWrap_wr (n : Int) (k : Nat) (hk : 136 < k) : postbagref15_Wrap.f k n = some (wr n) := by rw [refWrap_f n k hk, wr_eq]
theorem ops_same (s : ByteArray) (a0 a1 : Int) (al : List S24) (b0 b1 : Int) (bl : List S24) : ∃ n : Int, value_Op.f s a0 a1 al b0 b1 bl = some (1, n, []) ∧ postbagref15_Op.f 137 s a0 a1 al b0 b1 bl = some (1, n, []) := by
  have hx : value_number.f a0 a1 al = some (if a0 = 1 then a1 else 0) := by unfold value_number.f; split <;> rfl
  have hy : value_number.f b0 b1 bl = some (if b0 = 1 then b1 else 0) := by unfold value_number.f; split <;> rfl
  have gx : postbagref15_number.f a0 a1 al = some (if a0 = 1 then a1 else 0) := by unfold postbagref15_number.f; split <;> rfl
  have gy : postbagref15_number.f b0 b1 bl = some (if b0 = 1 then b1 else 0) := by unfold postbagref15_number.f; split <;> rfl
  have hw : ∀ n, value_Wrap.f n = some (wr n) := fun n => rfl
  have gw : ∀ n, postbagref15_Wrap.f 137 n = some (wr n) := fun n => refWrap_wr n 137 (by decide)
  generalize (if a0 = 1 then a1 else 0) = x at hx gx
  generalize (if b0 = 1 then b1 else 0) = y at hy gy
  unfold value_Op.f postbagref15_Op.f
  rw [hx, hy, gx, gy]
  simp only [Option.bind_some, hw, gw]
  by_cases h1 : s.toList = [43]
  · exact ⟨_, by rw [if_pos h1], by rw [if_pos h1]⟩
  rw [if_neg h1, if_neg h1]
  by_cases h2 : s.toList = [45]
  · exact ⟨_, by rw [if_pos h2], by rw [if_pos h2]⟩
  rw [if_neg h2, if_neg h2]
  by_cases h3 : s.toList = [42]
  · exact ⟨_, by rw [if_pos h3], by rw [if_pos h3]⟩
  rw [if_neg h3, if_neg h3]
  by_cases h4 : s.toList = [60]
  · rw [if_pos h4, if_pos h4]
    by_cases e : x < y
    · exact ⟨1, by simp [value_truth.f, e], by simp [e]⟩
    · exact ⟨0, by simp [value_truth.f, e], by simp [e]⟩
  rw [if_neg h4, if_neg h4]
  by_cases h5 : s.toList = [61, 61]
  · rw [if_pos h5, if_pos h5]
    by_cases e : a0 = b0
    · rw [if_pos e, if_pos e]
      by_cases e4 : a0 = 4
      · exact ⟨0, by rw [if_pos e4]; rfl, by rw [if_pos e4]⟩
      · rw [if_neg e4, if_neg e4]
        by_cases e5 : a1 = b1
        · exact ⟨1, by simp [value_truth.f, e5], by simp [e5]⟩
        · exact ⟨0, by simp [value_truth.f, e5], by simp [e5]⟩
    · exact ⟨0, by rw [if_neg e]; rfl, by rw [if_neg e]⟩
  exact ⟨0, by rw [if_neg h5], by rw [if_neg h5]⟩
theorem holds_same (a0 a1 : Int) (al : List S24) : ∃ b : Bool, value_Holds.f a0 a1 al = some b ∧ postbagref15_Holds.f a0 a1 al = some b := by
  unfold value_Holds.f postbagref15_Holds.f value_number.f postbagref15_number.f
  split <;> exact ⟨_, rfl, rfl⟩
end Go.Proofs.Ytpgbpcnifhnjjaa.PValueOps
