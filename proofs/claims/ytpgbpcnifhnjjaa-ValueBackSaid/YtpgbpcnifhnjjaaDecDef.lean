/- What Decode computes, as plain Lean: a word's value, an error's number, how many parts were met. -/
import Derived.Test.YtpgbpcnifhnjjaaPValueOpsx0
namespace Go.Proofs.Ytpgbpcnifhnjjaa.PValueOps
open Go.RowKit Go.Proofs.YtpgbpcnifhnjjaaW.PrintWords
def zV : S24 := ⟨0, 0, []⟩
/-- The parts, one behind the other. -/
def rdL (f : Int → Int → S24 × Int × Int) : List Int → List S24 → Int → S24 × Int × Int
  | [], acc, met => (⟨4, 0, acc⟩, 0, met)
  | u :: us, acc, met => if (f u met).2.1 = 0 then rdL f us (acc ++ [(f u met).1]) (f u met).2.2 else (zV, (f u met).2.1, (f u met).2.2)
/-- The words of a tuple at an address: why there are none, or they. -/
def tupleAt (ws : List Int) (base at_ : Int) : Option (List Int) :=
  if at_ % 8 ≠ 0 ∨ at_ < base ∨ (at_ - base) % 8 ≠ 0 then none
  else if ws.length ≤ ((at_ - base) / 8).toNat then none
  else if ws.getD ((at_ - base) / 8).toNat 0 < 1 ∨ 4 < ws.getD ((at_ - base) / 8).toNat 0 ∨ (ws.length : Int) - (at_ - base) / 8 - 1 < ws.getD ((at_ - base) / 8).toNat 0 then none
  else some ((ws.drop (((at_ - base) / 8).toNat + 1)).take (ws.getD ((at_ - base) / 8).toNat 0).toNat)
def rdT (ws : List Int) (base : Int) (f : Int → Int → S24 × Int × Int) (at_ met : Int) : S24 × Int × Int :=
  match tupleAt ws base at_ with
  | none => (zV, 151, met)
  | some us => rdL f us [] met
/-- A word; t: its tuple. -/
def rdF (t : Int → S24 × Int × Int) (u met : Int) : S24 × Int × Int :=
  if 4096 < met + 1 then (zV, 150, met + 1)
  else if u % 4 = 0 then (⟨1, wrap64 u / 4, []⟩, 0, met + 1)
  else if u % 4 = 1 then t (met + 1)
  else if 1048576 ≤ u / 4 then (zV, 151, met + 1)
  else (⟨u % 4, u / 4, []⟩, 0, met + 1)
def rdV (ws : List Int) (base : Int) : Nat → Int → Int → S24 × Int × Int
  | 0, u, met => rdF (fun met' => (zV, 150, met')) u met
  | left + 1, u, met => rdF (fun met' => rdT ws base (rdV ws base left) (u - 1) met') u met
/-- A tuple, so many may stand in one another. -/
def rdX (ws : List Int) (base : Int) : Nat → Int → Int → S24 × Int × Int
  | 0, _, met => (zV, 150, met)
  | l + 1, at_, met => rdT ws base (rdV ws base l) at_ met
theorem rdV_eq (ws : List Int) (base : Int) (left : Nat) (u met : Int) : rdV ws base left u met = rdF (fun met' => rdX ws base left (u - 1) met') u met := by
  cases left <;> rfl
/-- Where it is no error few parts were met. -/
theorem rdL_met {f : Int → Int → S24 × Int × Int} (hf : ∀ u met, met ≤ 4096 → (f u met).2.1 = 0 → (f u met).2.2 ≤ 4096) : ∀ (us : List Int) (acc : List S24) (met : Int), met ≤ 4096 → (rdL f us acc met).2.1 = 0 → (rdL f us acc met).2.2 ≤ 4096
  | [], acc, met, hm, _ => hm
  | u :: us, acc, met, hm, h => by
    unfold rdL at h ⊢
    split at h
    · rename_i e
      rw [if_pos e]
      exact rdL_met hf us _ _ (hf u met hm e) h
    · rename_i e
      exact absurd h e
theorem rdF_met {t : Int → S24 × Int × Int} (ht : ∀ met, met ≤ 4096 → (t met).2.1 = 0 → (t met).2.2 ≤ 4096) (u met : Int) (h : (rdF t u met).2.1 = 0) : (rdF t u met).2.2 ≤ 4096 := by
  unfold rdF at h ⊢
  by_cases e0 : 4096 < met + 1
  · rw [if_pos e0] at h; simp at h
  rw [if_neg e0] at h ⊢
  by_cases e1 : u % 4 = 0
  · rw [if_pos e1]; show met + 1 ≤ 4096; omega
  rw [if_neg e1] at h ⊢
  by_cases e2 : u % 4 = 1
  · rw [if_pos e2] at h ⊢; exact ht _ (by omega) h
  rw [if_neg e2] at h ⊢
  by_cases e3 : 1048576 ≤ u / 4
  · rw [if_pos e3] at h; simp at h
  rw [if_neg e3]; show met + 1 ≤ 4096; omega
theorem rdV_met (ws : List Int) (base : Int) : ∀ (left : Nat) (u met : Int), met ≤ 4096 → (rdV ws base left u met).2.1 = 0 → (rdV ws base left u met).2.2 ≤ 4096
  | 0, u, met, _, h => rdF_met (t := fun met' => (zV, 150, met')) (fun met hm h => by simp at h) u met h
  | left + 1, u, met, _, h => rdF_met (t := fun met' => rdT ws base (rdV ws base left) (u - 1) met') (fun met hm h => by
      unfold rdT at h ⊢
      split at h
      · simp at h
      · rename_i us e
        exact rdL_met (rdV_met ws base left) us [] met hm h) u met h
theorem rdL_ge {f : Int → Int → S24 × Int × Int} (hf : ∀ u met, met ≤ (f u met).2.2) : ∀ (us : List Int) (acc : List S24) (met : Int), met ≤ (rdL f us acc met).2.2
  | [], acc, met => Int.le_refl _
  | u :: us, acc, met => by
    unfold rdL
    split
    · exact Int.le_trans (hf u met) (rdL_ge hf us _ _)
    · exact hf u met
theorem rdF_ge {t : Int → S24 × Int × Int} (ht : ∀ met, met ≤ (t met).2.2) (u met : Int) : met ≤ (rdF t u met).2.2 := by
  have := ht (met + 1)
  unfold rdF
  repeat' split
  all_goals first | (show met ≤ met + 1; omega) | omega
theorem rdV_ge (ws : List Int) (base : Int) : ∀ (left : Nat) (u met : Int), met ≤ (rdV ws base left u met).2.2
  | 0, u, met => rdF_ge (t := fun met' => (zV, 150, met')) (fun met => Int.le_refl _) u met
  | left + 1, u, met => rdF_ge (t := fun met' => rdT ws base (rdV ws base left) (u - 1) met') (fun met => by
      unfold rdT
      split
      · exact Int.le_refl _
      · exact rdL_ge (rdV_ge ws base left) _ _ _) u met
end Go.Proofs.Ytpgbpcnifhnjjaa.PValueOps
