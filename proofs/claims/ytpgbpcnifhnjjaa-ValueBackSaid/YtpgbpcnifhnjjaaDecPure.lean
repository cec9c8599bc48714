/- A word that is a value is a good one, and what stands for none is a value that can be compared. Plain Lean. -/
import Derived.Test.YtpgbpcnifhnjjaaDecDef
import Derived.Test.YtpgbpcnifhnjjaaTreePure
namespace Go.Proofs.Ytpgbpcnifhnjjaa.PValueOps
open Go.RowKit Go.Proofs.YtpgbpcnifhnjjaaW.PrintWords
theorem goodL_all {left : Nat} : ∀ (l : List S24), (∀ y ∈ l, goodT y left = true) → goodL l left = true
  | [], _ => rfl
  | x :: xs, h => by
    unfold goodL
    rw [h x (by simp), goodL_all xs (fun y hy => h y (by simp [hy]))]
    rfl
theorem wf64 {n : Int} (h0 : -9223372036854775808 ≤ n) (h1 : n ≤ 9223372036854775807) : (Lit.int .i64 n).wf = true := by
  show (decide (-9223372036854775808 ≤ n) && decide (n ≤ 9223372036854775807)) = true
  simp [h0, h1]
theorem zV_wf : WfT zV := .mk (wf64 (by decide) (by decide)) (wf64 (by decide) (by decide)) (by simp) (fun y hy => by cases hy)
theorem rdL_good {f : Int → Int → S24 × Int × Int} {left : Nat} (hf : ∀ u met, 0 ≤ u → (f u met).2.1 = 0 → goodT (f u met).1 left = true ∧ WfT (f u met).1) : ∀ (us : List Int) (acc : List S24) (met : Int), (∀ u ∈ us, 0 ≤ u) → (∀ y ∈ acc, goodT y left = true ∧ WfT y) → (rdL f us acc met).2.1 = 0 → ∃ l, (rdL f us acc met).1 = ⟨4, 0, l⟩ ∧ l.length = acc.length + us.length ∧ ∀ y ∈ l, goodT y left = true ∧ WfT y
  | [], acc, met, _, ha, _ => ⟨acc, rfl, rfl, ha⟩
  | u :: us, acc, met, hu, ha, h => by
    unfold rdL at h ⊢
    split at h
    · rename_i e
      rw [if_pos e]
      obtain ⟨l, h1, h2, h3⟩ := rdL_good hf us (acc ++ [(f u met).1]) (f u met).2.2 (fun v hv => hu v (by simp [hv])) (fun y hy => by
        rcases List.mem_append.1 hy with hy | hy
        · exact ha y hy
        · rw [List.mem_singleton.1 hy]; exact hf u met (hu u (by simp)) e) h
      exact ⟨l, h1, by rw [h2]; simp; omega, h3⟩
    · rename_i e
      exact absurd h e
theorem tupleAt_some {ws : List Int} {base at_ : Int} {us : List Int} (h : tupleAt ws base at_ = some us) : 1 ≤ us.length ∧ us.length ≤ 4 ∧ ∀ u ∈ us, u ∈ ws := by
  unfold tupleAt at h
  split at h
  · cases h
  split at h
  · cases h
  split at h
  · cases h
  rename_i h1 h2 h3
  injection h with h
  subst h
  refine ⟨?_, ?_, fun u hu => List.mem_of_mem_drop (List.mem_of_mem_take hu)⟩
  · rw [List.length_take, List.length_drop]; omega
  · rw [List.length_take, List.length_drop]; omega
theorem rdF_good {t : Int → S24 × Int × Int} {left : Nat} (ht : ∀ met, (t met).2.1 = 0 → goodT (t met).1 left = true ∧ WfT (t met).1) (u met : Int) (hu : 0 ≤ u) (h : (rdF t u met).2.1 = 0) : goodT (rdF t u met).1 left = true ∧ WfT (rdF t u met).1 := by
  unfold rdF at h ⊢
  by_cases e0 : 4096 < met + 1
  · rw [if_pos e0] at h; simp at h
  rw [if_neg e0] at h ⊢
  by_cases e1 : u % 4 = 0
  · rw [if_pos e1]
    have hr : -9223372036854775808 ≤ wrap64 u ∧ wrap64 u ≤ 9223372036854775807 := by unfold wrap64; omega
    refine ⟨?_, .mk (wf64 (by decide) (by decide)) (wf64 (by omega) (by omega)) (by simp) (fun y hy => by cases hy)⟩
    unfold goodT
    simp only [if_true, List.length_nil, beq_self_eq_true, Bool.true_and, beq_iff_eq]
    rw [w64' (by omega) (by omega)]
    omega
  rw [if_neg e1] at h ⊢
  by_cases e2 : u % 4 = 1
  · rw [if_pos e2] at h ⊢; exact ht _ h
  rw [if_neg e2] at h ⊢
  by_cases e3 : 1048576 ≤ u / 4
  · rw [if_pos e3] at h; simp at h
  rw [if_neg e3]
  refine ⟨?_, .mk (wf64 (by omega) (by omega)) (wf64 (by omega) (by omega)) (by simp) (fun y hy => by cases hy)⟩
  unfold goodT
  rw [if_neg (by omega), if_pos (by omega)]
  simp
  omega
theorem rdT_good {ws : List Int} (hws : ∀ x ∈ ws, 0 ≤ x) {base : Int} {f : Int → Int → S24 × Int × Int} {left : Nat} (hf : ∀ u met, 0 ≤ u → (f u met).2.1 = 0 → goodT (f u met).1 left = true ∧ WfT (f u met).1) (at_ met : Int) (h : (rdT ws base f at_ met).2.1 = 0) : goodT (rdT ws base f at_ met).1 (left + 1) = true ∧ WfT (rdT ws base f at_ met).1 := by
  unfold rdT at h ⊢
  split at h
  · simp at h
  · rename_i us e
    obtain ⟨n1, n2, n3⟩ := tupleAt_some e
    obtain ⟨l, h1, h2, h3⟩ := rdL_good hf us [] met (fun u hu => hws u (n3 u hu)) (fun y hy => by cases hy) h
    show goodT (rdL f us [] met).1 (left + 1) = true ∧ WfT (rdL f us [] met).1
    rw [h1]
    simp only [List.length_nil, Nat.zero_add] at h2
    refine ⟨?_, .mk (wf64 (by decide) (by decide)) (wf64 (by decide) (by decide)) (by omega) (fun y hy => (h3 y hy).2)⟩
    unfold goodT
    have := goodL_all l (fun y hy => (h3 y hy).1)
    have e1 : l.length ≠ 0 := by omega
    have e2 : l.length ≤ 4 := by omega
    simp [this, e1, e2]
theorem rdV_good {ws : List Int} (hws : ∀ x ∈ ws, 0 ≤ x) (base : Int) : ∀ (left : Nat) (u met : Int), 0 ≤ u → (rdV ws base left u met).2.1 = 0 → goodT (rdV ws base left u met).1 left = true ∧ WfT (rdV ws base left u met).1
  | 0, u, met, hu, h => rdF_good (t := fun met' => (zV, 150, met')) (fun met h => by simp at h) u met hu h
  | left + 1, u, met, hu, h => rdF_good (t := fun met' => rdT ws base (rdV ws base left) (u - 1) met') (fun met h => rdT_good hws (rdV_good hws base left) (u - 1) met h) u met hu h
theorem rdL_zero {f : Int → Int → S24 × Int × Int} : ∀ (us : List Int) (acc : List S24) (met : Int), (rdL f us acc met).2.1 ≠ 0 → (rdL f us acc met).1 = zV
  | [], acc, met, h => absurd rfl h
  | u :: us, acc, met, h => by
    unfold rdL at h ⊢
    split at h
    · rename_i e
      rw [if_pos e]
      exact rdL_zero us _ _ h
    · rename_i e
      rw [if_neg e]
theorem rdF_zero {t : Int → S24 × Int × Int} (ht : ∀ met, (t met).2.1 ≠ 0 → (t met).1 = zV) (u met : Int) (h : (rdF t u met).2.1 ≠ 0) : (rdF t u met).1 = zV := by
  unfold rdF at h ⊢
  by_cases e0 : 4096 < met + 1
  · rw [if_pos e0]
  rw [if_neg e0] at h ⊢
  by_cases e1 : u % 4 = 0
  · rw [if_pos e1] at h; simp at h
  rw [if_neg e1] at h ⊢
  by_cases e2 : u % 4 = 1
  · rw [if_pos e2] at h ⊢; exact ht _ h
  rw [if_neg e2] at h ⊢
  by_cases e3 : 1048576 ≤ u / 4
  · rw [if_pos e3]
  rw [if_neg e3] at h; simp at h
theorem rdV_zero (ws : List Int) (base : Int) : ∀ (left : Nat) (u met : Int), (rdV ws base left u met).2.1 ≠ 0 → (rdV ws base left u met).1 = zV
  | 0, u, met, h => rdF_zero (t := fun met' => (zV, 150, met')) (fun met h => rfl) u met h
  | left + 1, u, met, h => rdF_zero (t := fun met' => rdT ws base (rdV ws base left) (u - 1) met') (fun met h => by
      unfold rdT at h ⊢
      split at h
      · rfl
      · rename_i us e
        exact rdL_zero us [] met h) u met h
theorem rdV_wf {ws : List Int} (hws : ∀ x ∈ ws, 0 ≤ x) (base : Int) (left : Nat) (u met : Int) (hu : 0 ≤ u) : WfT (rdV ws base left u met).1 := by
  by_cases e : (rdV ws base left u met).2.1 = 0
  · exact (rdV_good hws base left u met hu e).2
  · rw [rdV_zero ws base left u met e]; exact zV_wf
end Go.Proofs.Ytpgbpcnifhnjjaa.PValueOps
