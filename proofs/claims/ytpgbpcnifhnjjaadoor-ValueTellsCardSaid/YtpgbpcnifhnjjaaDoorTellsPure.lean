/- The chapter's Same and the document's good, as plain Lean: the same as the other's. -/
import Derived.Test.YtpgbpcnifhnjjaaDoorTreePure
import Derived.Test.YtpgbpcnifhnjjaaDoorSignPure
import Derived.Test.YtpgbpcnifhnjjaaDoorPValueTellsx6
import Derived.Test.YtpgbpcnifhnjjaaDoorPValueTellsx7
namespace Go.Proofs.YtpgbpcnifhnjjaaDoor.PValueTells
open Go.RowKit Go.Proofs.YtpgbpcnifhnjjaaDoorW.PrintWords
set_option linter.unusedVariables false
set_option linter.unusedSimpArgs false
theorem wrap_same (n : Int) : (wrap64 (n * 4)) / 4 = (n + 2305843009213693952) % 4611686018427387904 - 2305843009213693952 := by unfold wrap64; omega

/-! #### the chapter's Same -/
theorem vsame_l (l l' : List S24) (k0 n0 k1 n1 : Int) (hlen : l.length ≤ 9223372036854775807) (hll : l.length = l'.length) (ih : ∀ y ∈ l, ∀ z : S24, Ev (fun k => value_Same.f k y.f0 y.f1 y.f2 z.f0 z.f1 z.f2) (sameT y z)) : ∀ (d i : Nat), i + d = l.length →
    Ev (fun k => value_Same.l0 k (l.length : Int) (i : Int) k0 n0 l k1 n1 l') (sameL (l.drop i) (l'.drop i))
  | 0, i, hi => by
    rw [List.drop_of_length_le (by omega), sameL]
    refine Ev.step (f := fun _ => some true) (fun k => ?_) (Ev.now _)
    simp only [value_Same.l0]; rw [if_neg (by omega)]
  | d + 1, i, hi => by
    have hil : i < l.length := by omega
    have hil' : i < l'.length := by omega
    rw [List.drop_eq_getElem_cons hil, List.drop_eq_getElem_cons hil', sameL]
    refine Ev.step (f := fun k => (value_Same.f k (l[i]).f0 (l[i]).f1 (l[i]).f2 (l'[i]).f0 (l'[i]).f1 (l'[i]).f2).bind fun t => if t = true then value_Same.l0 k (l.length : Int) ((i + 1 : Nat) : Int) k0 n0 l k1 n1 l' else some false) (fun k => ?_) ?_
    · simp only [value_Same.l0]
      rw [if_pos (by omega), if_pos (by omega), if_pos (by omega), if_pos (by omega), rd_at hil, rd_at hil', w64' (by omega) (by omega), show ((i + 1 : Nat) : Int) = (i : Int) + 1 by omega]
    · refine Ev.bind (ih _ (List.getElem_mem hil) _) ?_
      cases sameT l[i] l'[i] with
      | true => simpa using vsame_l l l' k0 n0 k1 n1 hlen hll ih d (i + 1) (by omega)
      | false => simpa using Ev.now false
theorem vsame_ev {x : S24} (h : WfT x) : ∀ z : S24, Ev (fun k => value_Same.f k x.f0 x.f1 x.f2 z.f0 z.f1 z.f2) (sameT x z) := by
  induction h with
  | mk h0 h1 hl h2 ih =>
    rename_i kind n args
    rintro ⟨k', n', l'⟩
    unfold sameT
    by_cases e : kind = k' ∧ n = n' ∧ args.length = l'.length
    · obtain ⟨e1, e2, e3⟩ := e
      have he : (kind == k' && n == n' && args.length == l'.length && sameL args l') = sameL (args.drop 0) (l'.drop 0) := by simp [e1, e2, e3]
      rw [he]
      refine Ev.step (f := fun k => value_Same.l0 k (args.length : Int) ((0 : Nat) : Int) kind n args k' n' l') (fun k => ?_) (vsame_l args l' kind n k' n' hl e3 ih args.length 0 (by omega))
      simp only [value_Same.f]
      rw [if_neg (by simp [e1, e2, e3])]
      rfl
    · have he : (kind == k' && n == n' && args.length == l'.length && sameL args l') = false := by
        rw [Bool.eq_false_iff]
        intro h
        simp only [Bool.and_eq_true, beq_iff_eq] at h
        exact e ⟨h.1.1.1, h.1.1.2, h.1.2⟩
      rw [he]
      refine Ev.step (f := fun _ => some false) (fun k => ?_) (Ev.now _)
      simp only [value_Same.f]
      rw [if_pos ?_]
      simp only [Bool.or_eq_true, Bool.not_eq_true', beq_eq_false_iff_ne]
      by_cases e1 : kind = k'
      · by_cases e2 : n = n'
        · exact .inr (.inr (fun e3 => e ⟨e1, e2, by omega⟩))
        · exact .inr (.inl e2)
      · exact .inl e1

/-! #### the document's good -/
theorem fits_ev (n : Int) (h0 : -9223372036854775808 ≤ n) (h1 : n ≤ 9223372036854775807) : Ev (fun k => postbagref01_Fits.f k n 62) ((wrap64 (n * 4)) / 4 == n) := by
  refine ⟨200, fun k hk => ?_⟩
  show postbagref01_Fits.f k n 62 = _
  unfold postbagref01_Fits.f
  rw [if_neg (by decide), if_neg (by decide), u64w, sign62 _ (by omega) (by omega) k (by omega), Option.bind_some]
  congr 1
  rw [Bool.eq_iff_iff, beq_iff_eq, beq_iff_eq, wrap_same]
  omega
theorem rgood_l (left : Nat) (hl : left ≤ 1000) (h1 : 1 ≤ left) (kind n : Int) (l : List S24) (hlen : l.length ≤ 4) (ih : ∀ y ∈ l, ∀ m : Nat, m ≤ 1000 → Ev (fun k => postbagref15_good.f k y.f0 y.f1 y.f2 (m : Int)) (goodT y m)) : ∀ (d i : Nat), i + d = l.length →
    Ev (fun k => postbagref15_good.l0 k (left : Int) (i : Int) kind n l) (goodL (l.drop i) (left - 1))
  | 0, i, hi => by
    rw [List.drop_of_length_le (by omega), goodL]
    refine Ev.step (f := fun _ => some true) (fun k => ?_) (Ev.now _)
    simp only [postbagref15_good.l0]; rw [if_neg (by omega)]
  | d + 1, i, hi => by
    have hil : i < l.length := by omega
    rw [List.drop_eq_getElem_cons hil, goodL]
    refine Ev.step (f := fun k => (postbagref15_good.f k (l[i]).f0 (l[i]).f1 (l[i]).f2 ((left - 1 : Nat) : Int)).bind fun t => if t = true then postbagref15_good.l0 k (left : Int) ((i + 1 : Nat) : Int) kind n l else some false) (fun k => ?_) ?_
    · simp only [postbagref15_good.l0]
      rw [if_pos (by omega), if_pos (by omega), rd_at hil, w64' (by omega) (by omega), w64' (n := (i : Int) + 1) (by omega) (by omega), show ((i + 1 : Nat) : Int) = (i : Int) + 1 by omega, show ((left - 1 : Nat) : Int) = (left : Int) - 1 by omega]
    · refine Ev.bind (ih _ (List.getElem_mem hil) (left - 1) (by omega)) ?_
      cases goodT l[i] (left - 1) with
      | true => simpa using rgood_l left hl h1 kind n l hlen ih d (i + 1) (by omega)
      | false => simpa using Ev.now false
theorem rgood_ev {x : S24} (h : WfT x) : ∀ m : Nat, m ≤ 1000 → Ev (fun k => postbagref15_good.f k x.f0 x.f1 x.f2 (m : Int)) (goodT x m) := by
  induction h with
  | mk h0 h1 hl h2 ih =>
    intro m hm
    rename_i kind n args
    have hr : (decide (-9223372036854775808 ≤ n) && decide (n ≤ 9223372036854775807)) = true := h1
    simp only [Bool.and_eq_true, decide_eq_true_eq] at hr
    unfold goodT
    by_cases k1 : kind = 1
    · subst k1
      simp only [if_true]
      by_cases e : args.length = 0
      · refine Ev.step (f := fun k => (postbagref01_Fits.f k n 62).bind fun t136 => some t136) (fun k => ?_) ?_
        · simp only [postbagref15_good.f]
          rw [if_pos (by trivial), if_pos (by omega)]
        · have := Ev.bind (f := fun _ t => some t) (fits_ev n hr.1 hr.2) (Ev.now _)
          simpa [e] using this
      · refine Ev.step (f := fun _ => some false) (fun k => ?_) (by rw [show (args.length == 0) = false by simp [e], Bool.false_and]; exact Ev.now false)
        simp only [postbagref15_good.f]
        rw [if_pos (by trivial), if_neg (by omega)]
    · rw [if_neg k1]
      by_cases k2 : kind = 2 ∨ kind = 3
      · rw [if_pos k2]
        refine Ev.step (f := fun k => postbagref15_good.j0 k (m : Int) kind true kind n args) (fun k => ?_) (Ev.step (f := fun _ => some (args.length == 0 && decide (n ≥ 0) && decide (n < 1048576))) (fun k => ?_) (Ev.now _))
        · simp only [postbagref15_good.f]
          rcases k2 with rfl | rfl <;> rfl
        · simp only [postbagref15_good.j0, if_true]
          by_cases e : args.length = 0 <;> by_cases e2 : n ≥ 0 <;> simp [e, e2]
      · rw [if_neg k2]
        have start : ∀ k, postbagref15_good.f (k + 1) kind n args (m : Int) = postbagref15_good.j0 k (m : Int) kind false kind n args := fun k => by
          simp only [postbagref15_good.f]
          rw [if_neg k1, if_neg (fun e => k2 (.inl e)), show (kind == 3) = false by simpa using fun e => k2 (.inr e)]
        by_cases k4 : kind = 4
        · subst k4
          rw [if_pos rfl]
          by_cases hn : n = 0 ∧ args.length ≠ 0 ∧ args.length ≤ 4 ∧ m ≠ 0
          · obtain ⟨rfl, e1, e2, e3⟩ := hn
            have hg := rgood_l m hm (by omega) 4 0 args e2 ih args.length 0 (by omega)
            have he : ((0 : Int) == 0 && args.length != 0 && decide (args.length ≤ 4) && m != 0 && goodL args (m - 1)) = goodL (args.drop 0) (m - 1) := by simp [e1, e2, e3]
            rw [he]
            refine Ev.step start (Ev.step (f := fun k => postbagref15_good.j1 k (m : Int) false 4 0 args) (fun k => ?_) (Ev.step (f := fun k => postbagref15_good.l0 k (m : Int) ((0 : Nat) : Int) 4 0 args) (fun k => by simp only [postbagref15_good.j1]; rfl) hg))
            simp only [postbagref15_good.j0]
            rw [if_neg (by decide), if_pos (by trivial), if_pos (by trivial), if_neg (by omega), if_neg (by omega), show (((m : Nat) : Int) == 0) = false by simpa using e3]
          · have he : (n == 0 && args.length != 0 && decide (args.length ≤ 4) && m != 0 && goodL args (m - 1)) = false := by
              rw [Bool.eq_false_iff]
              intro h
              simp only [Bool.and_eq_true, beq_iff_eq, bne_iff_ne, decide_eq_true_eq] at h
              exact hn ⟨h.1.1.1.1, h.1.1.1.2, h.1.1.2, h.1.2⟩
            rw [he]
            refine Ev.step start (Ev.step (f := fun k => postbagref15_good.j1 k (m : Int) true 4 n args) (fun k => ?_) (Ev.step (f := fun _ => some false) (fun k => by simp only [postbagref15_good.j1]; rfl) (Ev.now _)))
            simp only [postbagref15_good.j0]
            rw [if_neg (by decide), if_pos (by trivial)]
            by_cases a1 : n = 0
            · rw [if_pos a1]
              by_cases a2 : args.length = 0
              · rw [if_pos (by omega), a1]
              · rw [if_neg (by omega)]
                by_cases a3 : args.length ≤ 4
                · rw [if_neg (by omega), a1]
                  have a4 : m = 0 := by
                    rcases Nat.eq_zero_or_pos m with h | h
                    · exact h
                    · exact absurd ⟨a1, a2, a3, by omega⟩ hn
                  subst a4
                  rfl
                · rw [if_pos (by omega), a1]
            · rw [if_neg a1]
        · rw [if_neg k4]
          refine Ev.step start (Ev.step (f := fun _ => some false) (fun k => ?_) (Ev.now _))
          simp only [postbagref15_good.j0]
          rw [if_neg (by decide), if_neg k4]
theorem RGood_ev {x : S24} (h : WfT x) : Ev (fun k => postbagref15_Good.f k x.f0 x.f1 x.f2) (goodT x 64) := by
  have := rgood_ev h 64 (by decide)
  exact Ev.congr (g := fun k => postbagref15_Good.f k x.f0 x.f1 x.f2) (f := fun k => postbagref15_good.f k x.f0 x.f1 x.f2 64) (fun k => by unfold postbagref15_Good.f; cases postbagref15_good.f k x.f0 x.f1 x.f2 64 <;> rfl) this
end Go.Proofs.YtpgbpcnifhnjjaaDoor.PValueTells
