/- What was encoded is decoded as it, whatever stood ahead and whatever stands behind. Plain Lean. -/
import Derived.Test.YtpgbpcnifhnjjaaEncDef
import Derived.Test.YtpgbpcnifhnjjaaDecPure
import Derived.Laws.BitsLemmas
namespace Go.Proofs.Ytpgbpcnifhnjjaa.PValueOps
open Go.RowKit Go.Proofs.YtpgbpcnifhnjjaaW.PrintWords
theorem u64w (n : Int) : IntKind.u64.wrap n = n % 18446744073709551616 := rfl
theorem or23 {n c : Int} (h0 : 0 ≤ n) (h1 : n < 1048576) (hc0 : 0 ≤ c) (hc : c < 4) : bits .or .u64 (IntKind.u64.wrap (IntKind.u64.wrap n * 4)) c = 4 * n + c := by
  have e : IntKind.u64.wrap (IntKind.u64.wrap n * 4) = 4 * n := by rw [u64w, u64w]; omega
  rw [e]
  exact bits_join .u64 64 (by decide) (fun m hm0 hm1 => by rw [u64w]; omega) 2 (4 * n) c (by omega) (by omega) (by omega) hc0 (by omega) (by omega)
theorem encW_in (kind n : Int) : 0 ≤ encW kind n ∧ encW kind n ≤ 18446744073709551615 := by
  unfold encW
  have h : ∀ m : Int, 0 ≤ IntKind.u64.wrap m ∧ IntKind.u64.wrap m ≤ 18446744073709551615 := fun m => by rw [u64w]; omega
  split
  · exact h _
  · split
    · exact h _
    · exact h _
mutual
theorem encT_in (base : Int) : ∀ (x : S24) (out : List Int), (∀ v ∈ out, 0 ≤ v ∧ v ≤ 18446744073709551615) → wordsT x ≤ 1000000000000 → (0 ≤ (encT base x out).1 ∧ (encT base x out).1 ≤ 18446744073709551615) ∧ ∀ v ∈ (encT base x out).2, 0 ≤ v ∧ v ≤ 18446744073709551615
  | ⟨kind, n, args⟩, out, ho, hw => by
    unfold encT
    by_cases h : flat kind = true
    · simp only [h, if_true]
      exact ⟨encW_in kind n, ho⟩
    · rw [wordsT_tuple (by simpa using h)] at hw
      simp only [h, if_false, Bool.false_eq_true]
      refine ⟨by rw [u64w]; omega, encL_in base args _ _ (fun v hv => ?_) (by omega)⟩
      simp only [List.append_assoc, List.mem_append, List.mem_singleton, List.mem_replicate] at hv
      rcases hv with hv | rfl | ⟨_, rfl⟩
      · exact ho v hv
      · omega
      · omega
theorem encL_in (base : Int) : ∀ (l : List S24) (p : Nat) (out : List Int), (∀ v ∈ out, 0 ≤ v ∧ v ≤ 18446744073709551615) → wordsL l ≤ 1000000000000 → ∀ v ∈ encL base l p out, 0 ≤ v ∧ v ≤ 18446744073709551615
  | [], p, out, ho, _ => ho
  | x :: xs, p, out, ho, hw => by
    unfold wordsL at hw
    unfold encL
    have h := encT_in base x out ho (by omega)
    refine encL_in base xs _ _ (fun v hv => ?_) (by omega)
    rcases List.mem_or_eq_of_mem_set hv with hv | rfl
    · exact h.2 v hv
    · exact h.1
end
mutual
/-- The word u stands for the value among these words; its tuples lie at or behind the place lo. -/
def RepT (lo : Nat) (ws : List Int) (base : Int) : S24 → Int → Prop
  | ⟨kind, n, args⟩, u => (flat kind = true → u = encW kind n) ∧ (flat kind = false → ∃ p : Nat, lo ≤ p ∧ u = base + 8 * (p : Int) + 1 ∧ ws[p]? = some (args.length : Int) ∧ RepL lo ws base args (p + 1))
def RepL (lo : Nat) (ws : List Int) (base : Int) : List S24 → Nat → Prop
  | [], _ => True
  | x :: xs, q => (∃ v, ws[q]? = some v ∧ RepT lo ws base x v) ∧ RepL lo ws base xs (q + 1)
end
mutual
theorem RepT.turn {lo lo' : Nat} {ws ws' : List Int} {base : Int} (hlo : lo' ≤ lo) (ha : ∀ (i : Nat) (v : Int), lo ≤ i → ws[i]? = some v → ws'[i]? = some v) : ∀ (x : S24) (u : Int), RepT lo ws base x u → RepT lo' ws' base x u
  | ⟨kind, n, args⟩, u, h => by
    unfold RepT at h ⊢
    refine ⟨h.1, fun hf => ?_⟩
    obtain ⟨p, h1, h2, h3, h4⟩ := h.2 hf
    exact ⟨p, by omega, h2, ha _ _ h1 h3, RepL.turn hlo ha args (p + 1) (fun i v hi _ => ha i v (by omega)) h4⟩
theorem RepL.turn {lo lo' : Nat} {ws ws' : List Int} {base : Int} (hlo : lo' ≤ lo) (ha : ∀ (i : Nat) (v : Int), lo ≤ i → ws[i]? = some v → ws'[i]? = some v) : ∀ (l : List S24) (q : Nat), (∀ (i : Nat) (v : Int), q ≤ i → i < q + l.length → ws[i]? = some v → ws'[i]? = some v) → RepL lo ws base l q → RepL lo' ws' base l q
  | [], q, _, _ => by unfold RepL; trivial
  | x :: xs, q, hq, h => by
    unfold RepL at h ⊢
    obtain ⟨⟨v, h1, h2⟩, h3⟩ := h
    exact ⟨⟨v, hq q v (by omega) (by simp) h1, RepT.turn hlo ha x v h2⟩, RepL.turn hlo ha xs (q + 1) (fun i v hi hi2 => hq i v (by omega) (by simp only [List.length_cons]; omega)) h3⟩
end
mutual
theorem encT_rep (base : Int) (hb0 : 0 ≤ base) (hb1 : base ≤ 1000000000000) : ∀ (x : S24) (out : List Int), out.length + wordsT x ≤ 1000000000000 → RepT out.length (encT base x out).2 base x (encT base x out).1 ∧ ∀ i, i < out.length → (encT base x out).2[i]? = out[i]?
  | ⟨kind, n, args⟩, out, hw => by
    by_cases h : flat kind = true
    · rw [encT_flat h]
      unfold RepT
      exact ⟨⟨fun _ => rfl, fun hf => by rw [h] at hf; cases hf⟩, fun i _ => rfl⟩
    · have h : flat kind = false := by simpa using h
      rw [wordsT_tuple h] at hw
      rw [encT_tuple h]
      have hl : (out ++ [(args.length : Int)] ++ List.replicate args.length 0).length = out.length + 1 + args.length := by simp; omega
      obtain ⟨h1, h2⟩ := encL_rep base hb0 hb1 args (out.length + 1) (out ++ [(args.length : Int)] ++ List.replicate args.length 0) (by omega) (by omega)
      unfold RepT
      refine ⟨⟨fun hf => (by rw [h] at hf; cases hf), fun _ => ⟨out.length, Nat.le_refl _, ?_, ?_, RepL.turn (by omega) (fun _ _ _ h => h) args _ (fun _ _ _ _ h => h) h1⟩⟩, fun i hi => ?_⟩
      · rw [u64w, u64w]; omega
      · show (encL base args (out.length + 1) _)[out.length]? = _
        rw [h2 _ (by omega) (.inl (by omega))]
        simp
      · show (encL base args (out.length + 1) _)[i]? = _
        rw [h2 _ (by omega) (.inl (by omega)), List.append_assoc, List.getElem?_append_left hi]
theorem encL_rep (base : Int) (hb0 : 0 ≤ base) (hb1 : base ≤ 1000000000000) : ∀ (l : List S24) (p : Nat) (out : List Int), p + l.length ≤ out.length → out.length + wordsL l ≤ 1000000000000 → RepL out.length (encL base l p out) base l p ∧ ∀ i, i < out.length → i < p ∨ p + l.length ≤ i → (encL base l p out)[i]? = out[i]?
  | [], p, out, _, _ => by unfold encL RepL; exact ⟨trivial, fun _ _ _ => rfl⟩
  | x :: xs, p, out, hp, hw => by
    unfold wordsL at hw
    simp only [List.length_cons] at hp
    obtain ⟨h1, h2⟩ := encT_rep base hb0 hb1 x out (by omega)
    have hl := encT_length base x out
    have hl2 : ((encT base x out).2.set p (encT base x out).1).length = out.length + wordsT x := by rw [List.length_set, hl]
    obtain ⟨h3, h4⟩ := encL_rep base hb0 hb1 xs (p + 1) ((encT base x out).2.set p (encT base x out).1) (by omega) (by omega)
    unfold encL RepL
    refine ⟨⟨⟨(encT base x out).1, ?_, ?_⟩, RepL.turn (by omega) (fun _ _ _ h => h) xs _ (fun _ _ _ _ h => h) h3⟩, fun i hi hip => ?_⟩
    · rw [h4 p (by omega) (.inl (by omega)), List.getElem?_set_self (by omega)]
    · refine RepT.turn (Nat.le_refl _) (fun i v hi hv => ?_) x _ h1
      have hi2 : i < (encT base x out).2.length := by
        rcases Nat.lt_or_ge i (encT base x out).2.length with h | h
        · exact h
        · rw [List.getElem?_eq_none h] at hv; cases hv
      rw [h4 i (by omega) (.inr (by omega)), List.getElem?_set_ne (by omega), hv]
    · simp only [List.length_cons] at hip
      rw [h4 i (by omega) (by omega), List.getElem?_set_ne (by omega), h2 i hi]
end
theorem goodT_tuple {kind n : Int} {args : List S24} {left : Nat} (hf : flat kind = false) (h : goodT ⟨kind, n, args⟩ left = true) : kind = 4 ∧ n = 0 ∧ 1 ≤ args.length ∧ args.length ≤ 4 ∧ 1 ≤ left ∧ goodL args (left - 1) = true := by
  unfold goodT at h
  simp only [flat, Bool.or_eq_false_iff, beq_eq_false_iff_ne] at hf
  rw [if_neg hf.1.1, if_neg (by rintro (e | e); exact hf.1.2 e; exact hf.2 e)] at h
  split at h
  · rename_i e
    simp only [Bool.and_eq_true, beq_iff_eq, bne_iff_ne, decide_eq_true_eq] at h
    exact ⟨e, h.1.1.1.1, by have := h.1.1.1.2; omega, h.1.1.2, by have := h.1.2; omega, h.2⟩
  · cases h
theorem rdV_flat {ws : List Int} {base kind n met : Int} {args : List S24} {left : Nat} (hn0 : -9223372036854775808 ≤ n) (hn1 : n ≤ 9223372036854775807) (hf : flat kind = true) (h : goodT ⟨kind, n, args⟩ left = true) (hm : met + 1 ≤ 4096) : rdV ws base left (encW kind n) met = (⟨kind, n, args⟩, 0, met + 1) := by
  rw [rdV_eq]
  unfold rdF
  rw [if_neg (by omega)]
  unfold goodT at h
  by_cases k1 : kind = 1
  · subst k1
    simp only [if_true, Bool.and_eq_true, beq_iff_eq] at h
    have ha : args = [] := List.eq_nil_of_length_eq_zero h.1
    subst ha
    have e : encW 1 n = (n * 4) % 18446744073709551616 := by
      unfold encW
      rw [if_neg (by decide), if_neg (by decide), u64w, u64w]; omega
    have h2 := h.2
    unfold wrap64 at h2
    rw [e, if_pos (by omega)]
    have : wrap64 (n * 4 % 18446744073709551616) / 4 = n := by unfold wrap64; omega
    rw [this]
  · rw [if_neg k1] at h
    have k2 : kind = 2 ∨ kind = 3 := by
      simp only [flat, Bool.or_eq_true, beq_iff_eq] at hf
      omega
    rw [if_pos k2] at h
    simp only [Bool.and_eq_true, beq_iff_eq, decide_eq_true_eq] at h
    have ha : args = [] := List.eq_nil_of_length_eq_zero h.1.1
    subst ha
    have e : encW kind n = 4 * n + kind := by
      unfold encW
      rcases k2 with rfl | rfl
      · rw [if_pos rfl, or23 h.1.2 h.2 (by decide) (by decide)]
      · rw [if_neg (by decide), if_pos rfl, or23 h.1.2 h.2 (by decide) (by decide)]
    have a1 := h.1.2
    have a2 := h.2
    rw [e, if_neg (by omega), if_neg (by omega), if_neg (by omega), show (4 * n + kind) % 4 = kind by omega, show (4 * n + kind) / 4 = n by omega]
theorem RepL.at {lo : Nat} {ws : List Int} {base : Int} : ∀ (l : List S24) (q : Nat), RepL lo ws base l q → l.length = 0 ∨ q + l.length ≤ ws.length
  | [], q, _ => .inl rfl
  | x :: xs, q, h => by
    unfold RepL at h
    obtain ⟨⟨v, h1, _⟩, h2⟩ := h
    have hq : q < ws.length := by
      rcases Nat.lt_or_ge q ws.length with h | h
      · exact h
      · rw [List.getElem?_eq_none h] at h1; cases h1
    have := RepL.at xs (q + 1) h2
    simp only [List.length_cons]
    omega
theorem rdL_rep {lo : Nat} {ws : List Int} {base : Int} {f : Int → Int → S24 × Int × Int} : ∀ (l : List S24) (q : Nat) (acc : List S24) (met : Int), (∀ y ∈ l, ∀ (u met : Int), met + (nodesT y : Int) ≤ 4096 → RepT lo ws base y u → f u met = (y, 0, met + (nodesT y : Int))) → RepL lo ws base l q → met + (nodesL l : Int) ≤ 4096 → rdL f ((ws.drop q).take l.length) acc met = (⟨4, 0, acc ++ l⟩, 0, met + (nodesL l : Int))
  | [], q, acc, met, _, _, _ => by simp [rdL, nodesL]
  | x :: xs, q, acc, met, hf, h, hm => by
    unfold RepL at h
    unfold nodesL at hm ⊢
    obtain ⟨⟨v, h1, h2⟩, h3⟩ := h
    have hq : q < ws.length := by
      rcases Nat.lt_or_ge q ws.length with h | h
      · exact h
      · rw [List.getElem?_eq_none h] at h1; cases h1
    have hv : ws[q] = v := by rw [List.getElem?_eq_getElem hq] at h1; exact Option.some.inj h1
    have h0 := hf x (by simp) v met (by omega) h2
    rw [List.drop_eq_getElem_cons hq, List.length_cons, List.take_succ_cons, rdL, hv, h0, if_pos rfl, rdL_rep xs (q + 1) (acc ++ [x]) _ (fun y hy => hf y (by simp [hy])) h3 (by push_cast at hm ⊢; omega)]
    simp
    omega
theorem nodes_mem {x : S24} : ∀ {l : List S24}, x ∈ l → nodesT x ≤ nodesL l
  | y :: ys, h => by
    unfold nodesL
    rcases List.mem_cons.1 h with rfl | h
    · omega
    · have := nodes_mem h; omega
theorem goodL_mem {left : Nat} : ∀ {l : List S24}, goodL l left = true → ∀ y ∈ l, goodT y left = true
  | x :: xs, h, y, hy => by
    unfold goodL at h
    rw [Bool.and_eq_true] at h
    rcases List.mem_cons.1 hy with rfl | hy
    · exact h.1
    · exact goodL_mem h.2 y hy
theorem rdV_rep {lo : Nat} {ws : List Int} {base : Int} (hb8 : base % 8 = 0) {x : S24} (hx : WfT x) : ∀ (left : Nat) (u met : Int), goodT x left = true → met + (nodesT x : Int) ≤ 4096 → RepT lo ws base x u → rdV ws base left u met = (x, 0, met + (nodesT x : Int)) := by
  induction hx with
  | mk h0 h1 hl h2 ih =>
    rename_i kind n args
    intro left u met hg hm hr
    unfold RepT at hr
    by_cases hf : flat kind = true
    · rw [hr.1 hf]
      have ha : args = [] := by
        unfold goodT at hg
        by_cases k1 : kind = 1
        · rw [if_pos k1] at hg
          simp only [Bool.and_eq_true, beq_iff_eq] at hg
          exact List.eq_nil_of_length_eq_zero hg.1
        · have k2 : kind = 2 ∨ kind = 3 := by
            simp only [flat, Bool.or_eq_true, beq_iff_eq] at hf
            omega
          rw [if_neg k1, if_pos k2] at hg
          simp only [Bool.and_eq_true, beq_iff_eq] at hg
          exact List.eq_nil_of_length_eq_zero hg.1.1
      subst ha
      have hn : (decide (-9223372036854775808 ≤ n) && decide (n ≤ 9223372036854775807)) = true := h1
      simp only [Bool.and_eq_true, decide_eq_true_eq] at hn
      have e : nodesT ⟨kind, n, []⟩ = 1 := by simp [nodesT, nodesL]
      rw [e] at hm ⊢
      exact rdV_flat hn.1 hn.2 hf hg hm
    · have hf : flat kind = false := by simpa using hf
      obtain ⟨rfl, rfl, a1, a2, a3, a4⟩ := goodT_tuple hf hg
      obtain ⟨p, -, rfl, hp, hr2⟩ := hr.2 hf
      have hat := RepL.at args (p + 1) hr2
      unfold nodesT at hm ⊢
      obtain ⟨l, rfl⟩ : ∃ l, left = l + 1 := ⟨left - 1, by omega⟩
      rw [rdV_eq]
      unfold rdF
      rw [if_neg (by omega), if_neg (by omega), if_pos (by omega)]
      show rdT ws base (rdV ws base l) (base + 8 * (p : Int) + 1 - 1) (met + 1) = _
      have hi : ((base + 8 * (p : Int) + 1 - 1 - base) / 8).toNat = p := by omega
      have hgd : ws.getD p 0 = (args.length : Int) := by rw [List.getD_eq_getElem?_getD, hp]; rfl
      have ht : tupleAt ws base (base + 8 * (p : Int) + 1 - 1) = some ((ws.drop (p + 1)).take args.length) := by
        unfold tupleAt
        rw [hi, hgd, if_neg (by omega), if_neg (by omega), if_neg (by omega), Int.toNat_natCast]
      unfold rdT
      rw [ht]
      show rdL (rdV ws base l) ((ws.drop (p + 1)).take args.length) [] (met + 1) = _
      rw [rdL_rep args (p + 1) [] (met + 1) (fun y hy u met' hm' hr' => ih y hy l u met' (goodL_mem a4 y hy) hm' hr') hr2 (by push_cast at hm; omega)]
      simp
      omega
theorem back_pure {x : S24} (hx : WfT x) (hg : goodT x 64 = true) (hn : nodesT x ≤ 500) {base : Int} (hb0 : 0 ≤ base) (hb1 : base ≤ 1000000000000) (hb8 : base % 8 = 0) (ws more : List Int) (hw : ws.length ≤ 500) : rdV ((encT base x ws).2 ++ more) base 64 (encT base x ws).1 0 = (x, 0, (nodesT x : Int)) := by
  have hl := words_nodes x
  obtain ⟨h1, -⟩ := encT_rep base hb0 hb1 x ws (by omega)
  have h2 : RepT 0 ((encT base x ws).2 ++ more) base x (encT base x ws).1 := RepT.turn (by omega) (fun i v _ hv => by
    have hi : i < (encT base x ws).2.length := by
      rcases Nat.lt_or_ge i (encT base x ws).2.length with h | h
      · exact h
      · rw [List.getElem?_eq_none h] at hv; cases hv
    rw [List.getElem?_append_left hi, hv]) x _ h1
  have := rdV_rep hb8 hx 64 _ 0 hg (by omega) h2
  rw [this]
  simp
end Go.Proofs.Ytpgbpcnifhnjjaa.PValueOps
