/- Unlike good values have unlike texts. Plain Lean. -/
import Derived.Test.YtpgbpcnifhnjjaaDoorTextPure
namespace Go.Proofs.YtpgbpcnifhnjjaaDoor.PValueTells
open Go.RowKit Go.Proofs.YtpgbpcnifhnjjaaDoorW.PrintWords Go.Lib
set_option linter.unusedVariables false
set_option linter.unusedSimpArgs false
def dig (c : UInt8) : Bool := decide (48 ≤ c.toNat) && decide (c.toNat ≤ 57)
theorem ofNat_toNat {n : Nat} (h : n < 256) : (UInt8.ofNat n).toNat = n := by
  rw [UInt8.toNat_ofNat']; omega
theorem dec_dig : ∀ (u : Nat), ∀ c ∈ decDigits u, dig c = true := by
  intro u
  induction u using Nat.strongRecOn with
  | _ u ih =>
    rw [dec_step]
    intro c hc
    split at hc
    · rw [List.mem_singleton.1 hc]
      unfold dig
      rw [ofNat_toNat (by omega)]
      simp; omega
    · rcases List.mem_append.1 hc with hc | hc
      · exact ih (u / 10) (by omega) c hc
      · rw [List.mem_singleton.1 hc]
        unfold dig
        rw [ofNat_toNat (by omega)]
        simp; omega
def val (l : List UInt8) : Nat := l.foldl (fun a c => 10 * a + (c.toNat - 48)) 0
theorem val_dec : ∀ (u : Nat), val (decDigits u) = u := by
  intro u
  induction u using Nat.strongRecOn with
  | _ u ih =>
    rw [dec_step]
    split
    · unfold val
      simp only [List.foldl_cons, List.foldl_nil]
      rw [ofNat_toNat (by omega)]; omega
    · unfold val
      rw [List.foldl_append]
      have h := ih (u / 10) (by omega)
      unfold val at h
      rw [h]
      simp only [List.foldl_cons, List.foldl_nil]
      rw [ofNat_toNat (by omega)]; omega
theorem dec_ne (u : Nat) : decDigits u ≠ [] := by
  intro h
  have := congrArg List.length h
  rw [decDigits_length] at this
  have := nDigits_pos u
  simp at *
  omega
/-- No digit stands first. -/
def stop (s : List UInt8) : Prop := ∀ c ∈ s.head?, dig c = false
theorem run_inj : ∀ (a b s s' : List UInt8), (∀ c ∈ a, dig c = true) → (∀ c ∈ b, dig c = true) → stop s → stop s' → a ++ s = b ++ s' → a = b ∧ s = s'
  | [], [], s, s', _, _, _, _, h => ⟨rfl, h⟩
  | [], c :: b, s, s', _, hb, hs, _, h => by
    simp only [List.nil_append, List.cons_append] at h
    subst h
    have := hs c (by simp)
    rw [hb c (by simp)] at this
    cases this
  | c :: a, [], s, s', ha, _, _, hs', h => by
    simp only [List.nil_append, List.cons_append] at h
    subst h
    have := hs' c (by simp)
    rw [ha c (by simp)] at this
    cases this
  | c :: a, d :: b, s, s', ha, hb, hs, hs', h => by
    simp only [List.cons_append, List.cons.injEq] at h
    obtain ⟨rfl, h⟩ := h
    obtain ⟨rfl, h2⟩ := run_inj a b s s' (fun e he => ha e (by simp [he])) (fun e he => hb e (by simp [he])) hs hs' h
    exact ⟨rfl, h2⟩
theorem dec_inj {u v : Nat} {s s' : List UInt8} (hs : stop s) (hs' : stop s') (h : decDigits u ++ s = decDigits v ++ s') : u = v ∧ s = s' := by
  obtain ⟨h1, h2⟩ := run_inj _ _ _ _ (dec_dig u) (dec_dig v) hs hs' h
  refine ⟨?_, h2⟩
  have := congrArg val h1
  rwa [val_dec, val_dec] at this
theorem dec_head (u : Nat) (s : List UInt8) : ∃ c t, decDigits u ++ s = c :: t ∧ dig c = true := by
  cases h : decDigits u with
  | nil => exact absurd h (dec_ne u)
  | cons c t => exact ⟨c, t ++ s, rfl, dec_dig u c (by rw [h]; simp)⟩
theorem itoa_inj {n m : Int} {s s' : List UInt8} (hs : stop s) (hs' : stop s') (h : itoa n ++ s = itoa m ++ s') : n = m ∧ s = s' := by
  unfold itoa at h
  have no : ∀ (u : Nat) (s t : List UInt8), decDigits u ++ s ≠ 45 :: t := by
    intro u s t he
    obtain ⟨c, t', h1, h2⟩ := dec_head u s
    rw [h1] at he
    injection he with he _
    subst he
    exact absurd h2 (by decide)
  by_cases hn : n < 0
  · rw [if_pos hn] at h
    by_cases hm : m < 0
    · rw [if_pos hm] at h
      simp only [List.cons_append, List.cons.injEq, true_and] at h
      obtain ⟨h1, h2⟩ := dec_inj hs hs' h
      exact ⟨by omega, h2⟩
    · rw [if_neg hm] at h
      exact absurd h.symm (no _ _ _)
  · rw [if_neg hn] at h
    by_cases hm : m < 0
    · rw [if_pos hm] at h
      exact absurd h (no _ _ _)
    · rw [if_neg hm] at h
      obtain ⟨h1, h2⟩ := dec_inj hs hs' h
      exact ⟨by omega, h2⟩
theorem itoa_head (n : Int) (s : List UInt8) : ∃ c t, itoa n ++ s = c :: t ∧ (c = 45 ∨ dig c = true) := by
  unfold itoa
  split
  · exact ⟨45, _, rfl, .inl rfl⟩
  · obtain ⟨c, t, h1, h2⟩ := dec_head n.toNat s
    exact ⟨c, t, h1, .inr h2⟩
theorem good_flat {kind n : Int} {args : List S24} {m : Nat} (h : goodT ⟨kind, n, args⟩ m = true) : ((kind = 1 ∨ kind = 2 ∨ kind = 3) ∧ args = []) ∨ (kind = 4 ∧ n = 0 ∧ goodL args (m - 1) = true) := by
  unfold goodT at h
  by_cases k1 : kind = 1
  · rw [if_pos k1] at h
    simp only [Bool.and_eq_true, beq_iff_eq] at h
    exact .inl ⟨.inl k1, List.eq_nil_of_length_eq_zero h.1⟩
  rw [if_neg k1] at h
  by_cases k2 : kind = 2 ∨ kind = 3
  · rw [if_pos k2] at h
    simp only [Bool.and_eq_true, beq_iff_eq] at h
    exact .inl ⟨.inr k2, List.eq_nil_of_length_eq_zero h.1.1⟩
  rw [if_neg k2] at h
  by_cases k4 : kind = 4
  · rw [if_pos k4] at h
    simp only [Bool.and_eq_true, beq_iff_eq] at h
    exact .inr ⟨k4, h.1.1.1.1, h.2⟩
  · rw [if_neg k4] at h; cases h
/-- What stands first tells the kind. -/
def first (kind : Int) (c : UInt8) : Prop := if kind = 1 then c = 45 ∨ dig c = true else if kind = 2 then c = 97 else if kind = 3 then c = 112 else c = 123
theorem text_head (kind n : Int) (args : List S24) (s : List UInt8) : ∃ c t, textT ⟨kind, n, args⟩ ++ s = c :: t ∧ first kind c := by
  unfold textT first
  by_cases k1 : kind = 1
  · simp only [if_pos k1]; exact itoa_head n s
  simp only [if_neg k1]
  by_cases k2 : kind = 2
  · simp only [if_pos k2]; exact ⟨_, _, rfl, rfl⟩
  simp only [if_neg k2]
  by_cases k3 : kind = 3
  · simp only [if_pos k3]; exact ⟨_, _, rfl, rfl⟩
  simp only [if_neg k3]
  exact ⟨_, _, rfl, rfl⟩
theorem first_num {k : Int} {c : UInt8} (h : first k c) : (k = 1 → c.toNat ≠ 97 ∧ c.toNat ≠ 112 ∧ c.toNat ≠ 123 ∧ c.toNat ≠ 125) ∧ (k = 2 → c.toNat = 97) ∧ (k = 3 → c.toNat = 112) ∧ (k = 4 → c.toNat = 123) := by
  unfold first at h
  refine ⟨?_, ?_, ?_, ?_⟩
  · rintro rfl
    rw [if_pos rfl] at h
    rcases h with rfl | h
    · decide
    · unfold dig at h
      simp only [Bool.and_eq_true, decide_eq_true_eq] at h
      omega
  · rintro rfl
    rw [if_neg (by decide), if_pos rfl] at h
    subst h; rfl
  · rintro rfl
    rw [if_neg (by decide), if_neg (by decide), if_pos rfl] at h
    subst h; rfl
  · rintro rfl
    rw [if_neg (by decide), if_neg (by decide), if_neg (by decide)] at h
    subst h; rfl
theorem first_inj {k k' : Int} {c : UInt8} (h : k = 1 ∨ k = 2 ∨ k = 3 ∨ k = 4) (h' : k' = 1 ∨ k' = 2 ∨ k' = 3 ∨ k' = 4) (hc : first k c) (hc' : first k' c) : k = k' := by
  have h1 := first_num hc
  have h2 := first_num hc'
  omega
theorem first_end {k : Int} (h : k = 1 ∨ k = 2 ∨ k = 3 ∨ k = 4) : ¬ first k 125 := by
  intro hc
  have h1 := first_num hc
  have : (125 : UInt8).toNat = 125 := rfl
  omega
theorem stop_cons {c : UInt8} {s : List UInt8} (h : dig c = false) : stop (c :: s) := by
  intro d hd
  simp at hd
  subst hd
  exact h
theorem stop_nil : stop [] := by intro d hd; simp at hd
theorem stop_list (l : List S24) (s : List UInt8) : stop (textL l false ++ 125 :: s) := by
  cases l with
  | nil => exact stop_cons (by decide)
  | cons x xs => exact stop_cons (by decide)
mutual
theorem textT_inj : ∀ (a : S24) (m : Nat) (b : S24) (m' : Nat) (s s' : List UInt8), goodT a m = true → goodT b m' = true → stop s → stop s' → textT a ++ s = textT b ++ s' → a = b ∧ s = s'
  | ⟨kind, n, args⟩, m, ⟨kind', n', args'⟩, m', s, s', ha, hb, hs, hs', h => by
    have ga := good_flat ha
    have gb := good_flat hb
    have hk : kind = kind' := by
      obtain ⟨c, t, h1, h2⟩ := text_head kind n args s
      obtain ⟨c', t', h3, h4⟩ := text_head kind' n' args' s'
      rw [h1, h3] at h
      injection h with h5 _
      subst h5
      exact first_inj (by omega) (by omega) h2 h4
    subst hk
    unfold textT at h
    by_cases k1 : kind = 1
    · rw [if_pos k1, if_pos k1] at h
      obtain ⟨rfl, h2⟩ := itoa_inj hs hs' h
      rcases ga with ⟨_, rfl⟩ | ⟨k, _⟩
      · rcases gb with ⟨_, rfl⟩ | ⟨k, _⟩
        · exact ⟨rfl, h2⟩
        · omega
      · omega
    rw [if_neg k1, if_neg k1] at h
    by_cases k2 : kind = 2
    · rw [if_pos k2, if_pos k2] at h
      simp only [List.cons_append, List.cons.injEq, true_and] at h
      obtain ⟨rfl, h2⟩ := itoa_inj hs hs' h
      rcases ga with ⟨_, rfl⟩ | ⟨k, _⟩
      · rcases gb with ⟨_, rfl⟩ | ⟨k, _⟩
        · exact ⟨rfl, h2⟩
        · omega
      · omega
    rw [if_neg k2, if_neg k2] at h
    by_cases k3 : kind = 3
    · rw [if_pos k3, if_pos k3] at h
      simp only [List.cons_append, List.cons.injEq, true_and] at h
      obtain ⟨rfl, h2⟩ := itoa_inj hs hs' h
      rcases ga with ⟨_, rfl⟩ | ⟨k, _⟩
      · rcases gb with ⟨_, rfl⟩ | ⟨k, _⟩
        · exact ⟨rfl, h2⟩
        · omega
      · omega
    rw [if_neg k3, if_neg k3] at h
    rcases ga with ⟨hk, _⟩ | ⟨_, rfl, ga⟩
    · omega
    rcases gb with ⟨hk, _⟩ | ⟨_, rfl, gb⟩
    · omega
    simp only [List.cons_append, List.cons.injEq, true_and, List.append_assoc, List.nil_append] at h
    obtain ⟨rfl, h2⟩ := textL_inj args (m - 1) args' (m' - 1) true s s' ga gb h
    exact ⟨rfl, h2⟩
theorem textL_inj : ∀ (l : List S24) (m : Nat) (l' : List S24) (m' : Nat) (b : Bool) (s s' : List UInt8), goodL l m = true → goodL l' m' = true → textL l b ++ 125 :: s = textL l' b ++ 125 :: s' → l = l' ∧ s = s'
  | [], m, [], m', b, s, s', _, _, h => by
    simp only [textL, List.nil_append, List.cons.injEq, true_and] at h
    exact ⟨rfl, h⟩
  | [], m, ⟨kind, n, args⟩ :: ys, m', b, s, s', _, hb, h => by
    exfalso
    unfold goodL at hb
    rw [Bool.and_eq_true] at hb
    have gb := good_flat hb.1
    rw [textL, textL] at h
    cases b with
    | false => simp at h
    | true =>
      simp only [if_true, List.nil_append, List.append_assoc] at h
      obtain ⟨c, t, h1, h2⟩ := text_head kind n args (textL ys false ++ 125 :: s')
      rw [h1] at h
      injection h with h3 _
      subst h3
      exact first_end (by omega) h2
  | ⟨kind, n, args⟩ :: xs, m, [], m', b, s, s', ha, _, h => by
    exfalso
    unfold goodL at ha
    rw [Bool.and_eq_true] at ha
    have ga := good_flat ha.1
    rw [textL, textL] at h
    cases b with
    | false => simp at h
    | true =>
      simp only [if_true, List.nil_append, List.append_assoc] at h
      obtain ⟨c, t, h1, h2⟩ := text_head kind n args (textL xs false ++ 125 :: s)
      rw [h1] at h
      injection h with h3 _
      subst h3
      exact first_end (by omega) h2
  | x :: xs, m, y :: ys, m', b, s, s', ha, hb, h => by
    unfold goodL at ha hb
    rw [Bool.and_eq_true] at ha hb
    rw [textL, textL, List.append_assoc, List.append_assoc, List.append_assoc, List.append_assoc] at h
    have h := List.append_cancel_left h
    obtain ⟨rfl, h2⟩ := textT_inj x m y m' _ _ ha.1 hb.1 (stop_list xs s) (stop_list ys s') h
    obtain ⟨rfl, h3⟩ := textL_inj xs m ys m' false s s' ha.2 hb.2 h2
    exact ⟨rfl, h3⟩
end
theorem text_apart {a b : S24} (ha : goodT a 64 = true) (hb : goodT b 64 = true) : (str (textT a) = str (textT b)) ↔ a = b := by
  constructor
  · intro h
    have h := str_inj h
    exact (textT_inj a 64 b 64 [] [] ha hb stop_nil stop_nil (by rw [List.append_nil, List.append_nil]; exact h)).1
  · rintro rfl; rfl
end Go.Proofs.YtpgbpcnifhnjjaaDoor.PValueTells
