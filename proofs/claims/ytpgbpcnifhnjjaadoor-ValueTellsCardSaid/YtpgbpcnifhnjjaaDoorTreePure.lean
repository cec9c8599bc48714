/- What the loops over trees of values come to, as plain Lean: how many values, how deep, whether they may be, whether they are the same. -/
import Derived.Test.YtpgbpcnifhnjjaaDoorEncDef
import Derived.Test.YtpgbpcnifhnjjaaDoorPValueTellsx2
import Derived.Test.YtpgbpcnifhnjjaaDoorPValueTellsx3
import Derived.Test.YtpgbpcnifhnjjaaDoorPValueTellsx4
namespace Go.Proofs.YtpgbpcnifhnjjaaDoor.PValueTells
open Go.RowKit Go.Proofs.YtpgbpcnifhnjjaaDoorW.PrintWords
theorem w64' {n : Int} (h0 : -9223372036854775808 ≤ n) (h1 : n ≤ 9223372036854775807) : wrap64 n = n := by unfold wrap64; omega
theorem rd_at {l : List S24} {i : Nat} (h : i < l.length) : rd_T24 l (i : Int) = l[i] := by
  unfold rd_T24; rw [List.getD_eq_getElem?_getD, Int.toNat_natCast, List.getElem?_eq_getElem h]; rfl
theorem Ev.eta {α : Type} {g : Nat → Option α} {r : α} (h : Ev g r) : Ev (fun k => g k) r := h

/-- Each number of a tree is an int, each list of parts as long as a slice may be. -/
inductive WfT : S24 → Prop where
  | mk {kind n : Int} {args : List S24} (h0 : (Lit.int .i64 kind).wf = true) (h1 : (Lit.int .i64 n).wf = true) (hl : args.length ≤ 9223372036854775807) (h2 : ∀ y ∈ args, WfT y) : WfT ⟨kind, n, args⟩

/-! #### many -/
mutual
def manyT : S24 → Int → Int
  | ⟨_, _, args⟩, left => manyL args 1 left
def manyL : List S24 → Int → Int → Int
  | [], n, _ => n
  | x :: xs, n, left => if n > left then n else manyL xs (n + manyT x (left - n)) left
end
mutual
def nodesT : S24 → Nat
  | ⟨_, _, args⟩ => 1 + nodesL args
def nodesL : List S24 → Nat
  | [] => 0
  | x :: xs => nodesT x + nodesL xs
end
mutual
theorem manyT_le : ∀ (x : S24) (left : Int), 1 ≤ manyT x left ∧ (manyT x left ≤ left + 1 ∨ manyT x left = 1)
  | ⟨_, _, args⟩, left => by
    unfold manyT
    have := manyL_le args 1 left
    omega
theorem manyL_le : ∀ (l : List S24) (n left : Int), n ≤ manyL l n left ∧ (manyL l n left ≤ left + 1 ∨ manyL l n left = n)
  | [], n, left => by unfold manyL; omega
  | x :: xs, n, left => by
    unfold manyL
    have h1 := manyT_le x (left - n)
    have h2 := manyL_le xs (n + manyT x (left - n)) left
    split <;> omega
end
mutual
theorem manyT_nodes : ∀ (x : S24) (left : Int), manyT x left ≤ left → manyT x left = nodesT x
  | ⟨_, _, args⟩, left => by
    unfold manyT nodesT
    intro h
    have := manyL_nodes args 1 left h
    omega
theorem manyL_nodes : ∀ (l : List S24) (n left : Int), manyL l n left ≤ left → manyL l n left = n + nodesL l
  | [], n, left => by unfold manyL nodesL; omega
  | x :: xs, n, left => by
    unfold manyL nodesL
    split
    · intro h; omega
    · intro h
      have h0 := manyT_le x (left - n)
      have h1 := manyL_le xs (n + manyT x (left - n)) left
      have h2 := manyT_nodes x (left - n) (by omega)
      have h3 := manyL_nodes xs (n + manyT x (left - n)) left h
      omega
end
mutual
theorem words_nodes : ∀ (x : S24), wordsT x + 1 ≤ 2 * nodesT x
  | ⟨_, _, args⟩ => by
    unfold wordsT nodesT
    have h1 := wordsL_nodes args
    split <;> omega
theorem wordsL_nodes : ∀ (l : List S24), wordsL l + l.length ≤ 2 * nodesL l
  | [] => by simp [wordsL, nodesL]
  | x :: xs => by
    unfold wordsL nodesL
    have h1 := words_nodes x
    have h2 := wordsL_nodes xs
    simp only [List.length_cons]
    omega
end
theorem many_l (left : Int) (hl : 0 ≤ left ∨ left = -1) (hl2 : left ≤ 1000000) (l : List S24) (hlen : l.length ≤ 9223372036854775807) (ih : ∀ y ∈ l, ∀ m : Int, 0 ≤ m → m ≤ 1000000 → Ev (fun k => postbaglaw15_many.f k y.f0 y.f1 y.f2 m) (manyT y m)) : ∀ (d i : Nat) (n : Int), i + d = l.length → 1 ≤ n → n ≤ 1000002 →
    Ev (fun k => postbaglaw15_many.l0 k left n l (l.length : Int) (i : Int)) (manyL (l.drop i) n left)
  | 0, i, n, hi, _, _ => by
    refine Ev.step (f := fun _ => some n) (fun k => ?_) ?_
    · simp only [postbaglaw15_many.l0]; rw [if_neg (by omega)]
    · rw [List.drop_of_length_le (by omega)]; exact Ev.now _
  | d + 1, i, n, hi, hn1, hn2 => by
    have hil : i < l.length := by omega
    rw [List.drop_eq_getElem_cons hil, manyL]
    by_cases h : n > left
    · rw [if_pos h]
      refine Ev.step (f := fun _ => some n) (fun k => ?_) (Ev.now _)
      simp only [postbaglaw15_many.l0]; rw [if_pos (by omega), if_pos (by omega), if_pos (by omega), if_pos h]
    · rw [if_neg h]
      have hb := manyT_le l[i] (left - n)
      refine Ev.step (f := fun k => (postbaglaw15_many.f k (l[i]).f0 (l[i]).f1 (l[i]).f2 (left - n)).bind fun t => postbaglaw15_many.l0 k left (wrap64 (n + t)) l (l.length : Int) ((i + 1 : Nat) : Int)) (fun k => ?_) ?_
      · simp only [postbaglaw15_many.l0]
        rw [if_pos (by omega), if_pos (by omega), if_pos (by omega), if_neg h, rd_at hil, w64' (by omega) (by omega), w64' (n := (i : Int) + 1) (by omega) (by omega), show ((i + 1 : Nat) : Int) = (i : Int) + 1 by omega]
      · refine Ev.bind (ih _ (List.getElem_mem hil) _ (by omega) (by omega)) ?_
        rw [w64' (by omega) (by omega)]
        exact many_l left hl hl2 l hlen ih d (i + 1) _ (by omega) (by omega) (by omega)
theorem many_ev {x : S24} (h : WfT x) : ∀ m : Int, 0 ≤ m → m ≤ 1000000 → Ev (fun k => postbaglaw15_many.f k x.f0 x.f1 x.f2 m) (manyT x m) := by
  induction h with
  | mk h0 h1 hl h2 ih =>
    intro m hm hm2
    rename_i kind n args
    refine Ev.step (f := fun k => postbaglaw15_many.l0 k m 1 args (args.length : Int) ((0 : Nat) : Int)) (fun k => by simp only [postbaglaw15_many.f]; rfl) ?_
    have := many_l m (.inl hm) hm2 args hl ih args.length 0 1 (by omega) (by omega) (by omega)
    simpa [manyT] using this

/-! #### deep -/
theorem mx_eq (a b : Int) : mx a b = if a < b then b else a := rfl
theorem deep_l (left : Int) (h1 : 1 ≤ left) (hl2 : left ≤ 1000) (l : List S24) (hlen : l.length ≤ 9223372036854775807) (ih : ∀ y ∈ l, ∀ m : Int, 0 ≤ m → m ≤ 1000 → ∃ r, 0 ≤ r ∧ r ≤ m ∧ Ev (fun k => postbaglaw15_deep.f k y.f0 y.f1 y.f2 m) r) : ∀ (d i : Nat) (n : Int), i + d = l.length → 0 ≤ n → n + 1 ≤ left →
    ∃ r, 0 ≤ r ∧ r ≤ left ∧ Ev (fun k => postbaglaw15_deep.l0 k left n l (l.length : Int) (i : Int)) r
  | 0, i, n, hi, hn0, hn1 => by
    refine ⟨n + 1, by omega, by omega, Ev.step (f := fun _ => some (n + 1)) (fun k => ?_) (Ev.now _)⟩
    simp only [postbaglaw15_deep.l0]; rw [if_neg (by omega), w64' (by omega) (by omega)]
  | d + 1, i, n, hi, hn0, hn1 => by
    have hil : i < l.length := by omega
    obtain ⟨q, hq0, hq1, hq⟩ := ih _ (List.getElem_mem hil) (left - 1) (by omega) (by omega)
    obtain ⟨r, hr0, hr1, hr⟩ := deep_l left h1 hl2 l hlen ih d (i + 1) (mx n q) (by omega) (by rw [mx_eq]; split <;> omega) (by rw [mx_eq]; split <;> omega)
    refine ⟨r, hr0, hr1, Ev.step (f := fun k => (postbaglaw15_deep.f k (l[i]).f0 (l[i]).f1 (l[i]).f2 (left - 1)).bind fun t => postbaglaw15_deep.l0 k left (mx n t) l (l.length : Int) ((i + 1 : Nat) : Int)) (fun k => ?_) (Ev.bind hq hr)⟩
    simp only [postbaglaw15_deep.l0]
    rw [if_pos (by omega), if_pos (by omega), if_pos (by omega), rd_at hil, w64' (by omega) (by omega), w64' (n := (i : Int) + 1) (by omega) (by omega), show ((i + 1 : Nat) : Int) = (i : Int) + 1 by omega]
theorem deep_ev {x : S24} (h : WfT x) : ∀ m : Int, 0 ≤ m → m ≤ 1000 → ∃ r, 0 ≤ r ∧ r ≤ m ∧ Ev (fun k => postbaglaw15_deep.f k x.f0 x.f1 x.f2 m) r := by
  induction h with
  | mk h0 h1 hl h2 ih =>
    intro m hm hm2
    rename_i kind n args
    by_cases e : m = 0
    · subst e
      exact ⟨0, by omega, by omega, Ev.step (f := fun _ => some 0) (fun k => by simp [postbaglaw15_deep.f]) (Ev.now _)⟩
    · obtain ⟨r, hr0, hr1, hr⟩ := deep_l m (by omega) hm2 args hl ih args.length 0 0 (by omega) (by omega) (by omega)
      exact ⟨r, hr0, hr1, Ev.step (fun k => by simp only [postbaglaw15_deep.f]; rw [if_neg e]; rfl) hr⟩

/-! #### Light -/
theorem light_l (l : List S24) (hlen : l.length ≤ 1000) (hw : ∀ y ∈ l, WfT y) : ∀ (d i : Nat), i + d = l.length →
    ∃ r : Bool, Ev (fun k => postbaglaw15_Light.l0 k l (l.length : Int) (i : Int)) r ∧ (r = true → ∀ y ∈ l.drop i, nodesT y ≤ 500)
  | 0, i, hi => by
    refine ⟨true, Ev.step (f := fun _ => some true) (fun k => ?_) (Ev.now _), fun _ y hy => by rw [List.drop_of_length_le (by omega)] at hy; cases hy⟩
    simp only [postbaglaw15_Light.l0]; rw [if_neg (by omega)]
  | d + 1, i, hi => by
    have hil : i < l.length := by omega
    have hm := many_ev (hw _ (List.getElem_mem hil)) 500 (by omega) (by omega)
    obtain ⟨q, hq0, hq1, hq⟩ := deep_ev (hw _ (List.getElem_mem hil)) 100 (by omega) (by omega)
    obtain ⟨r, hr, hrn⟩ := light_l l hlen hw d (i + 1) (by omega)
    have step : ∀ k, postbaglaw15_Light.l0 (k + 1) l (l.length : Int) (i : Int) = (postbaglaw15_many.f k (l[i]).f0 (l[i]).f1 (l[i]).f2 500).bind fun t => if t > 500 then some false else (postbaglaw15_deep.f k (l[i]).f0 (l[i]).f1 (l[i]).f2 100).bind fun u => if u ≥ 100 then some false else postbaglaw15_Light.l0 k l (l.length : Int) ((i + 1 : Nat) : Int) := fun k => by
      simp only [postbaglaw15_Light.l0]
      rw [if_pos (by omega), if_pos (by omega), if_pos (by omega), rd_at hil, w64' (by omega) (by omega), show ((i + 1 : Nat) : Int) = (i : Int) + 1 by omega]
    by_cases h1 : manyT l[i] 500 > 500
    · refine ⟨false, Ev.step step (Ev.bind hm ?_), fun h => by cases h⟩
      simp only [h1, if_true]; exact Ev.now _
    · by_cases h2 : q ≥ 100
      · refine ⟨false, Ev.step step (Ev.bind hm ?_), fun h => by cases h⟩
        simp only [h1, if_false]
        refine Ev.bind hq ?_
        simp only [h2, if_true]; exact Ev.now _
      · refine ⟨r, Ev.step step (Ev.bind hm ?_), fun h y hy => ?_⟩
        · simp only [h1, if_false]
          refine Ev.bind hq ?_
          simp only [h2, if_false]
          exact hr
        · rw [List.drop_eq_getElem_cons hil] at hy
          rcases List.mem_cons.1 hy with rfl | hy
          · have := manyT_nodes l[i] 500 (by omega); omega
          · exact hrn h y hy
theorem light_ev (l : List S24) (hlen : l.length ≤ 1000) (hw : ∀ y ∈ l, WfT y) : ∃ r : Bool, Ev (fun k => postbaglaw15_Light.f k l) r ∧ (r = true → ∀ y ∈ l, nodesT y ≤ 500) := by
  obtain ⟨r, h1, h2⟩ := light_l l hlen hw l.length 0 (by omega)
  exact ⟨r, h1, by simpa using h2⟩

/-! #### good -/
mutual
def goodT : S24 → Nat → Bool
  | ⟨kind, n, args⟩, left =>
    if kind = 1 then args.length == 0 && (wrap64 (n * 4)) / 4 == n
    else if kind = 2 ∨ kind = 3 then args.length == 0 && decide (n ≥ 0) && decide (n < 1048576)
    else if kind = 4 then n == 0 && args.length != 0 && decide (args.length ≤ 4) && left != 0 && goodL args (left - 1)
    else false
def goodL : List S24 → Nat → Bool
  | [], _ => true
  | x :: xs, left => goodT x left && goodL xs left
end
theorem good_l (left : Nat) (hl : left ≤ 1000) (h1 : 1 ≤ left) (l : List S24) (hlen : l.length ≤ 4) (ih : ∀ y ∈ l, ∀ m : Nat, m ≤ 1000 → Ev (fun k => value_good.f k y.f0 y.f1 y.f2 (m : Int)) (goodT y m)) : ∀ (d i : Nat), i + d = l.length →
    Ev (fun k => value_good.l0 k (left : Int) l (l.length : Int) (i : Int)) (goodL (l.drop i) (left - 1))
  | 0, i, hi => by
    rw [List.drop_of_length_le (by omega), goodL]
    refine Ev.step (f := fun _ => some true) (fun k => ?_) (Ev.now _)
    simp only [value_good.l0]; rw [if_neg (by omega)]
  | d + 1, i, hi => by
    have hil : i < l.length := by omega
    rw [List.drop_eq_getElem_cons hil, goodL]
    refine Ev.step (f := fun k => (value_good.f k (l[i]).f0 (l[i]).f1 (l[i]).f2 ((left - 1 : Nat) : Int)).bind fun t => if t = true then value_good.l0 k (left : Int) l (l.length : Int) ((i + 1 : Nat) : Int) else some false) (fun k => ?_) ?_
    · simp only [value_good.l0]
      rw [if_pos (by omega), if_pos (by omega), if_pos (by omega), rd_at hil, w64' (by omega) (by omega), w64' (n := (i : Int) + 1) (by omega) (by omega), show ((i + 1 : Nat) : Int) = (i : Int) + 1 by omega, show ((left - 1 : Nat) : Int) = (left : Int) - 1 by omega]
    · refine Ev.bind (ih _ (List.getElem_mem hil) (left - 1) (by omega)) ?_
      cases goodT l[i] (left - 1) with
      | true => simpa using good_l left hl h1 l hlen ih d (i + 1) (by omega)
      | false => simpa using Ev.now false
theorem good_ev {x : S24} (h : WfT x) : ∀ m : Nat, m ≤ 1000 → Ev (fun k => value_good.f k x.f0 x.f1 x.f2 (m : Int)) (goodT x m) := by
  induction h with
  | mk h0 h1 hl h2 ih =>
    intro m hm
    rename_i kind n args
    have hz : ((args.length : Int) = 0) = (args.length = 0) := by rw [eq_iff_iff]; omega
    unfold goodT
    by_cases k1 : kind = 1
    · subst k1
      refine Ev.step (f := fun _ => some (args.length == 0 && (wrap64 (n * 4)) / 4 == n)) (fun k => ?_) (by simpa using Ev.now _)
      simp only [value_good.f, value_Wrap.f, if_true, Option.bind_some]
      by_cases e : args.length = 0 <;> simp [e]
    · rw [if_neg k1]
      by_cases k2 : kind = 2 ∨ kind = 3
      · rw [if_pos k2]
        refine Ev.step (f := fun _ => some (args.length == 0 && decide (n ≥ 0) && decide (n < 1048576))) (fun k => ?_) (Ev.now _)
        simp only [value_good.f]
        rcases k2 with rfl | rfl <;> by_cases e : args.length = 0 <;> by_cases e2 : n ≥ 0 <;> simp [e, e2]
      · rw [if_neg k2]
        by_cases k4 : kind = 4
        · subst k4
          rw [if_pos rfl]
          by_cases hn : n = 0 ∧ args.length ≠ 0 ∧ args.length ≤ 4 ∧ m ≠ 0
          · obtain ⟨rfl, e1, e2, e3⟩ := hn
            have hg := good_l m hm (by omega) args e2 ih args.length 0 (by omega)
            have he : ((0 : Int) == 0 && args.length != 0 && decide (args.length ≤ 4) && m != 0 && goodL args (m - 1)) = goodL (args.drop 0) (m - 1) := by simp [e1, e2, e3]
            rw [he]
            refine Ev.step (f := fun k => value_good.j0 k (m : Int) false 4 0 args) (fun k => ?_) (Ev.step (f := fun k => value_good.l0 k (m : Int) args (args.length : Int) ((0 : Nat) : Int)) (fun k => by simp only [value_good.j0]; rfl) hg)
            simp only [value_good.f]
            rw [if_neg (by decide), if_neg (by decide), if_neg (by decide), if_pos (by trivial), if_pos (by trivial), if_neg (by omega), if_neg (by omega), show (((m : Nat) : Int) == 0) = false by simpa using e3]
          · have he : (n == 0 && args.length != 0 && decide (args.length ≤ 4) && m != 0 && goodL args (m - 1)) = false := by
              rw [Bool.eq_false_iff]
              intro h
              simp only [Bool.and_eq_true, beq_iff_eq, bne_iff_ne, decide_eq_true_eq] at h
              exact hn ⟨h.1.1.1.1, h.1.1.1.2, h.1.1.2, h.1.2⟩
            rw [he]
            refine Ev.step (f := fun k => value_good.j0 k (m : Int) true 4 n args) (fun k => ?_) (Ev.step (f := fun _ => some false) (fun k => by simp only [value_good.j0]; rfl) (Ev.now _))
            simp only [value_good.f]
            rw [if_neg (by decide), if_neg (by decide), if_neg (by decide), if_pos (by trivial)]
            by_cases a1 : n = 0
            · rw [if_pos a1]
              by_cases a2 : args.length = 0
              · rw [if_pos (by omega), a1]
              · rw [if_neg (by omega)]
                by_cases a3 : args.length ≤ 4
                · rw [if_neg (by omega), a1]
                  have a4 : m = 0 := by
                    rcases Nat.eq_zero_or_pos m with h | h
                    · exact h
                    · exact absurd ⟨a1, a2, a3, by omega⟩ hn
                  subst a4
                  rfl
                · rw [if_pos (by omega), a1]
            · rw [if_neg a1]
        · rw [if_neg k4]
          refine Ev.step (f := fun _ => some false) (fun k => ?_) (Ev.now _)
          simp only [value_good.f]
          rw [if_neg k1, if_neg (fun e => k2 (.inl e)), if_neg (fun e => k2 (.inr e)), if_neg k4]
theorem Good_ev {x : S24} (h : WfT x) : Ev (fun k => value_Good.f k x.f0 x.f1 x.f2) (goodT x 64) := by
  have := good_ev h 64 (by decide)
  exact Ev.congr (g := fun k => value_Good.f k x.f0 x.f1 x.f2) (f := fun k => value_good.f k x.f0 x.f1 x.f2 64) (fun k => by unfold value_Good.f; cases value_good.f k x.f0 x.f1 x.f2 64 <;> rfl) this

/-! #### the document's Same -/
mutual
def sameT : S24 → S24 → Bool
  | ⟨k, n, l⟩, ⟨k', n', l'⟩ => k == k' && n == n' && l.length == l'.length && sameL l l'
def sameL : List S24 → List S24 → Bool
  | [], _ => true
  | _ :: _, [] => true
  | x :: xs, y :: ys => sameT x y && sameL xs ys
end
mutual
theorem sameT_eq : ∀ (a b : S24), sameT a b = true ↔ a = b
  | ⟨k, n, l⟩, ⟨k', n', l'⟩ => by
    unfold sameT
    simp only [Bool.and_eq_true, beq_iff_eq, S24.mk.injEq]
    constructor
    · rintro ⟨⟨⟨rfl, rfl⟩, h⟩, h2⟩
      exact ⟨rfl, rfl, (sameL_eq l l' h).1 h2⟩
    · rintro ⟨rfl, rfl, rfl⟩
      exact ⟨⟨⟨rfl, rfl⟩, rfl⟩, (sameL_eq l l rfl).2 rfl⟩
theorem sameL_eq : ∀ (l l' : List S24), l.length = l'.length → (sameL l l' = true ↔ l = l')
  | [], l', h => by
    have : l' = [] := List.eq_nil_of_length_eq_zero (by simpa using h.symm)
    subst this
    simp [sameL]
  | x :: xs, [], h => by simp at h
  | x :: xs, y :: ys, h => by
    unfold sameL
    rw [Bool.and_eq_true, sameT_eq x y, sameL_eq xs ys (by simpa using h), List.cons.injEq]
end
theorem same_l (l l' : List S24) (k0 n0 k1 n1 : Int) (hlen : l.length ≤ 9223372036854775807) (hll : l.length = l'.length) (ih : ∀ y ∈ l, ∀ z : S24, Ev (fun k => postbagref15_Same.f k y.f0 y.f1 y.f2 z.f0 z.f1 z.f2) (sameT y z)) : ∀ (d i : Nat), i + d = l.length →
    Ev (fun k => postbagref15_Same.l0 k (i : Int) k0 n0 l k1 n1 l') (sameL (l.drop i) (l'.drop i))
  | 0, i, hi => by
    rw [List.drop_of_length_le (by omega), sameL]
    refine Ev.step (f := fun _ => some true) (fun k => ?_) (Ev.now _)
    simp only [postbagref15_Same.l0]; rw [if_neg (by omega)]
  | d + 1, i, hi => by
    have hil : i < l.length := by omega
    have hil' : i < l'.length := by omega
    rw [List.drop_eq_getElem_cons hil, List.drop_eq_getElem_cons hil', sameL]
    refine Ev.step (f := fun k => (postbagref15_Same.f k (l[i]).f0 (l[i]).f1 (l[i]).f2 (l'[i]).f0 (l'[i]).f1 (l'[i]).f2).bind fun t => if t = true then postbagref15_Same.l0 k ((i + 1 : Nat) : Int) k0 n0 l k1 n1 l' else some false) (fun k => ?_) ?_
    · simp only [postbagref15_Same.l0]
      rw [if_pos (by omega), if_pos (by omega), if_pos (by omega), rd_at hil, rd_at hil', w64' (by omega) (by omega), show ((i + 1 : Nat) : Int) = (i : Int) + 1 by omega]
    · refine Ev.bind (ih _ (List.getElem_mem hil) _) ?_
      cases sameT l[i] l'[i] with
      | true => simpa using same_l l l' k0 n0 k1 n1 hlen hll ih d (i + 1) (by omega)
      | false => simpa using Ev.now false
theorem same_ev {x : S24} (h : WfT x) : ∀ z : S24, Ev (fun k => postbagref15_Same.f k x.f0 x.f1 x.f2 z.f0 z.f1 z.f2) (sameT x z) := by
  induction h with
  | mk h0 h1 hl h2 ih =>
    rename_i kind n args
    rintro ⟨k', n', l'⟩
    unfold sameT
    have bad : Ev (fun k => postbagref15_Same.j0 k true kind n args k' n' l') false := Ev.step (f := fun _ => some false) (fun k => by simp only [postbagref15_Same.j0]; rfl) (Ev.now _)
    by_cases e1 : kind = k'
    · by_cases e2 : n = n'
      · by_cases e3 : args.length = l'.length
        · have he : (kind == k' && n == n' && args.length == l'.length && sameL args l') = sameL (args.drop 0) (l'.drop 0) := by simp [e1, e2, e3]
          rw [he]
          refine Ev.step (f := fun k => postbagref15_Same.j0 k false kind n args k' n' l') (fun k => ?_) (Ev.step (f := fun k => postbagref15_Same.l0 k ((0 : Nat) : Int) kind n args k' n' l') (fun k => by simp only [postbagref15_Same.j0]; rfl) (same_l args l' kind n k' n' hl e3 ih args.length 0 (by omega)))
          simp only [postbagref15_Same.f]
          rw [if_pos e1, if_pos e2, show ((args.length : Int) != (l'.length : Int)) = false by rw [e3]; simp]
        · have he : (kind == k' && n == n' && args.length == l'.length && sameL args l') = false := by simp [e3]
          rw [he]
          refine Ev.step (f := fun k => postbagref15_Same.j0 k true kind n args k' n' l') (fun k => ?_) bad
          simp only [postbagref15_Same.f]
          rw [if_pos e1, if_pos e2, show ((args.length : Int) != (l'.length : Int)) = true by rw [bne_iff_ne]; omega]
      · have he : (kind == k' && n == n' && args.length == l'.length && sameL args l') = false := by simp [e2]
        rw [he]
        refine Ev.step (f := fun k => postbagref15_Same.j0 k true kind n args k' n' l') (fun k => ?_) bad
        simp only [postbagref15_Same.f]
        rw [if_pos e1, if_neg e2]
    · have he : (kind == k' && n == n' && args.length == l'.length && sameL args l') = false := by simp [e1]
      rw [he]
      refine Ev.step (f := fun k => postbagref15_Same.j0 k true kind n args k' n' l') (fun k => ?_) bad
      simp only [postbagref15_Same.f]
      rw [if_neg e1]
theorem same_self {x : S24} (h : WfT x) : Ev (fun k => postbagref15_Same.f k x.f0 x.f1 x.f2 x.f0 x.f1 x.f2) true := by
  have := same_ev h x
  rwa [(sameT_eq x x).2 rfl] at this
end Go.Proofs.YtpgbpcnifhnjjaaDoor.PValueTells
