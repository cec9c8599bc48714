/- A value's text, as plain Lean; the document's Text comes to it. -/
import Derived.Test.YtpgbpcnifhnjjaaDoorTreePure
import Derived.Test.YtpgbpcnifhnjjaaDoorRefText
import Derived.Lib.ItoaNum
import Derived.Lib.ItoaMem
import Derived.Lib.ItoaLen
namespace Go.Proofs.YtpgbpcnifhnjjaaDoor.PValueTells
open Go.RowKit Go.Proofs.YtpgbpcnifhnjjaaDoorW.PrintWords Go.Lib
set_option linter.unusedVariables false
set_option linter.unusedSimpArgs false
def str (l : List UInt8) : ByteArray := ⟨l.toArray⟩
theorem str_add (a b : List UInt8) : str a ++ str b = str (a ++ b) := by
  apply ByteArray.ext
  simp [str]
theorem str_size (a : List UInt8) : (str a).size = a.length := by simp [str, ByteArray.size]
theorem str_inj {a b : List UInt8} (h : str a = str b) : a = b := by
  have := congrArg (fun x : ByteArray => x.data.toList) h
  simpa [str] using this
mutual
def textT : S24 → List UInt8
  | ⟨kind, n, args⟩ => if kind = 1 then itoa n else if kind = 2 then 97 :: itoa n else if kind = 3 then 112 :: itoa n else 123 :: (textL args true ++ [125])
def textL : List S24 → Bool → List UInt8
  | [], _ => []
  | x :: xs, first => (if first = true then [] else [44]) ++ textT x ++ textL xs false
end
mutual
theorem textT_len {x : S24} : WfT x → (textT x).length + 1 ≤ 25 * nodesT x
  | .mk (kind := kind) (n := n) (args := args) h0 h1 hl h2 => by
    have hn : (decide (-9223372036854775808 ≤ n) && decide (n ≤ 9223372036854775807)) = true := h1
    simp only [Bool.and_eq_true, decide_eq_true_eq] at hn
    have hi := itoa_length_le n hn.1 hn.2
    unfold textT nodesT
    split
    · omega
    · split
      · simp only [List.length_cons]; omega
      · split
        · simp only [List.length_cons]; omega
        · have := textL_len args true h2
          simp only [List.length_cons, List.length_append, List.length_nil]
          omega
theorem textL_len : ∀ (l : List S24) (b : Bool), (∀ y ∈ l, WfT y) → (textL l b).length ≤ 25 * nodesL l
  | [], b, _ => by simp [textL, nodesL]
  | x :: xs, b, h => by
    unfold textL nodesL
    have h1 := textT_len (h x (by simp))
    have h2 := textL_len xs false (fun y hy => h y (by simp [hy]))
    simp only [List.length_append, List.length_cons]
    split <;> simp <;> omega
end
/-! #### digits -/
theorem dec_step (u : Nat) : decDigits u = if u < 10 then [UInt8.ofNat (48 + u)] else decDigits (u / 10) ++ [UInt8.ofNat (48 + u % 10)] := by
  rw [decDigits]
  by_cases h : u < 10 <;> simp [h]
theorem tdiv10 (n : Int) : (0 ≤ n → Int.tdiv n 10 = n / 10 ∧ Int.tmod n 10 = n % 10) ∧ (n < 0 → Int.tdiv n 10 = -((-n) / 10) ∧ Int.tmod n 10 = -((-n) % 10)) := by
  refine ⟨fun h => ⟨Int.tdiv_eq_ediv_of_nonneg h, Int.tmod_eq_emod_of_nonneg h⟩, fun h => ?_⟩
  obtain ⟨m, rfl⟩ : ∃ m, n = -m := ⟨-n, by omega⟩
  rw [Int.neg_tdiv, Int.neg_tmod, Int.tdiv_eq_ediv_of_nonneg (by omega), Int.tmod_eq_emod_of_nonneg (by omega), Int.neg_neg]
  exact ⟨rfl, rfl⟩
theorem digits_l (m : Nat) (hm : m ≤ 20) : ∀ (n : Int) (acc : List UInt8), -9223372036854775808 ≤ n → n ≤ 9223372036854775807 → n.natAbs < 10 ^ m → acc.length ≤ 1000 - m → 1 ≤ m → Ev (fun k => postbagref03_digits.l0 k n (str acc)) (str (decDigits n.natAbs ++ acc)) := by
  induction m with
  | zero => intro n acc _ _ _ _ h; omega
  | succ m ih =>
    intro n acc h0 h1 hn ha _
    have ht := tdiv10 n
    have hq : wrap64 (Int.tdiv n 10) = Int.tdiv n 10 := w64' (by omega) (by omega)
    have hab : (Int.tdiv n 10).natAbs = n.natAbs / 10 := by omega
    have hone : ∀ (d : Int), strOfNums [d] = str [UInt8.ofNat d.toNat] := fun d => rfl
    have step : ∀ (d : Int), d.toNat = 48 + n.natAbs % 10 → Ev (fun k => if (strOfNums [d]).size + (str acc).size ≤ 9223372036854775807 then (if (wrap64 (Int.tdiv n 10)) = 0 then (some ((strOfNums [d]) ++ str acc)) else (postbagref03_digits.l0 k (wrap64 (Int.tdiv n 10)) ((strOfNums [d]) ++ str acc))) else none) (str (decDigits n.natAbs ++ acc)) := by
      intro d hd
      rw [hone, str_add, hd, hq]
      have hs : (str [UInt8.ofNat (48 + n.natAbs % 10)]).size + (str acc).size ≤ 9223372036854775807 := by rw [str_size, str_size]; simp; omega
      simp only [hs, if_true]
      by_cases hz : Int.tdiv n 10 = 0
      · simp only [hz, if_true]
        have hl : n.natAbs < 10 := by omega
        rw [dec_step, if_pos hl, Nat.mod_eq_of_lt hl]
        exact Ev.now _
      · simp only [hz, if_false]
        have hl : ¬ n.natAbs < 10 := by omega
        rw [dec_step, if_neg hl, List.append_assoc, ← hab]
        have hm1 : 1 ≤ m := by
          rcases Nat.eq_zero_or_pos m with h | h
          · subst h; simp at hn; omega
          · exact h
        exact ih (by omega) (Int.tdiv n 10) ([UInt8.ofNat (48 + n.natAbs % 10)] ++ acc) (by omega) (by omega) (by rw [hab]; rw [Nat.pow_succ] at hn; omega) (by simp; omega) hm1
    by_cases hneg : Int.tmod n 10 < 0
    · refine Ev.step (fun k => ?_) (step (wrap64 (48 + wrap64 (-(Int.tmod n 10))) % 256) ?_)
      · simp only [postbagref03_digits.l0]
        rw [if_pos hneg]
        rfl
      · rw [w64' (n := -(Int.tmod n 10)) (by omega) (by omega), w64' (by omega) (by omega)]; omega
    · refine Ev.step (fun k => ?_) (step (wrap64 (48 + (Int.tmod n 10)) % 256) ?_)
      · simp only [postbagref03_digits.l0]
        rw [if_neg hneg]
        rfl
      · rw [w64' (by omega) (by omega)]; omega
theorem digits_ev (n : Int) (h0 : -9223372036854775808 ≤ n) (h1 : n ≤ 9223372036854775807) : Ev (fun k => postbagref03_digits.f k n) (str (decDigits n.natAbs)) := by
  have h := digits_l 20 (by decide) n [] h0 h1 (by omega) (by simp) (by decide)
  rw [List.append_nil] at h
  exact h
theorem number_ev (n : Int) (h0 : -9223372036854775808 ≤ n) (h1 : n ≤ 9223372036854775807) : Ev (fun k => postbagref03_Number.f k n) (str (itoa n)) := by
  have hd := digits_ev n h0 h1
  have hl : (decDigits n.natAbs).length ≤ 20 := by rw [decDigits_length]; exact nDigits_le20 _ (by omega)
  by_cases hneg : n < 0
  · have e : itoa n = 45 :: decDigits n.natAbs := by unfold itoa; rw [if_pos hneg]
    rw [e]
    refine Ev.congr (f := fun k => (postbagref03_digits.f k n).bind fun t154 => (if 1 + t154.size ≤ 9223372036854775807 then (some ((⟨#[45]⟩ : ByteArray) ++ t154)) else (none))) (fun k => by unfold postbagref03_Number.f; rw [if_pos hneg]) ?_
    refine Ev.bind hd ?_
    have hs : 1 + (str (decDigits n.natAbs)).size ≤ 9223372036854775807 := by rw [str_size]; omega
    simp only [hs, if_true]
    exact Ev.congr (fun k => congrArg some (str_add [45] _)) (Ev.now _)
  · have e : itoa n = decDigits n.natAbs := by unfold itoa; rw [if_neg hneg]; congr 1; omega
    rw [e]
    refine Ev.congr (f := fun k => (postbagref03_digits.f k n).bind fun t155 => some t155) (fun k => by unfold postbagref03_Number.f; rw [if_neg hneg]) ?_
    exact Ev.bind hd (Ev.now _)

/-! #### the document's Text -/
theorem text_l (kind n : Int) (l : List S24) (hlen : l.length ≤ 9223372036854775807) (ih : ∀ y ∈ l, nodesT y ≤ 100000 → Ev (fun k => postbagref15_Text.f k y.f0 y.f1 y.f2) (str (textT y))) (hw : ∀ y ∈ l, WfT y) : ∀ (d i : Nat) (acc : List UInt8), i + d = l.length → acc.length + 25 * nodesL (l.drop i) ≤ 10000000 → nodesL (l.drop i) ≤ 100000 →
    Ev (fun k => postbagref15_Text.l0 k (str acc) (i : Int) kind n l) (str (acc ++ textL (l.drop i) (i == 0) ++ [125]))
  | 0, i, acc, hi, ha, hnl => by
    rw [List.drop_of_length_le (by omega), textL, List.append_nil]
    rw [List.drop_of_length_le (by omega)] at ha
    have hs : (str acc).size + 1 ≤ 9223372036854775807 := by rw [str_size]; omega
    refine Ev.step (f := fun _ => some (str (acc ++ [125]))) (fun k => ?_) (Ev.now _)
    simp only [postbagref15_Text.l0]
    rw [if_neg (by omega), if_pos hs]
    exact congrArg some (str_add acc [125])
  | d + 1, i, acc, hi, ha, hnl => by
    have hil : i < l.length := by omega
    rw [List.drop_eq_getElem_cons hil, nodesL] at ha hnl
    rw [List.drop_eq_getElem_cons hil, textL]
    have ht := textT_len (hw _ (List.getElem_mem hil))
    have h1 := ih _ (List.getElem_mem hil) (by omega)
    by_cases h0 : i = 0
    · subst h0
      have h2 := text_l kind n l hlen ih hw d (0 + 1) (acc ++ textT l[0]) (by omega) (by simp only [List.length_append]; omega) (by omega)
      refine Ev.step (f := fun k => (postbagref15_Text.f k (l[0]).f0 (l[0]).f1 (l[0]).f2).bind fun t163 => (if (str acc).size + t163.size ≤ 9223372036854775807 then (postbagref15_Text.l0 k (str acc ++ t163) ((0 + 1 : Nat) : Int) kind n l) else none)) (fun k => ?_) ?_
      · simp only [postbagref15_Text.l0]
        rw [if_pos (by omega), if_neg (by omega), if_pos (by omega), rd_at hil, w64' (n := ((0 : Nat) : Int) + 1) (by omega) (by omega)]
        rfl
      · refine Ev.bind h1 ?_
        have hs : (str acc).size + (str (textT l[0])).size ≤ 9223372036854775807 := by rw [str_size, str_size]; omega
        simp only [hs, if_true, str_add]
        simpa using h2
    · have h2 := text_l kind n l hlen ih hw d (i + 1) ((acc ++ [44]) ++ textT l[i]) (by omega) (by simp only [List.length_append, List.length_cons, List.length_nil]; omega) (by omega)
      refine Ev.step (f := fun k => (postbagref15_Text.f k (l[i]).f0 (l[i]).f1 (l[i]).f2).bind fun t161 => (if (str acc ++ str [44]).size + t161.size ≤ 9223372036854775807 then (postbagref15_Text.l0 k (str acc ++ str [44] ++ t161) ((i + 1 : Nat) : Int) kind n l) else none)) (fun k => ?_) ?_
      · have hs : (str acc).size + 1 ≤ 9223372036854775807 := by rw [str_size]; omega
        simp only [postbagref15_Text.l0]
        rw [if_pos (by omega), if_pos (by omega), if_pos hs, if_pos (by omega), rd_at hil, w64' (n := (i : Int) + 1) (by omega) (by omega), show ((i + 1 : Nat) : Int) = (i : Int) + 1 by omega]
        rfl
      · refine Ev.bind h1 ?_
        have hs : (str (acc ++ [44])).size + (str (textT l[i])).size ≤ 9223372036854775807 := by rw [str_size, str_size]; simp only [List.length_append, List.length_cons, List.length_nil]; omega
        simp only [hs, if_true, str_add]
        have e1 : (i + 1 == 0) = false := by simp
        have e2 : (i == 0) = false := by simp [h0]
        rw [e1] at h2
        rw [e2]
        simpa using h2
theorem text_ev {x : S24} (h : WfT x) : nodesT x ≤ 100000 → Ev (fun k => postbagref15_Text.f k x.f0 x.f1 x.f2) (str (textT x)) := by
  induction h with
  | mk h0 h1 hl h2 ih =>
    rename_i kind n args
    intro hn
    have hr : (decide (-9223372036854775808 ≤ n) && decide (n ≤ 9223372036854775807)) = true := h1
    simp only [Bool.and_eq_true, decide_eq_true_eq] at hr
    have hi := itoa_length_le n hr.1 hr.2
    have hv := number_ev n hr.1 hr.2
    unfold textT
    by_cases k1 : kind = 1
    · rw [if_pos k1]
      exact Ev.step (fun k => by simp only [postbagref15_Text.f]; rw [if_pos k1]) (Ev.bind hv (Ev.now _))
    rw [if_neg k1]
    by_cases k2 : kind = 2
    · rw [if_pos k2]
      refine Ev.step (fun k => by simp only [postbagref15_Text.f]; rw [if_neg k1, if_pos k2]) (Ev.bind hv ?_)
      have hs : 1 + (str (itoa n)).size ≤ 9223372036854775807 := by rw [str_size]; omega
      simp only [hs, if_true]
      exact Ev.congr (fun k => congrArg some (str_add [97] _)) (Ev.now _)
    rw [if_neg k2]
    by_cases k3 : kind = 3
    · rw [if_pos k3]
      refine Ev.step (fun k => by simp only [postbagref15_Text.f]; rw [if_neg k1, if_neg k2, if_pos k3]) (Ev.bind hv ?_)
      have hs : 1 + (str (itoa n)).size ≤ 9223372036854775807 := by rw [str_size]; omega
      simp only [hs, if_true]
      exact Ev.congr (fun k => congrArg some (str_add [112] _)) (Ev.now _)
    rw [if_neg k3]
    unfold nodesT at hn
    have ha := text_l kind n args hl (fun y hy hny => ih y hy hny) h2 args.length 0 [123] (by omega) (by simp; omega) (by simp; omega)
    refine Ev.step (fun k => by simp only [postbagref15_Text.f]; rw [if_neg k1, if_neg k2, if_neg k3]) ?_
    have e : (123 :: (textL args true ++ [125])) = [123] ++ textL (args.drop 0) (0 == 0) ++ [125] := by simp
    rw [e]
    exact ha
end Go.Proofs.YtpgbpcnifhnjjaaDoor.PValueTells
