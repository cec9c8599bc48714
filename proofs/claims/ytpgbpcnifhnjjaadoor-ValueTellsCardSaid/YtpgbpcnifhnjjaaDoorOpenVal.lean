/- An argument of type api.Value that can be read as data is a tree of values, its parts read out of memory. -/
import Derived.Test.YtpgbpcnifhnjjaaDoorMore
import Derived.Test.YtpgbpcnifhnjjaaDoorTreePure
import Derived.ProofKit
import Derived.ChangeArms
import Derived.WideShapes
namespace Go.Proofs.YtpgbpcnifhnjjaaDoor.PValueTells
open Go.RowKit Go.ChangeShapes Go.WideShapes Go.ChangeAt Go.Proofs.YtpgbpcnifhnjjaaDoorW.PrintWords Go.Proofs.YtpgbpcnifhnjjaaDoorW.PrintLast Go.Proofs.YtpgbpcnifhnjjaaDoorW.PrintMore
set_option linter.unusedVariables false

theorem val_cells : Tryd.prog.cellsOf 24 = 3 := by kernel_rfl
theorem int_cells : Tryd.prog.cellsOf 3 = 1 := by kernel_rfl
theorem vals_cells : Tryd.prog.cellsOf 22 = 1 := by kernel_rfl
theorem k_sz : k24.sz = 3 := rfl
theorem choose_lt' {α : Type} {p : Nat → α → Prop} (z : α) : ∀ n, (∀ i, i < n → ∃ a, p i a) → ∃ l : List α, l.length = n ∧ ∀ i a, l[i]? = some a → p i a
  | 0, _ => ⟨[], rfl, fun i a h => by simp at h⟩
  | n + 1, h => by
    obtain ⟨l, hl, hp⟩ := choose_lt' z n (fun i hi => h i (by omega))
    obtain ⟨a, ha⟩ := h n (by omega)
    refine ⟨l ++ [a], by simp [hl], fun i b hb => ?_⟩
    by_cases hi : i < n
    · rw [List.getElem?_append_left (by omega)] at hb; exact hp i b hb
    · have hin : i = n := by
        have := (List.getElem?_eq_some_iff.1 hb).1
        simp [hl] at this; omega
      subst hin
      rw [List.getElem?_append_right (by omega)] at hb
      simp [hl] at hb
      exact hb ▸ ha
section
variable {H : Type} {enc : TypeId × Value → H} {w : World} {base : Nat} {spare : Nat → Bool} {held : Bool}
theorem open_val : ∀ (fuel : Nat) (cs : List Value) (x : DataW H × List MemPlace), DataW.trod enc Tryd.prog w base spare held fuel 24 cs = some x →
    ∃ (v : S24) (A : Option Addr) (c : Nat), cs = [.int .i64 v.f0, .int .i64 v.f1, .slice A v.f2.length c] ∧ v.f2.length ≤ c ∧ Kd.C k24 w A v.f2.length v.f2 ∧ WfT v := by
  intro fuel
  induction fuel using Nat.strongRecOn with
  | _ fuel ih =>
    intro cs x h
    obtain ⟨xs, n, hn, rfl, hl, hlen, hf⟩ := DataW.trod_struct Tryd.underlying24 h
    rw [val_cells] at hl
    match cs, hl with
    | [c0, c1, c2], _ =>
      have hlen' : xs.length = 3 := hlen
      match xs, hlen' with
      | [y0, y1, y2], _ =>
        have g0 : DataW.trod enc Tryd.prog w base spare held n 3 [c0] = some y0 := by have h' : DataW.trod enc Tryd.prog w base spare held n 3 (List.take (Tryd.prog.cellsOf 3) (List.drop 0 [c0, c1, c2])) = some y0 := hf 0 _ rfl; rw [int_cells] at h'; exact h'
        have g1 : DataW.trod enc Tryd.prog w base spare held n 3 [c1] = some y1 := by have h' : DataW.trod enc Tryd.prog w base spare held n 3 (List.take (Tryd.prog.cellsOf 3) (List.drop 1 [c0, c1, c2])) = some y1 := hf 1 _ rfl; rw [int_cells] at h'; exact h'
        have g2 : DataW.trod enc Tryd.prog w base spare held n 22 [c2] = some y2 := by have h' : DataW.trod enc Tryd.prog w base spare held n 22 (List.take (Tryd.prog.cellsOf 22) (List.drop 2 [c0, c1, c2])) = some y2 := hf 2 _ rfl; rw [vals_cells] at h'; exact h'
        obtain ⟨k, e0, _, w0⟩ := DataW.trod_int Tryd.underlying3 g0
        obtain ⟨m, e1, _, w1⟩ := DataW.trod_int Tryd.underlying3 g1
        injection e0 with e0
        injection e1 with e1
        subst e0
        subst e1
        rcases DataW.trod_slice Tryd.underlying22 g2 with ⟨e2, _⟩ | ⟨a, len, cap, elems, rest, n2, hn2, e2, _, _, hlc, hcm, hel, hr, _, _⟩
        · injection e2 with e2
          subst e2
          exact ⟨⟨k, m, []⟩, none, 0, rfl, Nat.le_refl _, Kd.C_nil _ _, .mk w0 w1 (by simp) (fun y hy => by cases hy)⟩
        · injection e2 with e2
          subst e2
          rw [val_cells] at hr
          obtain ⟨l, hll, hp⟩ := choose_lt' (α := S24) (p := fun i v => ∃ (A : Option Addr) (c : Nat), (∀ j u, [Value.int .i64 v.f0, .int .i64 v.f1, .slice A v.f2.length c][j]? = some u → w.cell? (a.add (i * 3 + j)) = some u) ∧ v.f2.length ≤ c ∧ Kd.C k24 w A v.f2.length v.f2 ∧ WfT v) z24 len (fun i hi => by
            have h1 := hr i hi
            have hei : elems[i]? = some elems[i] := List.getElem?_eq_getElem (by omega)
            rw [hei, Option.bind_eq_some_iff] at h1
            obtain ⟨ci, hci, hti⟩ := h1
            obtain ⟨v, A, c, hv, hc, hC, hw⟩ := ih n2 (by omega) ci _ hti
            refine ⟨v, A, c, fun j u hu => ?_, hc, hC, hw⟩
            obtain ⟨_, hcl, hcc⟩ := World.cells?_some hci
            have hj : j < 3 := by have := (List.getElem?_eq_some_iff.1 hu).1; simpa using this
            rw [← add_add, hcc j hj, hv]
            exact hu)
          subst hll
          refine ⟨⟨k, m, l⟩, some a, cap, rfl, hlc, ⟨rfl, by have := hcm; unfold maxLen at this; show l.length ≤ _; omega, fun _ => ⟨a, rfl, fun i v hv => ?_⟩⟩, .mk w0 w1 (by have := hcm; unfold maxLen at this; omega) (fun y hy => ?_)⟩
          · obtain ⟨A, c, hcell, hc, hC, _⟩ := hp i v hv
            exact ⟨[.int .i64 v.f0, .int .i64 v.f1, .slice A v.f2.length c], rfl, k24_mk w v hc hC, fun j u hu => hcell j u hu⟩
          · obtain ⟨i, hi, rfl⟩ := List.mem_iff_getElem.1 hy
            obtain ⟨_, _, _, _, _, hw⟩ := hp i _ (List.getElem?_eq_getElem hi)
            exact hw
/-- An argument of type api.Value. -/
theorem open_value {r : Reach} {b0 : Nat} {v : Value} {d : DataW H} {p : List MemPlace} (hv : Value.okWide Tryd.prog w r b0 24 v) (h : DataW.Trod enc Tryd.prog w base spare held 24 v d p) :
    ∃ (x : S24) (A : Option Addr) (c : Nat), v = .agg #[.int .i64 x.f0, .int .i64 x.f1, .slice A x.f2.length c] ∧ x.f2.length ≤ c ∧ Kd.C k24 w A x.f2.length x.f2 ∧ WfT x := by
  obtain ⟨cs, rfl, hsz⟩ := okWide_struct Tryd.underlying24 hv
  obtain ⟨fuel, hf⟩ := h
  obtain ⟨x, A, c, hcs, hc, hC, hw⟩ := open_val fuel _ _ hf
  refine ⟨x, A, c, ?_, hc, hC, hw⟩
  congr 1
  apply Array.ext'
  simpa [Value.cells] using hcs
end
end Go.Proofs.YtpgbpcnifhnjjaaDoor.PValueTells
