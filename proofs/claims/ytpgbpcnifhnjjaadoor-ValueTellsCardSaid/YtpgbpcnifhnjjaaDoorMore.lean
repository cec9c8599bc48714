/- Rows of values in one block, told by what they read as. -/
import Derived.Test.YtpgbpcnifhnjjaaDoorPValueTellsx0
namespace Go.Proofs.YtpgbpcnifhnjjaaDoor.PValueTells
open Go.RowKit Go.Proofs.YtpgbpcnifhnjjaaDoorW.PrintWords Go.Proofs.YtpgbpcnifhnjjaaDoorW.PrintLast Go.Proofs.YtpgbpcnifhnjjaaDoorW.PrintMore

theorem C_block {α : Type} {d : Kd α} {W : World} {g : Nat} {cs : Array Value} {t : TypeId} (hb : W.heap[g]? = some (.cells cs t (0, 0))) {xs : List α} (hr : Reps (d.K W) d.sz xs cs.toList) (hl : xs.length ≤ 9223372036854775807) : d.C W (some ⟨g, 0, none⟩) xs.length xs := by
  refine ⟨rfl, hl, fun _ => ⟨_, rfl, fun j p hp => ⟨(cs.toList.drop (j * d.sz)).take d.sz, d.K_len (hr.2 j p hp), hr.2 j p hp, fun i u hu => ?_⟩⟩⟩
  rw [add_plain, blk_cell hb]
  have hi : i < d.sz := by
    have := (List.getElem?_eq_some_iff.1 hu).1
    rw [List.length_take] at this
    omega
  rw [List.getElem?_take, if_pos hi, List.getElem?_drop] at hu
  rw [← Array.getElem?_toList]
  exact hu
theorem val_K {w : World} {x0 x1 : Int} {A : Option Addr} {c : Nat} {l : List S24} (hc : l.length ≤ c) (h : Kd.C k24 w A l.length l) : k24.K w ⟨x0, x1, l⟩ [.int .i64 x0, .int .i64 x1, .slice A l.length c] := k24_mk w ⟨x0, x1, l⟩ hc h
/-- One value, two, in a row of their own. -/
theorem reps_one_val {w : World} {x : S24} {c : List Value} (h : k24.K w x c) : Reps (k24.K w) k24.sz [x] c := by
  simpa using (Reps.none (k24.K w) k24.sz).snoc h (k24.K_len h)
theorem reps_two_val {w : World} {x y : S24} {c d : List Value} (h : k24.K w x c) (h2 : k24.K w y d) : Reps (k24.K w) k24.sz [x, y] (c ++ d) := (reps_one_val h).snoc h2 (k24.K_len h2)
end Go.Proofs.YtpgbpcnifhnjjaaDoor.PValueTells
