/- Light, called with one value or two in a new slice: it answers; where it answers yes the values are small. -/
import Derived.Test.YtpgbpcnifhnjjaaDoorTreePure
import Derived.Test.YtpgbpcnifhnjjaaDoorMore
namespace Go.Proofs.YtpgbpcnifhnjjaaDoor.PValueTells
open Go.RowKit Go.Proofs.YtpgbpcnifhnjjaaDoorW.PrintWords Go.Proofs.YtpgbpcnifhnjjaaDoorW.PrintLast Go.Proofs.YtpgbpcnifhnjjaaDoorW.PrintMore
/-- A value in an argument: its tree, and where its parts lie. -/
structure Arg (w : World) (x : S24) (A : Option Addr) (c : Nat) : Prop where
  hc : x.f2.length ≤ c
  hC : Kd.C k24 w A x.f2.length x.f2
  hw : WfT x
theorem Arg.below {w w1 : World} {x : S24} {A : Option Addr} {c : Nat} (h : Arg w x A c) (hb : Below w.heap.size w w1) : Arg w1 x A c := ⟨h.hc, Kd.C_below h.hC hb, h.hw⟩
theorem light2 {w0 : World} {x y : S24} {A B : Option Addr} {c d : Nat} (hx : Arg w0 x A c) (hy : Arg w0 y B d) : ∃ r : Bool, (r = true → nodesT x ≤ 500 ∧ nodesT y ≤ 500) ∧ ∀ (g : Nat) (w : World), Below w0.heap.size w0 w →
    w.heap[g]? = some (.cells #[.int .i64 x.f0, .int .i64 x.f1, .slice A x.f2.length c, .int .i64 y.f0, .int .i64 y.f1, .slice B y.f2.length d] 24 (0, 0)) →
    Calls Tryd.prog 5 #[.slice (some ⟨g, 0, none⟩) 2 2] w fun e w' => e = .returned (.bool r) ∧ Below w.heap.size w w' := by
  obtain ⟨r, hr, hn⟩ := light_ev [x, y] (by simp) (fun z hz => (List.mem_cons.1 hz).elim (fun e => e ▸ hx.hw) (fun hz => (List.mem_cons.1 hz).elim (fun e => e ▸ hy.hw) (fun h => by cases h)))
  obtain ⟨k, hk⟩ := hr.rounds
  refine ⟨r, fun h => ⟨hn h x (by simp), hn h y (by simp)⟩, fun g w hb hg => ?_⟩
  exact postbaglaw15_Light.calls k (some ⟨g, 0, none⟩) 2 [x, y] r w (C_block hg (reps_two_val (k24_mk w x hx.hc (Kd.C_below hx.hC hb)) (k24_mk w y hy.hc (Kd.C_below hy.hC hb))) (by simp)) (by simp) hk
theorem light1 {w0 : World} {x : S24} {A : Option Addr} {c : Nat} (hx : Arg w0 x A c) : ∃ r : Bool, (r = true → nodesT x ≤ 500) ∧ ∀ (g : Nat) (w : World), Below w0.heap.size w0 w →
    w.heap[g]? = some (.cells #[.int .i64 x.f0, .int .i64 x.f1, .slice A x.f2.length c] 24 (0, 0)) →
    Calls Tryd.prog 5 #[.slice (some ⟨g, 0, none⟩) 1 1] w fun e w' => e = .returned (.bool r) ∧ Below w.heap.size w w' := by
  obtain ⟨r, hr, hn⟩ := light_ev [x] (by simp) (fun z hz => (List.mem_cons.1 hz).elim (fun e => e ▸ hx.hw) (fun h => by cases h))
  obtain ⟨k, hk⟩ := hr.rounds
  refine ⟨r, fun h => hn h x (by simp), fun g w hb hg => ?_⟩
  exact postbaglaw15_Light.calls k (some ⟨g, 0, none⟩) 1 [x] r w (C_block hg (reps_one_val (k24_mk w x hx.hc (Kd.C_below hx.hC hb))) (by simp)) (by simp) hk
end Go.Proofs.YtpgbpcnifhnjjaaDoor.PValueTells
