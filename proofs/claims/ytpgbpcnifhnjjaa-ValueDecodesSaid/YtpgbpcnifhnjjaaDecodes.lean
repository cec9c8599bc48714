/- ValueDecodes, walked: at any word, any words, any base it answers true, and nothing that was there has turned. -/
import Derived.Test.YtpgbpcnifhnjjaaDecPure
import Derived.Test.YtpgbpcnifhnjjaaDecode
import Derived.Test.YtpgbpcnifhnjjaaRDecode
import Derived.Test.YtpgbpcnifhnjjaaLater
import Derived.Test.YtpgbpcnifhnjjaaLives
namespace Go.Proofs.Ytpgbpcnifhnjjaa.PValueOps
open Go.RowKit Go.Proofs.YtpgbpcnifhnjjaaW.PrintWords Go.Proofs.YtpgbpcnifhnjjaaW.PrintLast Go.Proofs.YtpgbpcnifhnjjaaW.PrintMore Go.Proofs.Ytpgbpcnifhnjjaa.Later
set_option linter.unusedVariables false
set_option linter.unusedSimpArgs false
theorem in64 {x : Int} (h : (Lit.int .u64 x).wf = true) : 0 ≤ x ∧ x ≤ 18446744073709551615 := by
  have h : (decide (0 ≤ x) && decide (x ≤ 18446744073709551615)) = true := h
  simpa using h
/-- The cells of a value in a world, and in every later one. -/
theorem cells3d {W : World} {g : Nat} {x y z : Value} {t : TypeId} (h : W.heap[g]? = some (.cells #[x, y, z] t (0, 0))) : (∀ n : Later W, n.w.cell? ⟨g, 0, none⟩ = some x) ∧ (∀ n : Later W, n.w.cell? ⟨g, 1, none⟩ = some y) ∧ (∀ n : Later W, n.w.cell? ⟨g, 2, none⟩ = some z) :=
  ⟨fun n => n.cell ((blk_cell h 0).trans rfl), fun n => n.cell ((blk_cell h 1).trans rfl), fun n => n.cell ((blk_cell h 2).trans rfl)⟩

set_option maxHeartbeats 4000000 in
set_option maxRecDepth 100000 in
theorem decodes_calls (u : Int) (ws : List Int) (A : Option Addr) (c : Nat) (base : Int) (w : World) (hu : (Lit.int .u64 u).wf = true) (hW : ReadsInt w .u64 A ws.length ws) (hc : ws.length ≤ c) (hlen : ws.length * 8 ≤ 140737488351232) (hwf : ∀ x ∈ ws, (Lit.int .u64 x).wf = true) (hb : (Lit.int .u64 base).wf = true) : Calls Try.prog 5 #[.int .u64 u, .slice A ws.length c, .int .u64 base] w fun e w' => e = .returned (.bool true) ∧ Below w.heap.size w w' := by
  by_cases hl : 500 < ws.length
  · have hl' : (ws.length : Int) > 500 := by omega
    go_enter Try.func5, Try.ntmps5
    go_wp2_with fail
    refine (lives_calls _).mono ?_
    rintro e w6 ⟨rfl, hb⟩
    go_wp2
    go_ret
    exact ⟨rfl, hb⟩
  have hl' : ¬ (ws.length : Int) > 500 := by omega
  have hd : ∀ v, ReadsInt v .u64 A ws.length ws → _ := fun v h => decode_calls u A ws c base v h hc (by omega) (fun x hx => in64 (hwf x hx)) (in64 hu).1 (in64 hu).2 (in64 hb).1 (in64 hb).2
  have hr : ∀ v, ReadsInt v .u64 A ws.length ws → _ := fun v h => rdecode_calls u A ws c base v h hc (by omega) (fun x hx => in64 (hwf x hx)) (in64 hu).1 (in64 hu).2 (in64 hb).1 (in64 hb).2
  have hwft : WfT (rdV ws base 64 u 0).1 := rdV_wf (fun x hx => (in64 (hwf x hx)).1) base 64 u 0 (in64 hu).1
  have hgood : (rdV ws base 64 u 0).2.1 = 0 → goodT (rdV ws base 64 u 0).1 64 = true := fun h => (rdV_good (fun x hx => (in64 (hwf x hx)).1) base 64 u 0 (in64 hu).1 h).1
  clear hwf hu hb
  generalize rdV ws base 64 u 0 = r at hd hr hwft hgood
  obtain ⟨⟨x0, x1, l⟩, e, met⟩ := r
  obtain ⟨k, hk⟩ := (same_self hwft).rounds
  have hg' : e = 0 → ∃ k, value_Good.f k x0 x1 l = some true := fun h => by
    have := Good_ev hwft
    rw [hgood h] at this
    exact this.rounds
  simp only at hd hr hk
  have HD := Aside0.mk hd
  have HR := Aside0.mk hr
  have HK := Aside0.mk hk
  have HG := Aside0.mk hg'
  have HW := Aside0.mk hW
  clear hd hr hk hg' hgood hwft hW
  go_enter Try.func5, Try.ntmps5
  go_wp2_with fail
  refine (HD.out _ HW.out).mono ?_
  rintro er w1 ⟨v2, rfl, hR2, hB⟩
  obtain ⟨A2, c2, rfl⟩ := Kd.R_slice hR2
  have HB := Aside0.mk hB
  have HC := Aside0.mk (Kd.R_reads' hR2).2
  clear hR2 hB HD
  go_wp2_with fail
  refine (HR.out _ (ReadsInt.below HW.out (below_alloc HB.out _))).mono ?_
  rintro er w2 ⟨v3, rfl, hR3, hB⟩
  obtain ⟨A3, c3, rfl⟩ := Kd.R_slice hR3
  have HB2 := Aside0.mk (below_step (below_alloc HB.out _) hB)
  have HC2 := Aside0.mk (And.intro HC.out.1 (Kd.C_below HC.out.2 (below_step (below_alloc (Below.refl _ w1) _) hB)))
  have HC3 := Aside0.mk (Kd.R_reads' hR3).2
  have BX := Aside0.mk (blk_below (blk_new w1 _) hB)
  generalize w1.heap.size = gx at BX ⊢
  clear hR3 hB HR HC HB
  go_wp2_with (first
    | ((with_reducible refine gate_dst (N := 29) rfl ?_)
       have bx := blk_alloc BX.out (.cells #[.int .i64 x0, .int .i64 x1, .slice A3 l.length c3] 24)
       have by_ := blk_new w2 (.cells #[.int .i64 x0, .int .i64 x1, .slice A3 l.length c3] 24)
       have hb := below_alloc HB2.out (.cells #[.int .i64 x0, .int .i64 x1, .slice A3 l.length c3] 24)
       have h2 := And.intro HC2.out.1 (Kd.C_below HC2.out.2 (below_alloc (Below.refl _ w2) (.cells #[.int .i64 x0, .int .i64 x1, .slice A3 l.length c3] 24)))
       have h3 := And.intro HC3.out.1 (Kd.C_below HC3.out.2 (below_alloc (Below.refl _ w2) (.cells #[.int .i64 x0, .int .i64 x1, .slice A3 l.length c3] 24)))
       clear HC2 HC3 HB2 BX
       generalize w2.alloc (.cells #[.int .i64 x0, .int .i64 x1, .slice A3 l.length c3] 24) = W at bx by_ hb h2 h3 ⊢
       generalize w2.heap.size = gy at by_ ⊢
       have HB := Aside0.mk hb
       have HC2 := Aside0.mk h2
       have HC3 := Aside0.mk h3
       have cx0 : W.cell? ⟨gx, 0, none⟩ = some (.int .i64 x0) := (blk_cell bx 0).trans rfl
       have cx1 : W.cell? ⟨gx, 1, none⟩ = some (.int .i64 x1) := (blk_cell bx 1).trans rfl
       have cx2 : W.cell? ⟨gx, 2, none⟩ = some (.slice A2 l.length c2) := (blk_cell bx 2).trans rfl
       have cy0 : W.cell? ⟨gy, 0, none⟩ = some (.int .i64 x0) := (blk_cell by_ 0).trans rfl
       have cy1 : W.cell? ⟨gy, 1, none⟩ = some (.int .i64 x1) := (blk_cell by_ 1).trans rfl
       have cy2 : W.cell? ⟨gy, 2, none⟩ = some (.slice A3 l.length c3) := (blk_cell by_ 2).trans rfl
       have BX := Aside0.mk bx
       clear bx by_ hb h2 h3))
  refine (postbagref15_Same.calls k x0 x1 A2 c2 l x0 x1 A3 c3 l true _ HC2.out.2 HC2.out.1 HC3.out.2 HC3.out.1 HK.out).mono ?_
  rintro er w4 ⟨rfl, hB⟩
  have HB4 := Aside0.mk (below_step HB.out hB)
  have HC4 := Aside0.mk (Kd.C_below HC2.out.2 hB)
  have bx := blk_below BX.out hB
  clear hB cx0 cx1 cx2 cy0 cy1 cy2 BX
  have cx0 : w4.cell? ⟨gx, 0, none⟩ = some (.int .i64 x0) := (blk_cell bx 0).trans rfl
  have cx1 : w4.cell? ⟨gx, 1, none⟩ = some (.int .i64 x1) := (blk_cell bx 1).trans rfl
  have cx2 : w4.cell? ⟨gx, 2, none⟩ = some (.slice A2 l.length c2) := (blk_cell bx 2).trans rfl
  clear bx
  by_cases he : e = 0
  · obtain ⟨k2, hk2⟩ := HG.out he
    have he' : (e != 0) = false := by simp [he]
    go_wp2_with fail
    refine (value_Good.calls k2 x0 x1 A2 c2 l true _ HC4.out HC2.out.1 hk2).mono ?_
    rintro er w5 ⟨rfl, hB⟩
    have HB5 := Aside0.mk (below_step HB4.out hB)
    clear hB
    go_wp2_with fail
    refine (lives_calls _).mono ?_
    rintro er w6 ⟨rfl, hB⟩
    have HB6 := Aside0.mk (below_step HB5.out hB)
    clear hB
    go_wp2
    go_ret
    exact ⟨rfl, HB6.out⟩
  · have he' : (e != 0) = true := by simp [he]
    go_wp2_with fail
    refine (lives_calls _).mono ?_
    rintro er w6 ⟨rfl, hB⟩
    have HB6 := Aside0.mk (below_step HB4.out hB)
    clear hB
    go_wp2
    go_ret
    exact ⟨rfl, HB6.out⟩
end Go.Proofs.Ytpgbpcnifhnjjaa.PValueOps
