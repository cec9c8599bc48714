/- ValueOps, walked: at any sign and any two values that can be read it answers true, and nothing that was there has turned. -/
import Derived.Test.YtpgbpcnifhnjjaaOpsPure
import Derived.Test.YtpgbpcnifhnjjaaLight
import Derived.Test.YtpgbpcnifhnjjaaOpN
import Derived.Test.YtpgbpcnifhnjjaaRefOpN
import Derived.Test.YtpgbpcnifhnjjaaLater
import Derived.Test.YtpgbpcnifhnjjaaLives
namespace Go.Proofs.Ytpgbpcnifhnjjaa.PValueOps
open Go.RowKit Go.Proofs.YtpgbpcnifhnjjaaW.PrintWords Go.Proofs.YtpgbpcnifhnjjaaW.PrintLast Go.Proofs.YtpgbpcnifhnjjaaW.PrintMore Go.Proofs.Ytpgbpcnifhnjjaa.Later
set_option linter.unusedVariables false
set_option linter.unusedSimpArgs false
theorem same_num' (x : Int) (w : World) : Calls Try.prog 9 #[.agg #[.int .i64 1, .int .i64 x, .slice none 0 0], .agg #[.int .i64 1, .int .i64 x, .slice none 0 0]] w fun e w' => e = .returned (.bool true) ∧ Below w.heap.size w w' :=
  postbagref15_Same.calls 5 1 x none 0 [] 1 x none 0 [] true w (Kd.C_nil _ _) (Nat.le_refl _) (Kd.C_nil _ _) (Nat.le_refl _) (by simp [postbagref15_Same.f, postbagref15_Same.j0, postbagref15_Same.l0])
/-- The cells of a value in a world, and in every later one. -/
theorem cells3' {W : World} {g : Nat} {x y z : Value} {t : TypeId} (h : W.heap[g]? = some (.cells #[x, y, z] t (0, 0))) : (∀ n : Later W, n.w.cell? ⟨g, 0, none⟩ = some x) ∧ (∀ n : Later W, n.w.cell? ⟨g, 1, none⟩ = some y) ∧ (∀ n : Later W, n.w.cell? ⟨g, 2, none⟩ = some z) :=
  ⟨fun n => n.cell ((blk_cell h 0).trans rfl), fun n => n.cell ((blk_cell h 1).trans rfl), fun n => n.cell ((blk_cell h 2).trans rfl)⟩

set_option maxHeartbeats 4000000 in
set_option maxRecDepth 100000 in
theorem ops_calls (s : ByteArray) (x : S24) (A : Option Addr) (c : Nat) (y : S24) (B : Option Addr) (d : Nat) (w : World) (hs : s.size ≤ 140737488351232) (hx : Arg w x A c) (hy : Arg w y B d) : Calls Try.prog 3 #[.string s, .agg #[.int .i64 x.f0, .int .i64 x.f1, .slice A x.f2.length c], .agg #[.int .i64 y.f0, .int .i64 y.f1, .slice B y.f2.length d]] w fun e w' => e = .returned (.bool true) ∧ Below w.heap.size w w' := by
  obtain ⟨r, -, hl⟩ := light2 hx hy
  obtain ⟨n, h1, h2⟩ := ops_same s x.f0 x.f1 x.f2 y.f0 y.f1 y.f2
  obtain ⟨b, h3, h4⟩ := holds_same x.f0 x.f1 x.f2
  have HL := Aside0.mk hl
  have H1 := Aside0.mk h1
  have H2 := Aside0.mk h2
  have H3 := Aside0.mk h3
  have H4 := Aside0.mk h4
  have HX := Aside0.mk hx
  have HY := Aside0.mk hy
  have HB := Aside0.mk (Below.refl w.heap.size w)
  clear hl h1 h2 h3 h4 hx hy
  go_enter Try.func3, Try.ntmps3
  go_wp2_with (first
    | ((with_reducible refine gate_dst (N := 4) rfl ?_); refine box_event ?hg (N := 4) ?hd (cs := #[.int .i64 x.f0, .int .i64 x.f1, .slice A x.f2.length c]) (t := 24) ?hr ?_; (case hd => rfl); (case hg => rfl); (case hr => first | (go_simp; done) | (go_simp; rfl))
       intro gx hg w3 hbox hb
       have n1 := Aside0.mk (below_step HB.out hb)
       have BX := Aside0.mk hbox
       clear HB hg hbox hb
       have HB := n1
       clear n1
       have cx0 : w3.cell? ⟨gx, 0, none⟩ = some (.int .i64 x.f0) := (blk_cell BX.out 0).trans rfl
       have cx1 : w3.cell? ⟨gx, 1, none⟩ = some (.int .i64 x.f1) := (blk_cell BX.out 1).trans rfl
       have cx2 : w3.cell? ⟨gx, 2, none⟩ = some (.slice A x.f2.length c) := (blk_cell BX.out 2).trans rfl)
    | ((with_reducible refine gate_dst (N := 5) rfl ?_); refine box_event ?hg (N := 5) ?hd (cs := #[.int .i64 y.f0, .int .i64 y.f1, .slice B y.f2.length d]) (t := 24) ?hr ?_; (case hd => rfl); (case hg => rfl); (case hr => first | (go_simp; done) | (go_simp; rfl))
       intro gy hg w4 hbox hb
       have n1 := Aside0.mk (below_step HB.out hb)
       have n2 := Aside0.mk (blk_below BX.out hb)
       have BY := Aside0.mk hbox
       clear HB hg hbox hb BX cx0 cx1 cx2
       have HB := n1
       have BX := n2
       clear n1 n2
       have cx0 : w4.cell? ⟨gx, 0, none⟩ = some (.int .i64 x.f0) := (blk_cell BX.out 0).trans rfl
       have cx1 : w4.cell? ⟨gx, 1, none⟩ = some (.int .i64 x.f1) := (blk_cell BX.out 1).trans rfl
       have cx2 : w4.cell? ⟨gx, 2, none⟩ = some (.slice A x.f2.length c) := (blk_cell BX.out 2).trans rfl
       have cy0 : w4.cell? ⟨gy, 0, none⟩ = some (.int .i64 y.f0) := (blk_cell BY.out 0).trans rfl
       have cy1 : w4.cell? ⟨gy, 1, none⟩ = some (.int .i64 y.f1) := (blk_cell BY.out 1).trans rfl
       have cy2 : w4.cell? ⟨gy, 2, none⟩ = some (.slice B y.f2.length d) := (blk_cell BY.out 2).trans rfl))
  refine (HL.out _ _ (below_alloc HB.out _) (blk_new _ _)).mono ?_
  rintro e w5 ⟨rfl, hb⟩
  have n1 := Aside0.mk (below_step (below_alloc HB.out _) hb)
  have n2 := Aside0.mk (blk_below (blk_alloc BX.out _) hb)
  have n3 := Aside0.mk (blk_below (blk_alloc BY.out _) hb)
  clear HB hb BX BY cx0 cx1 cx2 cy0 cy1 cy2 HL
  have HB := n1
  have BX := n2
  have BY := n3
  clear n1 n2 n3
  cases r with
  | false =>
    go_wp2_with fail
    refine (lives_calls _).mono ?_
    rintro e w6 ⟨rfl, hb⟩
    have HB6 := Aside0.mk (below_step HB.out hb)
    clear hb
    go_wp2
    go_ret
    exact ⟨rfl, HB6.out⟩
  | true =>
    go_wp2_with fail
    obtain ⟨cx0, cx1, cx2⟩ := cells3' BX.out
    obtain ⟨cy0, cy1, cy2⟩ := cells3' BY.out
    have ax : ∀ n : Later w5, Arg n.w x A c := fun n => HX.out.below (below_step HB.out n.h)
    have ay : ∀ n : Later w5, Arg n.w y B d := fun n => HY.out.below (below_step HB.out n.h)
    have AX := Aside0.mk ax
    have AY := Aside0.mk ay
    clear ax ay
    refine wp_region_later (W := w5) (by kernel_rfl) (by kernel_rfl) (Below.refl _ _) ?_
    repeat (go_big_quiet_step (first | (with_reducible refine calls_later (value_Op.callsN s x.f0 x.f1 A c x.f2 y.f0 y.f1 B d y.f2 1 n [] _ (AX.out _).hC HX.out.hc (AY.out _).hC HY.out.hc H1.out)) | (with_reducible refine calls_later (postbagref15_Op.callsN 137 s x.f0 x.f1 A c x.f2 y.f0 y.f1 B d y.f2 1 n [] _ (AX.out _).hC HX.out.hc (AY.out _).hC HY.out.hc H2.out)) | (with_reducible refine calls_later (value_Holds.calls x.f0 x.f1 A c x.f2 b _ (AX.out _).hC HX.out.hc H3.out)) | (with_reducible refine calls_later (postbagref15_Holds.calls x.f0 x.f1 A c x.f2 b _ (AX.out _).hC HX.out.hc H4.out)) | (with_reducible refine calls_later (same_num' _ _)) | (with_reducible refine calls_later (lives_calls _))))
    refine wpQuiet_nil ?_
    rintro _ ⟨n1, rfl⟩
    go_wp2_with fail
    go_ret
    exact ⟨rfl, below_step HB.out n1.h⟩
end Go.Proofs.Ytpgbpcnifhnjjaa.PValueOps
