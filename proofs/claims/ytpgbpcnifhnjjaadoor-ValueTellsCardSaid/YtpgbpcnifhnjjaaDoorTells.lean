/- ValueTells, walked: at any two values that can be read and any number it answers true, and nothing that was there has turned. -/
import Derived.Test.YtpgbpcnifhnjjaaDoorTellsPure
import Derived.Test.YtpgbpcnifhnjjaaDoorTextPure
import Derived.Test.YtpgbpcnifhnjjaaDoorText
import Derived.Test.YtpgbpcnifhnjjaaDoorLight
import Derived.Test.YtpgbpcnifhnjjaaDoorLater
import Derived.Test.YtpgbpcnifhnjjaaDoorLives
namespace Go.Proofs.YtpgbpcnifhnjjaaDoor.PValueTells
open Go.RowKit Go.Proofs.YtpgbpcnifhnjjaaDoorW.PrintWords Go.Proofs.YtpgbpcnifhnjjaaDoorW.PrintLast Go.Proofs.YtpgbpcnifhnjjaaDoorW.PrintMore Go.Proofs.YtpgbpcnifhnjjaaDoor.Later
set_option linter.unusedVariables false
set_option linter.unusedSimpArgs false
/-- The cells of a value in a world, and in every later one. -/
theorem cells3t {W : World} {g : Nat} {x y z : Value} {t : TypeId} (h : W.heap[g]? = some (.cells #[x, y, z] t (0, 0))) : (∀ n : Later W, n.w.cell? ⟨g, 0, none⟩ = some x) ∧ (∀ n : Later W, n.w.cell? ⟨g, 1, none⟩ = some y) ∧ (∀ n : Later W, n.w.cell? ⟨g, 2, none⟩ = some z) :=
  ⟨fun n => n.cell ((blk_cell h 0).trans rfl), fun n => n.cell ((blk_cell h 1).trans rfl), fun n => n.cell ((blk_cell h 2).trans rfl)⟩
theorem wrap_calls (n : Int) (w : World) : Calls Tryd.prog 13 #[.int .i64 n] w fun e w' => e = .returned (.int .i64 ((wrap64 (n * 4)) / 4)) ∧ Below w.heap.size w w' :=
  (value_Wrap.calls n _ w rfl).mono fun _ _ h => ⟨h.1, h.2.below⟩
theorem rwrap_calls (n : Int) (w : World) : Calls Tryd.prog 14 #[.int .i64 n] w fun e w' => e = .returned (.int .i64 ((wrap64 (n * 4)) / 4)) ∧ Below w.heap.size w w' :=
  (postbagref15_Wrap.calls 137 n _ w ((refWrap_f n 137 (by decide)).trans (by rw [wrap_same]))).mono fun _ _ h => ⟨h.1, h.2.below⟩

set_option maxHeartbeats 4000000 in
set_option maxRecDepth 100000 in
theorem tells_calls (x : S24) (A : Option Addr) (c : Nat) (y : S24) (B : Option Addr) (d : Nat) (n : Int) (w : World) (hx : Arg w x A c) (hy : Arg w y B d) (hn : (Lit.int .i64 n).wf = true) (ht : Lib.TabIs Tryd.prog w "internal/strconv.uint64pow10" .u64 Lib.pow10Tab) : Calls Tryd.prog 4 #[.agg #[.int .i64 x.f0, .int .i64 x.f1, .slice A x.f2.length c], .agg #[.int .i64 y.f0, .int .i64 y.f1, .slice B y.f2.length d], .int .i64 n] w fun e w' => e = .returned (.bool true) ∧ Below w.heap.size w w' := by
  obtain ⟨r, hnn, hl⟩ := light2 hx hy
  obtain ⟨k1, h1⟩ := (Good_ev hx.hw).rounds
  obtain ⟨k2, h2⟩ := (RGood_ev hx.hw).rounds
  obtain ⟨k3, h3⟩ := (vsame_ev hx.hw y).rounds
  obtain ⟨k4, h4⟩ := (same_ev hx.hw y).rounds
  have h5' := vsame_ev hx.hw x
  rw [(sameT_eq x x).2 rfl] at h5'
  obtain ⟨k5, h5⟩ := h5'.rounds
  have HL := Aside0.mk hl
  have HNN := Aside0.mk hnn
  have H1 := Aside0.mk h1
  have H2 := Aside0.mk h2
  have H3 := Aside0.mk h3
  have H4 := Aside0.mk h4
  have H5 := Aside0.mk h5
  have HX := Aside0.mk hx
  have HY := Aside0.mk hy
  have HT := Aside0.mk (Lib.tabBelow_of_tabIs ht)
  have HB := Aside0.mk (Below.refl w.heap.size w)
  clear hl hnn h1 h2 h3 h4 h5 h5' hx hy ht hn
  go_enter Tryd.func4, Tryd.ntmps4
  go_wp2_with (first
    | ((with_reducible refine gate_dst (N := 3) rfl ?_); refine box_event ?hg (N := 3) ?hd (cs := #[.int .i64 x.f0, .int .i64 x.f1, .slice A x.f2.length c]) (t := 24) ?hr ?_; (case hd => rfl); (case hg => rfl); (case hr => first | (go_simp; done) | (go_simp; rfl))
       intro gx hg w3 hbox hb
       have n1 := Aside0.mk (below_step HB.out hb)
       have BX := Aside0.mk hbox
       clear HB hg hbox hb
       have HB := n1
       clear n1
       have cx0 : w3.cell? ⟨gx, 0, none⟩ = some (.int .i64 x.f0) := (blk_cell BX.out 0).trans rfl
       have cx1 : w3.cell? ⟨gx, 1, none⟩ = some (.int .i64 x.f1) := (blk_cell BX.out 1).trans rfl
       have cx2 : w3.cell? ⟨gx, 2, none⟩ = some (.slice A x.f2.length c) := (blk_cell BX.out 2).trans rfl)
    | ((with_reducible refine gate_dst (N := 4) rfl ?_); refine box_event ?hg (N := 4) ?hd (cs := #[.int .i64 y.f0, .int .i64 y.f1, .slice B y.f2.length d]) (t := 24) ?hr ?_; (case hd => rfl); (case hg => rfl); (case hr => first | (go_simp; done) | (go_simp; rfl))
       intro gy hg w4 hbox hb
       have n1 := Aside0.mk (below_step HB.out hb)
       have n2 := Aside0.mk (blk_below BX.out hb)
       have BY := Aside0.mk hbox
       clear HB hg hbox hb BX cx0 cx1 cx2
       have HB := n1
       have BX := n2
       clear n1 n2
       have cx0 : w4.cell? ⟨gx, 0, none⟩ = some (.int .i64 x.f0) := (blk_cell BX.out 0).trans rfl
       have cx1 : w4.cell? ⟨gx, 1, none⟩ = some (.int .i64 x.f1) := (blk_cell BX.out 1).trans rfl
       have cx2 : w4.cell? ⟨gx, 2, none⟩ = some (.slice A x.f2.length c) := (blk_cell BX.out 2).trans rfl
       have cy0 : w4.cell? ⟨gy, 0, none⟩ = some (.int .i64 y.f0) := (blk_cell BY.out 0).trans rfl
       have cy1 : w4.cell? ⟨gy, 1, none⟩ = some (.int .i64 y.f1) := (blk_cell BY.out 1).trans rfl
       have cy2 : w4.cell? ⟨gy, 2, none⟩ = some (.slice B y.f2.length d) := (blk_cell BY.out 2).trans rfl))
  refine (HL.out _ _ (below_alloc HB.out _) (blk_new _ _)).mono ?_
  rintro e w5 ⟨rfl, hb⟩
  have n1 := Aside0.mk (below_step (below_alloc HB.out _) hb)
  have n2 := Aside0.mk (blk_below (blk_alloc BX.out _) hb)
  have n3 := Aside0.mk (blk_below (blk_alloc BY.out _) hb)
  clear HB hb BX BY cx0 cx1 cx2 cy0 cy1 cy2 HL
  have HB := n1
  have BX := n2
  have BY := n3
  clear n1 n2 n3
  cases r with
  | false =>
    go_wp2_with fail
    refine (lives_calls _).mono ?_
    rintro e w6 ⟨rfl, hb⟩
    have HB6 := Aside0.mk (below_step HB.out hb)
    clear hb
    go_wp2
    go_ret
    exact ⟨rfl, HB6.out⟩
  | true =>
    obtain ⟨k6, h6⟩ := (text_ev HX.out.hw (by have := (HNN.out rfl).1; omega)).rounds
    have H6 := Aside0.mk h6
    have HN := Aside0.mk (show nodesT x ≤ 1000 by have := (HNN.out rfl).1; omega)
    clear h6
    go_wp2_with fail
    obtain ⟨cx0, cx1, cx2⟩ := cells3t BX.out
    obtain ⟨cy0, cy1, cy2⟩ := cells3t BY.out
    have ax : ∀ n : Later w5, Arg n.w x A c := fun n => HX.out.below (below_step HB.out n.h)
    have ay : ∀ n : Later w5, Arg n.w y B d := fun n => HY.out.below (below_step HB.out n.h)
    have at_ : ∀ n : Later w5, Lib.TabIs Tryd.prog n.w "internal/strconv.uint64pow10" .u64 Lib.pow10Tab := fun n => HT.out _ (below_step HB.out n.h)
    have AX := Aside0.mk ax
    have AY := Aside0.mk ay
    have AT := Aside0.mk at_
    clear ax ay at_
    refine wp_region_later (W := w5) (by kernel_rfl) (by kernel_rfl) (Below.refl _ _) ?_
    repeat (go_big_quiet_step (first | (with_reducible refine calls_later (value_Good.calls k1 x.f0 x.f1 A c x.f2 (goodT x 64) _ (AX.out _).hC HX.out.hc H1.out)) | (with_reducible refine calls_later (postbagref15_Good.calls k2 x.f0 x.f1 A c x.f2 (goodT x 64) _ (AX.out _).hC HX.out.hc H2.out)) | (with_reducible refine calls_later (value_Same.calls k3 x.f0 x.f1 A c x.f2 y.f0 y.f1 B d y.f2 (sameT x y) _ (AX.out _).hC HX.out.hc (AY.out _).hC HY.out.hc H3.out)) | (with_reducible refine calls_later (value_Same.calls k5 x.f0 x.f1 A c x.f2 x.f0 x.f1 A c x.f2 true _ (AX.out _).hC HX.out.hc (AX.out _).hC HX.out.hc H5.out)) | (with_reducible refine calls_later (postbagref15_Same.calls k4 x.f0 x.f1 A c x.f2 y.f0 y.f1 B d y.f2 (sameT x y) _ (AX.out _).hC HX.out.hc (AY.out _).hC HY.out.hc H4.out)) | (with_reducible refine calls_later (text_calls x A c _ (AX.out _) (AT.out _) HN.out)) | (with_reducible refine calls_later (postbagref15_Text.calls k6 x.f0 x.f1 A c x.f2 (str (textT x)) _ (AX.out _).hC HX.out.hc H6.out)) | (with_reducible refine calls_later (wrap_calls n _)) | (with_reducible refine calls_later (rwrap_calls n _)) | (with_reducible refine calls_later (lives_calls _))))
    refine wpQuiet_nil ?_
    rintro _ ⟨n1, rfl⟩
    go_wp2_with fail
    go_ret
    exact ⟨rfl, below_step HB.out n1.h⟩
end Go.Proofs.YtpgbpcnifhnjjaaDoor.PValueTells
