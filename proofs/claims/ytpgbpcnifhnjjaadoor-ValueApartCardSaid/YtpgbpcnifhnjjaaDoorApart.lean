/- ValueApart, walked: at any two values that can be read it answers true, and nothing that was there has turned. -/
import Derived.Test.YtpgbpcnifhnjjaaDoorTextInj
import Derived.Lib.SlicesS
import Derived.Test.YtpgbpcnifhnjjaaDoorText
import Derived.Test.YtpgbpcnifhnjjaaDoorLight
import Derived.Test.YtpgbpcnifhnjjaaDoorLater
import Derived.Test.YtpgbpcnifhnjjaaDoorLives
namespace Go.Proofs.YtpgbpcnifhnjjaaDoor.PValueTells
open Go.RowKit Go.Proofs.YtpgbpcnifhnjjaaDoorW.PrintWords Go.Proofs.YtpgbpcnifhnjjaaDoorW.PrintLast Go.Proofs.YtpgbpcnifhnjjaaDoorW.PrintMore Go.Proofs.YtpgbpcnifhnjjaaDoor.Later
set_option linter.unusedVariables false
set_option linter.unusedSimpArgs false
/-- The cells of a value in a world, and in every later one. -/
theorem cells3a {W : World} {g : Nat} {x y z : Value} {t : TypeId} (h : W.heap[g]? = some (.cells #[x, y, z] t (0, 0))) : (∀ n : Later W, n.w.cell? ⟨g, 0, none⟩ = some x) ∧ (∀ n : Later W, n.w.cell? ⟨g, 1, none⟩ = some y) ∧ (∀ n : Later W, n.w.cell? ⟨g, 2, none⟩ = some z) :=
  ⟨fun n => n.cell ((blk_cell h 0).trans rfl), fun n => n.cell ((blk_cell h 1).trans rfl), fun n => n.cell ((blk_cell h 2).trans rfl)⟩

set_option maxHeartbeats 4000000 in
set_option maxRecDepth 100000 in
theorem apart_calls (x : S24) (A : Option Addr) (c : Nat) (y : S24) (B : Option Addr) (d : Nat) (w : World) (hx : Arg w x A c) (hy : Arg w y B d) (ht : Lib.TabIs Tryd.prog w "internal/strconv.uint64pow10" .u64 Lib.pow10Tab) : Calls Tryd.prog 3 #[.agg #[.int .i64 x.f0, .int .i64 x.f1, .slice A x.f2.length c], .agg #[.int .i64 y.f0, .int .i64 y.f1, .slice B y.f2.length d]] w fun e w' => e = .returned (.bool true) ∧ Below w.heap.size w w' := by
  obtain ⟨r, hnn, hl⟩ := light2 hx hy
  obtain ⟨k1, h1⟩ := (Good_ev hx.hw).rounds
  obtain ⟨k2, h2⟩ := (Good_ev hy.hw).rounds
  obtain ⟨k4, h4⟩ := (same_ev hx.hw y).rounds
  have HL := Aside0.mk hl
  have HNN := Aside0.mk hnn
  have H1 := Aside0.mk h1
  have H2 := Aside0.mk h2
  have H4 := Aside0.mk h4
  have HX := Aside0.mk hx
  have HY := Aside0.mk hy
  have HT := Aside0.mk (Lib.tabBelow_of_tabIs ht)
  have HB := Aside0.mk (Below.refl w.heap.size w)
  clear hl hnn h1 h2 h4 hx hy ht
  go_enter Tryd.func3, Tryd.ntmps3
  go_wp2_with (first
    | ((with_reducible refine gate_dst (N := 2) rfl ?_); refine box_event ?hg (N := 2) ?hd (cs := #[.int .i64 x.f0, .int .i64 x.f1, .slice A x.f2.length c]) (t := 24) ?hr ?_; (case hd => rfl); (case hg => rfl); (case hr => first | (go_simp; done) | (go_simp; rfl))
       intro gx hg w3 hbox hb
       have n1 := Aside0.mk (below_step HB.out hb)
       have BX := Aside0.mk hbox
       clear HB hg hbox hb
       have HB := n1
       clear n1
       have cx0 : w3.cell? ⟨gx, 0, none⟩ = some (.int .i64 x.f0) := (blk_cell BX.out 0).trans rfl
       have cx1 : w3.cell? ⟨gx, 1, none⟩ = some (.int .i64 x.f1) := (blk_cell BX.out 1).trans rfl
       have cx2 : w3.cell? ⟨gx, 2, none⟩ = some (.slice A x.f2.length c) := (blk_cell BX.out 2).trans rfl)
    | ((with_reducible refine gate_dst (N := 3) rfl ?_); refine box_event ?hg (N := 3) ?hd (cs := #[.int .i64 y.f0, .int .i64 y.f1, .slice B y.f2.length d]) (t := 24) ?hr ?_; (case hd => rfl); (case hg => rfl); (case hr => first | (go_simp; done) | (go_simp; rfl))
       intro gy hg w4 hbox hb
       have n1 := Aside0.mk (below_step HB.out hb)
       have n2 := Aside0.mk (blk_below BX.out hb)
       have BY := Aside0.mk hbox
       clear HB hg hbox hb BX cx0 cx1 cx2
       have HB := n1
       have BX := n2
       clear n1 n2
       have cx0 : w4.cell? ⟨gx, 0, none⟩ = some (.int .i64 x.f0) := (blk_cell BX.out 0).trans rfl
       have cx1 : w4.cell? ⟨gx, 1, none⟩ = some (.int .i64 x.f1) := (blk_cell BX.out 1).trans rfl
       have cx2 : w4.cell? ⟨gx, 2, none⟩ = some (.slice A x.f2.length c) := (blk_cell BX.out 2).trans rfl
       have cy0 : w4.cell? ⟨gy, 0, none⟩ = some (.int .i64 y.f0) := (blk_cell BY.out 0).trans rfl
       have cy1 : w4.cell? ⟨gy, 1, none⟩ = some (.int .i64 y.f1) := (blk_cell BY.out 1).trans rfl
       have cy2 : w4.cell? ⟨gy, 2, none⟩ = some (.slice B y.f2.length d) := (blk_cell BY.out 2).trans rfl))
  refine (HL.out _ _ (below_alloc HB.out _) (blk_new _ _)).mono ?_
  rintro e w5 ⟨rfl, hb⟩
  have n1 := Aside0.mk (below_step (below_alloc HB.out _) hb)
  have n2 := Aside0.mk (blk_below (blk_alloc BX.out _) hb)
  have n3 := Aside0.mk (blk_below (blk_alloc BY.out _) hb)
  clear HB hb BX BY cx0 cx1 cx2 cy0 cy1 cy2 HL
  have HB := n1
  have BX := n2
  have BY := n3
  clear n1 n2 n3
  have cx0 : w5.cell? ⟨gx, 0, none⟩ = some (.int .i64 x.f0) := (blk_cell BX.out 0).trans rfl
  have cx1 : w5.cell? ⟨gx, 1, none⟩ = some (.int .i64 x.f1) := (blk_cell BX.out 1).trans rfl
  have cx2 : w5.cell? ⟨gx, 2, none⟩ = some (.slice A x.f2.length c) := (blk_cell BX.out 2).trans rfl
  have cy0 : w5.cell? ⟨gy, 0, none⟩ = some (.int .i64 y.f0) := (blk_cell BY.out 0).trans rfl
  have cy1 : w5.cell? ⟨gy, 1, none⟩ = some (.int .i64 y.f1) := (blk_cell BY.out 1).trans rfl
  have cy2 : w5.cell? ⟨gy, 2, none⟩ = some (.slice B y.f2.length d) := (blk_cell BY.out 2).trans rfl
  cases r with
  | false =>
    go_wp2_with fail
    refine (lives_calls _).mono ?_
    rintro e wl ⟨rfl, hb⟩
    have HBl := Aside0.mk (below_step HB.out hb)
    clear hb
    go_wp2
    go_ret
    exact ⟨rfl, HBl.out⟩
  | true =>
    go_wp2_with fail
    refine (value_Good.calls k1 x.f0 x.f1 A c x.f2 (goodT x 64) _ (HX.out.below HB.out).hC HX.out.hc H1.out).mono ?_
    rintro e w6 ⟨rfl, hb⟩
    have n1 := Aside0.mk (below_step HB.out hb)
    have n2 := Aside0.mk (blk_below BX.out hb)
    have n3 := Aside0.mk (blk_below BY.out hb)
    clear HB hb BX BY cx0 cx1 cx2 cy0 cy1 cy2
    have HB := n1
    have BX := n2
    have BY := n3
    clear n1 n2 n3
    have cx0 : w6.cell? ⟨gx, 0, none⟩ = some (.int .i64 x.f0) := (blk_cell BX.out 0).trans rfl
    have cx1 : w6.cell? ⟨gx, 1, none⟩ = some (.int .i64 x.f1) := (blk_cell BX.out 1).trans rfl
    have cx2 : w6.cell? ⟨gx, 2, none⟩ = some (.slice A x.f2.length c) := (blk_cell BX.out 2).trans rfl
    have cy0 : w6.cell? ⟨gy, 0, none⟩ = some (.int .i64 y.f0) := (blk_cell BY.out 0).trans rfl
    have cy1 : w6.cell? ⟨gy, 1, none⟩ = some (.int .i64 y.f1) := (blk_cell BY.out 1).trans rfl
    have cy2 : w6.cell? ⟨gy, 2, none⟩ = some (.slice B y.f2.length d) := (blk_cell BY.out 2).trans rfl
    cases hg : goodT x 64 with
    | false =>
      go_wp2_with fail
      refine (lives_calls _).mono ?_
      rintro e wl ⟨rfl, hb⟩
      have HBl := Aside0.mk (below_step HB.out hb)
      clear hb
      go_wp2
      go_ret
      exact ⟨rfl, HBl.out⟩
    | true =>
      go_wp2_with fail
      refine (value_Good.calls k2 y.f0 y.f1 B d y.f2 (goodT y 64) _ (HY.out.below HB.out).hC HY.out.hc H2.out).mono ?_
      rintro e w7 ⟨rfl, hb⟩
      have n1 := Aside0.mk (below_step HB.out hb)
      have n2 := Aside0.mk (blk_below BX.out hb)
      have n3 := Aside0.mk (blk_below BY.out hb)
      clear HB hb BX BY cx0 cx1 cx2 cy0 cy1 cy2
      have HB := n1
      have BX := n2
      have BY := n3
      clear n1 n2 n3
      cases hg2 : goodT y 64 with
      | false =>
        go_wp2_with fail
        refine (lives_calls _).mono ?_
        rintro e wl ⟨rfl, hb⟩
        have HBl := Aside0.mk (below_step HB.out hb)
        clear hb
        go_wp2
        go_ret
        exact ⟨rfl, HBl.out⟩
      | true =>
        have HA := text_apart hg hg2
        have HN := Aside0.mk (show nodesT x ≤ 1000 ∧ nodesT y ≤ 1000 by have := HNN.out trivial; omega)
        have ax : ∀ n : Later w7, Arg n.w x A c := fun n => HX.out.below (below_step HB.out n.h)
        have ay : ∀ n : Later w7, Arg n.w y B d := fun n => HY.out.below (below_step HB.out n.h)
        have at_ : ∀ n : Later w7, Lib.TabIs Tryd.prog n.w "internal/strconv.uint64pow10" .u64 Lib.pow10Tab := fun n => HT.out _ (below_step HB.out n.h)
        have AX := Aside0.mk ax
        have AY := Aside0.mk ay
        have AT := Aside0.mk at_
        clear ax ay at_
        by_cases he : x = y
        · have h4 := H4.out
          rw [(sameT_eq x y).2 he] at h4
          have e := HA.2 he
          have H4 := Aside0.mk h4
          clear h4 he HA hg hg2
          have e1 : ((str (textT x)).toList == (str (textT y)).toList) = true := (Lib.bytes_beq_iff _ _).2 e
          clear e
          go_wp2_with fail
          obtain ⟨cx0, cx1, cx2⟩ := cells3a BX.out
          obtain ⟨cy0, cy1, cy2⟩ := cells3a BY.out
          refine wp_region_later (W := w7) (by kernel_rfl) (by kernel_rfl) (Below.refl _ _) ?_
          repeat (go_big_quiet_step (first | (with_reducible refine calls_later (text_calls x A c _ (AX.out _) (AT.out _) HN.out.1)) | (with_reducible refine calls_later (text_calls y B d _ (AY.out _) (AT.out _) HN.out.2)) | (with_reducible refine calls_later (postbagref15_Same.calls k4 x.f0 x.f1 A c x.f2 y.f0 y.f1 B d y.f2 _ _ (AX.out _).hC HX.out.hc (AY.out _).hC HY.out.hc H4.out)) | (with_reducible refine calls_later (lives_calls _))))
          refine wpQuiet_nil ?_
          rintro _ ⟨n1, rfl⟩
          go_wp2_with fail
          go_ret
          exact ⟨rfl, below_step HB.out n1.h⟩
        · have h4 := H4.out
          rw [show sameT x y = false by rw [Bool.eq_false_iff]; exact fun h => he ((sameT_eq x y).1 h)] at h4
          have e := fun h => he (HA.1 h)
          have H4 := Aside0.mk h4
          clear h4 he HA hg hg2
          have e1 : ((str (textT x)).toList == (str (textT y)).toList) = false := (Lib.bytes_beq_false_iff _ _).2 e
          clear e
          go_wp2_with fail
          obtain ⟨cx0, cx1, cx2⟩ := cells3a BX.out
          obtain ⟨cy0, cy1, cy2⟩ := cells3a BY.out
          refine wp_region_later (W := w7) (by kernel_rfl) (by kernel_rfl) (Below.refl _ _) ?_
          repeat (go_big_quiet_step (first | (with_reducible refine calls_later (text_calls x A c _ (AX.out _) (AT.out _) HN.out.1)) | (with_reducible refine calls_later (text_calls y B d _ (AY.out _) (AT.out _) HN.out.2)) | (with_reducible refine calls_later (postbagref15_Same.calls k4 x.f0 x.f1 A c x.f2 y.f0 y.f1 B d y.f2 _ _ (AX.out _).hC HX.out.hc (AY.out _).hC HY.out.hc H4.out)) | (with_reducible refine calls_later (lives_calls _))))
          refine wpQuiet_nil ?_
          rintro _ ⟨n1, rfl⟩
          go_wp2_with fail
          go_ret
          exact ⟨rfl, below_step HB.out n1.h⟩
end Go.Proofs.YtpgbpcnifhnjjaaDoor.PValueTells
