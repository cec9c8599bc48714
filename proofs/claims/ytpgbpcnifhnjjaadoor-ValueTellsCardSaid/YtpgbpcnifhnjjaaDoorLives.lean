/- The chapter's example, lives(): it answers true. -/
import Derived.Test.YtpgbpcnifhnjjaaDoorEncode
import Derived.Test.YtpgbpcnifhnjjaaDoorMore
namespace Go.Proofs.YtpgbpcnifhnjjaaDoor.PValueTells
open Go.RowKit Go.Proofs.YtpgbpcnifhnjjaaDoorW.PrintWords Go.Proofs.YtpgbpcnifhnjjaaDoorW.PrintLast Go.Proofs.YtpgbpcnifhnjjaaDoorW.PrintMore
set_option linter.unusedVariables false
set_option linter.unusedSimpArgs false
def lv : List S24 := [⟨1, 1, []⟩, ⟨2, 0, []⟩]
theorem lv_good : value_Good.f 10 4 0 lv = some true := by kernel_rfl
theorem lv_enc : encT 64 ⟨4, 0, lv⟩ [] = (65, [2, 4, 2]) := by rfl
theorem lv_words : wordsT ⟨4, 0, lv⟩ = 3 := by rfl

set_option maxHeartbeats 2000000 in
set_option maxRecDepth 100000 in
theorem lives_calls (w : World) : Calls Tryd.prog 7 #[] w fun e w' => e = .returned (.bool true) ∧ Below w.heap.size w w' := by
  go_enter Tryd.func7, Tryd.ntmps7
  go_wp2_with fail
  have hb := below_alloc (Below.refl w.heap.size w) (.cells #[.int .i64 1, .int .i64 1, .slice none 0 0, .int .i64 2, .int .i64 0, .slice none 0 0] 24)
  have hc : Kd.C k24 (w.alloc (.cells #[.int .i64 1, .int .i64 1, .slice none 0 0, .int .i64 2, .int .i64 0, .slice none 0 0] 24)) (some ⟨w.heap.size, 0, none⟩) lv.length lv :=
    C_block (blk_new w _) (reps_two_val (val_K (x0 := 1) (x1 := 1) (c := 0) (l := []) (Nat.le_refl _) (Kd.C_nil _ _)) (val_K (x0 := 2) (x1 := 0) (c := 0) (l := []) (Nat.le_refl _) (Kd.C_nil _ _))) (by decide)
  refine (encode_ok 10 4 0 _ 2 lv none 0 [] 64 _ hc (by decide) (ReadsInt.nil _ _) lv_good (by decide) (by decide) (by decide) (by rw [lv_words]; decide)).mono ?_
  rintro e w1 ⟨v2, rfl, hb1, ho⟩
  rw [lv_enc] at ho ⊢
  obtain ⟨g, c2, hv, _, _⟩ := ho.form (by decide)
  subst hv
  have HB := Aside0.mk (below_step hb hb1)
  have c0 := (own_at ho 0 (by decide) (by decide)).1
  have c1 := (own_at ho 1 (by decide) (by decide)).1
  have c3 := (own_at ho 2 (by decide) (by decide)).1
  simp [rd] at c0 c1 c3
  clear ho hb1 hb hc
  go_wp2
  go_ret
  exact ⟨rfl, HB.out⟩
end Go.Proofs.YtpgbpcnifhnjjaaDoor.PValueTells
