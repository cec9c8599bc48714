/- ValueRing, walked: at all numbers it answers true, and nothing that was there has turned. -/
import Derived.Test.YtpgbpcnifhnjjaaRingPure
import Derived.Test.YtpgbpcnifhnjjaaOpN
import Derived.Test.YtpgbpcnifhnjjaaHoldsN
import Derived.Test.YtpgbpcnifhnjjaaLater
import Derived.Test.YtpgbpcnifhnjjaaLives
namespace Go.Proofs.Ytpgbpcnifhnjjaa.PValueOps
open Go.RowKit Go.Proofs.YtpgbpcnifhnjjaaW.PrintWords Go.Proofs.YtpgbpcnifhnjjaaW.PrintLast Go.Proofs.YtpgbpcnifhnjjaaW.PrintMore Go.Proofs.Ytpgbpcnifhnjjaa.Later
set_option linter.unusedVariables false
set_option linter.unusedSimpArgs false
/-- value.Op at two numbers. -/
theorem op_num (s : ByteArray) (x y n : Int) (w : World) (h : value_Op.f s 1 x [] 1 y [] = some (1, n, [])) :
    Calls Try.prog 10 #[.string s, .agg #[.int .i64 1, .int .i64 x, .slice none 0 0], .agg #[.int .i64 1, .int .i64 y, .slice none 0 0]] w fun e w' => e = .returned (.agg #[.int .i64 1, .int .i64 n, .slice none 0 0]) ∧ Below w.heap.size w w' :=
  value_Op.callsN s 1 x none 0 [] 1 y none 0 [] 1 n [] w (Kd.C_nil _ _) (Nat.le_refl _) (Kd.C_nil _ _) (Nat.le_refl _) h
theorem same_num (x : Int) (w : World) : Calls Try.prog 9 #[.agg #[.int .i64 1, .int .i64 x, .slice none 0 0], .agg #[.int .i64 1, .int .i64 x, .slice none 0 0]] w fun e w' => e = .returned (.bool true) ∧ Below w.heap.size w w' :=
  postbagref15_Same.calls 5 1 x none 0 [] 1 x none 0 [] true w (Kd.C_nil _ _) (Nat.le_refl _) (Kd.C_nil _ _) (Nat.le_refl _) (by simp [postbagref15_Same.f, postbagref15_Same.j0, postbagref15_Same.l0])

theorem op_add (x y : Int) (w : World) : Calls Try.prog 10 #[.string ⟨#[43]⟩, .agg #[.int .i64 1, .int .i64 x, .slice none 0 0], .agg #[.int .i64 1, .int .i64 y, .slice none 0 0]] w fun e w' => e = .returned (.agg #[.int .i64 1, .int .i64 (addW x y), .slice none 0 0]) ∧ Below w.heap.size w w' := op_num _ x y _ w (add_f x y)
theorem op_sub (x y : Int) (w : World) : Calls Try.prog 10 #[.string ⟨#[45]⟩, .agg #[.int .i64 1, .int .i64 x, .slice none 0 0], .agg #[.int .i64 1, .int .i64 y, .slice none 0 0]] w fun e w' => e = .returned (.agg #[.int .i64 1, .int .i64 (subW x y), .slice none 0 0]) ∧ Below w.heap.size w w' := op_num _ x y _ w (sub_f x y)
theorem op_mul (x y : Int) (w : World) : Calls Try.prog 10 #[.string ⟨#[42]⟩, .agg #[.int .i64 1, .int .i64 x, .slice none 0 0], .agg #[.int .i64 1, .int .i64 y, .slice none 0 0]] w fun e w' => e = .returned (.agg #[.int .i64 1, .int .i64 (mulW x y), .slice none 0 0]) ∧ Below w.heap.size w w' := op_num _ x y _ w (mul_f x y)
/-- 1, if it is so; else 0. -/
def one (b : Bool) : Int := if b = true then 1 else 0
theorem op_lt (x y : Int) (w : World) : Calls Try.prog 10 #[.string ⟨#[60]⟩, .agg #[.int .i64 1, .int .i64 x, .slice none 0 0], .agg #[.int .i64 1, .int .i64 y, .slice none 0 0]] w fun e w' => e = .returned (.agg #[.int .i64 1, .int .i64 (one (decide (x < y))), .slice none 0 0]) ∧ Below w.heap.size w w' := op_num _ x y _ w ((lt_f x y).trans (by by_cases h : x < y <;> simp [one, h]))
theorem op_eq (x y : Int) (w : World) : Calls Try.prog 10 #[.string ⟨#[61, 61]⟩, .agg #[.int .i64 1, .int .i64 x, .slice none 0 0], .agg #[.int .i64 1, .int .i64 y, .slice none 0 0]] w fun e w' => e = .returned (.agg #[.int .i64 1, .int .i64 (one (x == y)), .slice none 0 0]) ∧ Below w.heap.size w w' := op_num _ x y _ w ((eq_f x y).trans (by by_cases h : x = y <;> simp [one, h]))
theorem holds_num (b : Bool) (w : World) : Calls Try.prog 12 #[.agg #[.int .i64 1, .int .i64 (one b), .slice none 0 0]] w fun e w' => e = .returned (.bool b) ∧ Below w.heap.size w w' :=
  value_Holds.calls 1 (one b) none 0 [] b w (Kd.C_nil _ _) (Nat.le_refl _) (by cases b <;> simp [value_Holds.f, value_number.f, one])
theorem same1 (x y z : Int) (w : World) : Calls Try.prog 9 #[.agg #[.int .i64 1, .int .i64 (addW (addW x y) z), .slice none 0 0], .agg #[.int .i64 1, .int .i64 (addW x (addW y z)), .slice none 0 0]] w fun e w' => e = .returned (.bool true) ∧ Below w.heap.size w w' := by
  rw [ringW1]; exact same_num _ w
theorem same2 (x y z : Int) (w : World) : Calls Try.prog 9 #[.agg #[.int .i64 1, .int .i64 (mulW (mulW x y) z), .slice none 0 0], .agg #[.int .i64 1, .int .i64 (mulW x (mulW y z)), .slice none 0 0]] w fun e w' => e = .returned (.bool true) ∧ Below w.heap.size w w' := by
  rw [ringW2]; exact same_num _ w
theorem same3 (x y z : Int) (w : World) : Calls Try.prog 9 #[.agg #[.int .i64 1, .int .i64 (mulW x (addW y z)), .slice none 0 0], .agg #[.int .i64 1, .int .i64 (addW (mulW x y) (mulW x z)), .slice none 0 0]] w fun e w' => e = .returned (.bool true) ∧ Below w.heap.size w w' := by
  rw [ringW3]; exact same_num _ w
theorem same4 (a y : Int) (w : World) : Calls Try.prog 9 #[.agg #[.int .i64 1, .int .i64 (subW (addW (wr a) y) y), .slice none 0 0], .agg #[.int .i64 1, .int .i64 (wr a), .slice none 0 0]] w fun e w' => e = .returned (.bool true) ∧ Below w.heap.size w w' := by
  rw [ringW4]; exact same_num _ w
/-- The cells of a value in a world, and in every later one. -/
theorem cells3 {W : World} {g : Nat} {x y z : Value} {t : TypeId} (h : W.heap[g]? = some (.cells #[x, y, z] t (0, 0))) : (∀ n : Later W, n.w.cell? ⟨g, 0, none⟩ = some x) ∧ (∀ n : Later W, n.w.cell? ⟨g, 1, none⟩ = some y) ∧ (∀ n : Later W, n.w.cell? ⟨g, 2, none⟩ = some z) :=
  ⟨fun n => n.cell ((blk_cell h 0).trans rfl), fun n => n.cell ((blk_cell h 1).trans rfl), fun n => n.cell ((blk_cell h 2).trans rfl)⟩

set_option maxHeartbeats 4000000 in
set_option maxRecDepth 100000 in
theorem ring_calls (a b c : Int) (w : World) : Calls Try.prog 4 #[.int .i64 a, .int .i64 b, .int .i64 c] w fun e w' => e = .returned (.bool true) ∧ Below w.heap.size w w' := by
  have HB := Aside0.mk (Below.refl w.heap.size w)
  go_enter Try.func4, Try.ntmps4
  go_wp2_with fail
  refine (value_Wrap.calls a (wr a) _ rfl).mono ?_
  rintro e w1 ⟨rfl, hd⟩
  have HB1 := Aside0.mk (below_step HB.out hd.below)
  clear hd HB
  go_wp2_with fail
  refine (value_Wrap.calls b (wr b) _ rfl).mono ?_
  rintro e w2 ⟨rfl, hd⟩
  have HB2 := Aside0.mk (below_step HB1.out hd.below)
  clear hd HB1
  go_wp2_with fail
  refine (value_Wrap.calls c (wr c) _ rfl).mono ?_
  rintro e w3 ⟨rfl, hd⟩
  have HB3 := Aside0.mk (below_step HB2.out hd.below)
  clear hd HB2
  go_wp2_with fail
  have b7 := blk_new w3 (.cells #[.int .i64 1, .int .i64 (wr a), .slice none 0 0] 24)
  have b7' := blk_alloc (blk_alloc b7 (.cells #[.int .i64 1, .int .i64 (wr b), .slice none 0 0] 24)) (.cells #[.int .i64 1, .int .i64 (wr c), .slice none 0 0] 24)
  have b8 := blk_new (w3.alloc (.cells #[.int .i64 1, .int .i64 (wr a), .slice none 0 0] 24)) (.cells #[.int .i64 1, .int .i64 (wr b), .slice none 0 0] 24)
  have b8' := blk_alloc b8 (.cells #[.int .i64 1, .int .i64 (wr c), .slice none 0 0] 24)
  have b9 := blk_new ((w3.alloc (.cells #[.int .i64 1, .int .i64 (wr a), .slice none 0 0] 24)).alloc (.cells #[.int .i64 1, .int .i64 (wr b), .slice none 0 0] 24)) (.cells #[.int .i64 1, .int .i64 (wr c), .slice none 0 0] 24)
  simp only [World.size_alloc] at b8' b9
  have HB4 := Aside0.mk (below_alloc (below_alloc (below_alloc HB3.out (.cells #[.int .i64 1, .int .i64 (wr a), .slice none 0 0] 24)) (.cells #[.int .i64 1, .int .i64 (wr b), .slice none 0 0] 24)) (.cells #[.int .i64 1, .int .i64 (wr c), .slice none 0 0] 24))
  clear HB3 b7 b8
  generalize hW : ((w3.alloc (.cells #[.int .i64 1, .int .i64 (wr a), .slice none 0 0] 24)).alloc (.cells #[.int .i64 1, .int .i64 (wr b), .slice none 0 0] 24)).alloc (.cells #[.int .i64 1, .int .i64 (wr c), .slice none 0 0] 24) = W at b7' b8' b9 HB4 ⊢
  clear hW
  generalize w3.heap.size + 1 + 1 = g9 at b9 ⊢
  generalize w3.heap.size + 1 = g8 at b8' ⊢
  generalize w3.heap.size = g7 at b7' ⊢
  obtain ⟨c70, c71, c72⟩ := cells3 b7'
  obtain ⟨c80, c81, c82⟩ := cells3 b8'
  obtain ⟨c90, c91, c92⟩ := cells3 b9
  refine wp_region_later (W := W) (by kernel_rfl) (by kernel_rfl) (Below.refl _ _) ?_
  repeat (go_big_quiet_step (first | (with_reducible refine calls_later (op_add _ _ _)) | (with_reducible refine calls_later (op_mul _ _ _)) | (with_reducible refine calls_later (same1 _ _ _ _)) | (with_reducible refine calls_later (same2 _ _ _ _))))
  refine wpQuiet_nil ?_
  rintro _ ⟨n1, rfl⟩
  go_wp2_with fail
  refine wp_region_later (W := W) (by kernel_rfl) (by kernel_rfl) n1.h ?_
  repeat (go_big_quiet_step (first | (with_reducible refine calls_later (op_add _ _ _)) | (with_reducible refine calls_later (op_mul _ _ _)) | (with_reducible refine calls_later (op_sub _ _ _)) | (with_reducible refine calls_later (same3 _ _ _ _)) | (with_reducible refine calls_later (same4 _ _ _))))
  refine wpQuiet_nil ?_
  rintro _ ⟨n2, rfl⟩
  go_wp2_with fail
  refine wp_region_later (W := W) (by kernel_rfl) (by kernel_rfl) n2.h ?_
  repeat (go_big_quiet_step (first | (with_reducible refine calls_later (op_lt _ _ _)) | (with_reducible refine calls_later (op_eq _ _ _)) | (with_reducible refine calls_later (holds_num _ _)) | (with_reducible refine calls_later (lives_calls _))))
  refine wpQuiet_nil ?_
  rintro _ ⟨n3, rfl⟩
  go_wp2_with fail
  go_ret
  exact ⟨rfl, below_step HB4.out n3.h⟩
end Go.Proofs.Ytpgbpcnifhnjjaa.PValueOps
