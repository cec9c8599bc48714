/- The document's Sign, by bits, is the number that repeats a bit above. -/
import Derived.Test.YtpgbpcnifhnjjaaDoorRefText
namespace Go.Proofs.YtpgbpcnifhnjjaaDoor.PValueTells
open Go.RowKit Go.Proofs.YtpgbpcnifhnjjaaDoorW.PrintWords
theorem w64 {n : Int} (h0 : -9223372036854775808 ≤ n) (h1 : n ≤ 9223372036854775807) : wrap64 n = n := by unfold wrap64; omega
theorem u64w (n : Int) : IntKind.u64.wrap n = n % 18446744073709551616 := by simp [IntKind.wrap, IntKind.bits, IntKind.signed]
theorem pow_le63 {i : Nat} (h : i ≤ 63) : (2 : Nat) ^ i ≤ 9223372036854775808 := Nat.le_trans (Nat.pow_le_pow_right (by decide) h) (by decide)
theorem bit_l0 (j : Nat) (hj : j ≤ 63) : ∀ (d i y : Nat), i + d = j → ∀ k, d < k → y < 18446744073709551616 → postbagref01_Bit.l0 k (y : Int) j i = some (((y / 2 ^ d) % 2 : Nat) : Int)
  | 0, i, y, hi, k, hk, hm => by
    obtain ⟨k, rfl⟩ : ∃ q, k = q + 1 := ⟨k - 1, by omega⟩
    obtain rfl : i = j := by omega
    simp only [postbagref01_Bit.l0]
    rw [if_neg (by omega), Int.tmod_eq_emod_of_nonneg (by omega)]
    refine congrArg some ?_
    simp
  | d + 1, i, y, hi, k, hk, hm => by
    obtain ⟨k, rfl⟩ : ∃ q, k = q + 1 := ⟨k - 1, by omega⟩
    simp only [postbagref01_Bit.l0]
    rw [if_pos (by omega), Int.tdiv_eq_ediv_of_nonneg (by omega), u64w, w64 (by omega) (by omega)]
    have h1 : ((y : Int) / 2) % 18446744073709551616 = ((y / 2 : Nat) : Int) := by omega
    have h2 := bit_l0 j hj d (i + 1) (y / 2) (by omega) k (by omega) (by omega)
    rw [Nat.div_div_eq_div_mul, show 2 * 2 ^ d = 2 ^ (d + 1) by rw [Nat.pow_succ, Nat.mul_comm]] at h2
    rw [h1, ← h2, show ((i + 1 : Nat) : Int) = (i : Int) + 1 by omega]
theorem bit_f (m j : Nat) (hj : j ≤ 63) (hm : m < 18446744073709551616) (k : Nat) (hk : 65 < k) : postbagref01_Bit.f k (m : Int) j = some (((m / 2 ^ j) % 2 : Nat) : Int) := by
  obtain ⟨k, rfl⟩ : ∃ q, k = q + 1 := ⟨k - 1, by omega⟩
  unfold postbagref01_Bit.f
  rw [if_neg (by omega)]
  simp only [postbagref01_Bit.j0]
  rw [if_neg (by simp; omega)]
  exact bit_l0 j hj j 0 m (by omega) k (by omega) hm
theorem power_l0 (j : Nat) (hj : j ≤ 63) : ∀ (d i : Nat), i + d = j → ∀ k, d < k → postbagref01_power.l0 k j ((2 ^ i : Nat) : Int) i = some ((2 ^ j : Nat) : Int)
  | 0, i, hi, k, hk => by
    obtain ⟨k, rfl⟩ : ∃ q, k = q + 1 := ⟨k - 1, by omega⟩
    obtain rfl : i = j := by omega
    simp only [postbagref01_power.l0]
    rw [if_neg (by omega)]
  | d + 1, i, hi, k, hk => by
    obtain ⟨k, rfl⟩ : ∃ q, k = q + 1 := ⟨k - 1, by omega⟩
    simp only [postbagref01_power.l0]
    rw [if_pos (by omega), if_pos (by omega), u64w, w64 (by omega) (by omega)]
    have hp := pow_le63 (i := i) (by omega)
    have hq := pow_le63 (i := i + 1) (by omega)
    have h1 : (2 * ((2 ^ i : Nat) : Int)) % 18446744073709551616 = ((2 ^ (i + 1) : Nat) : Int) := by
      rw [Nat.pow_succ] at hq ⊢; omega
    rw [h1]
    exact power_l0 j hj d (i + 1) (by omega) k (by omega)
theorem power_f (j : Nat) (hj : j ≤ 63) (k : Nat) (hk : 65 < k) : postbagref01_power.f k j = some ((2 ^ j : Nat) : Int) := by
  unfold postbagref01_power.f
  have := power_l0 j hj j 0 (by omega) k (by omega)
  simpa using this
/-- What has been told of the bits below i. -/
def sgn (m n i : Nat) : Nat := if i ≤ n then m % 2 ^ i else m % 2 ^ n + (m / 2 ^ (n - 1) % 2) * (2 ^ i - 2 ^ n)
theorem sgn_lt (m n i : Nat) : sgn m n i < 2 ^ i := by
  unfold sgn
  split
  · exact Nat.mod_lt _ (Nat.pow_pos (by decide))
  · rename_i h
    have h1 : m % 2 ^ n < 2 ^ n := Nat.mod_lt _ (Nat.pow_pos (by decide))
    have h2 : (2 : Nat) ^ n ≤ 2 ^ i := Nat.pow_le_pow_right (by decide) (by omega)
    rcases Nat.mod_two_eq_zero_or_one (m / 2 ^ (n - 1)) with e | e <;> rw [e] <;> omega
theorem sgn_lo {m n i : Nat} (h : i < n) : sgn m n i + (m / 2 ^ i % 2) * 2 ^ i = sgn m n (i + 1) := by
  unfold sgn
  rw [if_pos (by omega), if_pos (by omega), Nat.mod_pow_succ, Nat.mul_comm]
theorem sgn_hi {m n i : Nat} (h : n ≤ i) : sgn m n i + (m / 2 ^ (n - 1) % 2) * 2 ^ i = sgn m n (i + 1) := by
  have h2 : (2 : Nat) ^ n ≤ 2 ^ i := Nat.pow_le_pow_right (by decide) h
  have h3 : (2 : Nat) ^ (i + 1) = 2 ^ i + 2 ^ i := by rw [Nat.pow_succ]; omega
  unfold sgn
  rw [if_neg (show ¬ i + 1 ≤ n by omega)]
  by_cases e : i ≤ n
  · obtain rfl : i = n := by omega
    rw [if_pos (Nat.le_refl _), h3, Nat.add_sub_cancel]
  · rw [if_neg e, h3]
    rcases Nat.mod_two_eq_zero_or_one (m / 2 ^ (n - 1)) with e | e <;> rw [e] <;> omega
theorem sign_l0 (m n : Nat) (hn : 1 ≤ n) (hn2 : n ≤ 63) (hm : m < 18446744073709551616) : ∀ (d i : Nat), i + d = 64 → ∀ k, d + 70 < k → postbagref01_Sign.l0 k (m : Int) n ((sgn m n i : Nat) : Int) i = some ((sgn m n 64 : Nat) : Int)
  | 0, i, hi, k, hk => by
    obtain ⟨k, rfl⟩ : ∃ q, k = q + 1 := ⟨k - 1, by omega⟩
    obtain rfl : i = 64 := by omega
    simp only [postbagref01_Sign.l0]
    rw [if_neg (by omega)]
  | d + 1, i, hi, k, hk => by
    obtain ⟨k, rfl⟩ : ∃ q, k = q + 1 := ⟨k - 1, by omega⟩
    have hlt := sgn_lt m n (i + 1)
    have hle : (2 : Nat) ^ (i + 1) ≤ 18446744073709551616 := Nat.le_trans (Nat.pow_le_pow_right (by decide) (show i + 1 ≤ 64 by omega)) (by decide)
    have hp := pow_le63 (i := i) (by omega)
    have hb := bit_f m (n - 1) (by omega) hm k (by omega)
    rw [show ((n - 1 : Nat) : Int) = (n : Int) - 1 by omega] at hb
    have ih := sign_l0 m n hn hn2 hm d (i + 1) (by omega) k (by omega)
    rw [show ((i + 1 : Nat) : Int) = (i : Int) + 1 by omega] at ih
    simp only [postbagref01_Sign.l0]
    rw [if_pos (by omega), w64 (by omega) (by omega), hb]
    simp only [Option.bind_some]
    by_cases h : i < n
    · rw [if_pos (by omega), bit_f m i (by omega) hm k (by omega), power_f i (by omega) k (by omega)]
      simp only [Option.bind_some]
      rw [w64 (by omega) (by omega)]
      have e := sgn_lo (m := m) h
      have e1 : IntKind.u64.wrap (((sgn m n i : Nat) : Int) + IntKind.u64.wrap (((m / 2 ^ i % 2 : Nat) : Int) * ((2 ^ i : Nat) : Int))) = ((sgn m n (i + 1) : Nat) : Int) := by
        rw [u64w, u64w, ← Int.natCast_mul]
        omega
      rw [e1]
      exact ih
    · rw [if_neg (by omega), power_f i (by omega) k (by omega)]
      simp only [Option.bind_some]
      rw [w64 (by omega) (by omega)]
      have e := sgn_hi (m := m) (n := n) (i := i) (by omega)
      have e1 : IntKind.u64.wrap (((sgn m n i : Nat) : Int) + IntKind.u64.wrap (((m / 2 ^ (n - 1) % 2 : Nat) : Int) * ((2 ^ i : Nat) : Int))) = ((sgn m n (i + 1) : Nat) : Int) := by
        rw [u64w, u64w, ← Int.natCast_mul]
        omega
      rw [e1]
      exact ih
theorem sign_f (m n : Nat) (hn : 1 ≤ n) (hn2 : n ≤ 63) (hm : m < 18446744073709551616) (k : Nat) (hk : 136 < k) : postbagref01_Sign.f k (m : Int) n = some ((sgn m n 64 : Nat) : Int) := by
  obtain ⟨k, rfl⟩ : ∃ q, k = q + 1 := ⟨k - 1, by omega⟩
  unfold postbagref01_Sign.f
  rw [if_neg (by omega)]
  simp only [postbagref01_Sign.j0]
  rw [if_neg (by simp; omega)]
  have := sign_l0 m n hn hn2 hm 64 0 (by omega) k (by omega)
  simpa [sgn, Nat.mod_one] using this
/-- At 62 bits. -/
theorem sign62 (x : Int) (h0 : 0 ≤ x) (h1 : x < 18446744073709551616) (k : Nat) (hk : 136 < k) : postbagref01_Sign.f k x 62 = some (((x + 2305843009213693952) % 4611686018427387904 - 2305843009213693952) % 18446744073709551616) := by
  obtain ⟨m, rfl⟩ := Int.eq_ofNat_of_zero_le h0
  have h := sign_f m 62 (by decide) (by decide) (by omega) k hk
  rw [show ((62 : Nat) : Int) = 62 from rfl] at h
  rw [h]
  refine congrArg some ?_
  unfold sgn
  simp only [Nat.reducePow, Nat.reduceSub, Nat.reduceLeDiff, if_false]
  omega
theorem refWrap_f (n : Int) (k : Nat) (hk : 136 < k) : postbagref15_Wrap.f k n = some ((n + 2305843009213693952) % 4611686018427387904 - 2305843009213693952) := by
  unfold postbagref15_Wrap.f
  rw [u64w, sign62 _ (by omega) (by omega) k hk]
  simp only [Option.bind_some]
  refine congrArg some ?_
  unfold wrap64
  omega
end Go.Proofs.YtpgbpcnifhnjjaaDoor.PValueTells
