/- Sums and products of 62 bits, as numbers. -/
import Derived.Test.YtpgbpcnifhnjjaaOpN
namespace Go.Proofs.Ytpgbpcnifhnjjaa.PValueOps
open Go.RowKit Go.Proofs.YtpgbpcnifhnjjaaW.PrintWords
/-- Wrap, as a number. -/
def wr (n : Int) : Int := (wrap64 (n * 4)) / 4
def S_add : ByteArray := ⟨#[43]⟩
def S_sub : ByteArray := ⟨#[45]⟩
def S_mul : ByteArray := ⟨#[42]⟩
def S_lt : ByteArray := ⟨#[60]⟩
def S_eq : ByteArray := ⟨#[61, 61]⟩
theorem add_f (x y : Int) : value_Op.f S_add 1 x [] 1 y [] = some (1, wr (wrap64 (x + y)), []) := by
  simp [value_Op.f, value_number.f, S_add, value_Wrap.f, wr]
theorem sub_f (x y : Int) : value_Op.f S_sub 1 x [] 1 y [] = some (1, wr (wrap64 (x - y)), []) := by
  simp [value_Op.f, value_number.f, S_sub, value_Wrap.f, wr]
theorem mul_f (x y : Int) : value_Op.f S_mul 1 x [] 1 y [] = some (1, wr (wrap64 (x * y)), []) := by
  simp [value_Op.f, value_number.f, S_mul, value_Wrap.f, wr]
theorem lt_f (x y : Int) : value_Op.f S_lt 1 x [] 1 y [] = some (1, if x < y then 1 else 0, []) := by
  by_cases h : x < y <;> simp [value_Op.f, value_number.f, S_lt, value_truth.f, h]
theorem eq_f (x y : Int) : value_Op.f S_eq 1 x [] 1 y [] = some (1, if x = y then 1 else 0, []) := by
  by_cases h : x = y <;> simp [value_Op.f, value_number.f, S_eq, value_truth.f, h]
theorem wr_eq (n : Int) : wr n = (n + 2305843009213693952) % 4611686018427387904 - 2305843009213693952 := by unfold wr wrap64; omega
theorem wr_w (n : Int) : wr (wrap64 n) = wr n := by rw [wr_eq, wr_eq]; unfold wrap64; omega
theorem wr_congr {a b : Int} (h : a % 4611686018427387904 = b % 4611686018427387904) : wr a = wr b := by rw [wr_eq, wr_eq]; omega
theorem wr_mod (a : Int) : wr a % 4611686018427387904 = a % 4611686018427387904 := by rw [wr_eq]; omega
theorem wr_add (a b : Int) : wr (wr a + b) = wr (a + b) := wr_congr (by rw [Int.add_emod, wr_mod, ← Int.add_emod])
theorem wr_add' (a b : Int) : wr (a + wr b) = wr (a + b) := wr_congr (by rw [Int.add_emod, wr_mod, ← Int.add_emod])
theorem wr_sub (a b : Int) : wr (wr a - b) = wr (a - b) := wr_congr (by rw [Int.sub_emod, wr_mod, ← Int.sub_emod])
theorem wr_sub' (a b : Int) : wr (a - wr b) = wr (a - b) := wr_congr (by rw [Int.sub_emod, wr_mod, ← Int.sub_emod])
theorem wr_mul (a b : Int) : wr (wr a * b) = wr (a * b) := wr_congr (by rw [Int.mul_emod, wr_mod, ← Int.mul_emod])
theorem wr_mul' (a b : Int) : wr (a * wr b) = wr (a * b) := wr_congr (by rw [Int.mul_emod, wr_mod, ← Int.mul_emod])
/-- The four equations, x = wr a, y = wr b, z = wr c. -/
theorem ring1 (x y z : Int) : wr (wrap64 (wr (wrap64 (x + y)) + z)) = wr (wrap64 (x + wr (wrap64 (y + z)))) := by
  simp only [wr_w, wr_add, wr_add']; rw [Int.add_assoc]
theorem ring2 (x y z : Int) : wr (wrap64 (wr (wrap64 (x * y)) * z)) = wr (wrap64 (x * wr (wrap64 (y * z)))) := by
  simp only [wr_w, wr_mul, wr_mul']; rw [Int.mul_assoc]
theorem ring3 (x y z : Int) : wr (wrap64 (x * wr (wrap64 (y + z)))) = wr (wrap64 (wr (wrap64 (x * y)) + wr (wrap64 (x * z)))) := by
  simp only [wr_w, wr_mul', wr_add, wr_add']; rw [Int.mul_add]
theorem ring4 (a y : Int) : wr (wrap64 (wr (wrap64 (wr a + y)) - y)) = wr a := by
  simp only [wr_w, wr_sub, wr_add]; rw [show a + y - y = a by omega]
def addW (x y : Int) : Int := wr (wrap64 (x + y))
def subW (x y : Int) : Int := wr (wrap64 (x - y))
def mulW (x y : Int) : Int := wr (wrap64 (x * y))
theorem ringW1 (x y z : Int) : addW (addW x y) z = addW x (addW y z) := ring1 x y z
theorem ringW2 (x y z : Int) : mulW (mulW x y) z = mulW x (mulW y z) := ring2 x y z
theorem ringW3 (x y z : Int) : mulW x (addW y z) = addW (mulW x y) (mulW x z) := ring3 x y z
theorem ringW4 (a y : Int) : subW (addW (wr a) y) y = wr a := ring4 a y
end Go.Proofs.Ytpgbpcnifhnjjaa.PValueOps
