/- What Encode's inner function computes, as plain Lean over values as trees; its lengths. -/
import Derived.Test.YtpgbpcnifhnjjaaDoorPValueTellsx0
namespace Go.Proofs.YtpgbpcnifhnjjaaDoor.PValueTells
open Go.RowKit Go.Proofs.YtpgbpcnifhnjjaaDoorW.PrintWords

/-- A value's word where it is no tuple: as the walk spells it. -/
def encW (kind n : Int) : Int :=
  if kind = 2 then bits .or .u64 (IntKind.u64.wrap (IntKind.u64.wrap n * 4)) 2
  else if kind = 3 then bits .or .u64 (IntKind.u64.wrap (IntKind.u64.wrap n * 4)) 3
  else IntKind.u64.wrap (IntKind.u64.wrap n * 4)
def flat (kind : Int) : Bool := kind == 1 || kind == 2 || kind == 3
mutual
def encT (base : Int) : S24 → List Int → Int × List Int
  | ⟨kind, n, args⟩, out =>
    if flat kind = true then (encW kind n, out)
    else (IntKind.u64.wrap (IntKind.u64.wrap (base + 8 * (out.length : Int)) + 1), encL base args (out.length + 1) (out ++ [(args.length : Int)] ++ List.replicate args.length 0))
def encL (base : Int) : List S24 → Nat → List Int → List Int
  | [], _, out => out
  | x :: xs, p, out => encL base xs (p + 1) ((encT base x out).2.set p (encT base x out).1)
end
mutual
def wordsT : S24 → Nat
  | ⟨kind, _, args⟩ => if flat kind = true then 0 else 1 + args.length + wordsL args
def wordsL : List S24 → Nat
  | [] => 0
  | x :: xs => wordsT x + wordsL xs
end
mutual
theorem encT_length (base : Int) : ∀ (x : S24) (out : List Int), (encT base x out).2.length = out.length + wordsT x
  | ⟨kind, n, args⟩, out => by
    unfold encT wordsT
    by_cases h : flat kind = true
    · simp [h]
    · simp only [h, if_false, Bool.false_eq_true]
      rw [encL_length base args (out.length + 1) _]
      simp
      omega
theorem encL_length (base : Int) : ∀ (l : List S24) (p : Nat) (out : List Int), (encL base l p out).length = out.length + wordsL l
  | [], p, out => by simp [encL, wordsL]
  | x :: xs, p, out => by
    unfold encL wordsL
    rw [encL_length base xs, List.length_set, encT_length base x]
    omega
end
theorem encT_flat {base kind n : Int} {args : List S24} {out : List Int} (h : flat kind = true) : encT base ⟨kind, n, args⟩ out = (encW kind n, out) := by
  unfold encT; simp [h]
theorem encT_tuple {base kind n : Int} {args : List S24} {out : List Int} (h : flat kind = false) : encT base ⟨kind, n, args⟩ out = (IntKind.u64.wrap (IntKind.u64.wrap (base + 8 * (out.length : Int)) + 1), encL base args (out.length + 1) (out ++ [(args.length : Int)] ++ List.replicate args.length 0)) := by
  unfold encT; simp [h]
theorem encL_drop {base : Int} {l : List S24} {i p : Nat} {out : List Int} (h : i < l.length) : encL base (l.drop i) p out = encL base (l.drop (i + 1)) (p + 1) ((encT base l[i] out).2.set p (encT base l[i] out).1) := by
  rw [List.drop_eq_getElem_cons h, encL]
theorem wordsL_drop {l : List S24} {i : Nat} (h : i < l.length) : wordsL (l.drop i) = wordsT l[i] + wordsL (l.drop (i + 1)) := by
  rw [List.drop_eq_getElem_cons h, wordsL]
theorem wordsT_tuple {kind n : Int} {args : List S24} (h : flat kind = false) : wordsT ⟨kind, n, args⟩ = 1 + args.length + wordsL args := by
  unfold wordsT; simp [h]
theorem sizeOf_arg {kind n : Int} {args : List S24} {i : Nat} (h : i < args.length) : SizeOf.sizeOf args[i] < SizeOf.sizeOf (S24.mk kind n args) := by
  have := List.sizeOf_lt_of_mem (List.getElem_mem h)
  simp
  omega
end Go.Proofs.YtpgbpcnifhnjjaaDoor.PValueTells
