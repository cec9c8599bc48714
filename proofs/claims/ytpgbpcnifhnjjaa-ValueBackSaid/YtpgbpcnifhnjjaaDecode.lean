/- value.Decode, at any word, any words, any base: what it answers, and that nothing that was there has turned. -/
import Derived.Test.YtpgbpcnifhnjjaaRdTup
import Derived.Test.YtpgbpcnifhnjjaaRdNone
namespace Go.Proofs.Ytpgbpcnifhnjjaa.PValueOps
open Go.RowKit Go.Proofs.YtpgbpcnifhnjjaaW.PrintWords Go.Proofs.YtpgbpcnifhnjjaaW.PrintLast Go.Proofs.YtpgbpcnifhnjjaaW.PrintMore
set_option linter.unusedVariables false
set_option linter.unusedSimpArgs false
theorem rd_value {w0 : World} {R : Nat} {A : Option Addr} {ws : List Int} {c : Nat} {base : Int} (hR : w0.heap.size ≤ R) (hW : ReadsInt w0 .u64 A ws.length ws) (hc : ws.length ≤ c) (hlen : ws.length ≤ 1000000000000) (hwf : ∀ x ∈ ws, 0 ≤ x ∧ x ≤ 18446744073709551615) (hb0 : 0 ≤ base) (hb1 : base ≤ 18446744073709551615) : ∀ left : Nat, left ≤ 1000 → ValC w0 R A ws c base left := by
  intro left
  induction left with
  | zero => exact fun _ => value_of hR (tuple_zero hR)
  | succ left ih =>
    intro hl
    have hv := ih (by omega)
    clear ih
    refine value_of hR ?_
    unfold TupC
    have e : ((left + 1 : Nat) : Int) = (left : Int) + 1 := by omega
    rw [e]
    intro u met w hu0 hu1 hm0 hm1 hB hD
    have hx : rdX ws base (left + 1) u met = match tupleAt ws base u with | none => (zV, 151, met) | some us => rdL (rdV ws base left) us [] met := rfl
    cases ht : tupleAt ws base u with
    | none =>
      rw [ht] at hx
      rw [hx]
      exact tuple_none hR hW hc hlen hwf hb0 hb1 (by omega) u met w hu0 hu1 hm0 hm1 hB hD ht
    | some us =>
      rw [ht] at hx
      rw [hx]
      unfold tupleAt at ht
      split at ht
      · cases ht
      · rename_i h1
        split at ht
        · cases ht
        · rename_i h2
          split at ht
          · cases ht
          · rename_i h3
            injection ht with ht
            obtain ⟨n, hn⟩ := Int.eq_ofNat_of_zero_le (show 0 ≤ ws.getD ((u - base) / 8).toNat 0 by omega)
            have := tuple_some hR hW hc hlen hwf hb0 hb1 (by omega) hv u met w hu0 hu1 hm0 hm1 hB hD ((u - base) / 8).toNat n (by omega) (by omega) (by omega) (by omega) (by omega) hn (by omega) (by omega) (by omega)
            rw [hn, Int.toNat_natCast] at ht
            rw [ht] at this
            exact this

set_option maxHeartbeats 2000000 in
set_option maxRecDepth 100000 in
theorem decode_calls (u : Int) (A : Option Addr) (ws : List Int) (c : Nat) (base : Int) (w : World) (hW : ReadsInt w .u64 A ws.length ws) (hc : ws.length ≤ c) (hlen : ws.length ≤ 1000000000000) (hwf : ∀ x ∈ ws, 0 ≤ x ∧ x ≤ 18446744073709551615) (hu0 : 0 ≤ u) (hu1 : u ≤ 18446744073709551615) (hb0 : 0 ≤ base) (hb1 : base ≤ 18446744073709551615) :
    Calls Try.prog 15 #[.int .u64 u, .slice A ws.length c, .int .u64 base] w fun e w' => ∃ v2, e = .returned (.tuple #[.agg #[.int .i64 (rdV ws base 64 u 0).1.f0, .int .i64 (rdV ws base 64 u 0).1.f1, v2], .int .i64 (rdV ws base 64 u 0).2.1]) ∧ Kd.R k24 24 w' w.heap.size (fun _ => True) v2 (rdV ws base 64 u 0).1.f2 ∧ Below w.heap.size w w' := by
  have HB := Aside0.mk (Below.refl w.heap.size w)
  have HV := Aside0.mk (fun R hR => rd_value (w0 := w) (R := R) hR hW hc hlen hwf hb0 hb1 64 (by decide))
  have HU := Aside0.mk (And.intro hu0 hu1)
  clear hW hc hlen hwf hu0 hu1 hb0 hb1
  go_enter Try.func15, Try.ntmps15
  go_wp2_with (first
      | ((with_reducible refine gate_dst (N := 6) rfl ?_); refine box_event ?hg (N := 6) ?hd (cs := #[.int .i64 0, .int .i64 0, .slice none 0 0]) (t := 24) ?hr ?_; (case hd => rfl); (case hg => rfl); (case hr => first | (go_simp; done) | (go_simp; rfl))
         intro gx hg w3 hbox hb
         have n1 := Aside0.mk (below_step HB.out hb)
         have BX := Aside0.mk hbox
         have GX := Aside0.mk (show w.heap.size ≤ gx by omega)
         clear HB hg hbox hb
         have HB := n1
         clear n1)
      | ((with_reducible refine gate_dst (N := 12) rfl ?_); refine box_event ?hg (N := 12) ?hd (cs := #[.slice A ws.length c, .int .u64 base, .int .i64 0]) (t := 50) ?hr ?_; (case hd => rfl); (case hg => rfl); (case hr => first | (go_simp; done) | (go_simp; rfl))
         intro gr hg w4 hbox hb
         have n1 := Aside0.mk (below_step HB.out hb)
         have n2 := Aside0.mk (blk_below BX.out hb)
         have GR := Aside0.mk (show w.heap.size ≤ gr by have := HB.out.size; omega)
         have GXR := Aside0.mk (show gx ≠ gr by have := blk_lt BX.out; omega)
         have BR := Aside0.mk hbox
         clear HB BX hg hbox hb
         have HB := n1
         have BX := n2
         clear n1 n2))
  refine (HV.out gr GR.out u 0 w4 HU.out.1 HU.out.2 (by decide) (by decide) HB.out BR.out).mono ?_
  rintro e w5 ⟨v2, rfl, hR2, hB2, hK2, hD2⟩
  obtain ⟨A2, c2, rfl⟩ := Kd.R_slice hR2
  have hx : w5.heap[gx]? = some (.cells #[.int .i64 0, .int .i64 0, .slice none 0 0] 24 (0, 0)) := hK2.blk BX.out GXR.out (by simp)
  have L4 := Aside0.mk (show gx < w4.heap.size from blk_lt BX.out)
  have L5 := Aside0.mk (show w.heap.size ≤ w4.heap.size from HB.out.size)
  have HR2 := Aside0.mk hR2
  have HB2 := Aside0.mk hB2
  clear hR2 hB2 hK2 hD2 HB BX BR HV
  have BX := Aside0.mk hx
  have cx0 : w5.cell? ⟨gx, 0, none⟩ = some (.int .i64 0) := (blk_cell hx 0).trans rfl
  have cx1 : w5.cell? ⟨gx, 1, none⟩ = some (.int .i64 0) := (blk_cell hx 1).trans rfl
  have cx2 : w5.cell? ⟨gx, 2, none⟩ = some (.slice none 0 0) := (blk_cell hx 2).trans rfl
  have fx0 := blk_frozen hx 0
  have fx1 := blk_frozen hx 1
  have fx2 := blk_frozen hx 2
  clear hx
  go_wp2
  refine bodyPost_ret (results_list (rs := [.cell 6 24, .tmp 7]) rfl (by simp) (.cell gx 24 #[.int .i64 (rdV ws base 64 u 0).1.f0, .int .i64 (rdV ws base 64 u 0).1.f1, .slice A2 (rdV ws base 64 u 0).1.f2.length c2] (0, 0) _ rfl (blk_put (blk_put (blk_put BX.out 0 _ rfl) 1 _ rfl) 2 _ rfl) Try.underlying24 rfl (by kernel_rfl) (.tmp .nil))) rfl ?_
  refine ⟨.slice A2 (rdV ws base 64 u 0).1.f2.length c2, rfl, ?_, below_set (below_set (below_set HB2.out GX.out) GX.out) GX.out⟩
  have far := Kd.R_mono (ok' := fun k => k ≠ gx) (Kd.R_bound HR2.out) (fun k hk => by have := hk.2.1; have := L4.out; omega)
  exact Kd.R_mono (Kd.R_lower (Kd.R_far (p := ⟨gx, _, none⟩) (Kd.R_far (p := ⟨gx, _, none⟩) (Kd.R_far (p := ⟨gx, _, none⟩) far (fun _ h => h) _) (fun _ h => h) _) (fun _ h => h) _) L5.out) (fun _ _ => trivial)
end Go.Proofs.Ytpgbpcnifhnjjaa.PValueOps
