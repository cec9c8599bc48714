/- The reader's value, given its tuple's contract. -/
import Derived.Test.YtpgbpcnifhnjjaaDecDef
import Derived.Test.YtpgbpcnifhnjjaaTreePure
import Derived.Outline
namespace Go.Proofs.Ytpgbpcnifhnjjaa.PValueOps
open Go.RowKit Go.Proofs.YtpgbpcnifhnjjaaW.PrintWords Go.Proofs.YtpgbpcnifhnjjaaW.PrintLast Go.Proofs.YtpgbpcnifhnjjaaW.PrintMore
set_option linter.unusedVariables false
set_option linter.unusedSimpArgs false

/-- The reader lies in block R: its words, its base, how many parts it has met. -/
def RdAt (w : World) (T R : Nat) (A : Option Addr) (n c : Nat) (base met : Int) : Prop := w.heap[R]? = some (.cells #[.slice A n c, .int .u64 base, .int .i64 met] T (0, 0))
/-- What a call of the reader's leaves. -/
def RdPost (w0 w : World) (T R : Nat) (A : Option Addr) (n c : Nat) (base : Int) (r : S24 × Int × Int) (e : Ending) (w' : World) : Prop :=
  ∃ v2, e = .returned (.tuple #[.agg #[.int .i64 r.1.f0, .int .i64 r.1.f1, v2], .int .i64 r.2.1]) ∧ Kd.R k24 24 w' w.heap.size (fun _ => True) v2 r.1.f2 ∧ Below w0.heap.size w0 w' ∧ KeepBut w w' R none ∧ RdAt w' T R A n c base r.2.2
def ValC (w0 : World) (R : Nat) (A : Option Addr) (ws : List Int) (c : Nat) (base : Int) (left : Nat) : Prop :=
  ∀ (u met : Int) (w : World), 0 ≤ u → u ≤ 18446744073709551615 → 0 ≤ met → met ≤ 4096 → Below w0.heap.size w0 w → RdAt w 50 R A ws.length c base met →
    Calls Try.prog 25 #[.pointer (some ⟨R, 0, none⟩), .int .u64 u, .int .i64 left] w (RdPost w0 w 50 R A ws.length c base (rdV ws base left u met))
def TupC (w0 : World) (R : Nat) (A : Option Addr) (ws : List Int) (c : Nat) (base : Int) (left : Nat) : Prop :=
  ∀ (u met : Int) (w : World), 0 ≤ u → u ≤ 18446744073709551615 → 0 ≤ met → met ≤ 4096 → Below w0.heap.size w0 w → RdAt w 50 R A ws.length c base met →
    Calls Try.prog 30 #[.pointer (some ⟨R, 0, none⟩), .int .u64 u, .int .i64 left] w (RdPost w0 w 50 R A ws.length c base (rdX ws base left u met))
theorem and3 (u : Int) (h0 : 0 ≤ u) (h1 : u ≤ 18446744073709551615) : bits .and .u64 u 3 = u % 4 := bits_mask .u64 64 (by decide) (fun n h0 h1 => by simp [IntKind.wrap, IntKind.bits, IntKind.signed]; omega) 2 (by decide) u h0 (by omega)

set_option maxHeartbeats 2000000 in
set_option maxRecDepth 100000 in
theorem value_of {w0 : World} {R : Nat} {A : Option Addr} {ws : List Int} {c : Nat} {base : Int} {left : Nat} (hR : w0.heap.size ≤ R) (hT : TupC w0 R A ws c base left) : ValC w0 R A ws c base left := by
  intro u met w hu0 hu1 hm0 hm1 hB hD
  have HB := Aside0.mk hB
  have HT := Aside0.mk hT
  have HR := Aside0.mk hR
  have HK := Aside0.mk (KeepBut.refl w R none)
  clear hB hT hR
  have cr0 : w.cell? ⟨R, 0, none⟩ = some (.slice A ws.length c) := (blk_cell hD 0).trans rfl
  have cr1 : w.cell? ⟨R, 1, none⟩ = some (.int .u64 base) := (blk_cell hD 1).trans rfl
  have cr2 : w.cell? ⟨R, 2, none⟩ = some (.int .i64 met) := (blk_cell hD 2).trans rfl
  have fr2 := blk_frozen hD 2
  have HD := Aside0.mk hD
  clear hD
  have hand := and3 u hu0 hu1
  by_cases e0 : 4096 < met + 1
  · have he : rdV ws base left u met = (zV, 150, met + 1) := by rw [rdV_eq]; simp [rdF, e0]
    rw [he]
    go_enter Try.func25, Try.ntmps25
    go_wp2_with (first
      | ((with_reducible refine gate_dst (N := 6) rfl ?_); refine box_event ?hg (N := 6) ?hd (cs := #[.int .i64 0, .int .i64 0, .slice none 0 0]) (t := 24) ?hr ?_; (case hd => rfl); (case hg => rfl); (case hr => first | (go_simp; done) | (go_simp; rfl))
         intro gx hg w3 hbox hb
         have n1 := Aside0.mk (below_step HB.out hb)
         have n2 : RdAt w3 50 R A ws.length c base met := blk_below HD.out hb
         have n3 := Aside0.mk (KeepBut.of_below hb R none)
         have BX := Aside0.mk hbox
         have GX := Aside0.mk (show w.heap.size ≤ gx by omega)
         have GX0 := Aside0.mk (show w0.heap.size ≤ gx by have := HB.out.size; omega)
         have GR := Aside0.mk (show gx ≠ R by have := blk_lt HD.out; omega)
         clear HB HK hg hbox hb cr0 cr1 cr2 fr2 HD
         have HB := n1
         have HK := n3
         have cr2 : w3.cell? ⟨R, 2, none⟩ = some (.int .i64 met) := (blk_cell n2 2).trans rfl
         have fr2 := blk_frozen n2 2
         have HD := Aside0.mk n2
         clear n1 n2 n3)
      | ((with_reducible refine gate_store (t := 3) (p := 14) rfl ?_); refine store_event (t := 3) (p := 14) (v := ?vo1) (w1 := w3.setCell ⟨R, 2, none⟩ (.int .i64 (met + 1))) ?hg ?ho ?hn ?hr ?_; (case ho => rfl); (case hg => rfl); (case hn => rfl); (case hr => first | (go_simp; done) | (go_simp; rfl))
         intro w4 hw
         have n1 := Aside0.mk (show Below w0.heap.size w0 w4 by rw [hw]; exact below_set HB.out HR.out)
         have n2 : RdAt w4 50 R A ws.length c base (met + 1) := by rw [hw]; exact blk_put HD.out 2 _ rfl
         have n3 := Aside0.mk (show KeepBut w w4 R none by rw [hw]; exact KeepBut.set_ HK.out 2 _)
         have n4 := Aside0.mk (show w4.heap[gx]? = some (.cells #[.int .i64 0, .int .i64 0, .slice none 0 0] 24 (0, 0)) by rw [hw]; exact blk_far BX.out GR.out _)
         clear HB HK HD BX hw cr2 fr2
         have HB := n1
         have HK := n3
         have BX := n4
         have cr2 : w4.cell? ⟨R, 2, none⟩ = some (.int .i64 (met + 1)) := (blk_cell n2 2).trans rfl
         have HD := Aside0.mk n2
         clear n1 n2 n3 n4
         have cx0 : w4.cell? ⟨gx, 0, none⟩ = some (.int .i64 0) := (blk_cell BX.out 0).trans rfl
         have cx1 : w4.cell? ⟨gx, 1, none⟩ = some (.int .i64 0) := (blk_cell BX.out 1).trans rfl
         have cx2 : w4.cell? ⟨gx, 2, none⟩ = some (.slice none 0 0) := (blk_cell BX.out 2).trans rfl
         have fx0 := blk_frozen BX.out 0
         have fx1 := blk_frozen BX.out 1
         have fx2 := blk_frozen BX.out 2))
    refine bodyPost_ret (results_list (rs := [.cell 6 24, .tmp 7]) rfl (by simp) (.cell gx 24 #[.int .i64 0, .int .i64 0, .slice none 0 0] (0, 0) _ rfl (blk_put (blk_put (blk_put BX.out 0 _ rfl) 1 _ rfl) 2 _ rfl) Try.underlying24 rfl (by kernel_rfl) (.tmp .nil))) rfl ?_
    exact ⟨.slice none 0 0, rfl, Kd.R_nil _ _ _ _ _, below_set (below_set (below_set (HB.out) GX0.out) GX0.out) GX0.out, keep_far (keep_far (keep_far (HK.out) (p := ⟨gx, _, none⟩) GX.out _) (p := ⟨gx, _, none⟩) GX.out _) (p := ⟨gx, _, none⟩) GX.out _, blk_far (blk_far (blk_far (HD.out) (p := ⟨gx, _, none⟩) GR.out.symm _) (p := ⟨gx, _, none⟩) GR.out.symm _) (p := ⟨gx, _, none⟩) GR.out.symm _⟩
  by_cases e1 : u % 4 = 0
  · have he : rdV ws base left u met = (⟨1, wrap64 u / 4, []⟩, 0, met + 1) := by rw [rdV_eq]; simp [rdF, e0, e1]
    rw [he]
    have hk : (u % 4 == 0) = true := by simpa using e1
    have H1 := Aside0.mk e1
    clear e1
    go_enter Try.func25, Try.ntmps25
    go_wp2_with (first
      | ((with_reducible refine gate_dst (N := 6) rfl ?_); refine box_event ?hg (N := 6) ?hd (cs := #[.int .i64 0, .int .i64 0, .slice none 0 0]) (t := 24) ?hr ?_; (case hd => rfl); (case hg => rfl); (case hr => first | (go_simp; done) | (go_simp; rfl))
         intro gx hg w3 hbox hb
         have n1 := Aside0.mk (below_step HB.out hb)
         have n2 : RdAt w3 50 R A ws.length c base met := blk_below HD.out hb
         have n3 := Aside0.mk (KeepBut.of_below hb R none)
         have BX := Aside0.mk hbox
         have GX := Aside0.mk (show w.heap.size ≤ gx by omega)
         have GX0 := Aside0.mk (show w0.heap.size ≤ gx by have := HB.out.size; omega)
         have GR := Aside0.mk (show gx ≠ R by have := blk_lt HD.out; omega)
         clear HB HK hg hbox hb cr0 cr1 cr2 fr2 HD
         have HB := n1
         have HK := n3
         have cr2 : w3.cell? ⟨R, 2, none⟩ = some (.int .i64 met) := (blk_cell n2 2).trans rfl
         have fr2 := blk_frozen n2 2
         have HD := Aside0.mk n2
         clear n1 n2 n3)
      | ((with_reducible refine gate_store (t := 3) (p := 14) rfl ?_); refine store_event (t := 3) (p := 14) (v := ?vo2) (w1 := w3.setCell ⟨R, 2, none⟩ (.int .i64 (met + 1))) ?hg ?ho ?hn ?hr ?_; (case ho => rfl); (case hg => rfl); (case hn => rfl); (case hr => first | (go_simp; done) | (go_simp; rfl))
         intro w4 hw
         have n1 := Aside0.mk (show Below w0.heap.size w0 w4 by rw [hw]; exact below_set HB.out HR.out)
         have n2 : RdAt w4 50 R A ws.length c base (met + 1) := by rw [hw]; exact blk_put HD.out 2 _ rfl
         have n3 := Aside0.mk (show KeepBut w w4 R none by rw [hw]; exact KeepBut.set_ HK.out 2 _)
         have n4 := Aside0.mk (show w4.heap[gx]? = some (.cells #[.int .i64 0, .int .i64 0, .slice none 0 0] 24 (0, 0)) by rw [hw]; exact blk_far BX.out GR.out _)
         clear HB HK HD BX hw cr2 fr2
         have HB := n1
         have HK := n3
         have BX := n4
         have cr2 : w4.cell? ⟨R, 2, none⟩ = some (.int .i64 (met + 1)) := (blk_cell n2 2).trans rfl
         have HD := Aside0.mk n2
         clear n1 n2 n3 n4
         have cx0 : w4.cell? ⟨gx, 0, none⟩ = some (.int .i64 0) := (blk_cell BX.out 0).trans rfl
         have cx1 : w4.cell? ⟨gx, 1, none⟩ = some (.int .i64 0) := (blk_cell BX.out 1).trans rfl
         have cx2 : w4.cell? ⟨gx, 2, none⟩ = some (.slice none 0 0) := (blk_cell BX.out 2).trans rfl
         have fx0 := blk_frozen BX.out 0
         have fx1 := blk_frozen BX.out 1
         have fx2 := blk_frozen BX.out 2))
    refine bodyPost_ret (results_list (rs := [.cell 6 24, .tmp 7]) rfl (by simp) (.cell gx 24 #[.int .i64 1, .int .i64 (wrap64 u / 4), .slice none 0 0] (0, 0) _ rfl (blk_put (blk_put (blk_put BX.out 0 _ rfl) 1 _ rfl) 2 _ rfl) Try.underlying24 rfl (by kernel_rfl) (.tmp .nil))) rfl ?_
    exact ⟨.slice none 0 0, rfl, Kd.R_nil _ _ _ _ _, below_set (below_set (below_set (HB.out) GX0.out) GX0.out) GX0.out, keep_far (keep_far (keep_far (HK.out) (p := ⟨gx, _, none⟩) GX.out _) (p := ⟨gx, _, none⟩) GX.out _) (p := ⟨gx, _, none⟩) GX.out _, blk_far (blk_far (blk_far (HD.out) (p := ⟨gx, _, none⟩) GR.out.symm _) (p := ⟨gx, _, none⟩) GR.out.symm _) (p := ⟨gx, _, none⟩) GR.out.symm _⟩
  by_cases e2 : u % 4 = 1
  · have he : rdV ws base left u met = rdX ws base left (u - 1) (met + 1) := by rw [rdV_eq]; simp [rdF, e0, e1, e2]
    have HE := Aside0.mk he
    clear he
    have hk0 : (u % 4 == 0) = false := by simpa using e1
    have hk2 : (u % 4 == 2) = false := by simp; omega
    have hk3 : (u % 4 == 3) = false := by simp; omega
    have hu2 : 1 ≤ u := by omega
    have H1 := Aside0.mk e1
    have H2 := Aside0.mk e2
    clear e1 e2
    go_enter Try.func25, Try.ntmps25
    go_wp2_with (first
      | ((with_reducible refine gate_dst (N := 6) rfl ?_); refine box_event ?hg (N := 6) ?hd (cs := #[.int .i64 0, .int .i64 0, .slice none 0 0]) (t := 24) ?hr ?_; (case hd => rfl); (case hg => rfl); (case hr => first | (go_simp; done) | (go_simp; rfl))
         intro gx hg w3 hbox hb
         have n1 := Aside0.mk (below_step HB.out hb)
         have n2 : RdAt w3 50 R A ws.length c base met := blk_below HD.out hb
         have n3 := Aside0.mk (KeepBut.of_below hb R none)
         have BX := Aside0.mk hbox
         have GX := Aside0.mk (show w.heap.size ≤ gx by omega)
         have GX0 := Aside0.mk (show w0.heap.size ≤ gx by have := HB.out.size; omega)
         have GR := Aside0.mk (show gx ≠ R by have := blk_lt HD.out; omega)
         clear HB HK hg hbox hb cr0 cr1 cr2 fr2 HD
         have HB := n1
         have HK := n3
         have cr2 : w3.cell? ⟨R, 2, none⟩ = some (.int .i64 met) := (blk_cell n2 2).trans rfl
         have fr2 := blk_frozen n2 2
         have HD := Aside0.mk n2
         clear n1 n2 n3)
      | ((with_reducible refine gate_store (t := 3) (p := 14) rfl ?_); refine store_event (t := 3) (p := 14) (v := ?vo3) (w1 := w3.setCell ⟨R, 2, none⟩ (.int .i64 (met + 1))) ?hg ?ho ?hn ?hr ?_; (case ho => rfl); (case hg => rfl); (case hn => rfl); (case hr => first | (go_simp; done) | (go_simp; rfl))
         intro w4 hw
         have n1 := Aside0.mk (show Below w0.heap.size w0 w4 by rw [hw]; exact below_set HB.out HR.out)
         have n2 : RdAt w4 50 R A ws.length c base (met + 1) := by rw [hw]; exact blk_put HD.out 2 _ rfl
         have n3 := Aside0.mk (show KeepBut w w4 R none by rw [hw]; exact KeepBut.set_ HK.out 2 _)
         have n4 := Aside0.mk (show w4.heap[gx]? = some (.cells #[.int .i64 0, .int .i64 0, .slice none 0 0] 24 (0, 0)) by rw [hw]; exact blk_far BX.out GR.out _)
         clear HB HK HD BX hw cr2 fr2
         have HB := n1
         have HK := n3
         have BX := n4
         have cr2 : w4.cell? ⟨R, 2, none⟩ = some (.int .i64 (met + 1)) := (blk_cell n2 2).trans rfl
         have HD := Aside0.mk n2
         clear n1 n2 n3 n4
         have cx0 : w4.cell? ⟨gx, 0, none⟩ = some (.int .i64 0) := (blk_cell BX.out 0).trans rfl
         have cx1 : w4.cell? ⟨gx, 1, none⟩ = some (.int .i64 0) := (blk_cell BX.out 1).trans rfl
         have cx2 : w4.cell? ⟨gx, 2, none⟩ = some (.slice none 0 0) := (blk_cell BX.out 2).trans rfl
         have fx0 := blk_frozen BX.out 0
         have fx1 := blk_frozen BX.out 1
         have fx2 := blk_frozen BX.out 2))
    refine (HT.out (u - 1) (met + 1) w4 (by omega) (by omega) (by omega) (by omega) HB.out HD.out).mono ?_
    rw [← HE.out]
    rintro e w5 ⟨v2, rfl, hR2, hB2, hK2, hD2⟩
    obtain ⟨A2, c2, rfl⟩ := Kd.R_slice hR2
    have hx : w5.heap[gx]? = some (.cells #[.int .i64 0, .int .i64 0, .slice none 0 0] 24 (0, 0)) := hK2.blk BX.out GR.out (by simp)
    have HR2 := Aside0.mk hR2
    have n1 := Aside0.mk hB2
    have n2 := Aside0.mk (HK.out.trans hK2 (.inl rfl))
    have n3 := Aside0.mk hD2
    have L4 := Aside0.mk (show gx < w4.heap.size from blk_lt BX.out)
    have L5 := Aside0.mk (show w.heap.size ≤ w4.heap.size from HK.out.1)
    clear HB HK HD BX hR2 hB2 hK2 hD2 cr2 cx0 cx1 cx2 fx0 fx1 fx2 HE
    have HB := n1
    have HK := n2
    have HD := n3
    clear n1 n2 n3
    have BX := Aside0.mk hx
    have cx0 : w5.cell? ⟨gx, 0, none⟩ = some (.int .i64 0) := (blk_cell hx 0).trans rfl
    have cx1 : w5.cell? ⟨gx, 1, none⟩ = some (.int .i64 0) := (blk_cell hx 1).trans rfl
    have cx2 : w5.cell? ⟨gx, 2, none⟩ = some (.slice none 0 0) := (blk_cell hx 2).trans rfl
    have fx0 := blk_frozen hx 0
    have fx1 := blk_frozen hx 1
    have fx2 := blk_frozen hx 2
    clear hx
    go_wp2
    refine bodyPost_ret (results_list (rs := [.cell 6 24, .tmp 7]) rfl (by simp) (.cell gx 24 #[.int .i64 (rdV ws base left u met).1.f0, .int .i64 (rdV ws base left u met).1.f1, .slice A2 (rdV ws base left u met).1.f2.length c2] (0, 0) _ rfl (blk_put (blk_put (blk_put BX.out 0 _ rfl) 1 _ rfl) 2 _ rfl) Try.underlying24 rfl (by kernel_rfl) (.tmp .nil))) rfl ?_
    refine ⟨.slice A2 (rdV ws base left u met).1.f2.length c2, rfl, ?_, below_set (below_set (below_set HB.out GX0.out) GX0.out) GX0.out, keep_far (keep_far (keep_far HK.out (p := ⟨gx, _, none⟩) GX.out _) (p := ⟨gx, _, none⟩) GX.out _) (p := ⟨gx, _, none⟩) GX.out _, blk_far (blk_far (blk_far HD.out (p := ⟨gx, _, none⟩) GR.out.symm _) (p := ⟨gx, _, none⟩) GR.out.symm _) (p := ⟨gx, _, none⟩) GR.out.symm _⟩
    have far := Kd.R_mono (ok' := fun k => k ≠ gx) (Kd.R_bound HR2.out) (fun k hk => by have := hk.2.1; have := L4.out; omega)
    exact Kd.R_mono (Kd.R_lower (Kd.R_far (p := ⟨gx, _, none⟩) (Kd.R_far (p := ⟨gx, _, none⟩) (Kd.R_far (p := ⟨gx, _, none⟩) far (fun _ h => h) _) (fun _ h => h) _) (fun _ h => h) _) L5.out) (fun _ _ => trivial)
  have hk0 : (u % 4 == 0) = false := by simpa using e1
  have hk1 : u % 4 = 2 ∨ u % 4 = 3 := by omega
  by_cases e3 : 1048576 ≤ u / 4
  · have he : rdV ws base left u met = (zV, 151, met + 1) := by rw [rdV_eq]; simp [rdF, e0, e1, e2, e3]
    rw [he]
    clear e1 e2
    rcases hk1 with hk1 | hk1
    · have hk2 : (u % 4 == 2) = true := by simp; omega
      have hk3 : (u % 4 == 3) = false := by simp; omega
      have H1 := Aside0.mk hk1
      clear hk1
      go_enter Try.func25, Try.ntmps25
      go_wp2_with (first
        | ((with_reducible refine gate_dst (N := 6) rfl ?_); refine box_event ?hg (N := 6) ?hd (cs := #[.int .i64 0, .int .i64 0, .slice none 0 0]) (t := 24) ?hr ?_; (case hd => rfl); (case hg => rfl); (case hr => first | (go_simp; done) | (go_simp; rfl))
           intro gx hg w3 hbox hb
           have n1 := Aside0.mk (below_step HB.out hb)
           have n2 : RdAt w3 50 R A ws.length c base met := blk_below HD.out hb
           have n3 := Aside0.mk (KeepBut.of_below hb R none)
           have BX := Aside0.mk hbox
           have GX := Aside0.mk (show w.heap.size ≤ gx by omega)
           have GX0 := Aside0.mk (show w0.heap.size ≤ gx by have := HB.out.size; omega)
           have GR := Aside0.mk (show gx ≠ R by have := blk_lt HD.out; omega)
           clear HB HK hg hbox hb cr0 cr1 cr2 fr2 HD
           have HB := n1
           have HK := n3
           have cr2 : w3.cell? ⟨R, 2, none⟩ = some (.int .i64 met) := (blk_cell n2 2).trans rfl
           have fr2 := blk_frozen n2 2
           have HD := Aside0.mk n2
           clear n1 n2 n3)
        | ((with_reducible refine gate_store (t := 3) (p := 14) rfl ?_); refine store_event (t := 3) (p := 14) (v := ?vo4) (w1 := w3.setCell ⟨R, 2, none⟩ (.int .i64 (met + 1))) ?hg ?ho ?hn ?hr ?_; (case ho => rfl); (case hg => rfl); (case hn => rfl); (case hr => first | (go_simp; done) | (go_simp; rfl))
           intro w4 hw
           have n1 := Aside0.mk (show Below w0.heap.size w0 w4 by rw [hw]; exact below_set HB.out HR.out)
           have n2 : RdAt w4 50 R A ws.length c base (met + 1) := by rw [hw]; exact blk_put HD.out 2 _ rfl
           have n3 := Aside0.mk (show KeepBut w w4 R none by rw [hw]; exact KeepBut.set_ HK.out 2 _)
           have n4 := Aside0.mk (show w4.heap[gx]? = some (.cells #[.int .i64 0, .int .i64 0, .slice none 0 0] 24 (0, 0)) by rw [hw]; exact blk_far BX.out GR.out _)
           clear HB HK HD BX hw cr2 fr2
           have HB := n1
           have HK := n3
           have BX := n4
           have cr2 : w4.cell? ⟨R, 2, none⟩ = some (.int .i64 (met + 1)) := (blk_cell n2 2).trans rfl
           have HD := Aside0.mk n2
           clear n1 n2 n3 n4
           have cx0 : w4.cell? ⟨gx, 0, none⟩ = some (.int .i64 0) := (blk_cell BX.out 0).trans rfl
           have cx1 : w4.cell? ⟨gx, 1, none⟩ = some (.int .i64 0) := (blk_cell BX.out 1).trans rfl
           have cx2 : w4.cell? ⟨gx, 2, none⟩ = some (.slice none 0 0) := (blk_cell BX.out 2).trans rfl
           have fx0 := blk_frozen BX.out 0
           have fx1 := blk_frozen BX.out 1
           have fx2 := blk_frozen BX.out 2))
      refine bodyPost_ret (results_list (rs := [.cell 6 24, .tmp 7]) rfl (by simp) (.cell gx 24 #[.int .i64 0, .int .i64 0, .slice none 0 0] (0, 0) _ rfl (blk_put (blk_put (blk_put (blk_put BX.out 0 _ rfl) 0 _ rfl) 1 _ rfl) 2 _ rfl) Try.underlying24 rfl (by kernel_rfl) (.tmp .nil))) rfl ?_
      exact ⟨.slice none 0 0, rfl, Kd.R_nil _ _ _ _ _, below_set (below_set (below_set (below_set (HB.out) GX0.out) GX0.out) GX0.out) GX0.out, keep_far (keep_far (keep_far (keep_far (HK.out) (p := ⟨gx, _, none⟩) GX.out _) (p := ⟨gx, _, none⟩) GX.out _) (p := ⟨gx, _, none⟩) GX.out _) (p := ⟨gx, _, none⟩) GX.out _, blk_far (blk_far (blk_far (blk_far (HD.out) (p := ⟨gx, _, none⟩) GR.out.symm _) (p := ⟨gx, _, none⟩) GR.out.symm _) (p := ⟨gx, _, none⟩) GR.out.symm _) (p := ⟨gx, _, none⟩) GR.out.symm _⟩
    · have hk2 : (u % 4 == 2) = false := by simp; omega
      have hk3 : (u % 4 == 3) = true := by simp; omega
      have H1 := Aside0.mk hk1
      clear hk1
      go_enter Try.func25, Try.ntmps25
      go_wp2_with (first
        | ((with_reducible refine gate_dst (N := 6) rfl ?_); refine box_event ?hg (N := 6) ?hd (cs := #[.int .i64 0, .int .i64 0, .slice none 0 0]) (t := 24) ?hr ?_; (case hd => rfl); (case hg => rfl); (case hr => first | (go_simp; done) | (go_simp; rfl))
           intro gx hg w3 hbox hb
           have n1 := Aside0.mk (below_step HB.out hb)
           have n2 : RdAt w3 50 R A ws.length c base met := blk_below HD.out hb
           have n3 := Aside0.mk (KeepBut.of_below hb R none)
           have BX := Aside0.mk hbox
           have GX := Aside0.mk (show w.heap.size ≤ gx by omega)
           have GX0 := Aside0.mk (show w0.heap.size ≤ gx by have := HB.out.size; omega)
           have GR := Aside0.mk (show gx ≠ R by have := blk_lt HD.out; omega)
           clear HB HK hg hbox hb cr0 cr1 cr2 fr2 HD
           have HB := n1
           have HK := n3
           have cr2 : w3.cell? ⟨R, 2, none⟩ = some (.int .i64 met) := (blk_cell n2 2).trans rfl
           have fr2 := blk_frozen n2 2
           have HD := Aside0.mk n2
           clear n1 n2 n3)
        | ((with_reducible refine gate_store (t := 3) (p := 14) rfl ?_); refine store_event (t := 3) (p := 14) (v := ?vo5) (w1 := w3.setCell ⟨R, 2, none⟩ (.int .i64 (met + 1))) ?hg ?ho ?hn ?hr ?_; (case ho => rfl); (case hg => rfl); (case hn => rfl); (case hr => first | (go_simp; done) | (go_simp; rfl))
           intro w4 hw
           have n1 := Aside0.mk (show Below w0.heap.size w0 w4 by rw [hw]; exact below_set HB.out HR.out)
           have n2 : RdAt w4 50 R A ws.length c base (met + 1) := by rw [hw]; exact blk_put HD.out 2 _ rfl
           have n3 := Aside0.mk (show KeepBut w w4 R none by rw [hw]; exact KeepBut.set_ HK.out 2 _)
           have n4 := Aside0.mk (show w4.heap[gx]? = some (.cells #[.int .i64 0, .int .i64 0, .slice none 0 0] 24 (0, 0)) by rw [hw]; exact blk_far BX.out GR.out _)
           clear HB HK HD BX hw cr2 fr2
           have HB := n1
           have HK := n3
           have BX := n4
           have cr2 : w4.cell? ⟨R, 2, none⟩ = some (.int .i64 (met + 1)) := (blk_cell n2 2).trans rfl
           have HD := Aside0.mk n2
           clear n1 n2 n3 n4
           have cx0 : w4.cell? ⟨gx, 0, none⟩ = some (.int .i64 0) := (blk_cell BX.out 0).trans rfl
           have cx1 : w4.cell? ⟨gx, 1, none⟩ = some (.int .i64 0) := (blk_cell BX.out 1).trans rfl
           have cx2 : w4.cell? ⟨gx, 2, none⟩ = some (.slice none 0 0) := (blk_cell BX.out 2).trans rfl
           have fx0 := blk_frozen BX.out 0
           have fx1 := blk_frozen BX.out 1
           have fx2 := blk_frozen BX.out 2))
      refine bodyPost_ret (results_list (rs := [.cell 6 24, .tmp 7]) rfl (by simp) (.cell gx 24 #[.int .i64 0, .int .i64 0, .slice none 0 0] (0, 0) _ rfl (blk_put (blk_put (blk_put (blk_put BX.out 0 _ rfl) 0 _ rfl) 1 _ rfl) 2 _ rfl) Try.underlying24 rfl (by kernel_rfl) (.tmp .nil))) rfl ?_
      exact ⟨.slice none 0 0, rfl, Kd.R_nil _ _ _ _ _, below_set (below_set (below_set (below_set (HB.out) GX0.out) GX0.out) GX0.out) GX0.out, keep_far (keep_far (keep_far (keep_far (HK.out) (p := ⟨gx, _, none⟩) GX.out _) (p := ⟨gx, _, none⟩) GX.out _) (p := ⟨gx, _, none⟩) GX.out _) (p := ⟨gx, _, none⟩) GX.out _, blk_far (blk_far (blk_far (blk_far (HD.out) (p := ⟨gx, _, none⟩) GR.out.symm _) (p := ⟨gx, _, none⟩) GR.out.symm _) (p := ⟨gx, _, none⟩) GR.out.symm _) (p := ⟨gx, _, none⟩) GR.out.symm _⟩
  · have he : rdV ws base left u met = (⟨u % 4, u / 4, []⟩, 0, met + 1) := by rw [rdV_eq]; simp [rdF, e0, e1, e2, e3]
    rw [he]
    clear e1 e2
    rcases hk1 with hk1 | hk1
    · have hk2 : (u % 4 == 2) = true := by simp; omega
      have hk3 : (u % 4 == 3) = false := by simp; omega
      rw [hk1]
      have H1 := Aside0.mk hk1
      clear hk1
      go_enter Try.func25, Try.ntmps25
      go_wp2_with (first
        | ((with_reducible refine gate_dst (N := 6) rfl ?_); refine box_event ?hg (N := 6) ?hd (cs := #[.int .i64 0, .int .i64 0, .slice none 0 0]) (t := 24) ?hr ?_; (case hd => rfl); (case hg => rfl); (case hr => first | (go_simp; done) | (go_simp; rfl))
           intro gx hg w3 hbox hb
           have n1 := Aside0.mk (below_step HB.out hb)
           have n2 : RdAt w3 50 R A ws.length c base met := blk_below HD.out hb
           have n3 := Aside0.mk (KeepBut.of_below hb R none)
           have BX := Aside0.mk hbox
           have GX := Aside0.mk (show w.heap.size ≤ gx by omega)
           have GX0 := Aside0.mk (show w0.heap.size ≤ gx by have := HB.out.size; omega)
           have GR := Aside0.mk (show gx ≠ R by have := blk_lt HD.out; omega)
           clear HB HK hg hbox hb cr0 cr1 cr2 fr2 HD
           have HB := n1
           have HK := n3
           have cr2 : w3.cell? ⟨R, 2, none⟩ = some (.int .i64 met) := (blk_cell n2 2).trans rfl
           have fr2 := blk_frozen n2 2
           have HD := Aside0.mk n2
           clear n1 n2 n3)
        | ((with_reducible refine gate_store (t := 3) (p := 14) rfl ?_); refine store_event (t := 3) (p := 14) (v := ?vo6) (w1 := w3.setCell ⟨R, 2, none⟩ (.int .i64 (met + 1))) ?hg ?ho ?hn ?hr ?_; (case ho => rfl); (case hg => rfl); (case hn => rfl); (case hr => first | (go_simp; done) | (go_simp; rfl))
           intro w4 hw
           have n1 := Aside0.mk (show Below w0.heap.size w0 w4 by rw [hw]; exact below_set HB.out HR.out)
           have n2 : RdAt w4 50 R A ws.length c base (met + 1) := by rw [hw]; exact blk_put HD.out 2 _ rfl
           have n3 := Aside0.mk (show KeepBut w w4 R none by rw [hw]; exact KeepBut.set_ HK.out 2 _)
           have n4 := Aside0.mk (show w4.heap[gx]? = some (.cells #[.int .i64 0, .int .i64 0, .slice none 0 0] 24 (0, 0)) by rw [hw]; exact blk_far BX.out GR.out _)
           clear HB HK HD BX hw cr2 fr2
           have HB := n1
           have HK := n3
           have BX := n4
           have cr2 : w4.cell? ⟨R, 2, none⟩ = some (.int .i64 (met + 1)) := (blk_cell n2 2).trans rfl
           have HD := Aside0.mk n2
           clear n1 n2 n3 n4
           have cx0 : w4.cell? ⟨gx, 0, none⟩ = some (.int .i64 0) := (blk_cell BX.out 0).trans rfl
           have cx1 : w4.cell? ⟨gx, 1, none⟩ = some (.int .i64 0) := (blk_cell BX.out 1).trans rfl
           have cx2 : w4.cell? ⟨gx, 2, none⟩ = some (.slice none 0 0) := (blk_cell BX.out 2).trans rfl
           have fx0 := blk_frozen BX.out 0
           have fx1 := blk_frozen BX.out 1
           have fx2 := blk_frozen BX.out 2))
      refine bodyPost_ret (results_list (rs := [.cell 6 24, .tmp 7]) rfl (by simp) (.cell gx 24 #[.int .i64 2, .int .i64 (u / 4), .slice none 0 0] (0, 0) _ rfl (blk_put (blk_put (blk_put (blk_put (blk_put BX.out 0 _ rfl) 1 _ rfl) 0 _ rfl) 1 _ rfl) 2 _ rfl) Try.underlying24 rfl (by kernel_rfl) (.tmp .nil))) rfl ?_
      exact ⟨.slice none 0 0, rfl, Kd.R_nil _ _ _ _ _, below_set (below_set (below_set (below_set (below_set (HB.out) GX0.out) GX0.out) GX0.out) GX0.out) GX0.out, keep_far (keep_far (keep_far (keep_far (keep_far (HK.out) (p := ⟨gx, _, none⟩) GX.out _) (p := ⟨gx, _, none⟩) GX.out _) (p := ⟨gx, _, none⟩) GX.out _) (p := ⟨gx, _, none⟩) GX.out _) (p := ⟨gx, _, none⟩) GX.out _, blk_far (blk_far (blk_far (blk_far (blk_far (HD.out) (p := ⟨gx, _, none⟩) GR.out.symm _) (p := ⟨gx, _, none⟩) GR.out.symm _) (p := ⟨gx, _, none⟩) GR.out.symm _) (p := ⟨gx, _, none⟩) GR.out.symm _) (p := ⟨gx, _, none⟩) GR.out.symm _⟩
    · have hk2 : (u % 4 == 2) = false := by simp; omega
      have hk3 : (u % 4 == 3) = true := by simp; omega
      rw [hk1]
      have H1 := Aside0.mk hk1
      clear hk1
      go_enter Try.func25, Try.ntmps25
      go_wp2_with (first
        | ((with_reducible refine gate_dst (N := 6) rfl ?_); refine box_event ?hg (N := 6) ?hd (cs := #[.int .i64 0, .int .i64 0, .slice none 0 0]) (t := 24) ?hr ?_; (case hd => rfl); (case hg => rfl); (case hr => first | (go_simp; done) | (go_simp; rfl))
           intro gx hg w3 hbox hb
           have n1 := Aside0.mk (below_step HB.out hb)
           have n2 : RdAt w3 50 R A ws.length c base met := blk_below HD.out hb
           have n3 := Aside0.mk (KeepBut.of_below hb R none)
           have BX := Aside0.mk hbox
           have GX := Aside0.mk (show w.heap.size ≤ gx by omega)
           have GX0 := Aside0.mk (show w0.heap.size ≤ gx by have := HB.out.size; omega)
           have GR := Aside0.mk (show gx ≠ R by have := blk_lt HD.out; omega)
           clear HB HK hg hbox hb cr0 cr1 cr2 fr2 HD
           have HB := n1
           have HK := n3
           have cr2 : w3.cell? ⟨R, 2, none⟩ = some (.int .i64 met) := (blk_cell n2 2).trans rfl
           have fr2 := blk_frozen n2 2
           have HD := Aside0.mk n2
           clear n1 n2 n3)
        | ((with_reducible refine gate_store (t := 3) (p := 14) rfl ?_); refine store_event (t := 3) (p := 14) (v := ?vo7) (w1 := w3.setCell ⟨R, 2, none⟩ (.int .i64 (met + 1))) ?hg ?ho ?hn ?hr ?_; (case ho => rfl); (case hg => rfl); (case hn => rfl); (case hr => first | (go_simp; done) | (go_simp; rfl))
           intro w4 hw
           have n1 := Aside0.mk (show Below w0.heap.size w0 w4 by rw [hw]; exact below_set HB.out HR.out)
           have n2 : RdAt w4 50 R A ws.length c base (met + 1) := by rw [hw]; exact blk_put HD.out 2 _ rfl
           have n3 := Aside0.mk (show KeepBut w w4 R none by rw [hw]; exact KeepBut.set_ HK.out 2 _)
           have n4 := Aside0.mk (show w4.heap[gx]? = some (.cells #[.int .i64 0, .int .i64 0, .slice none 0 0] 24 (0, 0)) by rw [hw]; exact blk_far BX.out GR.out _)
           clear HB HK HD BX hw cr2 fr2
           have HB := n1
           have HK := n3
           have BX := n4
           have cr2 : w4.cell? ⟨R, 2, none⟩ = some (.int .i64 (met + 1)) := (blk_cell n2 2).trans rfl
           have HD := Aside0.mk n2
           clear n1 n2 n3 n4
           have cx0 : w4.cell? ⟨gx, 0, none⟩ = some (.int .i64 0) := (blk_cell BX.out 0).trans rfl
           have cx1 : w4.cell? ⟨gx, 1, none⟩ = some (.int .i64 0) := (blk_cell BX.out 1).trans rfl
           have cx2 : w4.cell? ⟨gx, 2, none⟩ = some (.slice none 0 0) := (blk_cell BX.out 2).trans rfl
           have fx0 := blk_frozen BX.out 0
           have fx1 := blk_frozen BX.out 1
           have fx2 := blk_frozen BX.out 2))
      refine bodyPost_ret (results_list (rs := [.cell 6 24, .tmp 7]) rfl (by simp) (.cell gx 24 #[.int .i64 3, .int .i64 (u / 4), .slice none 0 0] (0, 0) _ rfl (blk_put (blk_put (blk_put (blk_put (blk_put BX.out 0 _ rfl) 1 _ rfl) 0 _ rfl) 1 _ rfl) 2 _ rfl) Try.underlying24 rfl (by kernel_rfl) (.tmp .nil))) rfl ?_
      exact ⟨.slice none 0 0, rfl, Kd.R_nil _ _ _ _ _, below_set (below_set (below_set (below_set (below_set (HB.out) GX0.out) GX0.out) GX0.out) GX0.out) GX0.out, keep_far (keep_far (keep_far (keep_far (keep_far (HK.out) (p := ⟨gx, _, none⟩) GX.out _) (p := ⟨gx, _, none⟩) GX.out _) (p := ⟨gx, _, none⟩) GX.out _) (p := ⟨gx, _, none⟩) GX.out _) (p := ⟨gx, _, none⟩) GX.out _, blk_far (blk_far (blk_far (blk_far (blk_far (HD.out) (p := ⟨gx, _, none⟩) GR.out.symm _) (p := ⟨gx, _, none⟩) GR.out.symm _) (p := ⟨gx, _, none⟩) GR.out.symm _) (p := ⟨gx, _, none⟩) GR.out.symm _) (p := ⟨gx, _, none⟩) GR.out.symm _⟩
end Go.Proofs.Ytpgbpcnifhnjjaa.PValueOps
