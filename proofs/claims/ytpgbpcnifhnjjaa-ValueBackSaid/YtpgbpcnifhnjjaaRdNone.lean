/- The reader's tuple where there is none. -/
import Derived.Test.YtpgbpcnifhnjjaaRdVal
import Derived.Test.YtpgbpcnifhnjjaaOpenVal
import Derived.Outline
namespace Go.Proofs.Ytpgbpcnifhnjjaa.PValueOps
open Go.RowKit Go.Proofs.YtpgbpcnifhnjjaaW.PrintWords Go.Proofs.YtpgbpcnifhnjjaaW.PrintLast Go.Proofs.YtpgbpcnifhnjjaaW.PrintMore
set_option linter.unusedVariables false
set_option linter.unusedSimpArgs false
theorem info_val0 : (Try.prog.info? 24).map (fun i => (i.zero, i.size, i.bytes)) = some (some (.agg #[.int .i64 0, .int .i64 0, .slice none 0 0]), 3, 40) := by kernel_rfl

set_option maxHeartbeats 2000000 in
set_option maxRecDepth 100000 in
theorem tuple_zero {w0 : World} {R : Nat} {A : Option Addr} {ws : List Int} {c : Nat} {base : Int} (hR : w0.heap.size ≤ R) : TupC w0 R A ws c base 0 := by
  intro u met w hu0 hu1 hm0 hm1 hB hD
  show Calls Try.prog 30 #[.pointer (some ⟨R, 0, none⟩), .int .u64 u, .int .i64 0] w (RdPost w0 w 50 R A ws.length c base (zV, 150, met))
  have HB := Aside0.mk hB
  have HR := Aside0.mk hR
  have HK := Aside0.mk (KeepBut.refl w R none)
  clear hB hR
  have cr0 : w.cell? ⟨R, 0, none⟩ = some (.slice A ws.length c) := (blk_cell hD 0).trans rfl
  have cr1 : w.cell? ⟨R, 1, none⟩ = some (.int .u64 base) := (blk_cell hD 1).trans rfl
  have HD := Aside0.mk hD
  clear hD
  have he : True := trivial
  · clear he
    go_enter Try.func30, Try.ntmps30
    go_wp2_with (first
      | ((with_reducible refine gate_dst (N := 6) rfl ?_); refine box_event ?hg (N := 6) ?hd (cs := #[.int .i64 0, .int .i64 0, .slice none 0 0]) (t := 24) ?hr ?_; (case hd => rfl); (case hg => rfl); (case hr => first | (go_simp; done) | (go_simp; rfl))
         intro gx hg w3 hbox hb
         have n1 := Aside0.mk (below_step HB.out hb)
         have n2 : RdAt w3 50 R A ws.length c base met := blk_below HD.out hb
         have n3 := Aside0.mk (KeepBut.of_below hb R none)
         have BX := Aside0.mk hbox
         have GX := Aside0.mk (show w.heap.size ≤ gx by omega)
         have GX0 := Aside0.mk (show w0.heap.size ≤ gx by have := HB.out.size; omega)
         have GR := Aside0.mk (show gx ≠ R by have := blk_lt HD.out; omega)
         have HBB := Aside0.mk hb
         clear HB HK hg hbox cr0 cr1 HD
         have HB := n1
         have HK := n3
         have cr0 : w3.cell? ⟨R, 0, none⟩ = some (.slice A ws.length c) := (blk_cell n2 0).trans rfl
         have cr1 : w3.cell? ⟨R, 1, none⟩ = some (.int .u64 base) := (blk_cell n2 1).trans rfl
         have HD := Aside0.mk n2
         clear n1 n2 n3
         have cx0 : w3.cell? ⟨gx, 0, none⟩ = some (.int .i64 0) := (blk_cell BX.out 0).trans rfl
         have cx1 : w3.cell? ⟨gx, 1, none⟩ = some (.int .i64 0) := (blk_cell BX.out 1).trans rfl
         have cx2 : w3.cell? ⟨gx, 2, none⟩ = some (.slice none 0 0) := (blk_cell BX.out 2).trans rfl
         have fx0 := blk_frozen BX.out 0
         have fx1 := blk_frozen BX.out 1
         have fx2 := blk_frozen BX.out 2
         clear hb))
    refine bodyPost_ret (results_list (rs := [.cell 6 24, .tmp 7]) rfl (by simp) (.cell gx 24 #[.int .i64 0, .int .i64 0, .slice none 0 0] (0, 0) _ rfl (blk_put (blk_put (blk_put BX.out 0 _ rfl) 1 _ rfl) 2 _ rfl) Try.underlying24 rfl (by kernel_rfl) (.tmp .nil))) rfl ?_
    exact ⟨.slice none 0 0, rfl, Kd.R_nil _ _ _ _ _, below_set (below_set (below_set HB.out GX0.out) GX0.out) GX0.out, keep_far (keep_far (keep_far HK.out (p := ⟨gx, _, none⟩) GX.out _) (p := ⟨gx, _, none⟩) GX.out _) (p := ⟨gx, _, none⟩) GX.out _, blk_far (blk_far (blk_far HD.out (p := ⟨gx, _, none⟩) GR.out.symm _) (p := ⟨gx, _, none⟩) GR.out.symm _) (p := ⟨gx, _, none⟩) GR.out.symm _⟩

/-- Why there is no tuple. -/
theorem tupleAt_none {ws : List Int} {base u : Int} (h : tupleAt ws base u = none) (hb : 0 ≤ base) : u % 8 ≠ 0 ∨ (u % 8 = 0 ∧ u < base) ∨ (u % 8 = 0 ∧ base ≤ u ∧ (u - base) % 8 ≠ 0) ∨ (u % 8 = 0 ∧ base ≤ u ∧ (u - base) % 8 = 0 ∧ ∃ k : Nat, (u - base) / 8 = (k : Int) ∧ (ws.length ≤ k ∨ (k < ws.length ∧ (ws.getD k 0 < 1 ∨ (1 ≤ ws.getD k 0 ∧ 4 < ws.getD k 0) ∨ (1 ≤ ws.getD k 0 ∧ ws.getD k 0 ≤ 4 ∧ (ws.length : Int) - k - 1 < ws.getD k 0))))) := by
  unfold tupleAt at h
  by_cases h1 : u % 8 ≠ 0
  · exact .inl h1
  have h1' : u % 8 = 0 := by omega
  by_cases h2 : u < base
  · exact .inr (.inl ⟨h1', h2⟩)
  by_cases h3 : (u - base) % 8 ≠ 0
  · exact .inr (.inr (.inl ⟨h1', by omega, h3⟩))
  refine .inr (.inr (.inr ⟨h1', by omega, by omega, ((u - base) / 8).toNat, by omega, ?_⟩))
  rw [if_neg (by omega)] at h
  by_cases h4 : ws.length ≤ ((u - base) / 8).toNat
  · exact .inl h4
  rw [if_neg h4] at h
  refine .inr ⟨by omega, ?_⟩
  have hk : (u - base) / 8 = (((u - base) / 8).toNat : Int) := by omega
  by_cases h5 : ws.getD ((u - base) / 8).toNat 0 < 1
  · exact .inl h5
  by_cases h6 : 4 < ws.getD ((u - base) / 8).toNat 0
  · exact .inr (.inl ⟨by omega, h6⟩)
  by_cases h7 : (ws.length : Int) - (u - base) / 8 - 1 < ws.getD ((u - base) / 8).toNat 0
  · exact .inr (.inr ⟨by omega, by omega, by omega⟩)
  rw [if_neg (by omega)] at h
  cases h

set_option maxHeartbeats 4000000 in
set_option maxRecDepth 100000 in
theorem tuple_none {w0 : World} {R : Nat} {A : Option Addr} {ws : List Int} {c : Nat} {base : Int} {left : Nat} (hR : w0.heap.size ≤ R) (hW : ReadsInt w0 .u64 A ws.length ws) (hc : ws.length ≤ c) (hlen : ws.length ≤ 1000000000000) (hwf : ∀ x ∈ ws, 0 ≤ x ∧ x ≤ 18446744073709551615) (hb0 : 0 ≤ base) (hb1 : base ≤ 18446744073709551615) (hl : left ≤ 1000)
    (u met : Int) (w : World) (hu0 : 0 ≤ u) (hu1 : u ≤ 18446744073709551615) (hm0 : 0 ≤ met) (hm1 : met ≤ 4096) (hB : Below w0.heap.size w0 w) (hD : RdAt w 50 R A ws.length c base met) (hn : tupleAt ws base u = none) :
    Calls Try.prog 30 #[.pointer (some ⟨R, 0, none⟩), .int .u64 u, .int .i64 ((left : Int) + 1)] w (RdPost w0 w 50 R A ws.length c base (zV, 151, met)) := by
  have HB := Aside0.mk hB
  have HR := Aside0.mk hR
  have HK := Aside0.mk (KeepBut.refl w R none)
  clear hB hR
  have cr0 : w.cell? ⟨R, 0, none⟩ = some (.slice A ws.length c) := (blk_cell hD 0).trans rfl
  have cr1 : w.cell? ⟨R, 1, none⟩ = some (.int .u64 base) := (blk_cell hD 1).trans rfl
  have HD := Aside0.mk hD
  clear hD
  have q0 : ((left : Int) + 1 == 0) = false := by simp; omega
  rcases tupleAt_none hn hb0 with h1 | ⟨h1, h2⟩ | ⟨h1, h2, h3⟩ | ⟨h1, h2, h3, k, hk, h4⟩
  · clear hn
    have q1 : (u % 8 != 0) = true := by simpa using h1
    clear h1
    go_enter Try.func30, Try.ntmps30
    go_wp2_with (first
      | ((with_reducible refine gate_dst (N := 6) rfl ?_); refine box_event ?hg (N := 6) ?hd (cs := #[.int .i64 0, .int .i64 0, .slice none 0 0]) (t := 24) ?hr ?_; (case hd => rfl); (case hg => rfl); (case hr => first | (go_simp; done) | (go_simp; rfl))
         intro gx hg w3 hbox hb
         have n1 := Aside0.mk (below_step HB.out hb)
         have n2 : RdAt w3 50 R A ws.length c base met := blk_below HD.out hb
         have n3 := Aside0.mk (KeepBut.of_below hb R none)
         have BX := Aside0.mk hbox
         have GX := Aside0.mk (show w.heap.size ≤ gx by omega)
         have GX0 := Aside0.mk (show w0.heap.size ≤ gx by have := HB.out.size; omega)
         have GR := Aside0.mk (show gx ≠ R by have := blk_lt HD.out; omega)
         have HBB := Aside0.mk hb
         clear HB HK hg hbox cr0 cr1 HD
         have HB := n1
         have HK := n3
         have cr0 : w3.cell? ⟨R, 0, none⟩ = some (.slice A ws.length c) := (blk_cell n2 0).trans rfl
         have cr1 : w3.cell? ⟨R, 1, none⟩ = some (.int .u64 base) := (blk_cell n2 1).trans rfl
         have HD := Aside0.mk n2
         clear n1 n2 n3
         have cx0 : w3.cell? ⟨gx, 0, none⟩ = some (.int .i64 0) := (blk_cell BX.out 0).trans rfl
         have cx1 : w3.cell? ⟨gx, 1, none⟩ = some (.int .i64 0) := (blk_cell BX.out 1).trans rfl
         have cx2 : w3.cell? ⟨gx, 2, none⟩ = some (.slice none 0 0) := (blk_cell BX.out 2).trans rfl
         have fx0 := blk_frozen BX.out 0
         have fx1 := blk_frozen BX.out 1
         have fx2 := blk_frozen BX.out 2
         clear hb))
    refine bodyPost_ret (results_list (rs := [.cell 6 24, .tmp 7]) rfl (by simp) (.cell gx 24 #[.int .i64 0, .int .i64 0, .slice none 0 0] (0, 0) _ rfl (blk_put (blk_put (blk_put BX.out 0 _ rfl) 1 _ rfl) 2 _ rfl) Try.underlying24 rfl (by kernel_rfl) (.tmp .nil))) rfl ?_
    exact ⟨.slice none 0 0, rfl, Kd.R_nil _ _ _ _ _, below_set (below_set (below_set HB.out GX0.out) GX0.out) GX0.out, keep_far (keep_far (keep_far HK.out (p := ⟨gx, _, none⟩) GX.out _) (p := ⟨gx, _, none⟩) GX.out _) (p := ⟨gx, _, none⟩) GX.out _, blk_far (blk_far (blk_far HD.out (p := ⟨gx, _, none⟩) GR.out.symm _) (p := ⟨gx, _, none⟩) GR.out.symm _) (p := ⟨gx, _, none⟩) GR.out.symm _⟩
  · clear hn
    have q1 : (u % 8 != 0) = false := by simpa using h1
    have q2 : decide (u < base) = true := by simpa using h2
    have H1 := Aside0.mk h1
    clear h1
    go_enter Try.func30, Try.ntmps30
    go_wp2_with (first
      | ((with_reducible refine gate_dst (N := 6) rfl ?_); refine box_event ?hg (N := 6) ?hd (cs := #[.int .i64 0, .int .i64 0, .slice none 0 0]) (t := 24) ?hr ?_; (case hd => rfl); (case hg => rfl); (case hr => first | (go_simp; done) | (go_simp; rfl))
         intro gx hg w3 hbox hb
         have n1 := Aside0.mk (below_step HB.out hb)
         have n2 : RdAt w3 50 R A ws.length c base met := blk_below HD.out hb
         have n3 := Aside0.mk (KeepBut.of_below hb R none)
         have BX := Aside0.mk hbox
         have GX := Aside0.mk (show w.heap.size ≤ gx by omega)
         have GX0 := Aside0.mk (show w0.heap.size ≤ gx by have := HB.out.size; omega)
         have GR := Aside0.mk (show gx ≠ R by have := blk_lt HD.out; omega)
         have HBB := Aside0.mk hb
         clear HB HK hg hbox cr0 cr1 HD
         have HB := n1
         have HK := n3
         have cr0 : w3.cell? ⟨R, 0, none⟩ = some (.slice A ws.length c) := (blk_cell n2 0).trans rfl
         have cr1 : w3.cell? ⟨R, 1, none⟩ = some (.int .u64 base) := (blk_cell n2 1).trans rfl
         have HD := Aside0.mk n2
         clear n1 n2 n3
         have cx0 : w3.cell? ⟨gx, 0, none⟩ = some (.int .i64 0) := (blk_cell BX.out 0).trans rfl
         have cx1 : w3.cell? ⟨gx, 1, none⟩ = some (.int .i64 0) := (blk_cell BX.out 1).trans rfl
         have cx2 : w3.cell? ⟨gx, 2, none⟩ = some (.slice none 0 0) := (blk_cell BX.out 2).trans rfl
         have fx0 := blk_frozen BX.out 0
         have fx1 := blk_frozen BX.out 1
         have fx2 := blk_frozen BX.out 2
         clear hb))
    refine bodyPost_ret (results_list (rs := [.cell 6 24, .tmp 7]) rfl (by simp) (.cell gx 24 #[.int .i64 0, .int .i64 0, .slice none 0 0] (0, 0) _ rfl (blk_put (blk_put (blk_put BX.out 0 _ rfl) 1 _ rfl) 2 _ rfl) Try.underlying24 rfl (by kernel_rfl) (.tmp .nil))) rfl ?_
    exact ⟨.slice none 0 0, rfl, Kd.R_nil _ _ _ _ _, below_set (below_set (below_set HB.out GX0.out) GX0.out) GX0.out, keep_far (keep_far (keep_far HK.out (p := ⟨gx, _, none⟩) GX.out _) (p := ⟨gx, _, none⟩) GX.out _) (p := ⟨gx, _, none⟩) GX.out _, blk_far (blk_far (blk_far HD.out (p := ⟨gx, _, none⟩) GR.out.symm _) (p := ⟨gx, _, none⟩) GR.out.symm _) (p := ⟨gx, _, none⟩) GR.out.symm _⟩
  · clear hn
    have q1 : (u % 8 != 0) = false := by simpa using h1
    have q2 : decide (u < base) = false := by simpa using h2
    have q3 : ((u - base) % 8 != 0) = true := by simpa using h3
    have H1 := Aside0.mk h1
    clear h1 h3
    go_enter Try.func30, Try.ntmps30
    go_wp2_with (first
      | ((with_reducible refine gate_dst (N := 6) rfl ?_); refine box_event ?hg (N := 6) ?hd (cs := #[.int .i64 0, .int .i64 0, .slice none 0 0]) (t := 24) ?hr ?_; (case hd => rfl); (case hg => rfl); (case hr => first | (go_simp; done) | (go_simp; rfl))
         intro gx hg w3 hbox hb
         have n1 := Aside0.mk (below_step HB.out hb)
         have n2 : RdAt w3 50 R A ws.length c base met := blk_below HD.out hb
         have n3 := Aside0.mk (KeepBut.of_below hb R none)
         have BX := Aside0.mk hbox
         have GX := Aside0.mk (show w.heap.size ≤ gx by omega)
         have GX0 := Aside0.mk (show w0.heap.size ≤ gx by have := HB.out.size; omega)
         have GR := Aside0.mk (show gx ≠ R by have := blk_lt HD.out; omega)
         have HBB := Aside0.mk hb
         clear HB HK hg hbox cr0 cr1 HD
         have HB := n1
         have HK := n3
         have cr0 : w3.cell? ⟨R, 0, none⟩ = some (.slice A ws.length c) := (blk_cell n2 0).trans rfl
         have cr1 : w3.cell? ⟨R, 1, none⟩ = some (.int .u64 base) := (blk_cell n2 1).trans rfl
         have HD := Aside0.mk n2
         clear n1 n2 n3
         have cx0 : w3.cell? ⟨gx, 0, none⟩ = some (.int .i64 0) := (blk_cell BX.out 0).trans rfl
         have cx1 : w3.cell? ⟨gx, 1, none⟩ = some (.int .i64 0) := (blk_cell BX.out 1).trans rfl
         have cx2 : w3.cell? ⟨gx, 2, none⟩ = some (.slice none 0 0) := (blk_cell BX.out 2).trans rfl
         have fx0 := blk_frozen BX.out 0
         have fx1 := blk_frozen BX.out 1
         have fx2 := blk_frozen BX.out 2
         clear hb))
    refine bodyPost_ret (results_list (rs := [.cell 6 24, .tmp 7]) rfl (by simp) (.cell gx 24 #[.int .i64 0, .int .i64 0, .slice none 0 0] (0, 0) _ rfl (blk_put (blk_put (blk_put BX.out 0 _ rfl) 1 _ rfl) 2 _ rfl) Try.underlying24 rfl (by kernel_rfl) (.tmp .nil))) rfl ?_
    exact ⟨.slice none 0 0, rfl, Kd.R_nil _ _ _ _ _, below_set (below_set (below_set HB.out GX0.out) GX0.out) GX0.out, keep_far (keep_far (keep_far HK.out (p := ⟨gx, _, none⟩) GX.out _) (p := ⟨gx, _, none⟩) GX.out _) (p := ⟨gx, _, none⟩) GX.out _, blk_far (blk_far (blk_far HD.out (p := ⟨gx, _, none⟩) GR.out.symm _) (p := ⟨gx, _, none⟩) GR.out.symm _) (p := ⟨gx, _, none⟩) GR.out.symm _⟩
  have q1 : (u % 8 != 0) = false := by simpa using h1
  have q2 : decide (u < base) = false := by simpa using h2
  have q3 : ((u - base) % 8 != 0) = false := by simpa using h3
  have H1 := Aside0.mk h1
  have H3 := Aside0.mk h3
  clear h1 h3 hn
  rcases h4 with h4 | ⟨h4, h5⟩
  · have q4 : decide (ws.length ≤ k) = true := by simpa using h4
    go_enter Try.func30, Try.ntmps30
    go_wp2_with (first
      | ((with_reducible refine gate_dst (N := 6) rfl ?_); refine box_event ?hg (N := 6) ?hd (cs := #[.int .i64 0, .int .i64 0, .slice none 0 0]) (t := 24) ?hr ?_; (case hd => rfl); (case hg => rfl); (case hr => first | (go_simp; done) | (go_simp; rfl))
         intro gx hg w3 hbox hb
         have n1 := Aside0.mk (below_step HB.out hb)
         have n2 : RdAt w3 50 R A ws.length c base met := blk_below HD.out hb
         have n3 := Aside0.mk (KeepBut.of_below hb R none)
         have BX := Aside0.mk hbox
         have GX := Aside0.mk (show w.heap.size ≤ gx by omega)
         have GX0 := Aside0.mk (show w0.heap.size ≤ gx by have := HB.out.size; omega)
         have GR := Aside0.mk (show gx ≠ R by have := blk_lt HD.out; omega)
         have HBB := Aside0.mk hb
         clear HB HK hg hbox cr0 cr1 HD
         have HB := n1
         have HK := n3
         have cr0 : w3.cell? ⟨R, 0, none⟩ = some (.slice A ws.length c) := (blk_cell n2 0).trans rfl
         have cr1 : w3.cell? ⟨R, 1, none⟩ = some (.int .u64 base) := (blk_cell n2 1).trans rfl
         have HD := Aside0.mk n2
         clear n1 n2 n3
         have cx0 : w3.cell? ⟨gx, 0, none⟩ = some (.int .i64 0) := (blk_cell BX.out 0).trans rfl
         have cx1 : w3.cell? ⟨gx, 1, none⟩ = some (.int .i64 0) := (blk_cell BX.out 1).trans rfl
         have cx2 : w3.cell? ⟨gx, 2, none⟩ = some (.slice none 0 0) := (blk_cell BX.out 2).trans rfl
         have fx0 := blk_frozen BX.out 0
         have fx1 := blk_frozen BX.out 1
         have fx2 := blk_frozen BX.out 2
         clear hb))
    refine bodyPost_ret (results_list (rs := [.cell 6 24, .tmp 7]) rfl (by simp) (.cell gx 24 #[.int .i64 0, .int .i64 0, .slice none 0 0] (0, 0) _ rfl (blk_put (blk_put (blk_put BX.out 0 _ rfl) 1 _ rfl) 2 _ rfl) Try.underlying24 rfl (by kernel_rfl) (.tmp .nil))) rfl ?_
    exact ⟨.slice none 0 0, rfl, Kd.R_nil _ _ _ _ _, below_set (below_set (below_set HB.out GX0.out) GX0.out) GX0.out, keep_far (keep_far (keep_far HK.out (p := ⟨gx, _, none⟩) GX.out _) (p := ⟨gx, _, none⟩) GX.out _) (p := ⟨gx, _, none⟩) GX.out _, blk_far (blk_far (blk_far HD.out (p := ⟨gx, _, none⟩) GR.out.symm _) (p := ⟨gx, _, none⟩) GR.out.symm _) (p := ⟨gx, _, none⟩) GR.out.symm _⟩
  have q4 : decide (ws.length ≤ k) = false := by simp; omega
  obtain ⟨ad, hA, hcell⟩ := hW.2.2 (by omega)
  subst hA
  have ck := (HB.out.cell (World.block_lt_of_cell? w0 _ (hcell k h4))).trans (hcell k h4)
  have hwk : 0 ≤ ws.getD k 0 ∧ ws.getD k 0 ≤ 18446744073709551615 := by
    rw [List.getD_eq_getElem?_getD, List.getElem?_eq_getElem h4]; exact hwf _ (List.getElem_mem h4)
  obtain ⟨n, hn⟩ := Int.eq_ofNat_of_zero_le hwk.1
  rw [hn] at ck h5 hwk
  clear hcell hW hn hwf
  by_cases hcap : c = k + 1
  · subst hcap
    rcases h5 with h5 | ⟨h5, h6⟩ | ⟨h5, h6, h7⟩
    · have q5 : decide ((n : Int) < 1) = true := by simp; omega
      go_enter Try.func30, Try.ntmps30
      go_wp2_with (first
      | ((with_reducible refine gate_dst (N := 6) rfl ?_); refine box_event ?hg (N := 6) ?hd (cs := #[.int .i64 0, .int .i64 0, .slice none 0 0]) (t := 24) ?hr ?_; (case hd => rfl); (case hg => rfl); (case hr => first | (go_simp; done) | (go_simp; rfl))
         intro gx hg w3 hbox hb
         have n1 := Aside0.mk (below_step HB.out hb)
         have n2 : RdAt w3 50 R (some ad) ws.length (k + 1) base met := blk_below HD.out hb
         have n3 := Aside0.mk (KeepBut.of_below hb R none)
         have BX := Aside0.mk hbox
         have GX := Aside0.mk (show w.heap.size ≤ gx by omega)
         have GX0 := Aside0.mk (show w0.heap.size ≤ gx by have := HB.out.size; omega)
         have GR := Aside0.mk (show gx ≠ R by have := blk_lt HD.out; omega)
         have HBB := Aside0.mk hb
         clear HB HK hg hbox cr0 cr1 HD
         have HB := n1
         have HK := n3
         have cr0 : w3.cell? ⟨R, 0, none⟩ = some (.slice (some ad) ws.length (k + 1)) := (blk_cell n2 0).trans rfl
         have cr1 : w3.cell? ⟨R, 1, none⟩ = some (.int .u64 base) := (blk_cell n2 1).trans rfl
         have HD := Aside0.mk n2
         clear n1 n2 n3
         have cx0 : w3.cell? ⟨gx, 0, none⟩ = some (.int .i64 0) := (blk_cell BX.out 0).trans rfl
         have cx1 : w3.cell? ⟨gx, 1, none⟩ = some (.int .i64 0) := (blk_cell BX.out 1).trans rfl
         have cx2 : w3.cell? ⟨gx, 2, none⟩ = some (.slice none 0 0) := (blk_cell BX.out 2).trans rfl
         have fx0 := blk_frozen BX.out 0
         have fx1 := blk_frozen BX.out 1
         have fx2 := blk_frozen BX.out 2
         replace ck := (hb.cell (World.block_lt_of_cell? w _ ck)).trans ck
         clear hb))
      refine bodyPost_ret (results_list (rs := [.cell 6 24, .tmp 7]) rfl (by simp) (.cell gx 24 #[.int .i64 0, .int .i64 0, .slice none 0 0] (0, 0) _ rfl (blk_put (blk_put (blk_put BX.out 0 _ rfl) 1 _ rfl) 2 _ rfl) Try.underlying24 rfl (by kernel_rfl) (.tmp .nil))) rfl ?_
      exact ⟨.slice none 0 0, rfl, Kd.R_nil _ _ _ _ _, below_set (below_set (below_set HB.out GX0.out) GX0.out) GX0.out, keep_far (keep_far (keep_far HK.out (p := ⟨gx, _, none⟩) GX.out _) (p := ⟨gx, _, none⟩) GX.out _) (p := ⟨gx, _, none⟩) GX.out _, blk_far (blk_far (blk_far HD.out (p := ⟨gx, _, none⟩) GR.out.symm _) (p := ⟨gx, _, none⟩) GR.out.symm _) (p := ⟨gx, _, none⟩) GR.out.symm _⟩
    · have q5 : decide ((n : Int) < 1) = false := by simp; omega
      have q6 : decide (4 < (n : Int)) = true := by simp; omega
      go_enter Try.func30, Try.ntmps30
      go_wp2_with (first
      | ((with_reducible refine gate_dst (N := 6) rfl ?_); refine box_event ?hg (N := 6) ?hd (cs := #[.int .i64 0, .int .i64 0, .slice none 0 0]) (t := 24) ?hr ?_; (case hd => rfl); (case hg => rfl); (case hr => first | (go_simp; done) | (go_simp; rfl))
         intro gx hg w3 hbox hb
         have n1 := Aside0.mk (below_step HB.out hb)
         have n2 : RdAt w3 50 R (some ad) ws.length (k + 1) base met := blk_below HD.out hb
         have n3 := Aside0.mk (KeepBut.of_below hb R none)
         have BX := Aside0.mk hbox
         have GX := Aside0.mk (show w.heap.size ≤ gx by omega)
         have GX0 := Aside0.mk (show w0.heap.size ≤ gx by have := HB.out.size; omega)
         have GR := Aside0.mk (show gx ≠ R by have := blk_lt HD.out; omega)
         have HBB := Aside0.mk hb
         clear HB HK hg hbox cr0 cr1 HD
         have HB := n1
         have HK := n3
         have cr0 : w3.cell? ⟨R, 0, none⟩ = some (.slice (some ad) ws.length (k + 1)) := (blk_cell n2 0).trans rfl
         have cr1 : w3.cell? ⟨R, 1, none⟩ = some (.int .u64 base) := (blk_cell n2 1).trans rfl
         have HD := Aside0.mk n2
         clear n1 n2 n3
         have cx0 : w3.cell? ⟨gx, 0, none⟩ = some (.int .i64 0) := (blk_cell BX.out 0).trans rfl
         have cx1 : w3.cell? ⟨gx, 1, none⟩ = some (.int .i64 0) := (blk_cell BX.out 1).trans rfl
         have cx2 : w3.cell? ⟨gx, 2, none⟩ = some (.slice none 0 0) := (blk_cell BX.out 2).trans rfl
         have fx0 := blk_frozen BX.out 0
         have fx1 := blk_frozen BX.out 1
         have fx2 := blk_frozen BX.out 2
         replace ck := (hb.cell (World.block_lt_of_cell? w _ ck)).trans ck
         clear hb))
      refine bodyPost_ret (results_list (rs := [.cell 6 24, .tmp 7]) rfl (by simp) (.cell gx 24 #[.int .i64 0, .int .i64 0, .slice none 0 0] (0, 0) _ rfl (blk_put (blk_put (blk_put BX.out 0 _ rfl) 1 _ rfl) 2 _ rfl) Try.underlying24 rfl (by kernel_rfl) (.tmp .nil))) rfl ?_
      exact ⟨.slice none 0 0, rfl, Kd.R_nil _ _ _ _ _, below_set (below_set (below_set HB.out GX0.out) GX0.out) GX0.out, keep_far (keep_far (keep_far HK.out (p := ⟨gx, _, none⟩) GX.out _) (p := ⟨gx, _, none⟩) GX.out _) (p := ⟨gx, _, none⟩) GX.out _, blk_far (blk_far (blk_far HD.out (p := ⟨gx, _, none⟩) GR.out.symm _) (p := ⟨gx, _, none⟩) GR.out.symm _) (p := ⟨gx, _, none⟩) GR.out.symm _⟩
    · have q5 : decide ((n : Int) < 1) = false := by simp; omega
      have q6 : decide (4 < (n : Int)) = false := by simp; omega
      have q7 : decide (ws.length - (k + 1) < n) = true := by simp; omega
      go_enter Try.func30, Try.ntmps30
      go_wp2_with (first
      | ((with_reducible refine gate_dst (N := 6) rfl ?_); refine box_event ?hg (N := 6) ?hd (cs := #[.int .i64 0, .int .i64 0, .slice none 0 0]) (t := 24) ?hr ?_; (case hd => rfl); (case hg => rfl); (case hr => first | (go_simp; done) | (go_simp; rfl))
         intro gx hg w3 hbox hb
         have n1 := Aside0.mk (below_step HB.out hb)
         have n2 : RdAt w3 50 R (some ad) ws.length (k + 1) base met := blk_below HD.out hb
         have n3 := Aside0.mk (KeepBut.of_below hb R none)
         have BX := Aside0.mk hbox
         have GX := Aside0.mk (show w.heap.size ≤ gx by omega)
         have GX0 := Aside0.mk (show w0.heap.size ≤ gx by have := HB.out.size; omega)
         have GR := Aside0.mk (show gx ≠ R by have := blk_lt HD.out; omega)
         have HBB := Aside0.mk hb
         clear HB HK hg hbox cr0 cr1 HD
         have HB := n1
         have HK := n3
         have cr0 : w3.cell? ⟨R, 0, none⟩ = some (.slice (some ad) ws.length (k + 1)) := (blk_cell n2 0).trans rfl
         have cr1 : w3.cell? ⟨R, 1, none⟩ = some (.int .u64 base) := (blk_cell n2 1).trans rfl
         have HD := Aside0.mk n2
         clear n1 n2 n3
         have cx0 : w3.cell? ⟨gx, 0, none⟩ = some (.int .i64 0) := (blk_cell BX.out 0).trans rfl
         have cx1 : w3.cell? ⟨gx, 1, none⟩ = some (.int .i64 0) := (blk_cell BX.out 1).trans rfl
         have cx2 : w3.cell? ⟨gx, 2, none⟩ = some (.slice none 0 0) := (blk_cell BX.out 2).trans rfl
         have fx0 := blk_frozen BX.out 0
         have fx1 := blk_frozen BX.out 1
         have fx2 := blk_frozen BX.out 2
         replace ck := (hb.cell (World.block_lt_of_cell? w _ ck)).trans ck
         clear hb))
      refine bodyPost_ret (results_list (rs := [.cell 6 24, .tmp 7]) rfl (by simp) (.cell gx 24 #[.int .i64 0, .int .i64 0, .slice none 0 0] (0, 0) _ rfl (blk_put (blk_put (blk_put BX.out 0 _ rfl) 1 _ rfl) 2 _ rfl) Try.underlying24 rfl (by kernel_rfl) (.tmp .nil))) rfl ?_
      exact ⟨.slice none 0 0, rfl, Kd.R_nil _ _ _ _ _, below_set (below_set (below_set HB.out GX0.out) GX0.out) GX0.out, keep_far (keep_far (keep_far HK.out (p := ⟨gx, _, none⟩) GX.out _) (p := ⟨gx, _, none⟩) GX.out _) (p := ⟨gx, _, none⟩) GX.out _, blk_far (blk_far (blk_far HD.out (p := ⟨gx, _, none⟩) GR.out.symm _) (p := ⟨gx, _, none⟩) GR.out.symm _) (p := ⟨gx, _, none⟩) GR.out.symm _⟩
  · rcases h5 with h5 | ⟨h5, h6⟩ | ⟨h5, h6, h7⟩
    · have q5 : decide ((n : Int) < 1) = true := by simp; omega
      go_enter Try.func30, Try.ntmps30
      go_wp2_with (first
      | ((with_reducible refine gate_dst (N := 6) rfl ?_); refine box_event ?hg (N := 6) ?hd (cs := #[.int .i64 0, .int .i64 0, .slice none 0 0]) (t := 24) ?hr ?_; (case hd => rfl); (case hg => rfl); (case hr => first | (go_simp; done) | (go_simp; rfl))
         intro gx hg w3 hbox hb
         have n1 := Aside0.mk (below_step HB.out hb)
         have n2 : RdAt w3 50 R (some ad) ws.length c base met := blk_below HD.out hb
         have n3 := Aside0.mk (KeepBut.of_below hb R none)
         have BX := Aside0.mk hbox
         have GX := Aside0.mk (show w.heap.size ≤ gx by omega)
         have GX0 := Aside0.mk (show w0.heap.size ≤ gx by have := HB.out.size; omega)
         have GR := Aside0.mk (show gx ≠ R by have := blk_lt HD.out; omega)
         have HBB := Aside0.mk hb
         clear HB HK hg hbox cr0 cr1 HD
         have HB := n1
         have HK := n3
         have cr0 : w3.cell? ⟨R, 0, none⟩ = some (.slice (some ad) ws.length c) := (blk_cell n2 0).trans rfl
         have cr1 : w3.cell? ⟨R, 1, none⟩ = some (.int .u64 base) := (blk_cell n2 1).trans rfl
         have HD := Aside0.mk n2
         clear n1 n2 n3
         have cx0 : w3.cell? ⟨gx, 0, none⟩ = some (.int .i64 0) := (blk_cell BX.out 0).trans rfl
         have cx1 : w3.cell? ⟨gx, 1, none⟩ = some (.int .i64 0) := (blk_cell BX.out 1).trans rfl
         have cx2 : w3.cell? ⟨gx, 2, none⟩ = some (.slice none 0 0) := (blk_cell BX.out 2).trans rfl
         have fx0 := blk_frozen BX.out 0
         have fx1 := blk_frozen BX.out 1
         have fx2 := blk_frozen BX.out 2
         replace ck := (hb.cell (World.block_lt_of_cell? w _ ck)).trans ck
         clear hb))
      refine bodyPost_ret (results_list (rs := [.cell 6 24, .tmp 7]) rfl (by simp) (.cell gx 24 #[.int .i64 0, .int .i64 0, .slice none 0 0] (0, 0) _ rfl (blk_put (blk_put (blk_put BX.out 0 _ rfl) 1 _ rfl) 2 _ rfl) Try.underlying24 rfl (by kernel_rfl) (.tmp .nil))) rfl ?_
      exact ⟨.slice none 0 0, rfl, Kd.R_nil _ _ _ _ _, below_set (below_set (below_set HB.out GX0.out) GX0.out) GX0.out, keep_far (keep_far (keep_far HK.out (p := ⟨gx, _, none⟩) GX.out _) (p := ⟨gx, _, none⟩) GX.out _) (p := ⟨gx, _, none⟩) GX.out _, blk_far (blk_far (blk_far HD.out (p := ⟨gx, _, none⟩) GR.out.symm _) (p := ⟨gx, _, none⟩) GR.out.symm _) (p := ⟨gx, _, none⟩) GR.out.symm _⟩
    · have q5 : decide ((n : Int) < 1) = false := by simp; omega
      have q6 : decide (4 < (n : Int)) = true := by simp; omega
      go_enter Try.func30, Try.ntmps30
      go_wp2_with (first
      | ((with_reducible refine gate_dst (N := 6) rfl ?_); refine box_event ?hg (N := 6) ?hd (cs := #[.int .i64 0, .int .i64 0, .slice none 0 0]) (t := 24) ?hr ?_; (case hd => rfl); (case hg => rfl); (case hr => first | (go_simp; done) | (go_simp; rfl))
         intro gx hg w3 hbox hb
         have n1 := Aside0.mk (below_step HB.out hb)
         have n2 : RdAt w3 50 R (some ad) ws.length c base met := blk_below HD.out hb
         have n3 := Aside0.mk (KeepBut.of_below hb R none)
         have BX := Aside0.mk hbox
         have GX := Aside0.mk (show w.heap.size ≤ gx by omega)
         have GX0 := Aside0.mk (show w0.heap.size ≤ gx by have := HB.out.size; omega)
         have GR := Aside0.mk (show gx ≠ R by have := blk_lt HD.out; omega)
         have HBB := Aside0.mk hb
         clear HB HK hg hbox cr0 cr1 HD
         have HB := n1
         have HK := n3
         have cr0 : w3.cell? ⟨R, 0, none⟩ = some (.slice (some ad) ws.length c) := (blk_cell n2 0).trans rfl
         have cr1 : w3.cell? ⟨R, 1, none⟩ = some (.int .u64 base) := (blk_cell n2 1).trans rfl
         have HD := Aside0.mk n2
         clear n1 n2 n3
         have cx0 : w3.cell? ⟨gx, 0, none⟩ = some (.int .i64 0) := (blk_cell BX.out 0).trans rfl
         have cx1 : w3.cell? ⟨gx, 1, none⟩ = some (.int .i64 0) := (blk_cell BX.out 1).trans rfl
         have cx2 : w3.cell? ⟨gx, 2, none⟩ = some (.slice none 0 0) := (blk_cell BX.out 2).trans rfl
         have fx0 := blk_frozen BX.out 0
         have fx1 := blk_frozen BX.out 1
         have fx2 := blk_frozen BX.out 2
         replace ck := (hb.cell (World.block_lt_of_cell? w _ ck)).trans ck
         clear hb))
      refine bodyPost_ret (results_list (rs := [.cell 6 24, .tmp 7]) rfl (by simp) (.cell gx 24 #[.int .i64 0, .int .i64 0, .slice none 0 0] (0, 0) _ rfl (blk_put (blk_put (blk_put BX.out 0 _ rfl) 1 _ rfl) 2 _ rfl) Try.underlying24 rfl (by kernel_rfl) (.tmp .nil))) rfl ?_
      exact ⟨.slice none 0 0, rfl, Kd.R_nil _ _ _ _ _, below_set (below_set (below_set HB.out GX0.out) GX0.out) GX0.out, keep_far (keep_far (keep_far HK.out (p := ⟨gx, _, none⟩) GX.out _) (p := ⟨gx, _, none⟩) GX.out _) (p := ⟨gx, _, none⟩) GX.out _, blk_far (blk_far (blk_far HD.out (p := ⟨gx, _, none⟩) GR.out.symm _) (p := ⟨gx, _, none⟩) GR.out.symm _) (p := ⟨gx, _, none⟩) GR.out.symm _⟩
    · have q5 : decide ((n : Int) < 1) = false := by simp; omega
      have q6 : decide (4 < (n : Int)) = false := by simp; omega
      have q7 : decide (ws.length - (k + 1) < n) = true := by simp; omega
      go_enter Try.func30, Try.ntmps30
      go_wp2_with (first
      | ((with_reducible refine gate_dst (N := 6) rfl ?_); refine box_event ?hg (N := 6) ?hd (cs := #[.int .i64 0, .int .i64 0, .slice none 0 0]) (t := 24) ?hr ?_; (case hd => rfl); (case hg => rfl); (case hr => first | (go_simp; done) | (go_simp; rfl))
         intro gx hg w3 hbox hb
         have n1 := Aside0.mk (below_step HB.out hb)
         have n2 : RdAt w3 50 R (some ad) ws.length c base met := blk_below HD.out hb
         have n3 := Aside0.mk (KeepBut.of_below hb R none)
         have BX := Aside0.mk hbox
         have GX := Aside0.mk (show w.heap.size ≤ gx by omega)
         have GX0 := Aside0.mk (show w0.heap.size ≤ gx by have := HB.out.size; omega)
         have GR := Aside0.mk (show gx ≠ R by have := blk_lt HD.out; omega)
         have HBB := Aside0.mk hb
         clear HB HK hg hbox cr0 cr1 HD
         have HB := n1
         have HK := n3
         have cr0 : w3.cell? ⟨R, 0, none⟩ = some (.slice (some ad) ws.length c) := (blk_cell n2 0).trans rfl
         have cr1 : w3.cell? ⟨R, 1, none⟩ = some (.int .u64 base) := (blk_cell n2 1).trans rfl
         have HD := Aside0.mk n2
         clear n1 n2 n3
         have cx0 : w3.cell? ⟨gx, 0, none⟩ = some (.int .i64 0) := (blk_cell BX.out 0).trans rfl
         have cx1 : w3.cell? ⟨gx, 1, none⟩ = some (.int .i64 0) := (blk_cell BX.out 1).trans rfl
         have cx2 : w3.cell? ⟨gx, 2, none⟩ = some (.slice none 0 0) := (blk_cell BX.out 2).trans rfl
         have fx0 := blk_frozen BX.out 0
         have fx1 := blk_frozen BX.out 1
         have fx2 := blk_frozen BX.out 2
         replace ck := (hb.cell (World.block_lt_of_cell? w _ ck)).trans ck
         clear hb))
      refine bodyPost_ret (results_list (rs := [.cell 6 24, .tmp 7]) rfl (by simp) (.cell gx 24 #[.int .i64 0, .int .i64 0, .slice none 0 0] (0, 0) _ rfl (blk_put (blk_put (blk_put BX.out 0 _ rfl) 1 _ rfl) 2 _ rfl) Try.underlying24 rfl (by kernel_rfl) (.tmp .nil))) rfl ?_
      exact ⟨.slice none 0 0, rfl, Kd.R_nil _ _ _ _ _, below_set (below_set (below_set HB.out GX0.out) GX0.out) GX0.out, keep_far (keep_far (keep_far HK.out (p := ⟨gx, _, none⟩) GX.out _) (p := ⟨gx, _, none⟩) GX.out _) (p := ⟨gx, _, none⟩) GX.out _, blk_far (blk_far (blk_far HD.out (p := ⟨gx, _, none⟩) GR.out.symm _) (p := ⟨gx, _, none⟩) GR.out.symm _) (p := ⟨gx, _, none⟩) GR.out.symm _⟩
end Go.Proofs.Ytpgbpcnifhnjjaa.PValueOps
