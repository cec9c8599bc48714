/- The reader's tuple, given the contract of its value with one tuple less. -/
import Derived.Test.YtpgbpcnifhnjjaaRdVal
import Derived.Test.YtpgbpcnifhnjjaaOpenVal
import Derived.Outline
namespace Go.Proofs.Ytpgbpcnifhnjjaa.PValueOps
open Go.RowKit Go.Proofs.YtpgbpcnifhnjjaaW.PrintWords Go.Proofs.YtpgbpcnifhnjjaaW.PrintLast Go.Proofs.YtpgbpcnifhnjjaaW.PrintMore
set_option linter.unusedVariables false
set_option linter.unusedSimpArgs false
theorem info_val : (Try.prog.info? 24).map (fun i => (i.zero, i.size, i.bytes)) = some (some (.agg #[.int .i64 0, .int .i64 0, .slice none 0 0]), 3, 40) := by kernel_rfl

set_option maxHeartbeats 2000000 in
set_option maxRecDepth 100000 in
theorem tuple_some {w0 : World} {R : Nat} {A : Option Addr} {ws : List Int} {c : Nat} {base : Int} {left : Nat} (hR : w0.heap.size ≤ R) (hW : ReadsInt w0 .u64 A ws.length ws) (hc : ws.length ≤ c) (hlen : ws.length ≤ 1000000000000) (hwf : ∀ x ∈ ws, 0 ≤ x ∧ x ≤ 18446744073709551615) (hb0 : 0 ≤ base) (hb1 : base ≤ 18446744073709551615) (hl : left ≤ 1000) (hV : ValC w0 R A ws c base left)
    (u met : Int) (w : World) (hu0 : 0 ≤ u) (hu1 : u ≤ 18446744073709551615) (hm0 : 0 ≤ met) (hm1 : met ≤ 4096) (hB : Below w0.heap.size w0 w) (hD : RdAt w 50 R A ws.length c base met)
    (k n : Nat) (hk : (u - base) / 8 = (k : Int)) (h1 : u % 8 = 0) (h2 : base ≤ u) (h3 : (u - base) % 8 = 0) (h4 : k < ws.length) (hn : ws.getD k 0 = (n : Int)) (h5 : 1 ≤ n) (h6 : n ≤ 4) (h7 : k + 1 + n ≤ ws.length) :
    Calls Try.prog 30 #[.pointer (some ⟨R, 0, none⟩), .int .u64 u, .int .i64 ((left : Int) + 1)] w (RdPost w0 w 50 R A ws.length c base (rdL (rdV ws base left) ((ws.drop (k + 1)).take n) [] met)) := by
  obtain ⟨ad, hA, hcell⟩ := hW.2.2 (by omega)
  subst hA
  have HB := Aside0.mk hB
  have HV := Aside0.mk hV
  have HR := Aside0.mk hR
  have HBW := Aside0.mk hB.size
  have HWF := Aside0.mk hwf
  have HC := Aside0.mk hcell
  have HK := Aside0.mk (KeepBut.refl w R none)
  have ck := (HB.out.cell (World.block_lt_of_cell? w0 _ (hcell k h4))).trans (hcell k h4)
  rw [hn] at ck
  have HN := Aside0.mk hn
  clear hB hV hR hwf hcell hW hn
  have cr0 : w.cell? ⟨R, 0, none⟩ = some (.slice (some ad) ws.length c) := (blk_cell hD 0).trans rfl
  have cr1 : w.cell? ⟨R, 1, none⟩ = some (.int .u64 base) := (blk_cell hD 1).trans rfl
  have HD := Aside0.mk hD
  have LR := Aside0.mk (show R < w.heap.size from blk_lt hD)
  clear hD
  have hcap : ¬ (c = k + 1) := by omega
  have q1 : (u % 8 != 0) = false := by simpa using h1
  have q2 : decide (u < base) = false := by simpa using h2
  have q3 : ((u - base) % 8 != 0) = false := by simpa using h3
  have q0 : ((left : Int) + 1 == 0) = false := by simp; omega
  have q4 : decide (ws.length ≤ k) = false := by simp; omega
  have q5 : decide ((n : Int) < 1) = false := by simp; omega
  have q6 : decide (4 < (n : Int)) = false := by simp; omega
  have q7 : decide (ws.length - (k + 1) < n) = false := by simp; omega
  have H1 := Aside0.mk h1
  have H3 := Aside0.mk h3
  clear h1 h3
  have hmf : ∀ (fn : Fn) (first cap : Array Value) (w : World), (Instr.makeFunc fn first cap).run Try.prog w = .ok (.func fn first cap) w := fun _ _ _ _ => rfl
  go_enter Try.func30, Try.ntmps30
  go_wp2_with (first
      | ((with_reducible refine gate_dst (N := 6) rfl ?_); refine box_event ?hg (N := 6) ?hd (cs := #[.int .i64 0, .int .i64 0, .slice none 0 0]) (t := 24) ?hr ?_; (case hd => rfl); (case hg => rfl); (case hr => first | (go_simp; done) | (go_simp; rfl))
         intro gx hg w3 hbox hb
         have n1 := Aside0.mk (below_step HB.out hb)
         have n2 : RdAt w3 50 R (some ad) ws.length c base met := blk_below HD.out hb
         have n3 := Aside0.mk (KeepBut.of_below hb R none)
         have BX := Aside0.mk hbox
         have GX := Aside0.mk (show w.heap.size ≤ gx by omega)
         have GX0 := Aside0.mk (show w0.heap.size ≤ gx by have := HB.out.size; omega)
         have GR := Aside0.mk (show gx ≠ R by have := blk_lt HD.out; omega)
         replace ck := (hb.cell (World.block_lt_of_cell? w _ ck)).trans ck
         clear HB HK hg hbox hb cr0 cr1 HD
         have HB := n1
         have HK := n3
         have cr0 : w3.cell? ⟨R, 0, none⟩ = some (.slice (some ad) ws.length c) := (blk_cell n2 0).trans rfl
         have cr1 : w3.cell? ⟨R, 1, none⟩ = some (.int .u64 base) := (blk_cell n2 1).trans rfl
         have HD := Aside0.mk n2
         clear n1 n2 n3
         have cx0 : w3.cell? ⟨gx, 0, none⟩ = some (.int .i64 0) := (blk_cell BX.out 0).trans rfl
         have cx1 : w3.cell? ⟨gx, 1, none⟩ = some (.int .i64 0) := (blk_cell BX.out 1).trans rfl
         have cx2 : w3.cell? ⟨gx, 2, none⟩ = some (.slice none 0 0) := (blk_cell BX.out 2).trans rfl
         have fx0 := blk_frozen BX.out 0))
  have HL : ReadsInt w0 .u64 (some ⟨ad.block, ad.off + (k + 1), none⟩) n ((ws.drop (k + 1)).take n) := by
    refine ⟨by rw [List.length_take, List.length_drop]; omega, by omega, fun _ => ⟨_, rfl, fun j hj => ?_⟩⟩
    rw [add_at, show ad.off + (k + 1) + j = ad.off + (k + 1 + j) by omega]
    have h := HC.out (k + 1 + j) (by omega)
    have he : ad.add (k + 1 + j) = ⟨ad.block, ad.off + (k + 1 + j), none⟩ := by unfold Addr.add; rw [if_neg (by omega)]
    rw [he] at h
    rw [h]
    congr 2
    simp [List.getD_eq_getElem?_getD, List.getElem?_take, hj]
  have hus : ((ws.drop (k + 1)).take n).length = n := HL.1
  have HWU : ∀ x ∈ (ws.drop (k + 1)).take n, 0 ≤ x ∧ x ≤ 18446744073709551615 := fun x hx => HWF.out x (List.mem_of_mem_drop (List.mem_of_mem_take hx))
  generalize hue : (ws.drop (k + 1)).take n = us at HL hus HWU ⊢
  have HUE := Aside0.mk hue
  clear hue
  generalize (⟨ad.block, ad.off + (k + 1), none⟩ : Addr) = al at HL ⊢
  have HL' := Aside0.mk HL
  have HUS := Aside0.mk hus
  have HWU' := Aside0.mk HWU
  clear HL hus HWU
  obtain ⟨w5, hw5⟩ : ∃ w5, w5 = w3.setCell ⟨gx, 0, none⟩ (.int .i64 4) := ⟨_, rfl⟩
  have n1 : Below w0.heap.size w0 w5 := by rw [hw5]; exact below_set HB.out GX0.out
  have n2 : RdAt w5 50 R (some ad) ws.length c base met := by rw [hw5]; exact blk_far HD.out GR.out.symm _
  have n3 : KeepBut w w5 R none := by rw [hw5]; exact keep_far HK.out GX.out _
  have n4 : w5.heap[gx]? = some (.cells #[.int .i64 4, .int .i64 0, .slice none 0 0] 24 (0, 0)) := by rw [hw5]; exact blk_put BX.out 0 _ rfl
  rw [← hw5]
  clear hw5
  have LX := Aside0.mk (show gx < w5.heap.size from blk_lt n4)
  have HB5 := Aside0.mk n1
  have HD5 := Aside0.mk n2
  have HK5 := Aside0.mk n3
  have BX5 := Aside0.mk n4
  clear n1 n2 n3 n4 HB HD HK BX cr0 cr1 cx0 cx1 cx2 fx0 ck q0 q1 q2 q3 q4 q5 q6 q7 hk
  go_loopw [92] (fun v wr => ∃ (i met' : Int) (v1 : Value) (acc : List S24), v = .int .i64 i ∧ 0 ≤ i ∧ i ≤ n ∧ 0 ≤ met' ∧ met' ≤ 4096 ∧ Aside0 (wr.heap[gx]? = some (.cells #[.int .i64 4, .int .i64 0, v1] 24 (0, 0))) ∧ Aside0 (Kd.R k24 24 wr w.heap.size (fun k => k ≠ gx) v1 acc) ∧ Aside0 (RdAt wr 50 R (some ad) ws.length c base met') ∧ Aside0 (Below w0.heap.size w0 wr) ∧ Aside0 (KeepBut w wr R none) ∧ Aside0 (rdL (rdV ws base left) (us.drop i.toNat) acc met' = rdL (rdV ws base left) us [] met) ∧ Aside0 ((acc.length : Int) = i)) (fun v _ => n - (intOf v).toNat)
  case atStart => exact ⟨0, met, .slice none 0 0, [], rfl, by omega, by omega, hm0, hm1, BX5, ⟨Kd.R_nil _ _ _ _ _⟩, HD5, HB5, HK5, ⟨by simp⟩, ⟨rfl⟩⟩
  case round =>
    obtain ⟨i, met', v1, acc, rfl, hi0, hi1, hm2, hm3, BXr, HRr, HDr, HBr, HKr, HEr, HAr⟩ := hrel
    clear BX5 HD5 HB5 HK5
    obtain ⟨A1, c1, rfl⟩ := Kd.R_slice HRr.out
    by_cases hlt : i < (n : Int)
    · have hdec : decide (i < (n : Int)) = true := decide_eq_true hlt
      obtain ⟨al', hal, hci⟩ := HL'.out.at_ i hi0 hlt
      cases hal
      replace hci := (HBr.out.cell (World.block_lt_of_cell? w0 _ hci)).trans hci
      have hur : 0 ≤ rd us i ∧ rd us i ≤ 18446744073709551615 := by
        have hl' : i.toNat < us.length := by have := HUS.out; omega
        have he : rd us i = us[i.toNat] := by unfold rd; rw [List.getD_eq_getElem?_getD, List.getElem?_eq_getElem hl']; rfl
        rw [he]; exact HWU'.out _ (List.getElem_mem hl')
      have hdr : us.drop i.toNat = rd us i :: us.drop (i.toNat + 1) := by
        have hl' : i.toNat < us.length := by have := HUS.out; omega
        have he : rd us i = us[i.toNat] := by unfold rd; rw [List.getD_eq_getElem?_getD, List.getElem?_eq_getElem hl']; rfl
        rw [he]; exact List.drop_eq_getElem_cons hl'
      have HDR := Aside0.mk hdr
      clear hdr
      have hmet := rdV_met ws base left (rd us i) met' hm3
      have hmge := rdV_ge ws base left (rd us i) met'
      have HRL : ∀ us' acc', rdL (rdV ws base left) (rd us i :: us') acc' met' = if (rdV ws base left (rd us i) met').2.1 = 0 then rdL (rdV ws base left) us' (acc' ++ [(rdV ws base left (rd us i) met').1]) (rdV ws base left (rd us i) met').2.2 else (zV, (rdV ws base left (rd us i) met').2.1, (rdV ws base left (rd us i) met').2.2) := fun _ _ => rfl
      have hcall := HV.out (rd us i) met' wr hur.1 hur.2 hm2 hm3 HBr.out HDr.out
      generalize rdV ws base left (rd us i) met' = r at hmet hmge HRL hcall
      have HC' := Aside0.mk hcall
      have HRL' := Aside0.mk HRL
      have HMET := Aside0.mk hmet
      have HMGE := Aside0.mk hmge
      clear hcall HRL hmet hmge
      by_cases hok : r.2.1 = 0
      · have hm5 : r.2.2 ≤ 4096 := HMET.out hok
        have hq : (r.2.1 != 0) = false := by simpa using hok
        have HOK := Aside0.mk hok
        clear hok
        go_wp2_with fail
        refine HC'.out.mono ?_
        rintro e w6 ⟨v2, rfl, hR2, hB2, hK2, hD2⟩
        obtain ⟨A2, c2, rfl⟩ := Kd.R_slice hR2
        have LX6 := Aside0.mk (show gx < wr.heap.size from blk_lt BXr.out)
        have BX6 := Aside0.mk (show w6.heap[gx]? = some (.cells #[.int .i64 4, .int .i64 0, .slice A1 acc.length c1] 24 (0, 0)) from hK2.blk BXr.out GR.out (by simp))
        have HR6 := Aside0.mk (Kd.R_mono (ok' := fun k => k ≠ gx ∧ k < wr.heap.size) (Kd.R_keep (Kd.R_mono (ok' := fun k => (k ≠ gx ∧ k < wr.heap.size) ∧ k ≠ R) (Kd.R_bound HRr.out) (fun k hk => ⟨⟨hk.1, hk.2.2.1⟩, by have := hk.2.1; have := LR.out; omega⟩)) hK2 (fun k hk => hk.2)) (fun k hk => hk.1))
        have HX6 := Aside0.mk (Kd.R_mono (ok' := fun k => wr.heap.size ≤ k) (Kd.R_bound hR2) (fun k hk => hk.2.1))
        have HD6 := Aside0.mk hD2
        have HB6 := Aside0.mk hB2
        have HK6 := Aside0.mk (HKr.out.trans hK2 (.inl rfl))
        have L6 := Aside0.mk hK2.1
        clear hR2 hB2 hK2 hD2 BXr HRr HDr HBr HC' hci
        go_wp2_with (first
          | ((with_reducible refine gate_dst (N := 14) rfl ?_); refine box_event ?hg (N := 14) ?hd (cs := #[.int .i64 0, .int .i64 0, .slice none 0 0]) (t := 24) ?hr ?_; (case hd => rfl); (case hg => rfl); (case hr => first | (go_simp; done) | (go_simp; rfl))
             intro gy hg w7 hbox hb
             have NY := Aside0.mk (show w6.heap.size ≤ gy by omega)
             have BY := Aside0.mk hbox
             have HB7 := Aside0.mk hb
             clear hg hbox hb
             have cy0 : w7.cell? ⟨gy, 0, none⟩ = some (.int .i64 0) := (blk_cell BY.out 0).trans rfl
             have cy1 : w7.cell? ⟨gy, 1, none⟩ = some (.int .i64 0) := (blk_cell BY.out 1).trans rfl
             have cy2 : w7.cell? ⟨gy, 2, none⟩ = some (.slice none 0 0) := (blk_cell BY.out 2).trans rfl
             have fy0 := blk_frozen BY.out 0
             have fy1 := blk_frozen BY.out 1
             have fy2 := blk_frozen BY.out 2)
          | ((with_reducible refine gate_store (t := 24) (p := 14) rfl ?_); refine store_event (t := 24) (p := 14) (v := ?vo1) (w1 := ((w7.setCell ⟨gy, 0, none⟩ (.int .i64 r.1.f0)).setCell ⟨gy, 1, none⟩ (.int .i64 r.1.f1)).setCell ⟨gy, 2, none⟩ (.slice A2 r.1.f2.length c2)) ?hg ?ho ?hn ?hr ?_; (case ho => rfl); (case hg => rfl); (case hn => rfl); (case hr => first | (go_simp; done) | (go_simp; rfl))
             intro w8 hw
             have n1 : w8.heap[gy]? = some (.cells #[.int .i64 r.1.f0, .int .i64 r.1.f1, .slice A2 r.1.f2.length c2] 24 (0, 0)) := by rw [hw]; exact blk_put (blk_put (blk_put BY.out 0 _ rfl) 1 _ rfl) 2 _ rfl
             have HB8 : Below w6.heap.size w6 w8 := by rw [hw]; exact ((HB7.out.setCell NY.out _).setCell NY.out _).setCell NY.out _
             clear hw cy0 cy1 cy2 fy0 fy1 fy2 BY HB7
             have cy0 : w8.cell? ⟨gy, 0, none⟩ = some (.int .i64 r.1.f0) := (blk_cell n1 0).trans rfl
             have cy1 : w8.cell? ⟨gy, 1, none⟩ = some (.int .i64 r.1.f1) := (blk_cell n1 1).trans rfl
             have cy2 : w8.cell? ⟨gy, 2, none⟩ = some (.slice A2 r.1.f2.length c2) := (blk_cell n1 2).trans rfl
             clear n1
             have m1 : w8.heap[gx]? = some (.cells #[.int .i64 4, .int .i64 0, .slice A1 acc.length c1] 24 (0, 0)) := blk_below BX6.out HB8
             have cx0 : w8.cell? ⟨gx, 0, none⟩ = some (.int .i64 4) := (blk_cell m1 0).trans rfl
             have cx1 : w8.cell? ⟨gx, 1, none⟩ = some (.int .i64 0) := (blk_cell m1 1).trans rfl
             have cx2 : w8.cell? ⟨gx, 2, none⟩ = some (.slice A1 acc.length c1) := (blk_cell m1 2).trans rfl
             have fx0 := blk_frozen m1 0
             have fx1 := blk_frozen m1 1
             have fx2 := blk_frozen m1 2
             have BX8 := Aside0.mk m1
             have HD8 := Aside0.mk (show RdAt w8 50 R (some ad) ws.length c base r.2.2 from blk_below HD6.out HB8)
             have HR8 := Aside0.mk (Kd.R_below HR6.out HB8)
             have HX8 := Aside0.mk (Kd.R_below HX6.out HB8)
             have HB8' := Aside0.mk (below_step HB6.out HB8)
             have HK8 := Aside0.mk (HK6.out.trans (KeepBut.of_below HB8 R none) (.inl rfl))
             have L68 := Aside0.mk HB8.size
             clear m1 HB8)
          | ((with_reducible refine gate_dst (N := 112) rfl ?_); at_builtin; refine Kd.R_append k24 (w0 := w8) w.heap.size rfl _ _ 22 24 (.agg #[.int .i64 0, .int .i64 0, .slice none 0 0]) 40 rfl Try.underlying22 info_val rfl (by decide) (by decide) (.slice A1 acc.length c1) acc r.1 [.int .i64 r.1.f0, .int .i64 r.1.f1, .slice A2 r.1.f2.length c2] (fun k => k ≠ gx) (fun k => wr.heap.size ≤ k) ?h1 ?h2 ?h3 ?h4 ?h5 ?h6 ?h7 ?h8 ?h9 ?_; (case h1 => rfl); (case h2 => rfl); (case h3 => exact k24_mkM _ _ _ r.1 (Kd.R_lower HX8.out HKr.out.1)); (case h4 => exact fun k' hk' => ⟨by have := LX6.out; omega, fun e => by have := (Kd.R_bound HR8.out).1 k' e.symm; have := this.1.2; omega⟩); (case h5 => exact fun k' hk' => by have := LX6.out; have := L6.out; have := L68.out; omega); (case h6 => exact Kd.R_mono HR8.out (fun _ h => h.1)); (case h7 => exact Below.refl _ _); (case h8 => exact HK8.out.1); (case h9 => have := HAr.out; omega)
             intro v9 w9 hrow9 _ hg9 hat9
             obtain ⟨A9, c9, hv9⟩ := Kd.R_slice hrow9
             obtain ⟨acc', hacc⟩ : ∃ acc', acc' = acc ++ [r.1] := ⟨_, rfl⟩
             rw [← hacc] at hrow9 hv9
             subst hv9
             have HACC := Aside0.mk hacc
             have hne : some gx ≠ (Value.slice A1 acc.length c1).ownBlock := fun e => (HR8.out.1 gx e.symm).1 rfl
             have hneR : some R ≠ (Value.slice A1 acc.length c1).ownBlock := fun e => by have := Kd.R_base HR8.out R e.symm; have := LR.out; omega
             have HB9 := Aside0.mk (show Below w0.heap.size w0 w9 from HB8'.out.grown hg9 HB8'.out.size (fun k' e => by have := Kd.R_base HR8.out k' e; have := HK6.out.1; have := HBW.out; omega))
             have HK9 := Aside0.mk (show KeepBut w w9 R none from HK8.out.trans (KeepBut.of_grown hg9 R) (by
               cases hv : (Value.slice A1 acc.length c1).ownBlock with
               | none => exact .inl rfl
               | some b => exact .inr ⟨b, rfl, Kd.R_base HR8.out b hv⟩))
             have HD9 := Aside0.mk (show RdAt w9 50 R (some ad) ws.length c base r.2.2 from blk_grown HD8.out hg9 hneR)
             have m1 := blk_grown BX8.out hg9 hne
             have HR9 := Aside0.mk hrow9
             clear hg9 hat9 hne hneR hacc hrow9 cx0 cx1 cx2 fx0 fx1 fx2 cy0 cy1 cy2 BX8 HD8 HB8' HK8
             have cx2 : w9.cell? ⟨gx, 2, none⟩ = some (.slice A1 acc.length c1) := (blk_cell m1 2).trans rfl
             have fx2 := blk_frozen m1 2
             have BX9 := Aside0.mk m1
             clear m1)
          | ((with_reducible refine gate_store (t := 22) (p := 113) rfl ?_); refine store_event (t := 22) (p := 113) (v := ?vo2) (w1 := w9.setCell ⟨gx, 2, none⟩ (.slice A9 acc'.length c9)) ?hg ?ho ?hn ?hr ?_; (case ho => rfl); (case hg => rfl); (case hn => rfl); (case hr => first | (go_simp; done) | (go_simp; rfl))
             intro w10 hw
             have HB10 := Aside0.mk (show Below w0.heap.size w0 w10 by rw [hw]; exact below_set HB9.out GX0.out)
             have HK10 := Aside0.mk (show KeepBut w w10 R none by rw [hw]; exact keep_far HK9.out GX.out _)
             have HD10 := Aside0.mk (show RdAt w10 50 R (some ad) ws.length c base r.2.2 by rw [hw]; exact blk_far HD9.out GR.out.symm _)
             have BX10 := Aside0.mk (show w10.heap[gx]? = some (.cells #[.int .i64 4, .int .i64 0, .slice A9 acc'.length c9] 24 (0, 0)) by rw [hw]; exact blk_put BX9.out 2 _ rfl)
             have HR10 := Aside0.mk (show Kd.R k24 24 w10 w.heap.size (fun k => k ≠ gx) (.slice A9 acc'.length c9) acc' by rw [hw]; exact Kd.R_far HR9.out (fun _ h => h) _)
             clear hw cx2 fx2))
        go_roundw
        case rel =>
          have ei : (i + 1).toNat = i.toNat + 1 := by omega
          have q1 : rdL (rdV ws base left) (us.drop (i + 1).toNat) acc' r.2.2 = rdL (rdV ws base left) us [] met := by
            rw [ei, ← HEr.out, HDR.out, HRL'.out, if_pos HOK.out, HACC.out]
          have q2 : (acc'.length : Int) = i + 1 := by rw [HACC.out, List.length_append, List.length_singleton]; have := HAr.out; omega
          have q3 := HMGE.out
          exact ⟨i + 1, r.2.2, .slice A9 acc'.length c9, acc', rfl, by omega, by omega, by omega, hm5, BX10, HR10, HD10, HB10, HK10, ⟨q1⟩, ⟨q2⟩⟩
        case measure => simp [intOf]; omega
      · have hq : (r.2.1 != 0) = true := by simpa using hok
        have hfin : rdL (rdV ws base left) us [] met = (zV, r.2.1, r.2.2) := by rw [← HEr.out, HDR.out, HRL'.out, if_neg hok]
        rw [hfin]
        have HOK := Aside0.mk hok
        clear hok hfin
        go_wp2_with fail
        refine HC'.out.mono ?_
        rintro e w6 ⟨v2, rfl, hR2, hB2, hK2, hD2⟩
        obtain ⟨A2, c2, rfl⟩ := Kd.R_slice hR2
        have LX6 := Aside0.mk (show gx < wr.heap.size from blk_lt BXr.out)
        have BX6 := Aside0.mk (show w6.heap[gx]? = some (.cells #[.int .i64 4, .int .i64 0, .slice A1 acc.length c1] 24 (0, 0)) from hK2.blk BXr.out GR.out (by simp))
        have HR6 := Aside0.mk (Kd.R_mono (ok' := fun k => k ≠ gx ∧ k < wr.heap.size) (Kd.R_keep (Kd.R_mono (ok' := fun k => (k ≠ gx ∧ k < wr.heap.size) ∧ k ≠ R) (Kd.R_bound HRr.out) (fun k hk => ⟨⟨hk.1, hk.2.2.1⟩, by have := hk.2.1; have := LR.out; omega⟩)) hK2 (fun k hk => hk.2)) (fun k hk => hk.1))
        have HX6 := Aside0.mk (Kd.R_mono (ok' := fun k => wr.heap.size ≤ k) (Kd.R_bound hR2) (fun k hk => hk.2.1))
        have HD6 := Aside0.mk hD2
        have HB6 := Aside0.mk hB2
        have HK6 := Aside0.mk (HKr.out.trans hK2 (.inl rfl))
        have L6 := Aside0.mk hK2.1
        clear hR2 hB2 hK2 hD2 BXr HRr HDr HBr HC' hci
        go_wp2_with (first
          | ((with_reducible refine gate_dst (N := 14) rfl ?_); refine box_event ?hg (N := 14) ?hd (cs := #[.int .i64 0, .int .i64 0, .slice none 0 0]) (t := 24) ?hr ?_; (case hd => rfl); (case hg => rfl); (case hr => first | (go_simp; done) | (go_simp; rfl))
             intro gy hg w7 hbox hb
             have NY := Aside0.mk (show w6.heap.size ≤ gy by omega)
             have BY := Aside0.mk hbox
             have HB7 := Aside0.mk hb
             clear hg hbox hb
             have cy0 : w7.cell? ⟨gy, 0, none⟩ = some (.int .i64 0) := (blk_cell BY.out 0).trans rfl
             have cy1 : w7.cell? ⟨gy, 1, none⟩ = some (.int .i64 0) := (blk_cell BY.out 1).trans rfl
             have cy2 : w7.cell? ⟨gy, 2, none⟩ = some (.slice none 0 0) := (blk_cell BY.out 2).trans rfl
             have fy0 := blk_frozen BY.out 0
             have fy1 := blk_frozen BY.out 1
             have fy2 := blk_frozen BY.out 2)
          | ((with_reducible refine gate_store (t := 24) (p := 14) rfl ?_); refine store_event (t := 24) (p := 14) (v := ?vo5) (w1 := ((w7.setCell ⟨gy, 0, none⟩ (.int .i64 r.1.f0)).setCell ⟨gy, 1, none⟩ (.int .i64 r.1.f1)).setCell ⟨gy, 2, none⟩ (.slice A2 r.1.f2.length c2)) ?hg ?ho ?hn ?hr ?_; (case ho => rfl); (case hg => rfl); (case hn => rfl); (case hr => first | (go_simp; done) | (go_simp; rfl))
             intro w8 hw
             have n1 : w8.heap[gy]? = some (.cells #[.int .i64 r.1.f0, .int .i64 r.1.f1, .slice A2 r.1.f2.length c2] 24 (0, 0)) := by rw [hw]; exact blk_put (blk_put (blk_put BY.out 0 _ rfl) 1 _ rfl) 2 _ rfl
             have HB8 : Below w6.heap.size w6 w8 := by rw [hw]; exact ((HB7.out.setCell NY.out _).setCell NY.out _).setCell NY.out _
             clear hw cy0 cy1 cy2 fy0 fy1 fy2 BY HB7
             have cy0 : w8.cell? ⟨gy, 0, none⟩ = some (.int .i64 r.1.f0) := (blk_cell n1 0).trans rfl
             have cy1 : w8.cell? ⟨gy, 1, none⟩ = some (.int .i64 r.1.f1) := (blk_cell n1 1).trans rfl
             have cy2 : w8.cell? ⟨gy, 2, none⟩ = some (.slice A2 r.1.f2.length c2) := (blk_cell n1 2).trans rfl
             clear n1
             have m1 : w8.heap[gx]? = some (.cells #[.int .i64 4, .int .i64 0, .slice A1 acc.length c1] 24 (0, 0)) := blk_below BX6.out HB8
             have cx0 : w8.cell? ⟨gx, 0, none⟩ = some (.int .i64 4) := (blk_cell m1 0).trans rfl
             have cx1 : w8.cell? ⟨gx, 1, none⟩ = some (.int .i64 0) := (blk_cell m1 1).trans rfl
             have cx2 : w8.cell? ⟨gx, 2, none⟩ = some (.slice A1 acc.length c1) := (blk_cell m1 2).trans rfl
             have fx0 := blk_frozen m1 0
             have fx1 := blk_frozen m1 1
             have fx2 := blk_frozen m1 2
             have BX8 := Aside0.mk m1
             have HD8 := Aside0.mk (show RdAt w8 50 R (some ad) ws.length c base r.2.2 from blk_below HD6.out HB8)
             have HR8 := Aside0.mk (Kd.R_below HR6.out HB8)
             have HX8 := Aside0.mk (Kd.R_below HX6.out HB8)
             have HB8' := Aside0.mk (below_step HB6.out HB8)
             have HK8 := Aside0.mk (HK6.out.trans (KeepBut.of_below HB8 R none) (.inl rfl))
             have L68 := Aside0.mk HB8.size
             clear m1 HB8))
        refine bodyPost_ret (results_list (rs := [.cell 6 24, .tmp 7]) rfl (by simp) (.cell gx 24 #[.int .i64 0, .int .i64 0, .slice none 0 0] (0, 0) _ rfl (blk_put (blk_put (blk_put BX8.out 0 _ rfl) 1 _ rfl) 2 _ rfl) Try.underlying24 rfl (by kernel_rfl) (.tmp .nil))) rfl ?_
        exact ⟨.slice none 0 0, rfl, Kd.R_nil _ _ _ _ _, below_set (below_set (below_set HB8'.out GX0.out) GX0.out) GX0.out, keep_far (keep_far (keep_far HK8.out (p := ⟨gx, _, none⟩) GX.out _) (p := ⟨gx, _, none⟩) GX.out _) (p := ⟨gx, _, none⟩) GX.out _, blk_far (blk_far (blk_far HD8.out (p := ⟨gx, _, none⟩) GR.out.symm _) (p := ⟨gx, _, none⟩) GR.out.symm _) (p := ⟨gx, _, none⟩) GR.out.symm _⟩
    · have hdec : decide (i < (n : Int)) = false := decide_eq_false hlt
      have hin : i.toNat = n := by omega
      have hfin : rdL (rdV ws base left) us [] met = (⟨4, 0, acc⟩, 0, met') := by rw [← HEr.out, hin, List.drop_of_length_le (by rw [HUS.out]; exact Nat.le_refl _)]; rfl
      have HF := Aside0.mk hfin
      clear hfin hin hlt
      have cx0 : wr.cell? ⟨gx, 0, none⟩ = some (.int .i64 4) := (blk_cell BXr.out 0).trans rfl
      have cx1 : wr.cell? ⟨gx, 1, none⟩ = some (.int .i64 0) := (blk_cell BXr.out 1).trans rfl
      have cx2 : wr.cell? ⟨gx, 2, none⟩ = some (.slice A1 acc.length c1) := (blk_cell BXr.out 2).trans rfl
      have fx0 := blk_frozen BXr.out 0
      have fx1 := blk_frozen BXr.out 1
      have fx2 := blk_frozen BXr.out 2
      go_wp2
      refine bodyPost_ret (results_list (rs := [.cell 6 24, .tmp 7]) rfl (by simp) (.cell gx 24 #[.int .i64 4, .int .i64 0, .slice A1 acc.length c1] (0, 0) _ rfl (blk_put (blk_put (blk_put BXr.out 0 _ rfl) 1 _ rfl) 2 _ rfl) Try.underlying24 rfl (by kernel_rfl) (.tmp .nil))) rfl ?_
      rw [HUE.out, HF.out]
      exact ⟨.slice A1 acc.length c1, rfl, Kd.R_mono (Kd.R_far (p := ⟨gx, _, none⟩) (Kd.R_far (p := ⟨gx, _, none⟩) (Kd.R_far (p := ⟨gx, _, none⟩) HRr.out (fun _ h => h) _) (fun _ h => h) _) (fun _ h => h) _) (fun _ _ => trivial), below_set (below_set (below_set HBr.out GX0.out) GX0.out) GX0.out, keep_far (keep_far (keep_far HKr.out (p := ⟨gx, _, none⟩) GX.out _) (p := ⟨gx, _, none⟩) GX.out _) (p := ⟨gx, _, none⟩) GX.out _, blk_far (blk_far (blk_far HDr.out (p := ⟨gx, _, none⟩) GR.out.symm _) (p := ⟨gx, _, none⟩) GR.out.symm _) (p := ⟨gx, _, none⟩) GR.out.symm _⟩
end Go.Proofs.Ytpgbpcnifhnjjaa.PValueOps
