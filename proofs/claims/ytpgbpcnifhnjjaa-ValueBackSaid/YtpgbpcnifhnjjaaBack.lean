/- ValueBack, walked: at any value, any words, any number it answers true, and nothing that was there has turned. -/
import Derived.Test.YtpgbpcnifhnjjaaBackPure
import Derived.Test.YtpgbpcnifhnjjaaDecode
import Derived.Test.YtpgbpcnifhnjjaaLight
import Derived.Test.YtpgbpcnifhnjjaaLives
namespace Go.Proofs.Ytpgbpcnifhnjjaa.PValueOps
open Go.RowKit Go.Proofs.YtpgbpcnifhnjjaaW.PrintWords Go.Proofs.YtpgbpcnifhnjjaaW.PrintLast Go.Proofs.YtpgbpcnifhnjjaaW.PrintMore
set_option linter.unusedVariables false
set_option linter.unusedSimpArgs false
theorem in64b {x : Int} (h : (Lit.int .u64 x).wf = true) : 0 ≤ x ∧ x ≤ 18446744073709551615 := by
  have h : (decide (0 ≤ x) && decide (x ≤ 18446744073709551615)) = true := h
  simpa using h

theorem own_reads_le {w : World} {base n : Nat} {e : TypeId} {k : IntKind} {v : Value} {xs : List Int} (h : w.ownsRow base e 1 v n (nums k xs)) : ∃ A c, v = .slice A n c ∧ n ≤ c ∧ ReadsInt w k A n xs := by
  obtain ⟨A, c, rfl, hr⟩ := own_reads h
  refine ⟨A, c, rfl, ?_, hr⟩
  rcases h.2 with ⟨h, rfl⟩ | ⟨g, cap, cur, h, _, _, hnc, _⟩
  · exact Nat.zero_le _
  · injection h with _ _ h2
    rw [h2]; exact hnc

set_option maxHeartbeats 4000000 in
set_option maxRecDepth 100000 in
theorem back_calls (x : S24) (A : Option Addr) (c : Nat) (ws : List Int) (Aw : Option Addr) (cw : Nat) (more : List Int) (Am : Option Addr) (cm : Nat) (a : Int) (w : World) (hx : Arg w x A c) (hW : ReadsInt w .u64 Aw ws.length ws) (hc : ws.length ≤ cw) (hlen : ws.length * 8 ≤ 140737488351232) (hwf : ∀ x ∈ ws, (Lit.int .u64 x).wf = true) (hM : ReadsInt w .u64 Am more.length more) (hcm : more.length ≤ cm) (hlenm : more.length * 8 ≤ 140737488351232) (hwfm : ∀ x ∈ more, (Lit.int .u64 x).wf = true) (ha : (Lit.int .i64 a).wf = true) : Calls Try.prog 6 #[.agg #[.int .i64 x.f0, .int .i64 x.f1, .slice A x.f2.length c], .slice Aw ws.length cw, .slice Am more.length cm, .int .i64 a] w fun e w' => e = .returned (.bool true) ∧ Below w.heap.size w w' := by
  obtain ⟨r, hn, hl⟩ := light1 hx
  have HL := Aside0.mk hl
  have HN := Aside0.mk hn
  have HX := Aside0.mk hx
  have HW := Aside0.mk hW
  have HM := Aside0.mk hM
  have HF := Aside0.mk hwf
  have HFM := Aside0.mk hwfm
  have HB := Aside0.mk (Below.refl w.heap.size w)
  clear hl hx hn hW hM hwf hwfm
  go_enter Try.func6, Try.ntmps6
  go_wp2_with (first
    | ((with_reducible refine gate_dst (N := 4) rfl ?_); refine box_event ?hg (N := 4) ?hd (cs := #[.int .i64 x.f0, .int .i64 x.f1, .slice A x.f2.length c]) (t := 24) ?hr ?_; (case hd => rfl); (case hg => rfl); (case hr => first | (go_simp; done) | (go_simp; rfl))
       intro gx hg w3 hbox hb
       have n1 := Aside0.mk (below_step HB.out hb)
       have BX := Aside0.mk hbox
       clear HB hg hbox hb
       have HB := n1
       clear n1
       have cx0 : w3.cell? ⟨gx, 0, none⟩ = some (.int .i64 x.f0) := (blk_cell BX.out 0).trans rfl
       have cx1 : w3.cell? ⟨gx, 1, none⟩ = some (.int .i64 x.f1) := (blk_cell BX.out 1).trans rfl
       have cx2 : w3.cell? ⟨gx, 2, none⟩ = some (.slice A x.f2.length c) := (blk_cell BX.out 2).trans rfl))
  have hb0 : 0 ≤ IntKind.u64.wrap (8 * (IntKind.u64.wrap a).tmod 100000) ∧ IntKind.u64.wrap (8 * (IntKind.u64.wrap a).tmod 100000) ≤ 1000000000000 ∧ IntKind.u64.wrap (8 * (IntKind.u64.wrap a).tmod 100000) % 8 = 0 := by
    have h : 0 ≤ IntKind.u64.wrap a := by rw [u64w]; omega
    rw [Int.tmod_eq_emod_of_nonneg h, u64w, u64w]
    omega
  generalize IntKind.u64.wrap (8 * (IntKind.u64.wrap a).tmod 100000) = base at hb0 ⊢
  have HBA := Aside0.mk hb0
  clear hb0
  refine (HL.out _ _ (below_alloc HB.out _) (blk_new _ _)).mono ?_
  rintro e w5 ⟨rfl, hb⟩
  have n1 := Aside0.mk (below_step (below_alloc HB.out _) hb)
  have n2 := Aside0.mk (blk_below (blk_alloc BX.out _) hb)
  clear HB hb BX cx0 cx1 cx2 HL
  have HB := n1
  have BX := n2
  clear n1 n2
  have cx0 : w5.cell? ⟨gx, 0, none⟩ = some (.int .i64 x.f0) := (blk_cell BX.out 0).trans rfl
  have cx1 : w5.cell? ⟨gx, 1, none⟩ = some (.int .i64 x.f1) := (blk_cell BX.out 1).trans rfl
  have cx2 : w5.cell? ⟨gx, 2, none⟩ = some (.slice A x.f2.length c) := (blk_cell BX.out 2).trans rfl
  cases r with
  | false =>
    go_wp2_with fail
    refine (lives_calls _).mono ?_
    rintro e w6 ⟨rfl, hb⟩
    have HB6 := Aside0.mk (below_step HB.out hb)
    clear hb
    go_wp2
    go_ret
    exact ⟨rfl, HB6.out⟩
  | true =>
    by_cases h1 : 500 < ws.length
    · have h1' : (ws.length : Int) > 500 := by omega
      go_wp2_with fail
      refine (lives_calls _).mono ?_
      rintro e w6 ⟨rfl, hb⟩
      have HB6 := Aside0.mk (below_step HB.out hb)
      clear hb
      go_wp2
      go_ret
      exact ⟨rfl, HB6.out⟩
    have h1' : ¬ (ws.length : Int) > 500 := by omega
    by_cases h2 : 500 < more.length
    · have h2' : (more.length : Int) > 500 := by omega
      go_wp2_with fail
      refine (lives_calls _).mono ?_
      rintro e w6 ⟨rfl, hb⟩
      have HB6 := Aside0.mk (below_step HB.out hb)
      clear hb
      go_wp2
      go_ret
      exact ⟨rfl, HB6.out⟩
    have h2' : ¬ (more.length : Int) > 500 := by omega
    obtain ⟨kg, hkg⟩ := (Good_ev HX.out.hw).rounds
    have HK := Aside0.mk hkg
    clear hkg
    go_wp2_with fail
    refine (value_Good.calls kg x.f0 x.f1 A c x.f2 (goodT x 64) _ (HX.out.below HB.out).hC HX.out.hc HK.out).mono ?_
    rintro e w6 ⟨rfl, hb⟩
    have n1 := Aside0.mk (below_step HB.out hb)
    have n2 := Aside0.mk (blk_below BX.out hb)
    clear HB hb BX cx0 cx1 cx2
    have HB := n1
    have BX := n2
    clear n1 n2
    have cx0 : w6.cell? ⟨gx, 0, none⟩ = some (.int .i64 x.f0) := (blk_cell BX.out 0).trans rfl
    have cx1 : w6.cell? ⟨gx, 1, none⟩ = some (.int .i64 x.f1) := (blk_cell BX.out 1).trans rfl
    have cx2 : w6.cell? ⟨gx, 2, none⟩ = some (.slice A x.f2.length c) := (blk_cell BX.out 2).trans rfl
    cases hg : goodT x 64 with
    | false =>
      go_wp2_with fail
      refine (lives_calls _).mono ?_
      rintro e w7 ⟨rfl, hb⟩
      have HB6 := Aside0.mk (below_step HB.out hb)
      clear hb
      go_wp2
      go_ret
      exact ⟨rfl, HB6.out⟩
    | true =>
      have hE := back_pure HX.out.hw hg (HN.out trivial) HBA.out.1 HBA.out.2.1 HBA.out.2.2 ws more (by omega)
      have hI := (encT_in base x ws (fun v hv => in64b (HF.out v hv)) (by have := words_nodes x; have := HN.out trivial; omega))
      have hL := encT_length base x ws
      have hwn := words_nodes x
      have hn5 := HN.out trivial
      have e1 : S24.mk x.f0 x.f1 x.f2 = x := by cases x; rfl
      have HK' := HK.out
      rw [hg] at HK'
      go_wp2_with fail
      refine (encode_ok kg x.f0 x.f1 A c x.f2 Aw cw ws base _ (HX.out.below HB.out).hC HX.out.hc (HW.out.below HB.out) HK' HBA.out.1 (by have := HBA.out.2.1; omega) HBA.out.2.2 (by rw [e1]; omega)).mono ?_
      rintro e w7 ⟨v2, rfl, hb, ho⟩
      rw [e1] at ho ⊢
      clear e1
      generalize encT base x ws = E at ho hE hI hL ⊢
      obtain ⟨u, ws2⟩ := E
      simp only at ho hE hI hL ⊢
      have HO := Aside0.mk ho
      have HB67 := Aside0.mk hb
      have HM7 := Aside0.mk (HM.out.below (below_step HB.out hb))
      have HX6 := Aside0.mk (HX.out.below HB.out)
      have HI := Aside0.mk hI
      have HE := Aside0.mk hE
      have HLL := Aside0.mk hL
      clear ho hb hI hE hL cx0 cx1 cx2 HM HX HW
      go_wp2_with (first
        | ((with_reducible refine gate_dst (N := 53) rfl ?_)
           refine print_append_row (k := .u64) (bytes := 8) w6.heap.size rfl (.tmp 51) (.tmp 52) 34 33 rfl Try.underlying34 (by kernel_rfl) (by decide) v2 ws2 more Am more.length cm rfl rfl HO.out HM7.out HB67.out HB67.out.size (by rw [HLL.out]; omega) ?_
           intro v3 w8 ho hb _ _
           obtain ⟨A8, c8, rfl, hc8, hr8⟩ := own_reads_le ho
           have HB8 := Aside0.mk (below_step HB.out hb)
           have BX8 := Aside0.mk (blk_below BX.out hb)
           have HR8 := Aside0.mk hr8
           have HC8 := Aside0.mk hc8
           have HX8 := Aside0.mk (HX6.out.below hb)
           clear ho hb hr8 hc8 HB BX HB67 HM7 HX6 HO))
      have hd := decode_calls u A8 (ws2 ++ more) c8 base w8 HR8.out HC8.out (by rw [List.length_append, HLL.out]; omega) (fun v hv => by
        rcases List.mem_append.1 hv with hv | hv
        · exact HI.out.2 v hv
        · exact in64b (HFM.out v hv)) HI.out.1.1 HI.out.1.2 HBA.out.1 (by have := HBA.out.2.1; omega)
      rw [HE.out, List.length_append] at hd
      refine hd.mono ?_
      rintro e w9 ⟨v4, rfl, hR, hb⟩
      obtain ⟨A9, c9, rfl⟩ := Kd.R_slice hR
      have HC9 := Aside0.mk (Kd.R_reads' hR).2
      have HB9 := Aside0.mk (below_step HB8.out hb)
      have BX9 := Aside0.mk (blk_below BX8.out hb)
      have HX9 := Aside0.mk (HX8.out.below hb)
      obtain ⟨ks, hks⟩ := (same_self HX9.out.hw).rounds
      have HS := Aside0.mk hks
      clear hR hb hd HB8 BX8 HX8 HC8 HR8 hks
      simp only at HC9
      have bx := blk_alloc BX9.out (.cells #[.int .i64 x.f0, .int .i64 x.f1, .slice A9 x.f2.length c9] 24)
      have by_ := blk_new w9 (.cells #[.int .i64 x.f0, .int .i64 x.f1, .slice A9 x.f2.length c9] 24)
      have HB := Aside0.mk (below_alloc HB9.out (.cells #[.int .i64 x.f0, .int .i64 x.f1, .slice A9 x.f2.length c9] 24))
      have HC := Aside0.mk (And.intro HC9.out.1 (Kd.C_below HC9.out.2 (below_alloc (Below.refl _ w9) (.cells #[.int .i64 x.f0, .int .i64 x.f1, .slice A9 x.f2.length c9] 24))))
      have HX := Aside0.mk (HX9.out.below (below_alloc (Below.refl _ w9) (.cells #[.int .i64 x.f0, .int .i64 x.f1, .slice A9 x.f2.length c9] 24)))
      have cx0 : (w9.alloc (.cells #[.int .i64 x.f0, .int .i64 x.f1, .slice A9 x.f2.length c9] 24)).cell? ⟨gx, 0, none⟩ = some (.int .i64 x.f0) := (blk_cell bx 0).trans rfl
      have cx1 : (w9.alloc (.cells #[.int .i64 x.f0, .int .i64 x.f1, .slice A9 x.f2.length c9] 24)).cell? ⟨gx, 1, none⟩ = some (.int .i64 x.f1) := (blk_cell bx 1).trans rfl
      have cx2 : (w9.alloc (.cells #[.int .i64 x.f0, .int .i64 x.f1, .slice A9 x.f2.length c9] 24)).cell? ⟨gx, 2, none⟩ = some (.slice A x.f2.length c) := (blk_cell bx 2).trans rfl
      have cy0 : (w9.alloc (.cells #[.int .i64 x.f0, .int .i64 x.f1, .slice A9 x.f2.length c9] 24)).cell? ⟨w9.heap.size, 0, none⟩ = some (.int .i64 x.f0) := (blk_cell by_ 0).trans rfl
      have cy1 : (w9.alloc (.cells #[.int .i64 x.f0, .int .i64 x.f1, .slice A9 x.f2.length c9] 24)).cell? ⟨w9.heap.size, 1, none⟩ = some (.int .i64 x.f1) := (blk_cell by_ 1).trans rfl
      have cy2 : (w9.alloc (.cells #[.int .i64 x.f0, .int .i64 x.f1, .slice A9 x.f2.length c9] 24)).cell? ⟨w9.heap.size, 2, none⟩ = some (.slice A9 x.f2.length c9) := (blk_cell by_ 2).trans rfl
      clear bx by_ HC9 HB9 HX9 BX9
      go_wp2_with fail
      refine (postbagref15_Same.calls ks x.f0 x.f1 A9 c9 x.f2 x.f0 x.f1 A c x.f2 true _ HC.out.2 HC.out.1 HX.out.hC HX.out.hc HS.out).mono ?_
      rintro e w10 ⟨rfl, hb⟩
      have HB10 := Aside0.mk (below_step HB.out hb)
      clear hb
      go_wp2_with fail
      refine (lives_calls _).mono ?_
      rintro e w11 ⟨rfl, hb⟩
      have HB11 := Aside0.mk (below_step HB10.out hb)
      clear hb
      go_wp2
      go_ret
      exact ⟨rfl, HB11.out⟩
end Go.Proofs.Ytpgbpcnifhnjjaa.PValueOps
