/- value.Encode, at any value that can be read, any words, any base: its three results, and that nothing that was there has turned. -/
import Derived.Test.YtpgbpcnifhnjjaaDoorEncPut
import Derived.Test.YtpgbpcnifhnjjaaDoorPValueTellsx3
import Derived.Laws.EntriesVeiled
namespace Go.Proofs.YtpgbpcnifhnjjaaDoor.PValueTells
open Go.RowKit Go.Proofs.YtpgbpcnifhnjjaaDoorW.PrintWords Go.Proofs.YtpgbpcnifhnjjaaDoorW.PrintLast Go.Proofs.YtpgbpcnifhnjjaaDoorW.PrintMore
set_option linter.unusedVariables false
set_option linter.unusedSimpArgs false

set_option maxHeartbeats 2000000 in
set_option maxRecDepth 100000 in
theorem encode_ok (k : Nat) (x0 x1 : Int) (A : Option Addr) (c : Nat) (l : List S24) (Aw : Option Addr) (cw : Nat) (ws : List Int) (base : Int) (w : World) (hC : Kd.C k24 w A l.length l) (hc : l.length ≤ c) (hW : ReadsInt w .u64 Aw ws.length ws)
    (hg : value_Good.f k x0 x1 l = some true) (hb0 : 0 ≤ base) (hb1 : base ≤ 18446744073709551615) (hb8 : base % 8 = 0) (hbd : ws.length + wordsT ⟨x0, x1, l⟩ ≤ 1000000000000) :
    Calls Tryd.prog 18 #[.agg #[.int .i64 x0, .int .i64 x1, .slice A l.length c], .slice Aw ws.length cw, .int .u64 base] w
      fun e w' => ∃ v2, e = .returned (.tuple #[.int .u64 (encT base ⟨x0, x1, l⟩ ws).1, v2, .int .i64 0]) ∧ Below w.heap.size w w' ∧ w'.ownsRow w.heap.size 34 1 v2 (encT base ⟨x0, x1, l⟩ ws).2.length (nums .u64 (encT base ⟨x0, x1, l⟩ ws).2) := by
  have HC := Aside0.mk hC
  have HW := Aside0.mk hW
  have HG := Aside0.mk hg
  have HBD := Aside0.mk hbd
  have hwl : ws.length ≤ 1000000000000 := by omega
  have HB := Aside0.mk (Below.refl w.heap.size w)
  have HB1 := Aside0.mk hb1
  have hm8 : (base % 8 != 0) = false := by simp [hb8]
  clear hC hW hg hbd hb8 hb1
  have hmf : ∀ (fn : Fn) (first cap : Array Value) (w : World), (Instr.makeFunc fn first cap).run Tryd.prog w = .ok (.func fn first cap) w := fun _ _ _ _ => rfl
  go_enter Tryd.func18, Tryd.ntmps18
  go_wp2_with (first
    | ((with_reducible refine gate_dst (N := 3) rfl ?_); refine box_event ?hg (N := 3) ?hd (cs := #[.int .i64 x0, .int .i64 x1, .slice A l.length c]) (t := 24) ?hr ?_; (case hd => rfl); (case hg => rfl); (case hr => first | (go_simp; done) | (go_simp; rfl))
       intro gx hg w3 hbox hb
       have n1 := Aside0.mk (below_step HB.out hb)
       have BX := Aside0.mk hbox
       have NX := Aside0.mk (show w.heap.size ≤ gx by rw [hg]; exact HB.out.size)
       clear HB hg hbox hb
       have HB := n1
       clear n1
       have cx0 : w3.cell? ⟨gx, 0, none⟩ = some (.int .i64 x0) := (blk_cell BX.out 0).trans rfl
       have cx1 : w3.cell? ⟨gx, 1, none⟩ = some (.int .i64 x1) := (blk_cell BX.out 1).trans rfl
       have cx2 : w3.cell? ⟨gx, 2, none⟩ = some (.slice A l.length c) := (blk_cell BX.out 2).trans rfl)
    | ((with_reducible refine gate_dst (N := 5) rfl ?_); refine box_event ?hg (N := 5) ?hd (cs := #[.int .u64 base]) (t := 34) ?hr ?_; (case hd => rfl); (case hg => rfl); (case hr => first | (go_simp; done) | (go_simp; rfl))
       intro gb hg w4 hbox hb
       have n1 := Aside0.mk (below_step HB.out hb)
       have n2 := Aside0.mk (blk_below BX.out hb)
       have BB := Aside0.mk hbox
       have NB := Aside0.mk (show w.heap.size ≤ gb by rw [hg]; exact HB.out.size)
       clear HB hg hbox hb BX cx0 cx1 cx2
       have HB := n1
       have BX := n2
       clear n1 n2
       have cx0 : w4.cell? ⟨gx, 0, none⟩ = some (.int .i64 x0) := (blk_cell BX.out 0).trans rfl
       have cx1 : w4.cell? ⟨gx, 1, none⟩ = some (.int .i64 x1) := (blk_cell BX.out 1).trans rfl
       have cx2 : w4.cell? ⟨gx, 2, none⟩ = some (.slice A l.length c) := (blk_cell BX.out 2).trans rfl))
  refine (value_Good.calls k x0 x1 A c l true w4 (Kd.C_below HC.out HB.out) hc HG.out).mono ?_
  rintro e w5 ⟨rfl, hb⟩
  have n1 := Aside0.mk (below_step HB.out hb)
  have n2 := Aside0.mk (blk_below BX.out hb)
  have n3 := Aside0.mk (blk_below BB.out hb)
  clear HB hb BX BB cx0 cx1 cx2
  have HB := n1
  have BX := n2
  have BB := n3
  clear n1 n2 n3
  have cb : w5.cell? ⟨gb, 0, none⟩ = some (.int .u64 base) := (blk_cell BB.out 0).trans rfl
  go_wp2_with (first
    | ((with_reducible refine gate_dst (N := 22) rfl ?_); at_builtin; refine print_append_row (w0 := w) w.heap.size rfl _ _ 35 34 .u64 8 rfl Tryd.underlying35 enc_info (by decide) (.slice (some ⟨w5.heap.size, 0, none⟩) 0 0) [] ws Aw ws.length cw ?h1 ?h2 ?h3 ?h4 ?h5 ?h6 ?h7 ?_; (case h1 => rfl); (case h2 => rfl); (case h3 => exact World.ownsRow_made w5 #[] 0 HB.out.size (by decide) rfl); (case h4 => exact (HW.out.below HB.out).allocS _); (case h5 => exact below_alloc HB.out _); (case h6 => exact (below_alloc HB.out _).size); (case h7 => simp; omega)
       intro v1 w6 hown hb hg hat
       rw [List.nil_append] at hown
       obtain ⟨A1, c1, rfl⟩ := own_slice hown
       have n1 := Aside0.mk hb
       have n2 := Aside0.mk (blk_grown (blk_alloc BX.out _) hg (by have h5 := blk_lt BX.out; simp [Value.ownBlock]; omega))
       have n3 := Aside0.mk (blk_grown (blk_alloc BB.out _) hg (by have h5 := blk_lt BB.out; simp [Value.ownBlock]; omega))
       have HO := Aside0.mk hown
       have NBO := Aside0.mk (show some gb ≠ (Value.slice A1 ws.length c1).ownBlock by
         have h5 := blk_lt BB.out
         rcases hat with h | ⟨b, h, hb6⟩
         · rw [h]; simp [Value.ownBlock]; omega
         · rw [h]; simp at hb6; intro he; injection he with he; omega)
       clear HB BX BB hb hown hg hat cb
       have HB := n1
       have BX := n2
       have BB := n3
       clear n1 n2 n3)
    | ((with_reducible refine gate_dst (N := 9) rfl ?_); refine box_event ?hg (N := 9) ?hd (cs := #[.slice none 0 0]) (t := 35) ?hr ?_; (case hd => rfl); (case hg => rfl); (case hr => first | (go_simp; done) | (go_simp; rfl))
       intro go hg w7 hbox hb
       have n1 := Aside0.mk (below_step HB.out hb)
       have n2 := Aside0.mk (blk_below BX.out hb)
       have n3 := Aside0.mk (blk_below BB.out hb)
       have n4 := Aside0.mk (pw_own_below HO.out hb)
       have BO := Aside0.mk hbox
       have NO := Aside0.mk (show w.heap.size ≤ go by rw [hg]; exact HB.out.size)
       have NOB := Aside0.mk (show gb ≠ go by have := blk_lt BB.out; omega)
       have NOX := Aside0.mk (show gx ≠ go by have := blk_lt BX.out; omega)
       clear HB BX BB HO hg hbox hb
       have HB := n1
       have BX := n2
       have BB := n3
       have HO := n4
       clear n1 n2 n3 n4
       have co : w7.cell? ⟨go, 0, none⟩ = some (.slice none 0 0) := (blk_cell BO.out 0).trans rfl
       have fo := blk_frozen BO.out 0)
    | ((with_reducible refine gate_store (t := 35) (p := 9) rfl ?_); refine store_event (t := 35) (p := 9) (v := ?vo1) (w1 := w7.setCell ⟨go, 0, none⟩ (.slice A1 ws.length c1)) ?hg ?ho ?hn ?hr ?_; (case ho => rfl); (case hg => rfl); (case hn => rfl); (case hr => first | (go_simp; done) | (go_simp; rfl))
       intro w8 hw
       have n1 := Aside0.mk (show Below w.heap.size w w8 by rw [hw]; exact below_set HB.out NO.out)
       have n2 := Aside0.mk (show w8.heap[gx]? = some (.cells #[.int .i64 x0, .int .i64 x1, .slice A l.length c] 24 (0, 0)) by rw [hw]; exact blk_far BX.out NOX.out _)
       have n3 := Aside0.mk (show w8.heap[gb]? = some (.cells #[.int .u64 base] 34 (0, 0)) by rw [hw]; exact blk_far BB.out NOB.out _)
       have n4 := Aside0.mk (show w8.ownsRow w.heap.size 34 1 (.slice A1 ws.length c1) ws.length (nums .u64 ws) by rw [hw]; exact own_setCell HO.out (own_ne HO.out BO.out (by decide)) _)
       have n5 := Aside0.mk (show w8.heap[go]? = some (.cells #[.slice A1 ws.length c1] 35 (0, 0)) by rw [hw]; exact blk_put BO.out 0 _ rfl)
       clear HB BX BB HO BO hw co fo
       have HB := n1
       have BX := n2
       have BB := n3
       have HO := n4
       have BO := n5
       clear n1 n2 n3 n4 n5)
    | ((with_reducible refine gate_dst (N := 10) rfl ?_); refine box_event ?hg (N := 10) ?hd (cs := #[.nilFunc]) (t := 54) ?hr ?_; (case hd => rfl); (case hg => rfl); (case hr => first | (go_simp; done) | (go_simp; rfl))
       intro gp hg w9 hbox hb
       have n1 := Aside0.mk (below_step HB.out hb)
       have n2 := Aside0.mk (blk_below BX.out hb)
       have n3 := Aside0.mk (blk_below BB.out hb)
       have n4 := Aside0.mk (pw_own_below HO.out hb)
       have n5 := Aside0.mk (blk_below BO.out hb)
       have BP := Aside0.mk hbox
       have NP := Aside0.mk (show w.heap.size ≤ gp by rw [hg]; exact HB.out.size)
       have NPB := Aside0.mk (show gb ≠ gp by have := blk_lt BB.out; omega)
       have NPX := Aside0.mk (show gx ≠ gp by have := blk_lt BX.out; omega)
       have NPO := Aside0.mk (show go ≠ gp by have := blk_lt BO.out; omega)
       clear HB BX BB HO BO hg hbox hb
       have HB := n1
       have BX := n2
       have BB := n3
       have HO := n4
       have BO := n5
       clear n1 n2 n3 n4 n5
       have cp : w9.cell? ⟨gp, 0, none⟩ = some .nilFunc := (blk_cell BP.out 0).trans rfl
       have fp := blk_frozen BP.out 0)
    | ((with_reducible refine gate_store (t := 54) (p := 10) rfl ?_); refine store_event (t := 54) (p := 10) (v := ?vo2) (w1 := w9.setCell ⟨gp, 0, none⟩ (.func (.func 26) #[] #[.pointer (some ⟨go, 0, none⟩), .pointer (some ⟨gp, 0, none⟩), .pointer (some ⟨gb, 0, none⟩)])) ?hg ?ho ?hn ?hr ?_; (case ho => rfl); (case hg => rfl); (case hn => rfl); (case hr => first | (go_simp; done) | (go_simp; rfl))
       intro w10 hw
       have n1 := Aside0.mk (show Below w.heap.size w w10 by rw [hw]; exact below_set HB.out NP.out)
       have n2 := Aside0.mk (show w10.heap[gx]? = some (.cells #[.int .i64 x0, .int .i64 x1, .slice A l.length c] 24 (0, 0)) by rw [hw]; exact blk_far BX.out NPX.out _)
       have n3 := Aside0.mk (show EncSt w10 w.heap.size go gp gb base (.slice A1 ws.length c1) ws by
         rw [hw]
         exact ⟨blk_far BO.out NPO.out _, blk_put BP.out 0 _ rfl, blk_far BB.out NPB.out _, own_setCell HO.out (own_ne HO.out BP.out (by decide)) _, NBO.out, NO.out, NP.out, NB.out⟩)
       clear HB BX BB HO BO BP hw cp fp
       have HB := n1
       have BX := n2
       have HS := n3
       clear n1 n2 n3
       have cx0 : w10.cell? ⟨gx, 0, none⟩ = some (.int .i64 x0) := (blk_cell BX.out 0).trans rfl
       have cx1 : w10.cell? ⟨gx, 1, none⟩ = some (.int .i64 x1) := (blk_cell BX.out 1).trans rfl
       have cx2 : w10.cell? ⟨gx, 2, none⟩ = some (.slice A l.length c) := (blk_cell BX.out 2).trans rfl
       have cp : w10.cell? ⟨gp, 0, none⟩ = some (.func (.func 26) #[] #[.pointer (some ⟨go, 0, none⟩), .pointer (some ⟨gp, 0, none⟩), .pointer (some ⟨gb, 0, none⟩)]) := (blk_cell HS.out.hp 0).trans rfl))
  refine (put_calls w go gp gb base _ ⟨x0, x1, l⟩ A c (.slice A1 ws.length c1) ws w10 (Nat.lt_succ_self _) HC.out hc HB.out HS.out HBD.out).mono ?_
  rintro e w11 ⟨rfl, hb, v2, hs⟩
  obtain ⟨A2, c2, rfl⟩ := hs.slice
  obtain ⟨n2, hn2⟩ : ∃ n2, n2 = (encT base ⟨x0, x1, l⟩ ws).2.length := ⟨_, rfl⟩
  rw [← hn2] at hs
  have HN := Aside0.mk hn2
  have HS' := Aside0.mk hs
  have HB' := Aside0.mk hb
  clear HS HB BX cx0 cx1 cx2 cp hn2 hs hb
  have co : w11.cell? ⟨go, 0, none⟩ = some (.slice A2 n2 c2) := (blk_cell HS'.out.ho 0).trans rfl
  go_wp2_with fail
  go_quiet (fail)
  go_wp2
  go_ret3
  refine ⟨_, rfl, pw_below_drewN HB'.out nq, ?_⟩
  have h := pw_own_drewN HS'.out.own nq
  exact h

set_option maxHeartbeats 2000000 in
set_option maxRecDepth 100000 in
theorem encode_no (k : Nat) (x0 x1 : Int) (A : Option Addr) (c : Nat) (l : List S24) (v : Value) (base : Int) (g : Bool) (w : World) (hC : Kd.C k24 w A l.length l) (hc : l.length ≤ c)
    (hg : value_Good.f k x0 x1 l = some g) (hb0 : 0 ≤ base) (hb1 : base ≤ 18446744073709551615) (hno : g = false ∨ base % 8 ≠ 0) :
    Calls Tryd.prog 18 #[.agg #[.int .i64 x0, .int .i64 x1, .slice A l.length c], v, .int .u64 base] w
      fun e w' => e = .returned (.tuple #[.int .u64 0, .slice none 0 0, .int .i64 151]) ∧ Below w.heap.size w w' := by
  have HC := Aside0.mk hC
  have HG := Aside0.mk hg
  have HB := Aside0.mk (Below.refl w.heap.size w)
  clear hC hg hb1
  cases g with
  | false =>
    clear hno
    go_enter Tryd.func18, Tryd.ntmps18
    go_wp2_with (first
      | ((with_reducible refine gate_dst (N := 3) rfl ?_); refine box_event ?hg (N := 3) ?hd (cs := #[.int .i64 x0, .int .i64 x1, .slice A l.length c]) (t := 24) ?hr ?_; (case hd => rfl); (case hg => rfl); (case hr => first | (go_simp; done) | (go_simp; rfl))
         intro gx hg w3 hbox hb
         have n1 := Aside0.mk (below_step HB.out hb)
         have BX := Aside0.mk hbox
         have NX := Aside0.mk (show w.heap.size ≤ gx by rw [hg]; exact HB.out.size)
         clear HB hg hbox hb
         have HB := n1
         clear n1
         have cx0 : w3.cell? ⟨gx, 0, none⟩ = some (.int .i64 x0) := (blk_cell BX.out 0).trans rfl
         have cx1 : w3.cell? ⟨gx, 1, none⟩ = some (.int .i64 x1) := (blk_cell BX.out 1).trans rfl
         have cx2 : w3.cell? ⟨gx, 2, none⟩ = some (.slice A l.length c) := (blk_cell BX.out 2).trans rfl)
      | ((with_reducible refine gate_dst (N := 5) rfl ?_); refine box_event ?hg (N := 5) ?hd (cs := #[.int .u64 base]) (t := 34) ?hr ?_; (case hd => rfl); (case hg => rfl); (case hr => first | (go_simp; done) | (go_simp; rfl))
         intro gb hg w4 hbox hb
         have n1 := Aside0.mk (below_step HB.out hb)
         have n2 := Aside0.mk (blk_below BX.out hb)
         have BB := Aside0.mk hbox
         have NB := Aside0.mk (show w.heap.size ≤ gb by rw [hg]; exact HB.out.size)
         clear HB hg hbox hb BX cx0 cx1 cx2
         have HB := n1
         have BX := n2
         clear n1 n2
         have cx0 : w4.cell? ⟨gx, 0, none⟩ = some (.int .i64 x0) := (blk_cell BX.out 0).trans rfl
         have cx1 : w4.cell? ⟨gx, 1, none⟩ = some (.int .i64 x1) := (blk_cell BX.out 1).trans rfl
         have cx2 : w4.cell? ⟨gx, 2, none⟩ = some (.slice A l.length c) := (blk_cell BX.out 2).trans rfl))
    refine (value_Good.calls k x0 x1 A c l false w4 (Kd.C_below HC.out HB.out) hc HG.out).mono ?_
    rintro e w5 ⟨rfl, hb⟩
    have n1 := Aside0.mk (below_step HB.out hb)
    clear HB hb BX BB cx0 cx1 cx2
    go_wp2
    go_ret3
    exact ⟨rfl, n1.out⟩
  | true =>
    have hm8 : (base % 8 != 0) = true := by simpa using hno
    clear hno
    go_enter Tryd.func18, Tryd.ntmps18
    go_wp2_with (first
      | ((with_reducible refine gate_dst (N := 3) rfl ?_); refine box_event ?hg (N := 3) ?hd (cs := #[.int .i64 x0, .int .i64 x1, .slice A l.length c]) (t := 24) ?hr ?_; (case hd => rfl); (case hg => rfl); (case hr => first | (go_simp; done) | (go_simp; rfl))
         intro gx hg w3 hbox hb
         have n1 := Aside0.mk (below_step HB.out hb)
         have BX := Aside0.mk hbox
         have NX := Aside0.mk (show w.heap.size ≤ gx by rw [hg]; exact HB.out.size)
         clear HB hg hbox hb
         have HB := n1
         clear n1
         have cx0 : w3.cell? ⟨gx, 0, none⟩ = some (.int .i64 x0) := (blk_cell BX.out 0).trans rfl
         have cx1 : w3.cell? ⟨gx, 1, none⟩ = some (.int .i64 x1) := (blk_cell BX.out 1).trans rfl
         have cx2 : w3.cell? ⟨gx, 2, none⟩ = some (.slice A l.length c) := (blk_cell BX.out 2).trans rfl)
      | ((with_reducible refine gate_dst (N := 5) rfl ?_); refine box_event ?hg (N := 5) ?hd (cs := #[.int .u64 base]) (t := 34) ?hr ?_; (case hd => rfl); (case hg => rfl); (case hr => first | (go_simp; done) | (go_simp; rfl))
         intro gb hg w4 hbox hb
         have n1 := Aside0.mk (below_step HB.out hb)
         have n2 := Aside0.mk (blk_below BX.out hb)
         have BB := Aside0.mk hbox
         have NB := Aside0.mk (show w.heap.size ≤ gb by rw [hg]; exact HB.out.size)
         clear HB hg hbox hb BX cx0 cx1 cx2
         have HB := n1
         have BX := n2
         clear n1 n2
         have cx0 : w4.cell? ⟨gx, 0, none⟩ = some (.int .i64 x0) := (blk_cell BX.out 0).trans rfl
         have cx1 : w4.cell? ⟨gx, 1, none⟩ = some (.int .i64 x1) := (blk_cell BX.out 1).trans rfl
         have cx2 : w4.cell? ⟨gx, 2, none⟩ = some (.slice A l.length c) := (blk_cell BX.out 2).trans rfl))
    refine (value_Good.calls k x0 x1 A c l true w4 (Kd.C_below HC.out HB.out) hc HG.out).mono ?_
    rintro e w5 ⟨rfl, hb⟩
    have n1 := Aside0.mk (below_step HB.out hb)
    have n3 := Aside0.mk (blk_below BB.out hb)
    clear HB hb BX BB cx0 cx1 cx2
    have cb : w5.cell? ⟨gb, 0, none⟩ = some (.int .u64 base) := (blk_cell n3.out 0).trans rfl
    go_wp2
    go_ret3
    exact ⟨rfl, n1.out⟩
end Go.Proofs.YtpgbpcnifhnjjaaDoor.PValueTells
