/- value.Text, at any value of some 400 parts that can be read: its text, and that nothing that was there has turned. -/
import Derived.Test.YtpgbpcnifhnjjaaDoorTextPut
import Derived.Test.YtpgbpcnifhnjjaaDoorLight
import Derived.Laws.EntriesVeiled
namespace Go.Proofs.YtpgbpcnifhnjjaaDoor.PValueTells
open Go.RowKit Go.Proofs.YtpgbpcnifhnjjaaDoorW.PrintWords Go.Proofs.YtpgbpcnifhnjjaaDoorW.PrintLast Go.Proofs.YtpgbpcnifhnjjaaDoorW.PrintMore
set_option linter.unusedVariables false
set_option linter.unusedSimpArgs false

set_option maxHeartbeats 1000000 in
set_option maxRecDepth 100000 in
theorem text_calls (x : S24) (A : Option Addr) (c : Nat) (w : World) (hx : Arg w x A c) (ht : Lib.TabIs Tryd.prog w "internal/strconv.uint64pow10" .u64 Lib.pow10Tab) (hn : nodesT x ≤ 1000) :
    Calls Tryd.prog 8 #[.agg #[.int .i64 x.f0, .int .i64 x.f1, .slice A x.f2.length c]] w fun e w' => e = .returned (.string (str (textT x))) ∧ Below w.heap.size w w' := by
  have HX := Aside0.mk hx
  have HT := Aside0.mk (Lib.tabBelow_of_tabIs ht)
  have HL := Aside0.mk (show (textT x).length ≤ 100000 by have := textT_len hx.hw; omega)
  have HB := Aside0.mk (Below.refl w.heap.size w)
  clear hx ht hn
  have hmf : ∀ (fn : Fn) (first cap : Array Value) (w : World), (Instr.makeFunc fn first cap).run Tryd.prog w = .ok (.func fn first cap) w := fun _ _ _ _ => rfl
  go_enter Tryd.func8, Tryd.ntmps8
  go_wp2_with (first
    | ((with_reducible refine gate_dst (N := 1) rfl ?_); refine box_event ?hg (N := 1) ?hd (cs := #[.int .i64 x.f0, .int .i64 x.f1, .slice A x.f2.length c]) (t := 24) ?hr ?_; (case hd => rfl); (case hg => rfl); (case hr => first | (go_simp; done) | (go_simp; rfl))
       intro gx hg w3 hbox hb
       have n1 := Aside0.mk (below_step HB.out hb)
       have BX := Aside0.mk hbox
       clear HB hg hbox hb
       have HB := n1
       clear n1)
    | ((with_reducible refine gate_dst (N := 3) rfl ?_); refine box_event ?hg (N := 3) ?hd (cs := #[.pointer none, .slice none 0 0]) (t := 42) ?hr ?_; (case hd => rfl); (case hg => rfl); (case hr => first | (go_simp; done) | (go_simp; rfl))
       intro b hg w4 hbox hb
       have n1 := Aside0.mk (below_step HB.out hb)
       have n2 := Aside0.mk (blk_below BX.out hb)
       have BB := Aside0.mk hbox
       have NB := Aside0.mk (show w.heap.size ≤ b by rw [hg]; exact HB.out.size)
       clear HB BX hg hbox hb
       have HB := n1
       have BX := n2
       clear n1 n2)
    | ((with_reducible refine gate_dst (N := 4) rfl ?_); refine box_event ?hg (N := 4) ?hd (cs := #[.nilFunc]) (t := 43) ?hr ?_; (case hd => rfl); (case hg => rfl); (case hr => first | (go_simp; done) | (go_simp; rfl))
       intro gp hg w5 hbox hb
       have n1 := Aside0.mk (below_step HB.out hb)
       have n2 := Aside0.mk (blk_below BX.out hb)
       have n3 := Aside0.mk (blk_below BB.out hb)
       have BP := Aside0.mk hbox
       have NP := Aside0.mk (show w.heap.size ≤ gp by rw [hg]; exact HB.out.size)
       have NPX := Aside0.mk (show gx ≠ gp by have := blk_lt BX.out; omega)
       have NPB := Aside0.mk (show b ≠ gp by have := blk_lt BB.out; omega)
       clear HB BX BB hg hbox hb
       have HB := n1
       have BX := n2
       have BB := n3
       clear n1 n2 n3
       have cp : w5.cell? ⟨gp, 0, none⟩ = some .nilFunc := (blk_cell BP.out 0).trans rfl
       have fp := blk_frozen BP.out 0)
    | ((with_reducible refine gate_store (t := 43) (p := 4) rfl ?_); refine store_event (t := 43) (p := 4) (v := ?vo2) (w1 := w5.setCell ⟨gp, 0, none⟩ (.func (.func 19) #[] #[.pointer (some ⟨b, 0, none⟩), .pointer (some ⟨gp, 0, none⟩)])) ?hg ?ho ?hn ?hr ?_; (case ho => rfl); (case hg => rfl); (case hn => rfl); (case hr => first | (go_simp; done) | (go_simp; rfl))
       intro w6 hw
       have n1 := Aside0.mk (show Below w.heap.size w w6 by rw [hw]; exact below_set HB.out NP.out)
       have n2 := Aside0.mk (show w6.heap[gx]? = some (.cells #[.int .i64 x.f0, .int .i64 x.f1, .slice A x.f2.length c] 24 (0, 0)) by rw [hw]; exact blk_far BX.out NPX.out _)
       have n3 := Aside0.mk (show TxtSt w6 w.heap.size b gp [] by
         rw [hw]
         exact ⟨.inl ⟨NB.out, .slice none 0 0, blk_far BB.out NPB.out _, World.ownsRowF_of (World.ownsRow_nil _ _ _ _), by simp [Value.ownBlock]⟩, blk_put BP.out 0 _ rfl, fun e => NPB.out e.symm⟩)
       clear HB BX BB BP hw cp fp
       have HB := n1
       have BX := n2
       have HS := n3
       clear n1 n2 n3
       have cx0 : w6.cell? ⟨gx, 0, none⟩ = some (.int .i64 x.f0) := (blk_cell BX.out 0).trans rfl
       have cx1 : w6.cell? ⟨gx, 1, none⟩ = some (.int .i64 x.f1) := (blk_cell BX.out 1).trans rfl
       have cx2 : w6.cell? ⟨gx, 2, none⟩ = some (.slice A x.f2.length c) := (blk_cell BX.out 2).trans rfl
       have cp : w6.cell? ⟨gp, 0, none⟩ = some (.func (.func 19) #[] #[.pointer (some ⟨b, 0, none⟩), .pointer (some ⟨gp, 0, none⟩)]) := (blk_cell HS.out.hp 0).trans rfl))
  refine (tput_calls w HT.out b gp _ x A c [] _ (Nat.lt_succ_self _) HX.out.hw HX.out.hC HX.out.hc HB.out HS.out (by have := HL.out; simp; omega)).mono ?_
  rintro e w7 ⟨rfl, hb, hs, hk⟩
  have HB7 := Aside0.mk hb
  have HS7 := Aside0.mk hs
  clear HB HS BX cx0 cx1 cx2 cp hb hs hk
  go_wp2_with fail
  refine (Tryd.Builder_String_any_k w.heap.size b (textT x) w7 HS7.out.hb HB7.out.size).mono ?_
  rintro e w8 ⟨rfl, -, hb, -⟩
  have HB8 := Aside0.mk (HB7.out.trans hb)
  clear hb
  go_wp2
  go_ret
  exact ⟨rfl, HB8.out⟩
end Go.Proofs.YtpgbpcnifhnjjaaDoor.PValueTells
