/- Text's inner function, called with any value that can be read: it lays the value's text behind what lay there. -/
import Derived.Test.YtpgbpcnifhnjjaaDoorTextPure
import Derived.Test.YtpgbpcnifhnjjaaDoorEncDef
import Derived.Test.YtpgbpcnifhnjjaaDoorBuildW
import Derived.Lib.AppendIntMem
namespace Go.Proofs.YtpgbpcnifhnjjaaDoor.PValueTells
open Go.RowKit Go.Proofs.YtpgbpcnifhnjjaaDoorW.PrintWords Go.Proofs.YtpgbpcnifhnjjaaDoorW.PrintLast Go.Proofs.YtpgbpcnifhnjjaaDoorW.PrintMore
set_option linter.unusedVariables false
set_option linter.unusedSimpArgs false
theorem rowF_below {w w1 : World} {B : Nat} {e : TypeId} {v : Value} {n : Nat} {xs : List Value} (h : w.ownsRowF B e 1 v n xs) (hb : Below w.heap.size w w1) : w1.ownsRowF B e 1 v n xs := by
  refine ⟨h.1, ?_⟩
  rcases h.2 with h | ⟨g, cap, cur, fz, hv, hbg, hg, h1⟩
  · exact .inl h
  · exact .inr ⟨g, cap, cur, fz, hv, hbg, blk_below hg hb, h1⟩
theorem bld_below {w w1 : World} {B b : Nat} {bs : List Value} (h : Lib.IsBuilderF 42 5 B b bs w) (hb : Below w.heap.size w w1) : Lib.IsBuilderF 42 5 B b bs w1 := by
  rcases h with ⟨h0, v, h1, h2, h3⟩ | ⟨h0, v, h1, h2, h3⟩
  · exact .inl ⟨h0, v, blk_below h1 hb, rowF_below h2 hb, h3⟩
  · exact .inr ⟨h0, v, blk_below h1 hb, rowF_below h2 hb, h3⟩
theorem kept_below {w w1 : World} {b : Option Nat} (hb : Below w.heap.size w w1) : Lib.OthersKept 5 b w w1 := fun k o h _ _ => blk_below h hb
theorem kept_blk {w w1 : World} {b k : Nat} {cs : Array Value} {t : TypeId} {fz : Nat × Nat} (h : Lib.OthersKept 5 (some b) w w1) (hk : w.heap[k]? = some (.cells cs t fz)) (hne : k ≠ b) (ht : t ≠ 5) : w1.heap[k]? = some (.cells cs t fz) :=
  h k _ hk (fun e => hne (Option.some.inj e)) (fun c f e => ht (by injection e))
/-- The two variables of Text that its inner function shares: the builder and the function itself; what the builder holds. -/
structure TxtSt (W : World) (B b gp : Nat) (acc : List UInt8) : Prop where
  hb : Lib.IsBuilderF 42 5 B b (Lib.byteCells acc) W
  hp : W.heap[gp]? = some (.cells #[.func (.func 19) #[] #[.pointer (some ⟨b, 0, none⟩), .pointer (some ⟨gp, 0, none⟩)]] 43 (0, 0))
  ne : gp ≠ b
theorem TxtSt.below {W w1 : World} {B b gp : Nat} {acc : List UInt8} (h : TxtSt W B b gp acc) (hb : Below W.heap.size W w1) : TxtSt w1 B b gp acc := ⟨bld_below h.hb hb, blk_below h.hp hb, h.ne⟩
theorem TxtSt.lt {W : World} {B b gp : Nat} {acc : List UInt8} (h : TxtSt W B b gp acc) : b < W.heap.size := by
  rcases h.hb with ⟨_, v, h1, _⟩ | ⟨_, v, h1, _⟩
  · exact blk_lt h1
  · exact blk_lt h1
theorem write_str (w0 : World) {w : World} {b gp : Nat} {acc : List UInt8} (s : List UInt8) (h : TxtSt w w0.heap.size b gp acc) (hB : Below w0.heap.size w0 w) (hl : acc.length + s.length ≤ 10000000000) :
    Calls Tryd.prog 20 #[.pointer (some ⟨b, 0, none⟩), .string (str s)] w fun e w' => e = .returned (.tuple #[.int .i64 (str s).size, .nilIface]) ∧ TxtSt w' w0.heap.size b gp (acc ++ s) ∧ Below w0.heap.size w0 w' ∧ Lib.OthersKept 5 (some b) w w' := by
  refine (write_k w0.heap.size b (Lib.byteCells acc) (str s) w h.hb (by rw [Lib.byteCells_length, str_size]; omega) hB.size).mono ?_
  rintro e w' ⟨rfl, h1, h2, h3⟩
  rw [Lib.strCells_eq] at h1
  have e1 : (str s).data.toList = s := by simp [str]
  rw [e1, ← Lib.byteCells_append] at h1
  exact ⟨rfl, ⟨h1, kept_blk h3 h.hp h.ne (by decide), h.ne⟩, hB.trans h2, h3⟩
theorem itoa_str (w0 : World) {w : World} (n : Int) (h0 : -9223372036854775808 ≤ n) (h1 : n ≤ 9223372036854775807) (ht : Lib.TabBelow Tryd.prog w0.heap.size w0 "internal/strconv.uint64pow10" .u64 Lib.pow10Tab) (hB : Below w0.heap.size w0 w) :
    Calls Tryd.prog 21 #[.int .i64 n] w fun e w' => e = .returned (.string (str (Lib.itoa n))) ∧ Below w.heap.size w w' := by
  refine (Tryd.strconv_Itoa n h0 h1 w (ht w hB)).mono ?_
  rintro e w' ⟨rfl, k, os, rfl⟩
  exact ⟨rfl, Lib.below_grow _ _ (Nat.le_refl _) _ _⟩

set_option maxHeartbeats 1000000 in
set_option maxRecDepth 100000 in
theorem tput_calls (w0 : World) (ht : Lib.TabBelow Tryd.prog w0.heap.size w0 "internal/strconv.uint64pow10" .u64 Lib.pow10Tab) (b gp : Nat) : ∀ (m : Nat) (x : S24) (A : Option Addr) (c : Nat) (acc : List UInt8) (w : World), SizeOf.sizeOf x < m → WfT x →
    Kd.C k24 w0 A x.f2.length x.f2 → x.f2.length ≤ c → Below w0.heap.size w0 w → TxtSt w w0.heap.size b gp acc → acc.length + (textT x).length ≤ 1000000000 →
    Calls Tryd.prog 19 #[.agg #[.int .i64 x.f0, .int .i64 x.f1, .slice A x.f2.length c], .pointer (some ⟨b, 0, none⟩), .pointer (some ⟨gp, 0, none⟩)] w
      fun e w' => e = .returned (.tuple #[]) ∧ Below w0.heap.size w0 w' ∧ TxtSt w' w0.heap.size b gp (acc ++ textT x) ∧ Lib.OthersKept 5 (some b) w w' := by
  intro m
  induction m with
  | zero => intro x A c acc w h; omega
  | succ m ih =>
    rintro ⟨kind, n, l⟩ A c acc w hm hwf hC hc hB hS hbd
    dsimp only at hC hc ⊢
    have hu_ := Tryd.underlying24
    obtain ⟨hn0, hn1, hl9, hwl⟩ : -9223372036854775808 ≤ n ∧ n ≤ 9223372036854775807 ∧ l.length ≤ 9223372036854775807 ∧ ∀ y ∈ l, WfT y := by
      cases hwf with
      | mk h0 h1 hl h2 =>
        have hn : (decide (-9223372036854775808 ≤ n) && decide (n ≤ 9223372036854775807)) = true := h1
        simp only [Bool.and_eq_true, decide_eq_true_eq] at hn
        exact ⟨hn.1, hn.2, hl, h2⟩
    have HB := Aside0.mk hB
    have HS := Aside0.mk hS
    have HC := Aside0.mk hC
    have HBD := Aside0.mk hbd
    have HM := Aside0.mk hm
    have HN := Aside0.mk (And.intro hn0 hn1)
    have HWL := Aside0.mk hwl
    have HK := Aside0.mk (Lib.OthersKept.refl 5 (some b) w)
    have HT := Aside0.mk ht
    have HIL := Aside0.mk (Lib.itoa_length_le n hn0 hn1)
    clear hB hS hC hbd hm hn0 hn1 hwl hwf ht
    by_cases k2 : kind = 2
    · subst k2
      have e1 : textT ⟨2, n, l⟩ = 97 :: Lib.itoa n := by simp [textT]
      rw [e1] at HBD ⊢
      go_enter Tryd.func19, Tryd.ntmps19
      go_wp2_with (first
        | ((with_reducible refine gate_dst (N := 3) rfl ?_); refine box_event ?hg (N := 3) ?hd (cs := #[.int .i64 2, .int .i64 n, .slice A l.length c]) (t := 24) ?hr ?_; (case hd => rfl); (case hg => rfl); (case hr => first | (go_simp; done) | (go_simp; rfl))
           intro gx hg w3 hbox hb
           have n1 := Aside0.mk (below_step HB.out hb)
           have n2 := Aside0.mk (HS.out.below hb)
           have n3 := Aside0.mk (HK.out.trans (kept_below hb))
           have HX := Aside0.mk (show gx ≠ b by have := HS.out.lt; omega)
           clear HB HS HK
           have HB := n1
           have HS := n2
           have HK := n3
           clear n1 n2 n3
           have BX := Aside0.mk hbox
           clear hbox hb hg
           have cx0 : w3.cell? ⟨gx, 0, none⟩ = some (.int .i64 2) := (blk_cell BX.out 0).trans rfl
           have cx1 : w3.cell? ⟨gx, 1, none⟩ = some (.int .i64 n) := (blk_cell BX.out 1).trans rfl
           have cx2 : w3.cell? ⟨gx, 2, none⟩ = some (.slice A l.length c) := (blk_cell BX.out 2).trans rfl))
      refine (itoa_str w0 n HN.out.1 HN.out.2 HT.out HB.out).mono ?_
      rintro e w4 ⟨rfl, hb⟩
      have n1 := Aside0.mk (below_step HB.out hb)
      have n2 := Aside0.mk (HS.out.below hb)
      have n3 := Aside0.mk (HK.out.trans (kept_below hb))
      clear HB HS HK BX cx0 cx1 cx2 hb
      have HB := n1
      have HS := n2
      have HK := n3
      clear n1 n2 n3
      have c9 : 1 + (str (Lib.itoa n)).size ≤ 9223372036854775807 := by rw [str_size]; have := HIL.out; omega
      have c9b0 := eq_true c9
      have c9b1 : decide (1 + (str (Lib.itoa n)).size ≤ 9223372036854775807) = true := decide_eq_true c9
      have c9b2 : (9223372036854775807 < 1 + (str (Lib.itoa n)).size) = False := eq_false (Nat.not_lt.2 c9)
      go_wp2_with fail
      have es : (⟨#[97]⟩ : ByteArray) ++ str (Lib.itoa n) = str (97 :: Lib.itoa n) := str_add [97] _
      rw [es]
      refine (write_str w0 (97 :: Lib.itoa n) HS.out HB.out (by have := HBD.out; omega)).mono ?_
      rintro e w5 ⟨rfl, hS, hb, hk⟩
      have HS5 := Aside0.mk hS
      have HB5 := Aside0.mk hb
      have HK5 := Aside0.mk (HK.out.trans hk)
      clear hS hb hk
      go_wp2
      go_end0
      exact ⟨rfl, HB5.out, HS5.out, HK5.out⟩
    by_cases k3 : kind = 3
    · subst k3
      have e1 : textT ⟨3, n, l⟩ = 112 :: Lib.itoa n := by simp [textT]
      rw [e1] at HBD ⊢
      go_enter Tryd.func19, Tryd.ntmps19
      go_wp2_with (first
        | ((with_reducible refine gate_dst (N := 3) rfl ?_); refine box_event ?hg (N := 3) ?hd (cs := #[.int .i64 3, .int .i64 n, .slice A l.length c]) (t := 24) ?hr ?_; (case hd => rfl); (case hg => rfl); (case hr => first | (go_simp; done) | (go_simp; rfl))
           intro gx hg w3 hbox hb
           have n1 := Aside0.mk (below_step HB.out hb)
           have n2 := Aside0.mk (HS.out.below hb)
           have n3 := Aside0.mk (HK.out.trans (kept_below hb))
           have HX := Aside0.mk (show gx ≠ b by have := HS.out.lt; omega)
           clear HB HS HK
           have HB := n1
           have HS := n2
           have HK := n3
           clear n1 n2 n3
           have BX := Aside0.mk hbox
           clear hbox hb hg
           have cx0 : w3.cell? ⟨gx, 0, none⟩ = some (.int .i64 3) := (blk_cell BX.out 0).trans rfl
           have cx1 : w3.cell? ⟨gx, 1, none⟩ = some (.int .i64 n) := (blk_cell BX.out 1).trans rfl
           have cx2 : w3.cell? ⟨gx, 2, none⟩ = some (.slice A l.length c) := (blk_cell BX.out 2).trans rfl))
      refine (itoa_str w0 n HN.out.1 HN.out.2 HT.out HB.out).mono ?_
      rintro e w4 ⟨rfl, hb⟩
      have n1 := Aside0.mk (below_step HB.out hb)
      have n2 := Aside0.mk (HS.out.below hb)
      have n3 := Aside0.mk (HK.out.trans (kept_below hb))
      clear HB HS HK BX cx0 cx1 cx2 hb
      have HB := n1
      have HS := n2
      have HK := n3
      clear n1 n2 n3
      have c9 : 1 + (str (Lib.itoa n)).size ≤ 9223372036854775807 := by rw [str_size]; have := HIL.out; omega
      have c9b0 := eq_true c9
      have c9b1 : decide (1 + (str (Lib.itoa n)).size ≤ 9223372036854775807) = true := decide_eq_true c9
      have c9b2 : (9223372036854775807 < 1 + (str (Lib.itoa n)).size) = False := eq_false (Nat.not_lt.2 c9)
      go_wp2_with fail
      have es : (⟨#[112]⟩ : ByteArray) ++ str (Lib.itoa n) = str (112 :: Lib.itoa n) := str_add [112] _
      rw [es]
      refine (write_str w0 (112 :: Lib.itoa n) HS.out HB.out (by have := HBD.out; omega)).mono ?_
      rintro e w5 ⟨rfl, hS, hb, hk⟩
      have HS5 := Aside0.mk hS
      have HB5 := Aside0.mk hb
      have HK5 := Aside0.mk (HK.out.trans hk)
      clear hS hb hk
      go_wp2
      go_end0
      exact ⟨rfl, HB5.out, HS5.out, HK5.out⟩
    by_cases k1 : kind = 1
    · subst k1
      have e1 : textT ⟨1, n, l⟩ = Lib.itoa n := by simp [textT]
      rw [e1] at HBD ⊢
      go_enter Tryd.func19, Tryd.ntmps19
      go_wp2_with (first
        | ((with_reducible refine gate_dst (N := 3) rfl ?_); refine box_event ?hg (N := 3) ?hd (cs := #[.int .i64 1, .int .i64 n, .slice A l.length c]) (t := 24) ?hr ?_; (case hd => rfl); (case hg => rfl); (case hr => first | (go_simp; done) | (go_simp; rfl))
           intro gx hg w3 hbox hb
           have n1 := Aside0.mk (below_step HB.out hb)
           have n2 := Aside0.mk (HS.out.below hb)
           have n3 := Aside0.mk (HK.out.trans (kept_below hb))
           have HX := Aside0.mk (show gx ≠ b by have := HS.out.lt; omega)
           clear HB HS HK
           have HB := n1
           have HS := n2
           have HK := n3
           clear n1 n2 n3
           have BX := Aside0.mk hbox
           clear hbox hb hg
           have cx0 : w3.cell? ⟨gx, 0, none⟩ = some (.int .i64 1) := (blk_cell BX.out 0).trans rfl
           have cx1 : w3.cell? ⟨gx, 1, none⟩ = some (.int .i64 n) := (blk_cell BX.out 1).trans rfl
           have cx2 : w3.cell? ⟨gx, 2, none⟩ = some (.slice A l.length c) := (blk_cell BX.out 2).trans rfl))
      refine (itoa_str w0 n HN.out.1 HN.out.2 HT.out HB.out).mono ?_
      rintro e w4 ⟨rfl, hb⟩
      have n1 := Aside0.mk (below_step HB.out hb)
      have n2 := Aside0.mk (HS.out.below hb)
      have n3 := Aside0.mk (HK.out.trans (kept_below hb))
      clear HB HS HK BX cx0 cx1 cx2 hb
      have HB := n1
      have HS := n2
      have HK := n3
      clear n1 n2 n3
      go_wp2_with fail
      refine (write_str w0 (Lib.itoa n) HS.out HB.out (by have := HBD.out; omega)).mono ?_
      rintro e w5 ⟨rfl, hS, hb, hk⟩
      have HS5 := Aside0.mk hS
      have HB5 := Aside0.mk hb
      have HK5 := Aside0.mk (HK.out.trans hk)
      clear hS hb hk
      go_wp2
      go_end0
      exact ⟨rfl, HB5.out, HS5.out, HK5.out⟩
    have e1 : textT ⟨kind, n, l⟩ = 123 :: (textL l true ++ [125]) := by unfold textT; rw [if_neg k1, if_neg k2, if_neg k3]
    rw [e1] at HBD ⊢
    have b1 : (kind == 1) = false := by simpa using k1
    have b2 : (kind == 2) = false := by simpa using k2
    have b3 : (kind == 3) = false := by simpa using k3
    clear k1 k2 k3 e1
    go_enter Tryd.func19, Tryd.ntmps19
    go_wp2_with (first
      | ((with_reducible refine gate_dst (N := 3) rfl ?_); refine box_event ?hg (N := 3) ?hd (cs := #[.int .i64 kind, .int .i64 n, .slice A l.length c]) (t := 24) ?hr ?_; (case hd => rfl); (case hg => rfl); (case hr => first | (go_simp; done) | (go_simp; rfl))
         intro gx hg w3 hbox hb
         have n1 := Aside0.mk (below_step HB.out hb)
         have n2 := Aside0.mk (HS.out.below hb)
         have n3 := Aside0.mk (HK.out.trans (kept_below hb))
         have HX := Aside0.mk (show gx ≠ b by have := HS.out.lt; omega)
         clear HB HS HK
         have HB := n1
         have HS := n2
         have HK := n3
         clear n1 n2 n3
         have BX := Aside0.mk hbox
         clear hbox hb hg
         have cx0 : w3.cell? ⟨gx, 0, none⟩ = some (.int .i64 kind) := (blk_cell BX.out 0).trans rfl
         have cx1 : w3.cell? ⟨gx, 1, none⟩ = some (.int .i64 n) := (blk_cell BX.out 1).trans rfl
         have cx2 : w3.cell? ⟨gx, 2, none⟩ = some (.slice A l.length c) := (blk_cell BX.out 2).trans rfl))
    refine (write_str w0 [123] HS.out HB.out (by have := HBD.out; simp only [List.length_cons, List.length_nil, List.length_append] at *; omega)).mono ?_
    rintro e w4 ⟨rfl, hS, hb, hk⟩
    have bx := kept_blk hk BX.out HX.out (by decide)
    have HS4 := Aside0.mk hS
    have HB4 := Aside0.mk hb
    have HK4 := Aside0.mk (HK.out.trans hk)
    clear hS hb hk HS HB HK BX cx0 cx1 cx2
    have cx2 : w4.cell? ⟨gx, 2, none⟩ = some (.slice A l.length c) := (blk_cell bx 2).trans rfl
    clear bx
    go_wp2_with fail
    go_loopw [12] (fun v wr => ∃ (i : Int) (acc' : List UInt8), v = .int .i64 i ∧ 0 ≤ i ∧ i ≤ l.length ∧ Aside0 (TxtSt wr w0.heap.size b gp acc') ∧ Aside0 (Below w0.heap.size w0 wr) ∧ Aside0 (Lib.OthersKept 5 (some b) w wr) ∧ Aside0 (acc' ++ textL (l.drop i.toNat) (i == 0) = acc ++ [123] ++ textL l true)) (fun v _ => l.length - (intOf v).toNat)
    case atStart => exact ⟨0, acc ++ [123], rfl, by omega, by omega, HS4, HB4, HK4, ⟨by simp⟩⟩
    case round =>
      obtain ⟨i, acc', rfl, hi0, hi1, HSr, HBr, HKr, HE⟩ := hrel
      clear HS4 HB4 HK4 cx2
      by_cases hlt : i < (l.length : Int)
      · have hdec : decide (i < (l.length : Int)) = true := decide_eq_true hlt
        obtain ⟨ad, A3, c3, e3, hx0, hx1, hx2, hl3, hC3⟩ := at_T24 HC.out i hi0 hlt
        cases e3
        replace hx0 := (HBr.out.cell (World.block_lt_of_cell? w0 _ hx0)).trans hx0
        replace hx1 := (HBr.out.cell (World.block_lt_of_cell? w0 _ hx1)).trans hx1
        replace hx2 := (HBr.out.cell (World.block_lt_of_cell? w0 _ hx2)).trans hx2
        have HC3 := Aside0.mk hC3
        have HL3 := Aside0.mk hl3
        have hrd : rd_T24 l i = l[i.toNat]'(by omega) := by unfold rd_T24; rw [List.getD_eq_getElem?_getD, List.getElem?_eq_getElem (by omega)]; rfl
        have HRD := Aside0.mk (show SizeOf.sizeOf (rd_T24 l i) < m by have := HM.out; rw [hrd]; have := sizeOf_arg (kind := kind) (n := n) (args := l) (i := i.toNat) (by omega); omega)
        have HRW := Aside0.mk (show WfT (rd_T24 l i) by rw [hrd]; exact HWL.out _ (List.getElem_mem _))
        have HTL := Aside0.mk (show textL (l.drop i.toNat) (i == 0) = (if (i == 0) = true then [] else [44]) ++ textT (rd_T24 l i) ++ textL (l.drop (i.toNat + 1)) false by rw [hrd, List.drop_eq_getElem_cons (by omega), textL])
        have HLN := Aside0.mk (show acc'.length + (textL (l.drop i.toNat) (i == 0)).length ≤ 1000000000 by have := congrArg List.length HE.out; have := HBD.out; simp only [List.length_append, List.length_cons, List.length_nil] at *; omega)
        clear hrd hC3 hl3
        by_cases hz : i = 0
        · have hz1 : decide (0 < i) = false := decide_eq_false (by omega)
          have HD := Aside0.mk (show (i == 0) = true by simp [hz])
          clear hz
          go_wp2_with (first
            | ((with_reducible refine gate_dst (N := 5) rfl ?_); refine box_event ?hg (N := 5) ?hd (cs := #[.int .i64 0, .int .i64 0, .slice none 0 0]) (t := 24) ?hr ?_; (case hd => rfl); (case hg => rfl); (case hr => first | (go_simp; done) | (go_simp; rfl))
               intro gy hg w9 hbox hb
               have NY := Aside0.mk (show wr.heap.size ≤ gy by omega)
               have BY := Aside0.mk hbox
               have HB9 := Aside0.mk hb
               clear hg hbox hb
               have cy0 : w9.cell? ⟨gy, 0, none⟩ = some (.int .i64 0) := (blk_cell BY.out 0).trans rfl
               have cy1 : w9.cell? ⟨gy, 1, none⟩ = some (.int .i64 0) := (blk_cell BY.out 1).trans rfl
               have cy2 : w9.cell? ⟨gy, 2, none⟩ = some (.slice none 0 0) := (blk_cell BY.out 2).trans rfl
               have fy0 := blk_frozen BY.out 0
               have fy1 := blk_frozen BY.out 1
               have fy2 := blk_frozen BY.out 2)
            | ((with_reducible refine gate_store (t := 24) (p := 5) rfl ?_); refine store_event (t := 24) (p := 5) (v := ?vo3) (w1 := ((w9.setCell ⟨gy, 0, none⟩ (.int .i64 (rd_T24 l i).f0)).setCell ⟨gy, 1, none⟩ (.int .i64 (rd_T24 l i).f1)).setCell ⟨gy, 2, none⟩ (.slice A3 (rd_T24 l i).f2.length c3)) ?hg ?ho ?hn ?hr ?_; (case ho => rfl); (case hg => rfl); (case hn => rfl); (case hr => first | (go_simp; done) | (go_simp; rfl))
               intro w10 hw
               have n1 : w10.heap[gy]? = some (.cells #[.int .i64 (rd_T24 l i).f0, .int .i64 (rd_T24 l i).f1, .slice A3 (rd_T24 l i).f2.length c3] 24 (0, 0)) := by rw [hw]; exact blk_put (blk_put (blk_put BY.out 0 _ rfl) 1 _ rfl) 2 _ rfl
               have HB10 := Aside0.mk (show Below wr.heap.size wr w10 by rw [hw]; exact ((HB9.out.setCell NY.out _).setCell NY.out _).setCell NY.out _)
               clear hw cy0 cy1 cy2 fy0 fy1 fy2 BY HB9
               have BY := Aside0.mk n1
               clear n1
               have HSy := Aside0.mk (HSr.out.below HB10.out)
               have HYb := Aside0.mk (show gy ≠ b by have := HSr.out.lt; have := NY.out; omega)
               have HBy := Aside0.mk (below_step HBr.out HB10.out)
               have HKy := Aside0.mk (HKr.out.trans (kept_below HB10.out))
               clear HSr HBr HKr HB10 hx0 hx1 hx2
               have cy0 : w10.cell? ⟨gy, 0, none⟩ = some (.int .i64 (rd_T24 l i).f0) := (blk_cell BY.out 0).trans rfl
               have cy1 : w10.cell? ⟨gy, 1, none⟩ = some (.int .i64 (rd_T24 l i).f1) := (blk_cell BY.out 1).trans rfl
               have cy2 : w10.cell? ⟨gy, 2, none⟩ = some (.slice A3 (rd_T24 l i).f2.length c3) := (blk_cell BY.out 2).trans rfl
               have cBp := (blk_cell HSy.out.hp 0).trans rfl))
          refine (ih (rd_T24 l i) A3 c3 acc' _ HRD.out HRW.out HC3.out HL3.out HBy.out HSy.out (by have := HLN.out; rw [HTL.out] at this; simp only [List.length_append, List.length_cons, List.length_nil, HD.out] at *; first | omega | (simp at this ⊢; omega))).mono ?_
          rintro e w11 ⟨rfl, hB', hS', hK'⟩
          have HS11 := Aside0.mk hS'
          have HB11 := Aside0.mk hB'
          have HK11 := Aside0.mk (HKy.out.trans hK')
          clear cy0 cy1 cy2 cBp hS' hB' hK'
          go_wp2
          go_roundw
          case rel =>
            have ei : (i + 1).toNat = i.toNat + 1 := by omega
            have eb : (i + 1 == 0) = false := by simp; omega
            refine ⟨i + 1, _, rfl, by omega, by omega, HS11, HB11, HK11, ⟨?_⟩⟩
            rw [ei, eb, ← HE.out, HTL.out, HD.out]
            simp
          case measure => simp [intOf]; omega
        · have hz1 : decide (0 < i) = true := decide_eq_true (by omega)
          have HD := Aside0.mk (show (i == 0) = false by simp [hz])
          clear hz
          go_wp2_with (first
            | ((with_reducible refine gate_dst (N := 5) rfl ?_); refine box_event ?hg (N := 5) ?hd (cs := #[.int .i64 0, .int .i64 0, .slice none 0 0]) (t := 24) ?hr ?_; (case hd => rfl); (case hg => rfl); (case hr => first | (go_simp; done) | (go_simp; rfl))
               intro gy hg w9 hbox hb
               have NY := Aside0.mk (show wr.heap.size ≤ gy by omega)
               have BY := Aside0.mk hbox
               have HB9 := Aside0.mk hb
               clear hg hbox hb
               have cy0 : w9.cell? ⟨gy, 0, none⟩ = some (.int .i64 0) := (blk_cell BY.out 0).trans rfl
               have cy1 : w9.cell? ⟨gy, 1, none⟩ = some (.int .i64 0) := (blk_cell BY.out 1).trans rfl
               have cy2 : w9.cell? ⟨gy, 2, none⟩ = some (.slice none 0 0) := (blk_cell BY.out 2).trans rfl
               have fy0 := blk_frozen BY.out 0
               have fy1 := blk_frozen BY.out 1
               have fy2 := blk_frozen BY.out 2)
            | ((with_reducible refine gate_store (t := 24) (p := 5) rfl ?_); refine store_event (t := 24) (p := 5) (v := ?vo4) (w1 := ((w9.setCell ⟨gy, 0, none⟩ (.int .i64 (rd_T24 l i).f0)).setCell ⟨gy, 1, none⟩ (.int .i64 (rd_T24 l i).f1)).setCell ⟨gy, 2, none⟩ (.slice A3 (rd_T24 l i).f2.length c3)) ?hg ?ho ?hn ?hr ?_; (case ho => rfl); (case hg => rfl); (case hn => rfl); (case hr => first | (go_simp; done) | (go_simp; rfl))
               intro w10 hw
               have n1 : w10.heap[gy]? = some (.cells #[.int .i64 (rd_T24 l i).f0, .int .i64 (rd_T24 l i).f1, .slice A3 (rd_T24 l i).f2.length c3] 24 (0, 0)) := by rw [hw]; exact blk_put (blk_put (blk_put BY.out 0 _ rfl) 1 _ rfl) 2 _ rfl
               have HB10 := Aside0.mk (show Below wr.heap.size wr w10 by rw [hw]; exact ((HB9.out.setCell NY.out _).setCell NY.out _).setCell NY.out _)
               clear hw cy0 cy1 cy2 fy0 fy1 fy2 BY HB9
               have BY := Aside0.mk n1
               clear n1
               have HSy := Aside0.mk (HSr.out.below HB10.out)
               have HYb := Aside0.mk (show gy ≠ b by have := HSr.out.lt; have := NY.out; omega)
               have HBy := Aside0.mk (below_step HBr.out HB10.out)
               have HKy := Aside0.mk (HKr.out.trans (kept_below HB10.out))
               clear HSr HBr HKr HB10 hx0 hx1 hx2))
          refine (write_str w0 [44] HSy.out HBy.out (by have := HLN.out; rw [HTL.out] at this; simp only [List.length_append, List.length_cons, List.length_nil, HD.out] at *; simp at this; omega)).mono ?_
          rintro e wz ⟨rfl, hS, hb, hk⟩
          have n1 := Aside0.mk (kept_blk hk BY.out HYb.out (by decide))
          have n2 := Aside0.mk (HKy.out.trans hk)
          clear BY HSy HBy HKy
          have BY := n1
          have HKy := n2
          have HSy := Aside0.mk hS
          have HBy := Aside0.mk hb
          clear n1 n2 hS hb hk
          have cy0 : wz.cell? ⟨gy, 0, none⟩ = some (.int .i64 (rd_T24 l i).f0) := (blk_cell BY.out 0).trans rfl
          have cy1 : wz.cell? ⟨gy, 1, none⟩ = some (.int .i64 (rd_T24 l i).f1) := (blk_cell BY.out 1).trans rfl
          have cy2 : wz.cell? ⟨gy, 2, none⟩ = some (.slice A3 (rd_T24 l i).f2.length c3) := (blk_cell BY.out 2).trans rfl
          have cBp := (blk_cell HSy.out.hp 0).trans rfl
          go_wp2_with fail
          refine (ih (rd_T24 l i) A3 c3 (acc' ++ [44]) _ HRD.out HRW.out HC3.out HL3.out HBy.out HSy.out (by have := HLN.out; rw [HTL.out] at this; simp only [List.length_append, List.length_cons, List.length_nil, HD.out] at *; first | omega | (simp at this ⊢; omega))).mono ?_
          rintro e w11 ⟨rfl, hB', hS', hK'⟩
          have HS11 := Aside0.mk hS'
          have HB11 := Aside0.mk hB'
          have HK11 := Aside0.mk (HKy.out.trans hK')
          clear cy0 cy1 cy2 cBp hS' hB' hK'
          go_wp2
          go_roundw
          case rel =>
            have ei : (i + 1).toNat = i.toNat + 1 := by omega
            have eb : (i + 1 == 0) = false := by simp; omega
            refine ⟨i + 1, _, rfl, by omega, by omega, HS11, HB11, HK11, ⟨?_⟩⟩
            rw [ei, eb, ← HE.out, HTL.out, HD.out]
            simp
          case measure => simp [intOf]; omega
      · have hdec : decide (i < (l.length : Int)) = false := decide_eq_false hlt
        obtain rfl : i = (l.length : Int) := by omega
        have HD := Aside0.mk HE.out
        clear HE hlt
        go_wp2_with fail
        refine (write_str w0 [125] HSr.out HBr.out (by have h := congrArg List.length HD.out; have := HBD.out; simp only [List.length_append, List.length_cons, List.length_nil] at *; omega)).mono ?_
        rintro e w6 ⟨rfl, hS, hb, hk⟩
        have HS6 := Aside0.mk hS
        have HB6 := Aside0.mk hb
        have HK6 := Aside0.mk (HKr.out.trans hk)
        clear hS hb hk
        go_wp2
        go_end0
        refine ⟨rfl, HB6.out, ?_, HK6.out⟩
        have h := HD.out
        simp only [Int.toNat_natCast, List.drop_length, textL, List.append_nil] at h
        have h6 := HS6.out
        rw [h] at h6
        simpa using h6
end Go.Proofs.YtpgbpcnifhnjjaaDoor.PValueTells
