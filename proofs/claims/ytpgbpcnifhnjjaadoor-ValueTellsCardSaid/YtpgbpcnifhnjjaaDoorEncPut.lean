/- Encode's inner function, called with any value that can be read: it lays the words that 'encT' says behind what lay there. -/
import Derived.Test.YtpgbpcnifhnjjaaDoorEncDef
namespace Go.Proofs.YtpgbpcnifhnjjaaDoor.PValueTells
open Go.RowKit Go.Proofs.YtpgbpcnifhnjjaaDoorW.PrintWords Go.Proofs.YtpgbpcnifhnjjaaDoorW.PrintLast Go.Proofs.YtpgbpcnifhnjjaaDoorW.PrintMore
set_option linter.unusedVariables false
set_option linter.unusedSimpArgs false

/-- The three variables of Encode that its inner function shares: out, put, base; out's words. -/
structure EncSt (W : World) (B Bo Bp Bb : Nat) (base : Int) (vo : Value) (xs : List Int) : Prop where
  ho : W.heap[Bo]? = some (.cells #[vo] 35 (0, 0))
  hp : W.heap[Bp]? = some (.cells #[.func (.func 26) #[] #[.pointer (some ⟨Bo, 0, none⟩), .pointer (some ⟨Bp, 0, none⟩), .pointer (some ⟨Bb, 0, none⟩)]] 54 (0, 0))
  hb : W.heap[Bb]? = some (.cells #[.int .u64 base] 34 (0, 0))
  own : W.ownsRow B 34 1 vo xs.length (nums .u64 xs)
  nb : some Bb ≠ vo.ownBlock
  lo : B ≤ Bo
  lp : B ≤ Bp
  lb : B ≤ Bb
section
variable {W w1 : World} {B Bo Bp Bb : Nat} {base : Int} {vo v1 : Value} {xs ys : List Int}
theorem EncSt.below (h : EncSt W B Bo Bp Bb base vo xs) (hb : Below W.heap.size W w1) : EncSt w1 B Bo Bp Bb base vo xs :=
  ⟨blk_below h.ho hb, blk_below h.hp hb, blk_below h.hb hb, pw_own_below h.own hb, h.nb, h.lo, h.lp, h.lb⟩
theorem EncSt.no (h : EncSt W B Bo Bp Bb base vo xs) : some Bo ≠ vo.ownBlock := own_ne h.own h.ho (by decide)
theorem EncSt.np (h : EncSt W B Bo Bp Bb base vo xs) : some Bp ≠ vo.ownBlock := own_ne h.own h.hp (by decide)
theorem EncSt.op (h : EncSt W B Bo Bp Bb base vo xs) : Bo ≠ Bp := blk_ne h.ho h.hp (by decide)
theorem EncSt.ob (h : EncSt W B Bo Bp Bb base vo xs) : Bo ≠ Bb := blk_ne h.ho h.hb (by decide)
/-- out's row has grown, or is another; the variable still holds the old one. -/
theorem EncSt.grown (h : EncSt W B Bo Bp Bb base vo xs) (hown : w1.ownsRow B 34 1 v1 ys.length (nums .u64 ys)) (hg : W.grownBy w1 vo.ownBlock) (hat : v1.ownBlock = vo.ownBlock ∨ ∃ b, v1.ownBlock = some b ∧ W.heap.size ≤ b) :
    EncSt (w1.setCell ⟨Bo, 0, none⟩ v1) B Bo Bp Bb base v1 ys := by
  have h1 := blk_grown h.ho hg h.no
  have h2 := blk_grown h.hp hg h.np
  have h3 := blk_grown h.hb hg h.nb
  have hn : ∀ k, k < W.heap.size → some k ≠ vo.ownBlock → some k ≠ v1.ownBlock := by
    intro k hk hne
    rcases hat with e | ⟨b, e, hb⟩
    · rw [e]; exact hne
    · rw [e]; intro he; injection he with he; omega
  exact ⟨blk_put h1 0 v1 rfl, blk_far h2 (Ne.symm h.op) _, blk_far h3 (Ne.symm h.ob) _, own_setCell hown (hn _ (blk_lt h.ho) h.no) _, hn _ (blk_lt h.hb) h.nb, h.lo, h.lp, h.lb⟩
/-- A word of out is written. -/
theorem EncSt.put {g n cap : Nat} (h : EncSt W B Bo Bp Bb base (.slice (some ⟨g, 0, none⟩) n cap) xs) (i x : Int) : EncSt (W.setCell ⟨g, i.toNat, none⟩ (.int .u64 x)) B Bo Bp Bb base (.slice (some ⟨g, 0, none⟩) n cap) (xs.set i.toNat x) := by
  have hn : n = xs.length := by
    rcases h.own.2 with ⟨e, _⟩ | ⟨_, _, _, e, _⟩
    · cases e
    · injection e
  subst hn
  have n1 := h.no
  have n2 := h.np
  have n3 := h.nb
  simp only [Value.ownBlock, ne_eq, Option.some.injEq, Option.map_some] at n1 n2 n3
  exact ⟨blk_far h.ho n1 _, blk_far h.hp n2 _, blk_far h.hb n3 _, own_put h.own i x, h.nb, h.lo, h.lp, h.lb⟩
end
section
variable {P : Program} {ops : Array Oper} {rest : List Oper} {o : Oper} {a : Act} {Q : Exit → Act → World → Prop}
theorem zeroCells_num (k : IntKind) (m : Nat) : (Builtin.zeroCells (Value.int k 0).cells m).toList = nums k (List.replicate m 0) := by
  have h : Builtin.zeroCells (Value.int k 0).cells m = madeCells #[.int k 0] m := by
    unfold Builtin.zeroCells madeCells
    simp [Value.cells]
  rw [h]
  apply List.ext_getElem
  · simp [nums, madeCells]
  · intro i h1 h2
    simp [nums, madeCells, Nat.mod_one]
/-- 'append(v, make([]T, n)...)', T a kind of whole numbers, v a row of one's own. -/
theorem append_zeros_num {w0 W : World} (base : Nat) (hgd : o.guard = none) (s x : Operand) (t ti e : TypeId) (k ki : IntKind) (bytes : Nat)
    (ho : o.op = .call { callee := .builtin .append, args := #[s, x], argTypes := #[t, ti] })
    (ht : P.underlying t = some (.slice e)) (hti : P.underlying ti = some (.int ki)) (hinfo : (P.info? e).map (fun i => (i.zero, i.size, i.bytes)) = some (some (.int k 0), 1, bytes)) (hb0 : 0 < bytes)
    (v : Value) (xs : List Int) (n : Nat) (kx : IntKind) (hs : a.eval s = v) (hx : a.eval x = .int kx n)
    (HO : W.ownsRow base e 1 v xs.length (nums k xs)) (HB : Below base w0 W) (hbase : base ≤ W.heap.size) (hl : (xs.length + n) * bytes ≤ 140737488355328)
    (h : ∀ v1 w1, w1.ownsRow base e 1 v1 (xs ++ List.replicate n 0).length (nums k (xs ++ List.replicate n 0)) → Below base w0 w1 → W.grownBy w1 v.ownBlock → (v1.ownBlock = v.ownBlock ∨ ∃ b, v1.ownBlock = some b ∧ W.heap.size ≤ b) → wpList P ops Q rest (a.put o.dst v1) w1) :
    wpList P ops Q (o :: rest) a W := by
  obtain ⟨i0, hi, hzz⟩ := Option.map_eq_some_iff.1 hinfo
  simp only [Prod.mk.injEq] at hzz
  obtain ⟨hz0, hz1, hz2⟩ := hzz
  obtain ⟨v1, w1, hrun, h2, hg, hat⟩ := run_append_zeros (P := P) W base t ti o.type e i0 (.int k 0) 1 bytes ht hti hi hz0 hz1 hz2 rfl (by decide) hb0 v xs.length (nums k xs) HO kx n (by rw [zeroCells_num]; intro u hu; simp [nums] at hu; rw [hu.2]; rfl) hl hbase
  rw [zeroCells_num] at h2
  refine wpList_plain hgd fun K hK => ?_
  unfold Oper.wp execOp
  simp only [ho, resolve, invoke, builtin, Sem.run_bind, Sem.run_pure, Result.andThen_ok, List.map_toArray, List.map_cons, List.map_nil, hs, hx, hrun]
  refine hK _ _ (h v1 w1 (by rw [nums_append]; simpa [nums] using h2) (HB.grown hg hbase (own_base HO)) hg ?_)
  rcases hat with hat | hat
  · exact .inl hat
  · exact .inr ⟨_, hat, Nat.le_refl _⟩
end

theorem enc_info : (Tryd.prog.info? 34).map (fun i => (i.zero, i.size, i.bytes)) = some (some (.int .u64 0), 1, 8) := by kernel_rfl
theorem EncSt.slice {W : World} {B Bo Bp Bb : Nat} {base : Int} {vo : Value} {xs : List Int} (h : EncSt W B Bo Bp Bb base vo xs) : ∃ A c, vo = .slice A xs.length c := own_slice h.own

set_option maxHeartbeats 400000 in
set_option maxRecDepth 100000 in
theorem put_calls (w0 : World) (Bo Bp Bb : Nat) (base : Int) : ∀ (m : Nat) (x : S24) (A : Option Addr) (c : Nat) (vo : Value) (xs : List Int) (w : World), SizeOf.sizeOf x < m →
    Kd.C k24 w0 A x.f2.length x.f2 → x.f2.length ≤ c → Below w0.heap.size w0 w → EncSt w w0.heap.size Bo Bp Bb base vo xs → xs.length + wordsT x ≤ 1000000000000 →
    Calls Tryd.prog 26 #[.agg #[.int .i64 x.f0, .int .i64 x.f1, .slice A x.f2.length c], .pointer (some ⟨Bo, 0, none⟩), .pointer (some ⟨Bp, 0, none⟩), .pointer (some ⟨Bb, 0, none⟩)] w
      fun e w' => e = .returned (.int .u64 (encT base x xs).1) ∧ Below w0.heap.size w0 w' ∧ ∃ vo', EncSt w' w0.heap.size Bo Bp Bb base vo' (encT base x xs).2 := by
  intro m
  induction m with
  | zero => intro x A c vo xs w h; omega
  | succ m ih =>
    rintro ⟨kind, n, l⟩ A c vo xs w hm hC hc hB hS hbd
    dsimp only at hC hc ⊢
    have hu_ := Tryd.underlying24
    have HB := Aside0.mk hB
    have HS := Aside0.mk hS
    have HC := Aside0.mk hC
    have HBD := Aside0.mk hbd
    have HM := Aside0.mk hm
    clear hB hS hC hbd hm
    by_cases hf : flat kind = true
    · rw [encT_flat hf]
      dsimp only
      have cBo := (blk_cell HS.out.ho 0)
      have fBo := (blk_frozen HS.out.ho 0)
      simp only [flat, Bool.or_eq_true, beq_iff_eq] at hf
      rcases hf with (rfl | rfl) | rfl
      all_goals
        go_enter Tryd.func26, Tryd.ntmps26
        go_wp2
        go_ret
        exact ⟨rfl, (HB.out.alloc HB.out.size _), vo, HS.out.below (below_alloc (Below.refl _ _) _)⟩
    · have hf' : flat kind = false := by simpa using hf
      rw [encT_tuple hf']
      have k1 : (kind == 1) = false := by simp [flat] at hf'; simpa using hf'.1.1
      have k2 : (kind == 2) = false := by simp [flat] at hf'; simpa using hf'.1.2
      have k3 : (kind == 3) = false := by simp [flat] at hf'; simpa using hf'.2
      have HW := Aside0.mk (wordsT_tuple (kind := kind) (n := n) (args := l) hf')
      clear hf hf'
      have HL0 : xs.length + 1 + l.length ≤ 1000000000000 := by have := HBD.out; rw [HW.out] at this; omega
      obtain ⟨Ao, co, rfl⟩ := HS.out.slice
      have cBo := (blk_cell HS.out.ho 0)
      have fBo := (blk_frozen HS.out.ho 0)
      go_enter Tryd.func26, Tryd.ntmps26
      go_wp2_with (first
        | ((with_reducible refine gate_dst (N := 4) rfl ?_); refine box_event ?hg (N := 4) ?hd (cs := #[.int .i64 kind, .int .i64 n, .slice A l.length c]) (t := 24) ?hr ?_; (case hd => rfl); (case hg => rfl); (case hr => first | (go_simp; done) | (go_simp; rfl))
           intro gx hg w3 hbox hb
           have n1 := Aside0.mk (below_step HB.out hb)
           have n2 := Aside0.mk (HS.out.below hb)
           have NX := Aside0.mk (show w0.heap.size ≤ gx by rw [hg]; exact HB.out.size)
           have HX := Aside0.mk (show gx ≠ Bo by have := blk_lt HS.out.ho; omega)
           clear HB HS cBo fBo
           have HB := n1
           have HS := n2
           clear n1 n2
           have BX := Aside0.mk hbox
           clear hbox hb hg
           have cBo := (blk_cell HS.out.ho 0)
           have fBo := (blk_frozen HS.out.ho 0)
           have cx0 := blk_cell BX.out 0
           have cx1 := blk_cell BX.out 1
           have cx2 := blk_cell BX.out 2
           simp at cBo cx0 cx1 cx2)
        | ((with_reducible refine gate_dst (N := 36) rfl ?_); at_builtin; refine print_append_num (w0 := w0) w0.heap.size rfl _ _ 35 34 .u64 8 rfl Tryd.underlying35 enc_info (by decide) (.slice Ao xs.length co) xs (l.length : Int) ?h1 ?h2 ?h3 ?h4 ?h5 ?h6 ?_; (case h1 => rfl); (case h2 => rfl); (case h3 => exact HS.out.own); (case h4 => exact HB.out); (case h5 => exact HB.out.size); (case h6 => omega)
           intro v1 w4 hown hb hg hat
           obtain ⟨ys, hys⟩ : ∃ ys, ys = xs ++ [(l.length : Int)] := ⟨_, rfl⟩
           rw [← hys] at hown
           have YL := Aside0.mk (show ys.length = xs.length + 1 by rw [hys]; simp)
           have YE := Aside0.mk hys
           clear hys
           obtain ⟨A1, c1, rfl⟩ := own_slice hown
           have HSa := Aside0.mk (HS.out.grown hown hg hat)
           have HBa := Aside0.mk (below_set (j := 0) (v := .slice A1 ys.length c1) hb HS.out.lo)
           have n3 := Aside0.mk (blk_far (blk_grown BX.out hg (own_ne HS.out.own BX.out (by decide))) (p := ⟨Bo, 0, none⟩) HX.out (.slice A1 ys.length c1))
           have n4 := blk_grown HS.out.ho hg HS.out.no
           clear HB HS BX cx0 cx1 cx2 cBo fBo
           have cBo := blk_cell n4 0
           have fBo := blk_frozen n4 0
           simp only [List.getElem?_toArray, List.getElem?_cons_zero] at cBo
           have BX := n3
           clear n3 n4 hown hg hat hb)
        | ((with_reducible refine gate_store (t := 35) (p := 1) rfl ?_); have _t := HSa; refine store_event (t := 35) (p := 1) (v := ?vo) (w1 := w4.setCell ⟨Bo, 0, none⟩ (.slice A1 ys.length c1)) ?hg ?ho ?hn ?hr ?_; (case ho => rfl); (case hg => rfl); (case hn => rfl); (case hr => first | (go_simp; done) | (go_simp; rfl))
           intro w5 hw
           rw [← hw] at HSa HBa BX
           clear hw _t cBo fBo
           have cBo := (blk_cell HSa.out.ho 0)
           have fBo := (blk_frozen HSa.out.ho 0)
           have cx2 := blk_cell BX.out 2
           simp only [List.getElem?_toArray, List.getElem?_cons_zero, List.getElem?_cons_succ] at cBo cx2)
        | ((with_reducible refine gate_dst (N := 41) rfl ?_); at_builtin; refine append_zeros_num (w0 := w0) w0.heap.size rfl _ _ 35 3 34 .u64 .i64 8 rfl Tryd.underlying35 Tryd.underlying3 enc_info (by decide) (.slice A1 ys.length c1) ys l.length .i64 ?h1 ?h2 ?h3 ?h4 ?h5 ?h6 ?_; (case h1 => rfl); (case h2 => rfl); (case h3 => exact HSa.out.own); (case h4 => exact HBa.out); (case h5 => exact HBa.out.size); (case h6 => have := YL.out; omega)
           intro v2 w6 hown hb hg hat
           obtain ⟨zs, hzs⟩ : ∃ zs, zs = ys ++ List.replicate l.length 0 := ⟨_, rfl⟩
           rw [← hzs] at hown
           have ZL := Aside0.mk (show zs.length = xs.length + 1 + l.length by rw [hzs]; simp [YL.out])
           have ZE := Aside0.mk hzs
           clear hzs
           obtain ⟨A2, c2, rfl⟩ := own_slice hown
           have HSb := Aside0.mk (HSa.out.grown hown hg hat)
           have HBb := Aside0.mk (below_set (j := 0) (v := .slice A2 zs.length c2) hb HSa.out.lo)
           have n3 := Aside0.mk (blk_far (blk_grown BX.out hg (own_ne HSa.out.own BX.out (by decide))) (p := ⟨Bo, 0, none⟩) HX.out (.slice A2 zs.length c2))
           have n4 := blk_grown HSa.out.ho hg HSa.out.no
           clear HBa HSa BX cx2 cBo fBo
           have cBo := blk_cell n4 0
           have fBo := blk_frozen n4 0
           simp only [List.getElem?_toArray, List.getElem?_cons_zero] at cBo
           have BX := n3
           clear n3 n4 hown hg hat hb)
        | ((with_reducible refine gate_store (t := 35) (p := 1) rfl ?_); have _t := HSb; refine store_event (t := 35) (p := 1) (v := ?vo2) (w1 := w6.setCell ⟨Bo, 0, none⟩ (.slice A2 zs.length c2)) ?hg ?ho ?hn ?hr ?_; (case ho => rfl); (case hg => rfl); (case hn => rfl); (case hr => first | (go_simp; done) | (go_simp; rfl))
           intro w7 hw
           rw [← hw] at HSb HBb BX
           clear hw _t cBo fBo
           have cx2 := blk_cell BX.out 2
           simp only [List.getElem?_toArray, List.getElem?_cons_zero, List.getElem?_cons_succ] at cx2))
      go_loopw [45] (fun v wr => ∃ (i : Int) (vo' : Value) (us : List Int), v = .int .i64 i ∧ 0 ≤ i ∧ i ≤ l.length ∧ Aside0 (EncSt wr w0.heap.size Bo Bp Bb base vo' us) ∧ Aside0 (Below w0.heap.size w0 wr) ∧ Aside0 (encL base (l.drop i.toNat) (xs.length + 1 + i.toNat) us = encL base l (xs.length + 1) zs) ∧ Aside0 (xs.length + 1 + l.length ≤ us.length) ∧ Aside0 (us.length + wordsL (l.drop i.toNat) ≤ 1000000000000)) (fun v _ => l.length - (intOf v).toNat)
      case atStart => exact ⟨0, _, zs, rfl, by omega, by omega, HSb, HBb, ⟨by simp⟩, ⟨by rw [ZL.out]; exact Nat.le_refl _⟩, ⟨by have := HBD.out; rw [HW.out] at this; rw [ZL.out]; simp; omega⟩⟩
      case round =>
        obtain ⟨i, vo', us, rfl, hi0, hi1, HSr, HBr, HE, HU, HUW⟩ := hrel
        clear HSb HBb BX cx2
        obtain ⟨Ar, cr, rfl⟩ := HSr.out.slice
        by_cases hlt : i < (l.length : Int)
        · have hdec : decide (i < (l.length : Int)) = true := decide_eq_true hlt
          obtain ⟨ad, A3, c3, e3, hx0, hx1, hx2, hl3, hC3⟩ := at_T24 HC.out i hi0 hlt
          cases e3
          replace hx0 := (HBr.out.cell (World.block_lt_of_cell? w0 _ hx0)).trans hx0
          replace hx1 := (HBr.out.cell (World.block_lt_of_cell? w0 _ hx1)).trans hx1
          replace hx2 := (HBr.out.cell (World.block_lt_of_cell? w0 _ hx2)).trans hx2
          have HC3 := Aside0.mk hC3
          have HL3 := Aside0.mk hl3
          have hrd : rd_T24 l i = l[i.toNat]'(by omega) := by unfold rd_T24; rw [List.getD_eq_getElem?_getD, List.getElem?_eq_getElem (by omega)]; rfl
          have HRD := Aside0.mk (show SizeOf.sizeOf (rd_T24 l i) < m by have := HM.out; rw [hrd]; have := sizeOf_arg (kind := kind) (n := n) (args := l) (i := i.toNat) (by omega); omega)
          have HWD := Aside0.mk (show wordsL (l.drop i.toNat) = wordsT (rd_T24 l i) + wordsL (l.drop (i.toNat + 1)) by rw [hrd]; exact wordsL_drop _)
          have HED := Aside0.mk (show encL base (l.drop i.toNat) (xs.length + 1 + i.toNat) us = encL base (l.drop (i.toNat + 1)) (xs.length + 1 + i.toNat + 1) ((encT base (rd_T24 l i) us).2.set (xs.length + 1 + i.toNat) (encT base (rd_T24 l i) us).1) by rw [hrd]; exact encL_drop _)
          have HIB := Aside0.mk (show us.length + wordsT (rd_T24 l i) ≤ 1000000000000 by have := HUW.out; rw [HWD.out] at this; omega)
          clear hrd
          clear hC3 hl3
          go_wp2_with (first
            | ((with_reducible refine gate_dst (N := 9) rfl ?_); refine box_event ?hg (N := 9) ?hd (cs := #[.int .i64 0, .int .i64 0, .slice none 0 0]) (t := 24) ?hr ?_; (case hd => rfl); (case hg => rfl); (case hr => first | (go_simp; done) | (go_simp; rfl))
               intro gy hg w9 hbox hb
               have NY := Aside0.mk (show wr.heap.size ≤ gy by omega)
               have BY := Aside0.mk hbox
               have HB9 := Aside0.mk hb
               clear hg hbox hb
               have cy0 : w9.cell? ⟨gy, 0, none⟩ = some (.int .i64 0) := (blk_cell BY.out 0).trans rfl
               have cy1 : w9.cell? ⟨gy, 1, none⟩ = some (.int .i64 0) := (blk_cell BY.out 1).trans rfl
               have cy2 : w9.cell? ⟨gy, 2, none⟩ = some (.slice none 0 0) := (blk_cell BY.out 2).trans rfl
               have fy0 := blk_frozen BY.out 0
               have fy1 := blk_frozen BY.out 1
               have fy2 := blk_frozen BY.out 2)
            | ((with_reducible refine gate_store (t := 24) (p := 9) rfl ?_); refine store_event (t := 24) (p := 9) (v := ?vo3) (w1 := ((w9.setCell ⟨gy, 0, none⟩ (.int .i64 (rd_T24 l i).f0)).setCell ⟨gy, 1, none⟩ (.int .i64 (rd_T24 l i).f1)).setCell ⟨gy, 2, none⟩ (.slice A3 (rd_T24 l i).f2.length c3)) ?hg ?ho ?hn ?hr ?_; (case ho => rfl); (case hg => rfl); (case hn => rfl); (case hr => first | (go_simp; done) | (go_simp; rfl))
               intro w10 hw
               have n1 : w10.heap[gy]? = some (.cells #[.int .i64 (rd_T24 l i).f0, .int .i64 (rd_T24 l i).f1, .slice A3 (rd_T24 l i).f2.length c3] 24 (0, 0)) := by rw [hw]; exact blk_put (blk_put (blk_put BY.out 0 _ rfl) 1 _ rfl) 2 _ rfl
               have HB10 := Aside0.mk (show Below wr.heap.size wr w10 by rw [hw]; exact ((HB9.out.setCell NY.out _).setCell NY.out _).setCell NY.out _)
               clear hw cy0 cy1 cy2 fy0 fy1 fy2 BY HB9
               have cy0 : w10.cell? ⟨gy, 0, none⟩ = some (.int .i64 (rd_T24 l i).f0) := (blk_cell n1 0).trans rfl
               have cy1 : w10.cell? ⟨gy, 1, none⟩ = some (.int .i64 (rd_T24 l i).f1) := (blk_cell n1 1).trans rfl
               have cy2 : w10.cell? ⟨gy, 2, none⟩ = some (.slice A3 (rd_T24 l i).f2.length c3) := (blk_cell n1 2).trans rfl
               have cBp := (blk_cell (HSr.out.below HB10.out).hp 0).trans rfl
               clear n1))
          refine (ih (rd_T24 l i) A3 c3 (.slice Ar us.length cr) us w10 ?hm ?hC ?hc ?hB ?hS ?hb).mono ?_; (case hm => exact HRD.out); (case hC => exact HC3.out); (case hc => exact HL3.out); (case hB => exact below_step HBr.out HB10.out); (case hS => exact HSr.out.below HB10.out); (case hb => exact HIB.out)
          rintro e w11 ⟨rfl, hB', vo2, hS'⟩
          obtain ⟨vs, hvs⟩ : ∃ vs, vs = (encT base (rd_T24 l i) us).2 := ⟨_, rfl⟩
          rw [← hvs] at hS'
          have VL := Aside0.mk (show vs.length = us.length + wordsT (rd_T24 l i) by rw [hvs]; exact encT_length _ _ _)
          have hix : (xs.length : Int) + 1 + i < (vs.length : Int) := by have := VL.out; have := HU.out; omega
          obtain ⟨g, c4, hv, hg0, _⟩ := hS'.own.form (by omega)
          subst hv
          have HG := Aside0.mk hg0
          clear hg0
          have VE := Aside0.mk hvs
          have HS11 := Aside0.mk hS'
          have HB11 := Aside0.mk hB'
          clear cy0 cy1 cy2 cBp hvs hS' hB'
          have cBo : w11.cell? ⟨Bo, 0, none⟩ = some (.slice (some ⟨g, 0, none⟩) vs.length c4) := (blk_cell HS11.out.ho 0).trans rfl
          have cg := (own_at HS11.out.own ((xs.length : Int) + 1 + i) (by omega) hix).1
          have fg := (own_at HS11.out.own ((xs.length : Int) + 1 + i) (by omega) hix).2
          go_wp2_with (first
            | ((with_reducible refine gate_store (t := 34) (p := 59) rfl ?_); refine store_event (t := 34) (p := 59) (v := ?vo4) (w1 := w11.setCell ⟨g, ((xs.length : Int) + 1 + i).toNat, none⟩ (.int .u64 (encT base (rd_T24 l i) us).1)) ?hg ?ho ?hn ?hr ?_; (case ho => rfl); (case hg => rfl); (case hn => rfl); (case hr => first | (go_simp; done) | (go_simp; rfl))
               intro w12 hw
               have HS12 := Aside0.mk (show EncSt w12 w0.heap.size Bo Bp Bb base (.slice (some ⟨g, 0, none⟩) vs.length c4) (vs.set ((xs.length : Int) + 1 + i).toNat (encT base (rd_T24 l i) us).1) by rw [hw]; exact HS11.out.put _ _)
               have HB12 := Aside0.mk (show Below w0.heap.size w0 w12 by rw [hw]; exact below_set HB11.out HG.out)
               clear hw cg fg cBo HS11 HB11))
          go_roundw
          case rel =>
            have et : ((xs.length : Int) + 1 + i).toNat = xs.length + 1 + i.toNat := by omega
            have ei : (i + 1).toNat = i.toNat + 1 := by omega
            refine ⟨i + 1, _, _, rfl, by omega, by omega, HS12, HB12, ⟨?_⟩, ⟨?_⟩, ⟨?_⟩⟩
            · rw [ei, et, VE.out, ← HE.out, HED.out]; rfl
            · rw [List.length_set]; have := VL.out; have := HU.out; omega
            · rw [List.length_set, ei]; have := VL.out; have := HUW.out; rw [HWD.out] at this; omega
          case measure => simp [intOf]; omega
        · have hdec : decide (i < (l.length : Int)) = false := decide_eq_false hlt
          obtain rfl : i = (l.length : Int) := by omega
          have HD := Aside0.mk (HE.out)
          clear HE hlt
          have cBb := (blk_cell HSr.out.hb 0).trans rfl
          go_wp2
          go_ret
          refine ⟨rfl, HBr.out, .slice Ar us.length cr, ?_⟩
          have h := HD.out
          simp only [Int.toNat_natCast, List.drop_length, encL] at h
          rw [← YE.out, ← ZE.out, ← h]
          exact HSr.out
end Go.Proofs.YtpgbpcnifhnjjaaDoor.PValueTells
