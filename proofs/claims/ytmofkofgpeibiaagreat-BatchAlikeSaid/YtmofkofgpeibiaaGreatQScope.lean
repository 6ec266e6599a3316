/- Contracts of queries that add up. -/
import Derived.Test.YtmofkofgpeibiaaGreatQPlainS3
import Derived.Test.YtmofkofgpeibiaaGreatQRes
import Derived.MapKept
import Derived.Test.YtmofkofgpeibiaaGreatQOwn3
import Derived.Test.YtmofkofgpeibiaaGreatQOps2
set_option linter.unusedVariables false
set_option linter.unusedSimpArgs false
namespace Go.Q
open Go.Proofs
open Classical
theorem pcheck_spec (p rows s : Int) : SpecP Tryz.prog 96 [dAgg [dInt .i64 p], dInt .i64 rows, dInt .i64 s] (dInt .i64 (parE p rows s)) := by
  refine specP_of_body Tryz.func96 rfl rfl (fun I M => ?_)
  refine au 9 ?_
  refine run_op (loc_call (of_spec _) rfl) rfl ?_
  refine au 11 ?_
  refine run_cond rfl (fun h1 => ?_) (fun h1 => ?_)
  ·
   have c1 := h1
   refine au 4 ?_
   refine run_retP Tryz.func96 rfl rfl ?_
   exact d_int (by unfold parE; rw [if_pos c1])
  ·
   have c1 := h1
   refine au 22 ?_
   refine run_cond rfl (fun h2 => ?_) (fun h2 => ?_)
   ·
    have c2 := h2
    refine au 4 ?_
    refine run_retP Tryz.func96 rfl rfl ?_
    exact d_int (by unfold parE; rw [if_neg c1, if_pos (by omega)])
   ·
    have c2 := h2
    refine au 5 ?_
    refine run_retP Tryz.func96 rfl rfl ?_
    exact d_int (by unfold parE; rw [if_neg c1, if_neg (by omega)])
theorem plimits_spec (p rows s : Int) : SpecP Tryz.prog 94 [dAgg [dInt .i64 p], dInt .i64 rows, dInt .i64 s] (dTup [dInts (limsP p rows s), dInt .i64 (parE p rows s)]) := by
  refine specP_of_body Tryz.func94 rfl rfl (fun I M => ?_)
  refine au 12 ?_
  refine run_op (loc_call (pcheck_spec _ _ _) rfl) rfl ?_
  refine au 7 ?_
  refine run_cond rfl (fun h1 => ?_) (fun h1 => ?_)
  ·
   have c1 := h1
   refine au 6 ?_
   refine run_ret2P Tryz.func94 rfl rfl rfl ?_
   exact d_tup2 (d_toInts (by unfold limsP; rw [if_neg c1]) d_nil) (d_int rfl)
  ·
   have c1 := Classical.not_not.1 h1
   refine au 7 ?_
   obtain ⟨hp, hs, hr⟩ := parE_zero c1
   have hm := mul_bd (a := rows) (b := s - 1) (A := 1024) (B := 10) (by omega) (by omega) (by omega) (by omega)
   refine au 8 ?_
   refine run_rowNil 3 1 fI ?_
   refine run_loopF (σ := Value × Nat) (ks := [3, 20]) (.cons rfl (.cons rfl (.nil))) (fun q => [(9, dVal q.1), (21, dInt .i64 (q.2 : Nat))]) (fun q => [rRow q.1 3 1 fI (List.replicate q.2 p)]) (fun q => q.2 ≤ (rows * (s - 1)).toNat) (fun q => (rows * (s - 1)).toNat - q.2) ((.slice none 0 0, 0)) (Nat.zero_le _) (.cons rfl (by first | exact fun _ _ h => h | exact d_int (by omega) | exact d_int (by simp) | exact d_intN (by omega) | exact d_any) (.cons rfl (by first | exact fun _ _ h => h | exact d_int (by omega) | exact d_int (by simp) | exact d_intN (by omega) | exact d_any) .nil)) (rfl) ?_
   intro q hq ih2
   have hql : (List.replicate q.2 p).length = q.2 := List.length_replicate
   refine au 5 ?_
   refine run_cond rfl (fun h3 => ?_) (fun h3 => ?_)
   ·
    refine au 7 ?_
    refine run_op (loc_buildSlice rfl rfl (.one rfl (.nil)) rfl rfl) rfl ?_
    refine run_append1 rfl (.here) rfl (by rfl) (by rfl) (by first | omega | (simp [lenMax]; omega) | (simp [lenMax]; done) | assumption) (by first | omega | (simp [lenMax]; omega) | (simp [lenMax]; done) | assumption) rfl (fun v4 => ?_)
    refine au 7 ?_
    exact run_againF ih2 ((v4, q.2 + 1)) (by simp only; omega) (by simp only; omega) (.cons rfl (by first | exact fun _ _ h => h | exact d_int (by omega) | exact d_int (by simp) | exact d_intN (by omega) | exact d_any) (.cons rfl (by first | exact fun _ _ h => h | exact d_int (by omega) | exact d_int (by simp) | exact d_intN (by omega) | exact d_any) .nil)) (.cons rfl (fun _ _ x => x) (.cons rfl (fun _ _ x => x) (.nil))) (by simp only [appR]; rw [rep_snoc])
   ·
    refine au 2 ?_
    refine run_freezeRow (s := 9) rfl (.here) ?_
    refine au 5 ?_
    refine run_ret2P Tryz.func94 rfl rfl rfl ?_
    exact d_tup2 (d_eq (by unfold limsP; rw [if_pos c1, show q.2 = (rows * (s - 1)).toNat by omega])) (d_int c1.symm)
theorem each1_iter (v : Value) (ls : List (List Int)) (hv : ls.length ≤ 100000) : ∀ (I : Imm) (lb : List Value), relL [dBox [dSlV v]] I lb → IterOk Tryz.prog 107 lb (α := List Int) (fR) (ls) ([rRow v 38 1 fR ls]) I := by
  refine iter_of_body Tryz.func107 rfl rfl (fun l σ φ Mo F s0 I h0 hy => ?_)
  refine au 1 ?_
  refine run_inv (fun I w h => h.perm List.perm_middle) ?_
  refine au 2 ?_
  refine runL_recast (s := 5) rfl (d' := dVal v) (fun _ _ h => h.1) ?_
  refine au 4 ?_
  refine run_loopE (σ := Nat × σ) (ks := [0, 5, 6]) (.cons rfl (.cons rfl (.cons rfl (.nil)))) (fun t => [(7, dInt .i64 (t.1 : Nat))]) (fun t => rRow v 38 1 fR ls :: (Mo t.1 t.2 ++ F)) (fun t => t.1 ≤ ls.length ∧ φ t.1 t.2) (fun t => ls.length - t.1) ((0, s0)) (⟨Nat.zero_le _, h0⟩) (.cons rfl (by first | exact fun _ _ h => h | exact d_int (by omega) | exact d_int (by simp) | exact d_intN (by omega) | exact d_any) .nil) (rfl) ?_
  rintro t ⟨hi, hs⟩ ih1
  refine au 5 ?_
  refine run_cond rfl (fun h2 => ?_) (fun h2 => ?_)
  ·
   refine au 4 ?_
   refine run_rowForm .here (by omega) (fun b cap hvb => ?_)
   subst hvb
   refine au 9 ?_
   refine runL_inv (fun I w h => h.perm List.perm_middle.symm) ?_
   refine run_yieldOp hy (i := t.1) (x := ls[t.1]?.getD default) (s := t.2) (F := rRow _ 38 1 fR ls :: F) rfl rfl rfl (by rw [List.getElem?_eq_getElem (by omega)]; rfl) hs rfl (fun I us hr => hr) (fun s9 hs9 => ?_)
   refine runL_inv (fun I w h => h.perm List.perm_middle) ?_
   refine au 2 ?_
   refine run_cond rfl (fun h3 => ?_) (fun h3 => ?_)
   · exfalso; simp at h3
   ·
    refine au 6 ?_
    exact run_againE ih1 ((t.1 + 1, s9)) (⟨by simp only; omega, hs9⟩) (by simp only; omega) (.cons rfl (by first | exact fun _ _ h => h | exact d_int (by omega) | exact d_int (by simp) | exact d_intN (by omega) | exact d_any) .nil) (.cons rfl (fun _ _ x => x) (.cons rfl (fun _ _ x => x) (.cons rfl (fun _ _ x => x) (.nil)))) (rfl)
  ·
   skip
   refine au 1 ?_
   refine run_ret0End (t.2) Tryz.func107 rfl  ?_ (by rw [show ls.length = t.1 by omega]; exact hs) (fun _ _ h => by rw [show ls.length = t.1 by omega]; exact h.perm List.perm_middle.symm)
   exact fun _ _ _ => trivial
theorem each_spec (v : Value) (ls : List (List Int)) (hl : ls.length ≤ 100000) : SpecP Tryz.prog 101 [dSlV v] (dSeqR Tryz.prog fR ls [rRow v 38 1 fR ls]) := by
 refine specP_of_body Tryz.func101 rfl rfl (fun I M => ?_)
 refine au 10 ?_
 refine run_retP Tryz.func101 rfl rfl ?_
 exact clo_seq (each1_iter v ls hl)
theorem sumM_spec (p : Int) (n : Nat) (ls : List (List Int)) (Rs : List Res) (h : 2 ≤ p ∧ p ≤ 65521) (hn : n ≤ 1024) (hls : ∀ l ∈ ls, l.length = n ∧ ∀ x ∈ l, hasP p x) : Spec Tryz.prog 100 [dInt .i64 p, dInt .i64 (n : Nat), dSeqR Tryz.prog fR ls Rs] Rs (σ := Value) (fun _ => True) (fun v => dVal v) (fun v => rRow v 3 1 fI (sumL p n ls) :: Rs) := by
  refine spec_of_body Tryz.func100 rfl rfl (fun I F => ?_)
  refine au 8 ?_
  refine run_new (loc_makeSlice rfl rfl (by first | omega | assumption) (by first | omega | assumption) _ _ rfl (by simp)) rfl (fun b10 _ => ?_)
  refine run_new (loc_allocOwn (by simp)) rfl (fun b7 _ => ?_)
  refine au 8 ?_
  rw [show ((n : Nat) : Int).toNat = n from rfl]
  refine run_rangeFunc (σ := Unit) (ps := [12]) (fun i s => True) (fun i s => [rCells b7 38 [dVal (.slice (some ⟨b10, 0, none⟩) n n)], rRow (.slice (some ⟨b10, 0, none⟩) n n) 3 1 fI ((ls.take i).foldl (fun a l => addT p 1 a l) (List.replicate n 0))]) (()) rfl rfl rfl (fun _ => rfl) rfl (trivial) rfl (fun i x1 s l1 r1 F1 J hx1 hφ => ?_) (fun D s hφ => ?_)
  ·
   dsimp only [setP]
   have hac := sumL_ok h.1 (n := n) (ls := ls.take i) (a := List.replicate n 0) (by simp) (rep0_has h.1 n)
   have hii := (List.getElem?_eq_some_iff.1 hx1).1
   refine au 3 ?_
   refine run_beginR (.here) ?_
   refine au 3 ?_
   first | refine run_op (LocP.upV (loc_loadOwn1 rfl (.there (.here)) (by rfl))) rfl ?_ | refine run_op (loc_loadOwn1 rfl (.there (.here)) (by rfl)) rfl ?_
   refine au 1 ?_
   refine run_callM rfl (.there (.there (.here))) (addTimes_spec _ _ _ _ _ h (by omega) hac.2 (hls x1 (List.mem_of_getElem? hx1)).2 (by rw [hac.1, (hls x1 (List.mem_of_getElem? hx1)).1]; exact Nat.le_refl _)) rfl (fun s2 hs2 => ?_)
   refine au 2 ?_
   refine run_inv (M' := rBusy l1 r1 :: rCells b7 38 [dVal (.slice (some ⟨b10, 0, none⟩) n n)] :: rRow (.slice (some ⟨b10, 0, none⟩) n n) 3 1 fI ((ls.take (i + 1)).foldl (fun a l => addT p 1 a l) (List.replicate n 0)) :: F1) (fun I w h => by rw [foldl_take _ _ _ _ hii, hx1]; exact h) ?_
   exact run_roundEnd (()) (trivial) .here rfl
  ·
   refine au 3 ?_
   first | refine run_op (LocP.upV (loc_loadOwn1 rfl (.there (.here)) (by rfl))) rfl ?_ | refine run_op (loc_loadOwn1 rfl (.there (.here)) (by rfl)) rfl ?_
   refine au 2 ?_
   refine run_retMk (.slice (some ⟨b10, 0, none⟩) n n) (.here) Tryz.func100 rfl (.tmp rfl (.nil)) ?_ (trivial) (fun I w h => by have h2 := h.sub (.cons _ (.refl _)); rw [List.take_of_length_le (Nat.le_refl _)] at h2; exact h2)
   exact fun _ _ h => h
theorem sum_spec (p : Int) (n : Nat) (ls : List (List Int)) (Rs : List Res) (h : 2 ≤ p ∧ p ≤ 65521) (hn : n ≤ 1024) (hls : ∀ l ∈ ls, l.length = n ∧ ∀ x ∈ l, hasP p x) : Spec Tryz.prog 100 [dInt .i64 p, dInt .i64 (n : Nat), dSeqR Tryz.prog fR ls Rs] Rs (σ := Unit) (fun _ => True) (fun _ => dInts (sumL p n ls)) (fun _ => Rs) := spec_freezeS (sumM_spec p n ls Rs h hn hls)
theorem unit_spec (p n k : Int) : Spec Tryz.prog 98 [dAgg [dInt .i64 p], dInt .i64 n, dInt .i64 k] [] (σ := Value) (fun _ => True) (fun v => dTup [dVal v, dInt .i64 (unitE p n k)]) (fun v => [rRow v 3 1 fI (if unitE p n k = 0 then unitL n.toNat k.toNat else [])]) := by
  refine spec_of_body Tryz.func98 rfl rfl (fun I F => ?_)
  refine au 10 ?_
  refine run_op (loc_call (of_spec _) rfl) rfl ?_
  refine au 11 ?_
  refine run_cond rfl (fun h1 => ?_) (fun h1 => ?_)
  ·
   have c1 := h1
   refine au 5 ?_
   have hE : unitE p n k = 9 := by unfold unitE; rw [if_pos c1]
   refine run_ret2 (.slice none 0 0) Tryz.func98 rfl rfl rfl ?_ (trivial) (fun I w h => by rw [hE]; exact nil_ok h)
   exact d_tup2 (fun _ _ h => h) (d_int hE.symm)
  ·
   have c1 := h1
   refine au 12 ?_
   refine run_cond rfl (fun h2 => ?_) (fun h2 => ?_)
   ·
    have c2 := h2
    refine au 5 ?_
    have hE : unitE p n k = 4 := by unfold unitE; rw [if_neg c1, if_pos c2]
    refine run_ret2 (.slice none 0 0) Tryz.func98 rfl rfl rfl ?_ (trivial) (fun I w h => by rw [hE]; exact nil_ok h)
    exact d_tup2 (fun _ _ h => h) (d_int hE.symm)
   ·
    have c2 := h2
    refine au 13 ?_
    refine run_cond rfl (fun h3 => ?_) (fun h3 => ?_)
    ·
     have c3 := h3
     refine au 5 ?_
     have hE : unitE p n k = 1 := by unfold unitE; rw [if_neg c1, if_neg c2, if_pos (by omega)]
     refine run_ret2 (.slice none 0 0) Tryz.func98 rfl rfl rfl ?_ (trivial) (fun I w h => by rw [hE]; exact nil_ok h)
     exact d_tup2 (fun _ _ h => h) (d_int hE.symm)
    ·
     have c3 := h3
     refine au 4 ?_
     refine run_new (loc_makeSlice rfl rfl (by first | omega | assumption) (by first | omega | assumption) _ _ rfl (by simp)) rfl (fun b10 _ => ?_)
     refine au 3 ?_
     have hrl : (List.replicate n.toNat (0 : Int)).length = n.toNat := List.length_replicate
     refine au 4 ?_
     refine run_storeRow1 rfl (.here) rfl (by rfl) (by first | omega | assumption) ?_
     refine au 7 ?_
     have hE : unitE p n k = 0 := by unfold unitE; rw [if_neg c1, if_neg c2, if_neg (by omega)]
     refine run_ret2 (.slice (some ⟨b10, 0, none⟩) n.toNat n.toNat) Tryz.func98 rfl rfl rfl ?_ (trivial) (fun I w h => by rw [hE]; exact h)
     exact d_tup2 (fun _ _ h => h) (d_int hE.symm)
theorem pqueriesM_spec (p rows s index : Int) (t : Tape) : Spec Tryz.prog 95 [dAgg [dInt .i64 p], dInt .i64 rows, dInt .i64 s, dInt .i64 index, dTape t] [] (σ := Value) (fun _ => True) (fun v => dTup [dVal v, dTape (pqT p rows s index t), dInt .i64 (pqE p rows s index t)]) (fun v => [rRow v 38 1 fR (pqL p rows s index t)]) := by
  refine spec_of_body Tryz.func95 rfl rfl (fun I F => ?_)
  refine au 3 ?_
  refine run_new (loc_boxOwnN rfl) rfl (fun b9 _ => ?_)
  refine au 1 ?_
  refine run_new (loc_allocOwn (by simp)) rfl (fun b11 _ => ?_)
  refine au 8 ?_
  refine run_op (loc_call (pcheck_spec _ _ _) rfl) rfl ?_
  refine au 7 ?_
  refine run_cond rfl (fun h1 => ?_) (fun h1 => ?_)
  ·
   have c1 := h1
   refine au 8 ?_
   have hE : pqE p rows s index t = parE p rows s := by unfold pqE; rw [if_pos c1]
   refine run_retG (.slice none 0 0) Tryz.func95 rfl (.tmp rfl (.cellN rfl (.here) (by rfl) (.tmp rfl (.nil)))) ?_ (trivial) (fun I w h => by rw [show pqL p rows s index t = [] by unfold pqL; rw [if_neg (by rw [hE]; omega)]]; exact nil_ok ((fun _ _ h => h.sub (.cons _ (.cons _ (.refl _)))) I w h))
   exact d_tup3 (fun _ _ h => h) (d_toTape (by unfold pqT; rw [if_neg (by rw [hE]; omega)]) (d_aggU (.cons d_nil (.cons (d_int rfl) .nil)))) (d_int hE.symm)
  ·
   have c1 := Classical.not_not.1 h1
   refine au 13 ?_
   refine run_cond rfl (fun h2 => ?_) (fun h2 => ?_)
   ·
    have c2 := h2
    refine au 7 ?_
    have hE : pqE p rows s index t = 6 := by unfold pqE; rw [if_neg (Classical.not_not.2 c1), if_pos (by omega)]
    refine run_retG (.slice none 0 0) Tryz.func95 rfl (.tmp rfl (.cellN rfl (.here) (by rfl) (.tmp rfl (.nil)))) ?_ (trivial) (fun I w h => by rw [show pqL p rows s index t = [] by unfold pqL; rw [if_neg (by rw [hE]; omega)]]; exact nil_ok ((fun _ _ h => h.sub (.cons _ (.cons _ (.refl _)))) I w h))
    exact d_tup3 (fun _ _ h => h) (d_toTape (by unfold pqT; rw [if_neg (by rw [hE]; omega)]) (d_aggU (.cons d_nil (.cons (d_int rfl) .nil)))) (d_int hE.symm)
   ·
    have c2 := h2
    refine au 2 ?_
    obtain ⟨hp, hs, hr⟩ := parE_zero c1
    have hpb := hp.1
    have hpb2 := hp.2.1
    refine au 11 ?_
    refine run_rowNil 38 1 fR ?_
    refine run_front (.there (.there (.here))) ?_
    refine run_front (.there (.here)) ?_
    refine run_loopF (σ := Value × Nat) (ks := [1, 3, 5, 9, 11, 38]) (.cons rfl (.cons rfl (.cons rfl (.cons rfl (.cons rfl (.cons rfl (.nil))))))) (fun q => [(14, dVal q.1), (39, dInt .i64 (q.2 : Nat))]) (fun q => [rRow q.1 38 1 fR (pQs (pBase t) rows.toNat q.2), rCells b9 50 (cTape (tpK t p rows q.2))]) (fun q => q.2 ≤ (s - 1).toNat ∧ (q.2 = 0 ∨ drawE t p (rows * q.2) = 0)) (fun q => (s - 1).toNat - q.2) ((.slice none 0 0, 0)) (⟨Nat.zero_le _, .inl rfl⟩) (.cons rfl (by first | exact fun _ _ h => h | exact d_int (by omega) | exact d_int (by simp) | exact d_intN (by omega) | exact d_any) (.cons rfl (by first | exact fun _ _ h => h | exact d_int (by omega) | exact d_int (by simp) | exact d_intN (by omega) | exact d_any) .nil)) (rfl) ?_
    rintro q ⟨hq, hqd⟩ ih3
    have hql := pQs_len (pBase t) rows.toNat q.2
    refine au 5 ?_
    refine run_cond rfl (fun h4 => ?_) (fun h4 => ?_)
    ·
     refine au 9 ?_
     refine run_op (loc_call (draws_spec _ _ _) rfl) rfl ?_
     refine au 4 ?_
     refine run_new (loc_allocOwn (by simp)) rfl (fun b5 _ => ?_)
     refine au 10 ?_
     refine run_cond rfl (fun h6 => ?_) (fun h6 => ?_)
     ·
      have c3 := h6
      have hpos : 0 ≤ rows * (s - 1 - ((q.2 : Int) + 1)) := Int.mul_nonneg (by omega) (by omega)
      have hpos2 : 0 ≤ rows * ((q.2 : Int) + 1) := Int.mul_nonneg (by omega) (by omega)
      have hEs := tpK_E (t := t) (p := p) hr.1 hqd
      refine au 8 ?_
      have hE : pqE p rows s index t = drawE (tpK t p rows q.2) p rows := by unfold pqE; rw [if_neg (Classical.not_not.2 c1), if_neg (by omega), show rows * (s - 1) = rows * ((q.2 : Int) + 1) + rows * (s - 1 - ((q.2 : Int) + 1)) by rw [← Int.mul_add]; congr 1; omega, drawE_stop hpos2 hpos (by rw [← hEs]; exact c3), hEs]
      refine run_retG (.slice none 0 0) Tryz.func95 rfl (.tmp rfl (.cellN rfl (.there (.there (.there (.here)))) (by rfl) (.tmp rfl (.nil)))) ?_ (trivial) (fun I w h => by rw [show pqL p rows s index t = [] by unfold pqL; rw [if_neg (by rw [hE]; omega)]]; exact nil_ok ((fun _ _ h => h.sub (.cons _ (.cons _ (.cons _ (.cons _ (.refl _)))))) I w h))
      exact d_tup3 (fun _ _ h => h) (d_toTape (by unfold pqT; rw [if_neg (by rw [hE]; omega)]) (d_aggU (.cons d_nil (.cons (d_int rfl) .nil)))) (d_int hE.symm)
     ·
      have c3 := tpK_ok hr.1 hqd (Classical.not_not.1 h6)
      refine au 1 ?_
      refine dr_start _ (.one (σ := Value) 4 (fun _ => True)) [⟨[(15, none)], [], some (0, 0, false)⟩,
          ⟨[(14, none)], [], none⟩,
          ⟨[(16, none)], [], none⟩,
          ⟨[(56, some (2, false))], [2], none⟩,
          ⟨[(55, some (1, false)), (57, some (3, false))], [1, 2, 3], some (1, 0, true)⟩,
          ⟨[(9, none), (54, some (0, false))], [0, 1, 2, 3, 4], some (2, 0, true)⟩,
          ⟨[(58, some (4, false))], [0, 1, 2, 3, 4, 5], none⟩] [_, _, _, _] _ rfl rfl ?_
      refine da 3 ?_
      refine dq_pure rfl (fun s => .op rfl (.nil)) (fun s hs _ => loc_buildSlice rfl rfl (.one rfl (.nil)) rfl rfl) (by exact .cons (.inr fun _ _ _ => rfl) (.nil)) ?_
      refine dq_choose id (fun _ t => t) rfl (fun _ _ => ⟨rfl, id, trivial⟩) (fun s => .op rfl (.op rfl (.nil))) rfl rfl (fun s hs => loc_append1 _ rfl rfl rfl rfl (by first | omega | (simp [lenMax]; omega) | (simp [lenMax]; done) | assumption) (by first | omega | (simp [lenMax]; omega) | (simp [lenMax]; done) | assumption)) (by exact .cons (.inl rfl) (.nil)) (fun _ _ => rfl) ?_
      refine dq_write0 rfl (fun s => .g rfl (.op rfl (.nil))) rfl rfl (fun s hs => loc_storeN (ho := (by show OneAll [_, _]; infer_instance)) rfl rfl rfl) (by exact .cons (.inl rfl) (.nil)) ?_
      refine da 1 ?_
      refine dq_end (rs := [_, _, _, _]) (.bool true) rfl (fun _ => rfl) (.cons rfl (.nil)) rfl (fun _ => rfl) (fun v9 _ => ?_)
      dsimp only [outG, outM, List.map, List.set, id]
      refine au 5 ?_
      refine run_drop (.cons _ (.refl _)) ?_
      exact run_againF ih3 ((v9, q.2 + 1)) (⟨by simp only; omega, .inr c3.2.2⟩) (by simp only; omega) (.cons rfl (by first | exact fun _ _ h => h | exact d_int (by omega) | exact d_int (by simp) | exact d_intN (by omega) | exact d_any) (.cons rfl (by first | exact fun _ _ h => h | exact d_int (by omega) | exact d_int (by simp) | exact d_intN (by omega) | exact d_any) .nil)) (.cons rfl (fun _ _ x => x) (.cons rfl (fun _ _ x => x) (.cons rfl (fun _ _ x => x) (.cons rfl (fun _ _ x => x) (.cons rfl (fun _ _ x => x) (.cons rfl (fun _ _ x => x) (.nil))))))) (by simp only [appR]; rw [pQs_snoc, ← c3.1, ← c3.2.1]; rfl)
    ·
     refine au 2 ?_
     have hqs : ((q.2 : Nat) : Int) = s - 1 := by omega
     have hz : drawE t p (rows * q.2) = 0 := hqd.resolve_left (by omega)
     have hE : pqE p rows s index t = 0 := by unfold pqE; rw [if_neg (Classical.not_not.2 c1), if_neg (by omega), ← hqs]; exact hz
     have hall := pQs_all hr.1 hz
     have hu : unitE p rows index = 0 := by unfold unitE; rw [if_neg (Classical.not_not.2 hp), if_neg (by omega), if_neg (by omega)]
     have hsum := sumL_ok hpb (n := rows.toNat) (ls := pQs (pBase t) rows.toNat q.2) (a := List.replicate rows.toNat 0) (by simp) (rep0_has hpb _)
     refine au 10 ?_
     refine run_callN rfl (unit_spec _ _ _) rfl (fun v7 hv7 => ?_)
     refine au 6 ?_
     rw [if_pos hu]
     refine au 1 ?_
     refine run_rowV (s := 14) rfl (.there (.here)) ?_
     refine run_recast (s := 1) rfl (d_int (n := ((rows.toNat : Nat) : Int)) (by omega)) ?_
     refine dr_start _ (.none) [⟨[(18, none)], [], none⟩,
         ⟨[(19, none)], [], none⟩,
         ⟨[(5, none)], [], none⟩,
         ⟨[(71, some (2, false))], [2], none⟩,
         ⟨[(72, some (3, false))], [2, 3], none⟩,
         ⟨[(18, none)], [], none⟩,
         ⟨[(1, none)], [], none⟩,
         ⟨[(14, none)], [], none⟩,
         ⟨[(76, some (7, false))], [7], none⟩,
         ⟨[(74, some (5, false)), (75, some (6, false)), (77, some (8, false))], [5, 6, 7, 8], some (1, 0, true)⟩,
         ⟨[(69, some (0, false)), (70, some (1, false)), (73, some (4, false)), (78, some (9, false))], [0, 1, 2, 3, 4, 5, 6, 7, 8, 9], some (0, 0, true)⟩] [_, _, _, _] _ rfl rfl ?_
     refine da 8 ?_
     refine dq_pure rfl (fun s => .op rfl (.nil)) (fun s hs _ => loc_call (each_spec _ (pQs (pBase t) rows.toNat q.2) (by omega)) rfl) (by exact .nil) ?_
     refine dq_write rfl (fun s => .op rfl (.op rfl (.op rfl (.nil)))) rfl rfl (fun s hs => loc_callM (sum_spec p rows.toNat _ _ ⟨hpb, hpb2⟩ (by omega) hall) rfl) (by exact .nil) ?_
     refine dq_write rfl (fun s => .op rfl (.op rfl (.op rfl (.op rfl (.nil))))) rfl rfl (fun s hs => loc_callM (addTimes_spec _ _ _ _ _ ⟨hpb, hpb2⟩ ⟨by omega, by omega⟩ (unitL_has hpb) hsum.2 (by rw [hsum.1, unitL_len]; exact Nat.le_refl _)) rfl) (by exact .nil) ?_
     refine dq_end (rs := [_, _, _, _]) () rfl (fun _ => rfl) (.nil) rfl (fun _ => rfl) (fun _ _ => ?_)
     dsimp only [outG, outM, List.map, List.set, id]
     refine au 1 ?_
     refine run_freezeRow (s := 19) rfl (.here) ?_
     refine dr_start _ (.one (σ := Value) 3 (fun _ => True)) [⟨[(14, none)], [], none⟩,
         ⟨[(19, none)], [], none⟩,
         ⟨[(81, some (1, false))], [1], none⟩,
         ⟨[(80, some (0, false)), (82, some (2, false))], [0, 1, 2], some (0, 0, true)⟩,
         ⟨[(9, none)], [], some (1, 0, false)⟩,
         ⟨[(83, some (3, false))], [0, 1, 2, 3], none⟩,
         ⟨[(11, none), (84, some (4, false))], [0, 1, 2, 3, 4, 5], some (2, 0, true)⟩,
         ⟨[], [0, 1, 2, 3, 4, 5, 6], none⟩] [_, _, _] _ rfl rfl ?_
     refine da 2 ?_
     refine dq_pure rfl (fun s => .op rfl (.nil)) (fun s hs _ => loc_buildSlice rfl rfl (.one rfl (.nil)) rfl rfl) (by exact .cons (.inr fun _ _ _ => rfl) (.nil)) ?_
     refine dq_choose id (fun _ t => t) rfl (fun _ _ => ⟨rfl, id, trivial⟩) (fun s => .op rfl (.op rfl (.nil))) rfl rfl (fun s hs => loc_append1V _ rfl rfl rfl rfl (by first | omega | (simp [lenMax]; omega) | (simp [lenMax]; done) | assumption) (by first | omega | (simp [lenMax]; omega) | (simp [lenMax]; done) | assumption)) (by exact .cons (.inl rfl) (.nil)) (fun _ _ => rfl) ?_
     refine da 2 ?_
     refine dq_write0 rfl (fun s => .g rfl (.op rfl (.nil))) rfl rfl (fun s hs => loc_storeN (ho := (by show OneAll [_, _]; infer_instance)) rfl rfl rfl) (by exact .cons (.inl rfl) (.nil)) ?_
     refine da 1 ?_
     refine dq_end (rs := [_, _, _]) (.bool true) rfl (fun _ => rfl) (.cons rfl (.nil)) rfl (fun _ => rfl) (fun v8 _ => ?_)
     dsimp only [outG, outM, List.map, List.set, id]
     refine run_retG (v8) Tryz.func95 rfl (.tmp rfl (.cellN rfl (.there (.there (.here))) (by rfl) (.tmp rfl (.nil)))) ?_ (trivial) (fun I w h => by rw [show pqL p rows s index t = pQs (pBase t) rows.toNat q.2 ++ [pLast p index rows (pQs (pBase t) rows.toNat q.2)] by unfold pqL; rw [if_pos hE, show (s - 1).toNat = q.2 by omega]]; exact (fun _ _ h => h.sub (.cons_cons _ (.cons _ (.cons _ (.refl _))))) I w h)
     exact d_tup3 (fun _ _ h => h.1) (d_toTape (t' := tpK t p rows q.2) (by unfold pqT tpK; rw [if_pos hE, if_neg (by omega), hqs]) (fun _ _ h => h)) (d_int hE.symm)
theorem pqueries_spec (p rows s index : Int) (t : Tape) : SpecP Tryz.prog 95 [dAgg [dInt .i64 p], dInt .i64 rows, dInt .i64 s, dInt .i64 index, dTape t] (dTup [dRows (pqL p rows s index t), dTape (pqT p rows s index t), dInt .i64 (pqE p rows s index t)]) := spec_freeze3 (pqueriesM_spec p rows s index t)
end Go.Q

namespace Go.Q
open Go.Proofs
open Classical
theorem gcheck_spec (p s d g : Int) : SpecP Tryz.prog 132 [dAgg [dInt .i64 p], dAgg [dInt .i64 s, dInt .i64 d, dInt .i64 g]] (dInt .i64 (codE p s d g)) := by
  refine specP_of_body Tryz.func132 rfl rfl (fun I M => ?_)
  refine au 10 ?_
  refine run_op (loc_call (of_spec _) rfl) rfl ?_
  refine au 11 ?_
  refine run_cond rfl (fun h1 => ?_) (fun h1 => ?_)
  ·
   have c1 := h1
   refine au 4 ?_
   refine run_retP Tryz.func132 rfl rfl ?_
   exact d_int (by unfold codE; rw [if_pos c1])
  ·
   have c1 := h1
   refine au 52 ?_
   first | refine run_gop rfl rfl gdI.ok (fun hg => loc_mul rfl rfl (by first | omega | assumption | (refine ⟨?_, ?_⟩ <;> omega))) rfl ?_ | refine run_gop rfl rfl gdI.ok (fun hg => loc_mulW rfl rfl) rfl ?_
   refine au 2 ?_
   first | refine run_gop rfl rfl gdI.ok (fun hg => loc_add rfl rfl (by first | omega | assumption | (refine ⟨?_, ?_⟩ <;> omega))) rfl ?_ | refine run_gop rfl rfl gdI.ok (fun hg => loc_addW rfl rfl) rfl ?_
   first | refine run_gop rfl rfl gdI.ok (fun hg => loc_sub rfl rfl (by first | omega | assumption | (refine ⟨?_, ?_⟩ <;> omega))) rfl ?_ | refine run_gop rfl rfl gdI.ok (fun hg => loc_subW rfl rfl) rfl ?_
   refine au 6 ?_
   refine run_cond rfl (fun h2 => ?_) (fun h2 => ?_)
   ·
    have c2 := h2
    refine au 4 ?_
    refine run_retP Tryz.func132 rfl rfl ?_
    exact d_int (by unfold codE; rw [if_neg c1, if_pos (by omega)])
   ·
    have c2 := h2
    refine au 5 ?_
    refine run_retP Tryz.func132 rfl rfl ?_
    exact d_int (by unfold codE; rw [if_neg c1, if_neg (by omega)])
theorem gcheckR_spec (p s d g n : Int) : SpecP Tryz.prog 130 [dAgg [dInt .i64 p], dAgg [dInt .i64 s, dInt .i64 d, dInt .i64 g], dInt .i64 n] (dInt .i64 (codRE p s d g n)) := by
  refine specP_of_body Tryz.func130 rfl rfl (fun I M => ?_)
  refine au 10 ?_
  refine run_op (loc_call (gcheck_spec _ _ _ _) rfl) rfl ?_
  refine au 15 ?_
  first | refine run_gfirst rfl rfl gdI.ok (fun hg => loc_or rfl rfl) rfl ?_ | refine run_gfirst rfl rfl gdI.ok (fun hg => loc_orG hg rfl rfl) rfl ?_ | refine run_gfirst rfl rfl gdI.ok (fun hg => loc_orH hg rfl rfl) rfl ?_
  refine au 3 ?_
  refine run_cond rfl (fun h1 => ?_) (fun h1 => ?_)
  ·
   have c1 := h1
   refine au 4 ?_
   refine run_retP Tryz.func130 rfl rfl ?_
   exact d_int (by unfold codRE; rw [if_pos c1])
  ·
   have c1 := h1
   refine au 6 ?_
   refine run_retP Tryz.func130 rfl rfl ?_
   exact d_int (by unfold codRE; rw [if_neg c1])
theorem glimits_spec (p s d g n : Int) : SpecP Tryz.prog 128 [dAgg [dInt .i64 p], dAgg [dInt .i64 s, dInt .i64 d, dInt .i64 g], dInt .i64 n] (dTup [dInts (limsG p s d g n), dInt .i64 (codRE p s d g n)]) := by
  refine specP_of_body Tryz.func128 rfl rfl (fun I M => ?_)
  refine au 13 ?_
  refine run_op (loc_call (gcheckR_spec _ _ _ _ _) rfl) rfl ?_
  refine au 7 ?_
  refine run_cond rfl (fun h1 => ?_) (fun h1 => ?_)
  ·
   have c1 := h1
   refine au 6 ?_
   refine run_ret2P Tryz.func128 rfl rfl rfl ?_
   exact d_tup2 (d_toInts (by unfold limsG; rw [if_neg c1]) d_nil) (d_int rfl)
  ·
   have c1 := Classical.not_not.1 h1
   refine au 7 ?_
   obtain ⟨hce, hn⟩ := codRE_zero c1
   obtain ⟨hp, hs, hsp, hd, hg, hgd⟩ := codE_zero hce
   have hm := mul_bd (a := n) (b := d) (A := 1024) (B := 10) (by omega) (by omega) (by omega) (by omega)
   refine au 8 ?_
   refine run_rowNil 3 1 fI ?_
   refine run_loopF (σ := Value × Nat) (ks := [3, 20]) (.cons rfl (.cons rfl (.nil))) (fun q => [(9, dVal q.1), (21, dInt .i64 (q.2 : Nat))]) (fun q => [rRow q.1 3 1 fI (List.replicate q.2 p)]) (fun q => q.2 ≤ (n * d).toNat) (fun q => (n * d).toNat - q.2) ((.slice none 0 0, 0)) (Nat.zero_le _) (.cons rfl (by first | exact fun _ _ h => h | exact d_int (by omega) | exact d_int (by simp) | exact d_intN (by omega) | exact d_any) (.cons rfl (by first | exact fun _ _ h => h | exact d_int (by omega) | exact d_int (by simp) | exact d_intN (by omega) | exact d_any) .nil)) (rfl) ?_
   intro q hq ih2
   have hql : (List.replicate q.2 p).length = q.2 := List.length_replicate
   refine au 5 ?_
   refine run_cond rfl (fun h3 => ?_) (fun h3 => ?_)
   ·
    refine au 7 ?_
    refine run_op (loc_buildSlice rfl rfl (.one rfl (.nil)) rfl rfl) rfl ?_
    refine run_append1 rfl (.here) rfl (by rfl) (by rfl) (by first | omega | (simp [lenMax]; omega) | (simp [lenMax]; done) | assumption) (by first | omega | (simp [lenMax]; omega) | (simp [lenMax]; done) | assumption) rfl (fun v4 => ?_)
    refine au 7 ?_
    exact run_againF ih2 ((v4, q.2 + 1)) (by simp only; omega) (by simp only; omega) (.cons rfl (by first | exact fun _ _ h => h | exact d_int (by omega) | exact d_int (by simp) | exact d_intN (by omega) | exact d_any) (.cons rfl (by first | exact fun _ _ h => h | exact d_int (by omega) | exact d_int (by simp) | exact d_intN (by omega) | exact d_any) .nil)) (.cons rfl (fun _ _ x => x) (.cons rfl (fun _ _ x => x) (.nil))) (by simp only [appR]; rw [rep_snoc])
   ·
    refine au 2 ?_
    refine run_freezeRow (s := 9) rfl (.here) ?_
    refine au 5 ?_
    refine run_ret2P Tryz.func128 rfl rfl rfl ?_
    exact d_tup2 (d_eq (by unfold limsG; rw [if_pos c1, show q.2 = (n * d).toNat by omega])) (d_int c1.symm)
theorem powerI_spec (p a g : Int) (h : 2 ≤ p ∧ p ≤ 65521) (ha : 0 ≤ a ∧ a ≤ 65521) (hg : 0 ≤ g ∧ g ≤ 65521) : SpecP Tryz.prog 131 [dInt .i64 p, dInt .i64 a, dInt .i64 g] (dInt .i64 (powM p a g.toNat)) := by
 have h1 := power_spec p a g.toNat h ha (by omega)
 rw [show ((g.toNat : Nat) : Int) = g by omega] at h1
 exact h1
theorem gqueriesM_spec (p s d g n group : Int) (t : Tape) : Spec Tryz.prog 129 [dAgg [dInt .i64 p], dAgg [dInt .i64 s, dInt .i64 d, dInt .i64 g], dInt .i64 n, dInt .i64 group, dTape t] [] (σ := Value) (fun _ => True) (fun v => dTup [dVal v, dTape (gqT p s d g n group t), dInt .i64 (gqE p s d g n group t)]) (fun v => [rRow v 38 1 fR (gqL p s d g n group t)]) := by
  refine spec_of_body Tryz.func129 rfl rfl (fun I F => ?_)
  refine au 4 ?_
  refine run_new (loc_boxOwnN rfl) rfl (fun b9 _ => ?_)
  refine au 1 ?_
  refine run_new (loc_allocOwn (by simp)) rfl (fun b11 _ => ?_)
  refine au 8 ?_
  refine run_op (loc_call (gcheckR_spec _ _ _ _ _) rfl) rfl ?_
  refine au 7 ?_
  refine run_cond rfl (fun h1 => ?_) (fun h1 => ?_)
  ·
   have c1 := h1
   refine au 8 ?_
   have hE : gqE p s d g n group t = codRE p s d g n := by unfold gqE; rw [if_pos c1]
   refine run_retG (.slice none 0 0) Tryz.func129 rfl (.tmp rfl (.cellN rfl (.here) (by rfl) (.tmp rfl (.nil)))) ?_ (trivial) (fun I w h => by rw [show gqL p s d g n group t = [] by unfold gqL; rw [if_neg (by rw [hE]; omega)]]; exact nil_ok ((fun _ _ h => h.sub (.cons _ (.cons _ (.refl _)))) I w h))
   exact d_tup3 (fun _ _ h => h) (d_toTape (by unfold gqT; rw [if_neg (by rw [hE]; omega)]) (d_aggU (.cons d_nil (.cons (d_int rfl) .nil)))) (d_int hE.symm)
  ·
   have c1 := Classical.not_not.1 h1
   refine au 13 ?_
   refine run_cond rfl (fun h2 => ?_) (fun h2 => ?_)
   ·
    have c2 := h2
    refine au 7 ?_
    have hE : gqE p s d g n group t = 6 := by unfold gqE; rw [if_neg (Classical.not_not.2 c1), if_pos (by omega)]
    refine run_retG (.slice none 0 0) Tryz.func129 rfl (.tmp rfl (.cellN rfl (.here) (by rfl) (.tmp rfl (.nil)))) ?_ (trivial) (fun I w h => by rw [show gqL p s d g n group t = [] by unfold gqL; rw [if_neg (by rw [hE]; omega)]]; exact nil_ok ((fun _ _ h => h.sub (.cons _ (.cons _ (.refl _)))) I w h))
    exact d_tup3 (fun _ _ h => h) (d_toTape (by unfold gqT; rw [if_neg (by rw [hE]; omega)]) (d_aggU (.cons d_nil (.cons (d_int rfl) .nil)))) (d_int hE.symm)
   ·
    have c2 := h2
    refine au 2 ?_
    obtain ⟨hce, hn⟩ := codRE_zero c1
    obtain ⟨hp, hs, hsp, hd, hg, hgd⟩ := codE_zero hce
    have hpb := hp.1
    have hpb2 := hp.2.1
    have hm := mul_bd (a := n) (b := d) (A := 1024) (B := 10) (by omega) (by omega) (by omega) (by omega)
    refine au 8 ?_
    refine run_op (loc_call (draws_spec _ _ _) rfl) rfl ?_
    refine au 8 ?_
    have hE : gqE p s d g n group t = drawE t p (n * d) := by unfold gqE; rw [if_neg (Classical.not_not.2 c1), if_neg (by omega)]
    refine au 6 ?_
    refine run_cond rfl (fun h3 => ?_) (fun h3 => ?_)
    ·
     have c3 := h3
     refine au 8 ?_
     skip
     refine run_retG (.slice none 0 0) Tryz.func129 rfl (.tmp rfl (.cellN rfl (.here) (by rfl) (.tmp rfl (.nil)))) ?_ (trivial) (fun I w h => by rw [show gqL p s d g n group t = [] by unfold gqL; rw [if_neg (by rw [hE]; omega)]]; exact nil_ok ((fun _ _ h => h.sub (.cons _ (.cons _ (.refl _)))) I w h))
     exact d_tup3 (fun _ _ h => h) (d_toTape (by unfold gqT; rw [if_neg (by rw [hE]; omega)]) (d_aggU (.cons d_nil (.cons (d_int rfl) .nil)))) (d_int hE.symm)
    ·
     have c3 := Classical.not_not.1 h3
     refine au 2 ?_
     have hdz := drawE_zero c3
     have hdl := hdz.2.2.2.2.1
     have hda := hdz.2.2.2.2.2
     refine au 15 ?_
     refine run_rowNil 38 1 fR ?_
     refine run_loopF (σ := Value × Nat) (ks := [2, 3, 6, 9, 11, 14, 16]) (.cons rfl (.cons rfl (.cons rfl (.cons rfl (.cons rfl (.cons rfl (.cons rfl (.nil)))))))) (fun q => [(17, dVal q.1), (18, dInt .i64 ((q.2 : Int) + 1))]) (fun q => [rRow q.1 38 1 fR (gQs p d g group (drawL t p (n * d)) n.toNat q.2)]) (fun q => q.2 ≤ s.toNat) (fun q => s.toNat - q.2) ((.slice none 0 0, 0)) (Nat.zero_le _) (.cons rfl (by first | exact fun _ _ h => h | exact d_int (by omega) | exact d_int (by simp) | exact d_intN (by omega) | exact d_any) (.cons rfl (by first | exact fun _ _ h => h | exact d_int (by omega) | exact d_int (by simp) | exact d_intN (by omega) | exact d_any) .nil)) (rfl) ?_
     rintro q hq ih4
     have hql : (gQs p d g group (drawL t p (n * d)) n.toNat q.2).length = q.2 := by simp [gQs]
     refine au 8 ?_
     refine run_cond rfl (fun h5 => ?_) (fun h5 => ?_)
     ·
      refine au 14 ?_
      refine run_rowNil 3 1 fI ?_
      refine run_loopF (σ := Value × Nat) (ks := [2, 3, 6, 9, 11, 14, 16, 17, 18, 62]) (.cons rfl (.cons rfl (.cons rfl (.cons rfl (.cons rfl (.cons rfl (.cons rfl (.cons rfl (.cons rfl (.cons rfl (.nil))))))))))) (fun u => [(19, dVal u.1), (63, dInt .i64 (u.2 : Nat))]) (fun u => [rRow u.1 3 1 fI (gRow p d g group (drawL t p (n * d)) ((q.2 : Int) + 1) u.2)]) (fun u => u.2 ≤ n.toNat) (fun u => n.toNat - u.2) ((.slice none 0 0, 0)) (Nat.zero_le _) (.cons rfl (by first | exact fun _ _ h => h | exact d_int (by omega) | exact d_int (by simp) | exact d_intN (by omega) | exact d_any) (.cons rfl (by first | exact fun _ _ h => h | exact d_int (by omega) | exact d_int (by simp) | exact d_intN (by omega) | exact d_any) .nil)) (rfl) ?_
      rintro u hu ih6
      have hul : (gRow p d g group (drawL t p (n * d)) ((q.2 : Int) + 1) u.2).length = u.2 := by simp [gRow]
      refine au 5 ?_
      refine run_cond rfl (fun h7 => ?_) (fun h7 => ?_)
      ·
       refine au 9 ?_
       have hqd := mul_bd (a := (u.2 : Int)) (b := d) (A := 1024) (B := 10) (by omega) (by omega) (by omega) (by omega)
       have hqd1 : ((u.2 : Int) + 1) * d = (u.2 : Int) * d + d := by rw [Int.add_mul, Int.one_mul]
       have hqd2 : ((u.2 : Int) + 1) * d ≤ n * d := Int.mul_le_mul_of_nonneg_right (by omega) (by omega)
       have hw1 := valP_bd (x := (q.2 : Int) + 1) (show 0 < p by omega) (((drawL t p (n * d)).take (((u.2 : Int) + 1) * d).toNat).drop ((u.2 : Int) * d).toNat)
       have hw2 : 0 ≤ powM p ((q.2 : Int) + 1) g.toNat ∧ powM p ((q.2 : Int) + 1) g.toNat < p := mod_bd _ (by omega)
       have hw3 := mod_bd (powM p ((q.2 : Int) + 1) g.toNat * valP p (((drawL t p (n * d)).take (((u.2 : Int) + 1) * d).toNat).drop ((u.2 : Int) * d).toNat) ((q.2 : Int) + 1)) (show 0 < p by omega)
       refine dr_start _ (.none) [⟨[(16, none)], [], none⟩,
           ⟨[(16, none)], [], none⟩,
           ⟨[(18, none)], [], none⟩,
           ⟨[(6, none)], [], none⟩,
           ⟨[(69, some (3, false))], [3], none⟩,
           ⟨[(67, some (1, false)), (68, some (2, false)), (70, some (4, false))], [1, 2, 3, 4], none⟩,
           ⟨[(16, none)], [], none⟩,
           ⟨[(14, none)], [], none⟩,
           ⟨[(20, none)], [], none⟩,
           ⟨[(6, none)], [], none⟩,
           ⟨[(75, some (9, false))], [9], none⟩,
           ⟨[(74, some (8, false)), (76, some (10, false))], [8, 9, 10], none⟩,
           ⟨[(20, none)], [], none⟩,
           ⟨[(78, some (12, false))], [12], none⟩,
           ⟨[(6, none)], [], none⟩,
           ⟨[(80, some (14, false))], [14], none⟩,
           ⟨[(79, some (13, false)), (81, some (15, false))], [12, 13, 14, 15], none⟩,
           ⟨[(73, some (7, false)), (77, some (11, false)), (82, some (16, false))], [7, 8, 9, 10, 11, 12, 13, 14, 15, 16], none⟩,
           ⟨[(18, none)], [], none⟩,
           ⟨[(72, some (6, false)), (83, some (17, false)), (84, some (18, false))], [1, 2, 3, 4, 5, 6, 7, 8, 9, 10, 11, 12, 13, 14, 15, 16, 17, 18], none⟩,
           ⟨[(66, some (0, false)), (71, some (5, false)), (85, some (19, false))], [0, 1, 2, 3, 4, 5, 6, 7, 8, 9, 10, 11, 12, 13, 14, 15, 16, 17, 18, 19], none⟩,
           ⟨[(86, some (20, false))], [0, 1, 2, 3, 4, 5, 6, 7, 8, 9, 10, 11, 12, 13, 14, 15, 16, 17, 18, 19, 20], none⟩] [] _ rfl rfl ?_
       refine da 5 ?_
       refine dq_pure rfl (fun s => .op rfl (.op rfl (.op rfl (.nil)))) (fun s hs _ => loc_call (powerI_spec _ _ _ ⟨hpb, hpb2⟩ ⟨by omega, by omega⟩ ⟨by omega, by omega⟩) rfl) (by exact .nil) ?_
       refine da 11 ?_
       refine dq_pure rfl (fun s => .op rfl (.op rfl (.op rfl (.nil)))) (fun s hs _ => loc_slice rfl rfl rfl (by first | omega | assumption)) (by exact .nil) ?_
       refine da 1 ?_
       refine dq_pure rfl (fun s => .op rfl (.op rfl (.op rfl (.nil)))) (fun s hs _ => loc_call (value_spec _ _ _ ⟨hpb, hpb2⟩ ⟨by omega, by omega⟩ (sl_all hda)) rfl) (by exact .nil) ?_
       refine dq_pure rfl (fun s => .op rfl (.op rfl (.op rfl (.nil)))) (fun s hs _ => loc_call (fmul_spec _ _ _ ⟨hpb, hpb2⟩ ⟨by omega, by omega⟩ ⟨by omega, by omega⟩) rfl) (by exact .nil) ?_
       refine da 1 ?_
       refine dq_end (rs := []) () rfl (fun _ => rfl) (.nil) rfl (fun _ => rfl) (fun _ _ => ?_)
       dsimp only [outG, outM, List.map, List.set, id]
       refine au 7 ?_
       refine run_joinC (σ := Unit) (ks := [2, 3, 6, 9, 11, 14, 16, 17, 18, 19, 62, 63]) (.cons rfl (.cons rfl (.cons rfl (.cons rfl (.cons rfl (.cons rfl (.cons rfl (.cons rfl (.cons rfl (.cons rfl (.cons rfl (.cons rfl (.nil))))))))))))) (fun _u => [(21, dInt .i64 (gV p d g group (drawL t p (n * d)) ((q.2 : Int) + 1) u.2))]) (fun _u => True) (fun j8 => ?_) ?_
       ·
        refine run_cond rfl (fun h9 => ?_) (fun h9 => ?_)
        ·
         refine au 3 ?_
         refine run_op (loc_call (fadd_spec _ _ _ ⟨hpb, hpb2⟩ ⟨by omega, by omega⟩ ⟨by omega, by omega⟩) rfl) rfl ?_
         refine au 2 ?_
         exact run_atC j8 (()) (trivial) (.cons rfl (d_int (by unfold gV; rw [if_pos (by omega)]; rfl)) .nil) (.cons rfl (fun _ _ x => x) (.cons rfl (fun _ _ x => x) (.cons rfl (fun _ _ x => x) (.cons rfl (fun _ _ x => x) (.cons rfl (fun _ _ x => x) (.cons rfl (fun _ _ x => x) (.cons rfl (fun _ _ x => x) (.cons rfl (fun _ _ x => x) (.cons rfl (fun _ _ x => x) (.cons rfl (fun _ _ x => x) (.cons rfl (fun _ _ x => x) (.cons rfl (fun _ _ x => x) (.nil)))))))))))))
        ·
         refine au 1 ?_
         exact run_atC j8 (()) (trivial) (.cons rfl (d_int (by unfold gV; rw [if_neg (by omega)]; rfl)) .nil) (.cons rfl (fun _ _ x => x) (.cons rfl (fun _ _ x => x) (.cons rfl (fun _ _ x => x) (.cons rfl (fun _ _ x => x) (.cons rfl (fun _ _ x => x) (.cons rfl (fun _ _ x => x) (.cons rfl (fun _ _ x => x) (.cons rfl (fun _ _ x => x) (.cons rfl (fun _ _ x => x) (.cons rfl (fun _ _ x => x) (.cons rfl (fun _ _ x => x) (.cons rfl (fun _ _ x => x) (.nil)))))))))))))
       intro _u _
       refine au 3 ?_
       refine run_op (loc_buildSlice rfl rfl (.one rfl (.nil)) rfl rfl) rfl ?_
       refine run_append1 rfl (.here) rfl (by rfl) (by rfl) (by first | omega | (simp [lenMax]; omega) | (simp [lenMax]; done) | assumption) (by first | omega | (simp [lenMax]; omega) | (simp [lenMax]; done) | assumption) rfl (fun v10 => ?_)
       refine au 7 ?_
       exact run_againF ih6 ((v10, u.2 + 1)) (by simp only; omega) (by simp only; omega) (.cons rfl (by first | exact fun _ _ h => h | exact d_int (by omega) | exact d_int (by simp) | exact d_intN (by omega) | exact d_any) (.cons rfl (by first | exact fun _ _ h => h | exact d_int (by omega) | exact d_int (by simp) | exact d_intN (by omega) | exact d_any) .nil)) (.cons rfl (fun _ _ x => x) (.cons rfl (fun _ _ x => x) (.cons rfl (fun _ _ x => x) (.cons rfl (fun _ _ x => x) (.cons rfl (fun _ _ x => x) (.cons rfl (fun _ _ x => x) (.cons rfl (fun _ _ x => x) (.cons rfl (fun _ _ x => x) (.cons rfl (fun _ _ x => x) (.cons rfl (fun _ _ x => x) (.nil))))))))))) (by simp only [appR]; rw [gRow_snoc])
      ·
       refine au 1 ?_
       refine run_freezeRow (s := 19) rfl (.here) ?_
       refine au 3 ?_
       refine run_op (loc_buildSlice rfl rfl (.one rfl (.nil)) rfl rfl) rfl ?_
       refine run_append1 rfl (.here) rfl (by rfl) (by rfl) (by first | omega | (simp [lenMax]; omega) | (simp [lenMax]; done) | assumption) (by first | omega | (simp [lenMax]; omega) | (simp [lenMax]; done) | assumption) rfl (fun v11 => ?_)
       refine au 8 ?_
       exact run_againF ih4 ((v11, q.2 + 1)) (by simp only; omega) (by simp only; omega) (.cons rfl (by first | exact fun _ _ h => h | exact d_int (by omega) | exact d_int (by simp) | exact d_intN (by omega) | exact d_any) (.cons rfl (by first | exact fun _ _ h => h | exact d_int (by omega) | exact d_int (by simp) | exact d_intN (by omega) | exact d_any) .nil)) (.cons rfl (fun _ _ x => x) (.cons rfl (fun _ _ x => x) (.cons rfl (fun _ _ x => x) (.cons rfl (fun _ _ x => x) (.cons rfl (fun _ _ x => x) (.cons rfl (fun _ _ x => x) (.cons rfl (fun _ _ x => x) (.nil)))))))) (by simp only [appR]; rw [gQs_snoc, show n.toNat = u.2 by omega])
     ·
      refine au 2 ?_
      refine dr_start _ (.none) [⟨[(17, none)], [], none⟩,
          ⟨[(9, none)], [], some (2, 0, false)⟩,
          ⟨[(102, some (0, false))], [0], none⟩,
          ⟨[(11, none), (103, some (1, false))], [0, 1, 2], some (1, 0, true)⟩,
          ⟨[], [0, 1, 2, 3], none⟩] [_, _, _] _ rfl rfl ?_
      refine da 3 ?_
      refine dq_write0 rfl (fun s => .g rfl (.op rfl (.nil))) rfl rfl (fun s hs => loc_storeN (ho := (by show OneAll [_, _]; infer_instance)) rfl rfl rfl) (by exact .nil) ?_
      refine da 1 ?_
      refine dq_end (rs := [_, _, _]) () rfl (fun _ => rfl) (.nil) rfl (fun _ => rfl) (fun _ _ => ?_)
      dsimp only [outG, outM, List.map, List.set, id]
      refine run_retG (q.1) Tryz.func129 rfl (.tmp rfl (.cellN rfl (.there (.here)) (by rfl) (.tmp rfl (.nil)))) ?_ (trivial) (fun I w h => by rw [show gqL p s d g n group t = gQs p d g group (drawL t p (n * d)) n.toNat q.2 by unfold gqL; rw [if_pos (hE.trans c3), show s.toNat = q.2 by omega]]; exact (fun _ _ h => h.sub (.cons_cons _ (.cons _ (.cons _ (.refl _))))) I w h)
      exact d_tup3 (fun _ _ h => h) (d_toTape (by unfold gqT; rw [if_pos (hE.trans c3)]) (fun _ _ h => h)) (d_int (hE.trans c3).symm)
theorem gqueries_spec (p s d g n group : Int) (t : Tape) : SpecP Tryz.prog 129 [dAgg [dInt .i64 p], dAgg [dInt .i64 s, dInt .i64 d, dInt .i64 g], dInt .i64 n, dInt .i64 group, dTape t] (dTup [dRows (gqL p s d g n group t), dTape (gqT p s d g n group t), dInt .i64 (gqE p s d g n group t)]) := spec_freeze3 (gqueriesM_spec p s d g n group t)
end Go.Q

namespace Go.Q
open Go.Proofs
open Classical
end Go.Q

namespace Go.Q
open Classical
def shapeS (s : Schm) : Prop := (2 ≤ s.servers ∧ s.servers ≤ 10) ∧ ((s.kind = 1 ∧ s.degree = 0 ∧ s.group = 0) ∨ (s.kind = 2 ∧ 1 ≤ s.degree ∧ s.degree ≤ s.servers - 1 ∧ s.group = 0) ∨ (s.kind = 3 ∧ 1 ≤ s.degree ∧ s.degree ≤ s.servers ∧ 1 ≤ s.group ∧ s.group ≤ s.servers ∧ 2 * s.group + s.degree - 1 ≤ s.servers))
def validS (s : Schm) (p : Int) : Prop := shapeS s ∧ okP p ∧ (s.kind = 1 ∨ s.servers < p)
noncomputable def unitsS (s : Schm) (n : Int) : Int := if ¬ shapeS s ∨ ¬ (1 ≤ n ∧ n ≤ 1024) then 0 else if s.kind = 3 then (n + s.group - 1) / s.group else n
theorem shape_bd {s : Schm} (h : shapeS s) : (2 ≤ s.servers ∧ s.servers ≤ 10) ∧ (0 ≤ s.degree ∧ s.degree ≤ 10) ∧ (0 ≤ s.group ∧ s.group ≤ 10) := by
 unfold shapeS at h
 omega
theorem shape_kind {s : Schm} (h : shapeS s) : s.kind = 1 ∨ s.kind = 2 ∨ s.kind = 3 := by
 unfold shapeS at h
 omega
noncomputable def lookE (s : Schm) (p n : Int) : Int := if ¬ validS s p then 40 else if ¬ (1 ≤ n ∧ n ≤ 1024) then 1 else 0
theorem lookE_zero {s : Schm} {p n : Int} (h : lookE s p n = 0) : validS s p ∧ (1 ≤ n ∧ n ≤ 1024) := by
 unfold lookE at h
 split at h
 ·cases h
 ·split at h
  ·cases h
  ·rename_i h1 h2
   exact ⟨Classical.not_not.1 h1, by omega⟩
theorem lookE_ok {s : Schm} {p n : Int} (h : validS s p) (hn : 1 ≤ n ∧ n ≤ 1024) : lookE s p n = 0 := by
 unfold lookE
 rw [if_neg (Classical.not_not.2 h), if_neg (by omega)]

noncomputable def limE (s : Schm) (p n : Int) : Int := if lookE s p n ≠ 0 then lookE s p n else if s.kind = 1 then parE p n s.servers else if s.kind = 2 then planRE p s.servers s.degree n else codRE p s.servers s.degree s.group ((n + s.group - 1) / s.group)
noncomputable def limL (s : Schm) (p n : Int) : List Int := if lookE s p n ≠ 0 then [] else if s.kind = 1 then limsP p n s.servers else if s.kind = 2 then limsC p s.servers s.degree n else limsG p s.servers s.degree s.group ((n + s.group - 1) / s.group)
noncomputable def qryE (s : Schm) (p n i : Int) (t : Tape) : Int := if lookE s p n ≠ 0 then lookE s p n else if ¬ (0 ≤ i ∧ i ≤ n - 1) then 6 else if s.kind = 1 then pqE p n s.servers i t else if s.kind = 2 then cqE p s.servers s.degree n i t else gqE p s.servers s.degree s.group ((n + s.group - 1) / s.group) (i / s.group) t
noncomputable def qryL (s : Schm) (p n i : Int) (t : Tape) : List (List Int) := if lookE s p n ≠ 0 ∨ ¬ (0 ≤ i ∧ i ≤ n - 1) then [] else if s.kind = 1 then pqL p n s.servers i t else if s.kind = 2 then cqL p s.servers s.degree n i t else gqL p s.servers s.degree s.group ((n + s.group - 1) / s.group) (i / s.group) t
noncomputable def qryT (s : Schm) (p n i : Int) (t : Tape) : Tape := if lookE s p n ≠ 0 ∨ ¬ (0 ≤ i ∧ i ≤ n - 1) then ⟨[], 0⟩ else if s.kind = 1 then pqT p n s.servers i t else if s.kind = 2 then cqT p s.servers s.degree n i t else gqT p s.servers s.degree s.group ((n + s.group - 1) / s.group) (i / s.group) t
theorem specP_post {P : Program} {f : FuncId} {Ds : List D} {d d' : D} (h : SpecP P f Ds d) (hd : ∀ I v, d.rel I v → d'.rel I v) : SpecP P f Ds d' := by
 intro I M w vs hv hi
 refine (h I M w vs hv hi).mono ?_
 rintro e w' ⟨v, rfl, J, h1, h2, h3⟩
 exact ⟨v, rfl, J, h1, hd _ _ h2, h3⟩
end Go.Q

namespace Go.Q
variable {P : Program} {N : Nat} {g : G} {M : List Res}
variable {dst : Option Tmp} {ty : TypeId} {pos : String} {after : Array Edge} {gd : Option (Nat × Bool)}
class TyMap (P : Program) (t kt et : TypeId) : Prop where
 eq : P.underlying t = some (.map kt et)
 key : P.underlying kt = some (.int .i64)
end Go.Q

namespace Go.Q
open Go.Proofs
open Classical
instance : TyConc Tryz.prog 102 := ⟨fun w v => by kernel_rfl⟩
instance : TyConc Tryz.prog 104 := ⟨fun w v => by kernel_rfl⟩
instance : TyConc Tryz.prog 106 := ⟨fun w v => by kernel_rfl⟩
instance : TyMeth Tryz.prog 102 "privatefetch/scheme.limits" 92 := ⟨fun w v args => by kernel_rfl⟩
instance : TyMeth Tryz.prog 102 "privatefetch/scheme.queries" 93 := ⟨fun w v args => by kernel_rfl⟩
instance : TyMeth Tryz.prog 104 "privatefetch/scheme.limits" 110 := ⟨fun w v args => by kernel_rfl⟩
instance : TyMeth Tryz.prog 104 "privatefetch/scheme.queries" 111 := ⟨fun w v args => by kernel_rfl⟩
instance : TyMeth Tryz.prog 106 "privatefetch/scheme.limits" 125 := ⟨fun w v args => by kernel_rfl⟩
instance : TyMeth Tryz.prog 106 "privatefetch/scheme.queries" 126 := ⟨fun w v args => by kernel_rfl⟩
theorem within_spec (n lo hi : Int) : SpecP Tryz.prog 44 [dInt .i64 n, dInt .i64 lo, dInt .i64 hi] (dB (lo ≤ n ∧ n ≤ hi)) := by
 refine specP_of_body Tryz.func44 rfl rfl (fun I M => ?_)
 refine au 17 ?_
 refine run_retP Tryz.func44 rfl rfl ?_
 exact d_B (by constructor <;> (intro h; omega))
theorem shape_spec (s : Schm) : SpecP Tryz.prog 49 [dSchm s] (dB (shapeS s)) := by
  refine specP_of_body Tryz.func49 rfl rfl (fun I M => ?_)
  refine au 10 ?_
  refine run_op (loc_call (within_spec _ _ _) rfl) rfl ?_
  refine au 2 ?_
  refine run_cond rfl (fun h1 => ?_) (fun h1 => ?_)
  ·
   have c1 := h1
   refine au 4 ?_
   refine run_retP Tryz.func49 rfl rfl ?_
   exact d_B ⟨False.elim, fun h => by have := shape_bd h; omega⟩
  ·
   have c1 := h1
   refine au 13 ?_
   refine run_cond rfl (fun h2 => ?_) (fun h2 => ?_)
   ·
    refine au 13 ?_
    refine run_retP Tryz.func49 rfl rfl ?_
    exact d_B (by unfold shapeS; constructor <;> (intro h; omega))
   ·
    refine au 5 ?_
    refine run_cond rfl (fun h3 => ?_) (fun h3 => ?_)
    ·
     refine au 7 ?_
     refine run_op (loc_call (within_spec _ _ _) rfl) rfl ?_
     refine au 8 ?_
     refine run_retP Tryz.func49 rfl rfl ?_
     exact d_B (by unfold shapeS; constructor <;> (intro h; omega))
    ·
     refine au 5 ?_
     refine run_cond rfl (fun h4 => ?_) (fun h4 => ?_)
     ·
      refine au 1 ?_
      have hbd : (2 ≤ s.servers ∧ s.servers ≤ 10) := by omega
      refine au 5 ?_
      refine run_op (loc_call (within_spec _ _ _) rfl) rfl ?_
      refine au 5 ?_
      refine run_gop rfl rfl gdI.ok (fun hg => loc_call (within_spec _ _ _) rfl) rfl ?_
      refine au 17 ?_
      refine run_retP Tryz.func49 rfl rfl ?_
      exact d_B (by unfold shapeS; constructor <;> (intro h; omega))
     ·
      refine au 6 ?_
      refine run_retP Tryz.func49 rfl rfl ?_
      exact d_B ⟨False.elim, fun h => by have := shape_kind h; omega⟩
theorem valid_spec (s : Schm) (p : Int) : SpecP Tryz.prog 38 [dSchm s, dAgg [dInt .i64 p]] (dB (validS s p)) := by
 refine specP_of_body Tryz.func38 rfl rfl (fun I M => ?_)
 refine au 9 ?_
 refine run_op (loc_call (shape_spec _) rfl) rfl ?_
 refine au 2 ?_
 refine run_gop rfl rfl gdI.ok (fun hg => loc_call (fcheck_spec _) rfl) rfl ?_
 refine au 15 ?_
 first | refine run_gfirst rfl rfl gdI.ok (fun hg => loc_or rfl rfl) rfl ?_ | refine run_gfirst rfl rfl gdI.ok (fun hg => loc_orG hg rfl rfl) rfl ?_ | refine run_gfirst rfl rfl gdI.ok (fun hg => loc_orH hg rfl rfl) rfl ?_
 refine au 4 ?_
 refine run_retP Tryz.func38 rfl rfl ?_
 exact d_B (by unfold validS; rw [errP_zero]; constructor; (· rintro ⟨⟨a, b⟩, c⟩; exact ⟨a, b, c⟩); (· rintro ⟨a, b, c⟩; exact ⟨⟨a, b⟩, c⟩))
theorem storage_spec (s : Schm) : SpecP Tryz.prog 51 [dSchm s] (dAgg [dInt .i64 s.servers, dInt .i64 s.degree, dInt .i64 s.group]) := by
 refine specP_of_body Tryz.func51 rfl rfl (fun I M => ?_)
 refine au 3 ?_
 refine run_new (loc_allocOwn (by simp)) rfl (fun b1 _ => ?_)
 refine au 12 ?_
 refine run_retGP Tryz.func51 rfl (.cellN rfl (.here) (by rfl) (.nil)) ?_ (fun _ _ h => inv_tail (h))
 exact fun _ _ h => h
theorem unitsG_spec (s d g n : Int) (hg : 1 ≤ g ∧ g ≤ 10) (hn : 1 ≤ n ∧ n ≤ 1024) : SpecP Tryz.prog 127 [dAgg [dInt .i64 s, dInt .i64 d, dInt .i64 g], dInt .i64 n] (dInt .i64 ((n + g - 1) / g)) := by
 refine specP_of_body Tryz.func127 rfl rfl (fun I M => ?_)
 refine au 17 ?_
 refine run_retP Tryz.func127 rfl rfl ?_
 exact fun _ _ h => h
theorem look_spec (s : Schm) (p n : Int) : SpecP Tryz.prog 40 [dSchm s, dAgg [dInt .i64 p], dInt .i64 n] (dInt .i64 (lookE s p n)) := by
  refine specP_of_body Tryz.func40 rfl rfl (fun I M => ?_)
  refine au 12 ?_
  refine run_op (loc_call (valid_spec _ _) rfl) rfl ?_
  refine au 3 ?_
  refine run_cond rfl (fun h1 => ?_) (fun h1 => ?_)
  ·
   have c1 := h1
   refine au 4 ?_
   refine run_retP Tryz.func40 rfl rfl ?_
   exact d_int (by unfold lookE; rw [if_pos c1])
  ·
   have c1 := h1
   refine au 3 ?_
   refine run_op (loc_call (within_spec _ _ _) rfl) rfl ?_
   refine au 3 ?_
   refine run_cond rfl (fun h2 => ?_) (fun h2 => ?_)
   ·
    have c2 := h2
    refine au 4 ?_
    refine run_retP Tryz.func40 rfl rfl ?_
    exact d_int (by unfold lookE; rw [if_neg c1, if_pos c2])
   ·
    have c2 := h2
    refine au 6 ?_
    refine run_retP Tryz.func40 rfl rfl ?_
    exact d_int (by unfold lookE; rw [if_neg c1, if_neg c2])
noncomputable def kindD (s : Schm) : D := if s.kind = 1 then dIface 102 (dAgg [dInt .i64 s.servers]) else if s.kind = 2 then dIface 104 (dAgg [dInt .i64 s.servers, dInt .i64 s.degree]) else dIface 106 (dAgg [dInt .i64 s.servers, dInt .i64 s.degree, dInt .i64 s.group])
theorem kindOf_spec (s : Schm) : SpecP Tryz.prog 41 [dSchm s] (kindD s) := by
  refine specP_of_body Tryz.func41 rfl rfl (fun I M => ?_)
  refine au 17 ?_
  refine run_cond rfl (fun h1 => ?_) (fun h1 => ?_)
  ·
   refine au 8 ?_
   refine run_retP Tryz.func41 rfl rfl ?_
   exact d_eq (by unfold kindD; rw [if_pos (by assumption)] <;> rfl)
  ·
   refine au 5 ?_
   refine run_cond rfl (fun h2 => ?_) (fun h2 => ?_)
   ·
    refine au 10 ?_
    refine run_retP Tryz.func41 rfl rfl ?_
    exact d_eq (by unfold kindD; rw [if_neg (by assumption), if_pos (by assumption)] <;> rfl)
   ·
    refine au 5 ?_
    refine run_op (loc_call (storage_spec _) rfl) rfl ?_
    refine au 3 ?_
    refine run_retP Tryz.func41 rfl rfl ?_
    exact d_eq (by unfold kindD; rw [if_neg (by assumption), if_neg (by assumption)] <;> rfl)
theorem sumsLim_spec (s p n : Int) : SpecP Tryz.prog 92 [dAgg [dInt .i64 s], dAgg [dInt .i64 p], dInt .i64 n] (dTup [dInts (limsP p n s), dInt .i64 (parE p n s)]) := by
 refine specP_of_body Tryz.func92 rfl rfl (fun I M => ?_)
 refine au 13 ?_
 refine run_op (loc_call (plimits_spec _ _ _) rfl) rfl ?_
 refine au 5 ?_
 refine run_ret2P Tryz.func92 rfl rfl rfl ?_
 exact fun _ _ h => h
theorem curvesLim_spec (s d p n : Int) : SpecP Tryz.prog 110 [dAgg [dInt .i64 s, dInt .i64 d], dAgg [dInt .i64 p], dInt .i64 n] (dTup [dInts (limsC p s d n), dInt .i64 (planRE p s d n)]) := by
 refine specP_of_body Tryz.func110 rfl rfl (fun I M => ?_)
 refine au 12 ?_
 refine run_op (loc_call (climits_spec _ _ _ _) rfl) rfl ?_
 refine au 5 ?_
 refine run_ret2P Tryz.func110 rfl rfl rfl ?_
 exact fun _ _ h => h
theorem groupsLim_spec (s d g p n : Int) (hg : 1 ≤ g ∧ g ≤ 10) (hn : 1 ≤ n ∧ n ≤ 1024) : SpecP Tryz.prog 125 [dAgg [dInt .i64 s, dInt .i64 d, dInt .i64 g], dAgg [dInt .i64 p], dInt .i64 n] (dTup [dInts (limsG p s d g ((n + g - 1) / g)), dInt .i64 (codRE p s d g ((n + g - 1) / g))]) := by
 refine specP_of_body Tryz.func125 rfl rfl (fun I M => ?_)
 refine au 8 ?_
 refine dr_start _ (.none) [⟨[(4, none)], [], none⟩,
   ⟨[(3, none)], [], none⟩,
   ⟨[(3, none)], [], none⟩,
   ⟨[(2, none)], [], none⟩,
   ⟨[(10, some (2, false)), (11, some (3, false))], [2, 3], none⟩,
   ⟨[(8, some (0, false)), (9, some (1, false)), (12, some (4, false))], [0, 1, 2, 3, 4], none⟩,
   ⟨[(13, some (5, false))], [0, 1, 2, 3, 4, 5], none⟩,
   ⟨[(13, some (5, false))], [0, 1, 2, 3, 4, 5], none⟩,
   ⟨[(14, some (6, false))], [0, 1, 2, 3, 4, 5, 6, 7], none⟩,
   ⟨[(15, some (7, false))], [0, 1, 2, 3, 4, 5, 6, 7, 8], none⟩] [] _ rfl rfl ?_
 refine da 4 ?_
 refine dq_pure rfl (fun s => .op rfl (.op rfl (.nil))) (fun s hs _ => loc_call (unitsG_spec _ _ _ _ hg hn) rfl) (by exact .nil) ?_
 refine dq_pure rfl (fun s => .op rfl (.op rfl (.op rfl (.nil)))) (fun s hs _ => loc_call (glimits_spec _ _ _ _ _) rfl) (by exact .nil) ?_
 refine da 4 ?_
 refine dq_end (rs := []) () rfl (fun _ => rfl) (.nil) rfl (fun _ => rfl) (fun _ _ => ?_)
 dsimp only [outG, outM, List.map, List.set, id]
 refine run_ret2P Tryz.func125 rfl rfl rfl ?_
 exact fun _ _ h => h
theorem sumsQ_spec (s p n i : Int) (t : Tape) : SpecP Tryz.prog 93 [dAgg [dInt .i64 s], dAgg [dInt .i64 p], dInt .i64 n, dInt .i64 i, dTape t] (dTup [dRows (pqL p n s i t), dTape (pqT p n s i t), dInt .i64 (pqE p n s i t)]) := by
 refine specP_of_body Tryz.func93 rfl rfl (fun I M => ?_)
 refine au 6 ?_
 refine run_new (loc_allocOwn (by simp)) rfl (fun b1 _ => ?_)
 refine au 10 ?_
 refine run_op (loc_call (pqueries_spec _ _ _ _ _) rfl) rfl ?_
 refine au 7 ?_
 refine run_retGP Tryz.func93 rfl (.tmp rfl (.cellN rfl (.here) (by rfl) (.tmp rfl (.nil)))) ?_ (fun _ _ h => inv_tail (h))
 exact fun _ _ h => h
theorem curvesQ_spec (s d p n i : Int) (t : Tape) : SpecP Tryz.prog 111 [dAgg [dInt .i64 s, dInt .i64 d], dAgg [dInt .i64 p], dInt .i64 n, dInt .i64 i, dTape t] (dTup [dRows (cqL p s d n i t), dTape (cqT p s d n i t), dInt .i64 (cqE p s d n i t)]) := by
 refine specP_of_body Tryz.func111 rfl rfl (fun I M => ?_)
 refine au 6 ?_
 refine run_new (loc_allocOwn (by simp)) rfl (fun b1 _ => ?_)
 refine au 9 ?_
 refine run_op (loc_call (cqueries_spec _ _ _ _ _ _) rfl) rfl ?_
 refine au 7 ?_
 refine run_retGP Tryz.func111 rfl (.tmp rfl (.cellN rfl (.here) (by rfl) (.tmp rfl (.nil)))) ?_ (fun _ _ h => inv_tail (h))
 exact fun _ _ h => h
theorem groupsQ_spec (s d g p n i : Int) (t : Tape) (hg : 1 ≤ g ∧ g ≤ 10) (hn : 1 ≤ n ∧ n ≤ 1024) (hi : 0 ≤ i ∧ i ≤ 1024) : SpecP Tryz.prog 126 [dAgg [dInt .i64 s, dInt .i64 d, dInt .i64 g], dAgg [dInt .i64 p], dInt .i64 n, dInt .i64 i, dTape t] (dTup [dRows (gqL p s d g ((n + g - 1) / g) (i / g) t), dTape (gqT p s d g ((n + g - 1) / g) (i / g) t), dInt .i64 (gqE p s d g ((n + g - 1) / g) (i / g) t)]) := by
 refine specP_of_body Tryz.func126 rfl rfl (fun I M => ?_)
 refine au 6 ?_
 refine run_new (loc_allocOwn (by simp)) rfl (fun b1 _ => ?_)
 refine au 3 ?_
 refine dr_start _ (.none) [⟨[(6, none)], [], none⟩,
   ⟨[(5, none)], [], none⟩,
   ⟨[(5, none)], [], none⟩,
   ⟨[(2, none)], [], none⟩,
   ⟨[(15, some (2, false)), (16, some (3, false))], [2, 3], none⟩,
   ⟨[(3, none)], [], none⟩,
   ⟨[(5, none)], [], none⟩,
   ⟨[(19, some (6, false))], [6], none⟩,
   ⟨[(18, some (5, false)), (20, some (7, false))], [5, 6, 7], none⟩,
   ⟨[(9, none)], [], none⟩,
   ⟨[(13, some (0, false)), (14, some (1, false)), (17, some (4, false)), (21, some (8, false)), (22, some (9, false))], [0, 1, 2, 3, 4, 5, 6, 7, 8, 9], none⟩,
   ⟨[(23, some (10, false))], [0, 1, 2, 3, 4, 5, 6, 7, 8, 9, 10], none⟩,
   ⟨[(23, some (10, false))], [0, 1, 2, 3, 4, 5, 6, 7, 8, 9, 10], none⟩,
   ⟨[(23, some (10, false))], [0, 1, 2, 3, 4, 5, 6, 7, 8, 9, 10], none⟩,
   ⟨[(24, some (11, false))], [0, 1, 2, 3, 4, 5, 6, 7, 8, 9, 10, 11, 12, 13], none⟩,
   ⟨[(11, none), (25, some (12, false))], [0, 1, 2, 3, 4, 5, 6, 7, 8, 9, 10, 11, 12, 13, 14], some (0, 0, true)⟩,
   ⟨[(26, some (13, false))], [0, 1, 2, 3, 4, 5, 6, 7, 8, 9, 10, 11, 12, 13, 14, 15], none⟩] [_] _ rfl rfl ?_
 refine da 4 ?_
 refine dq_pure rfl (fun s => .op rfl (.op rfl (.nil))) (fun s hs _ => loc_call (unitsG_spec _ _ _ _ hg hn) rfl) (by exact .nil) ?_
 refine da 5 ?_
 refine dq_pure rfl (fun s => .op rfl (.op rfl (.op rfl (.op rfl (.op rfl (.nil)))))) (fun s hs _ => loc_call (gqueries_spec _ _ _ _ _ _ _) rfl) (by exact .nil) ?_
 refine da 4 ?_
 refine dq_write0 rfl (fun s => .g rfl (.op rfl (.nil))) rfl rfl (fun s hs => loc_storeN (ho := (by show OneAll [_, _]; infer_instance)) rfl rfl rfl) (by exact .nil) ?_
 refine da 1 ?_
 refine dq_end (rs := [_]) () rfl (fun _ => rfl) (.nil) rfl (fun _ => rfl) (fun _ _ => ?_)
 dsimp only [outG, outM, List.map, List.set, id]
 refine run_retGP Tryz.func126 rfl (.tmp rfl (.cellN rfl (.here) (by rfl) (.tmp rfl (.nil)))) ?_ (fun _ _ h => inv_tail (h))
 exact fun _ _ h => h
theorem kind_lim {s : Schm} {p n : Int} (h : lookE s p n = 0) : ∀ I v, (kindD s).rel I v → (dMeth Tryz.prog "privatefetch/scheme.limits" [dAgg [dInt .i64 p], dInt .i64 n] (dTup [dInts (limL s p n), dInt .i64 (limE s p n)])).rel I v := by
  obtain ⟨⟨h1, h2, h3⟩, hn⟩ := lookE_zero h
  have hbd := shape_bd h1
  have e1 : limL s p n = if s.kind = 1 then limsP p n s.servers else if s.kind = 2 then limsC p s.servers s.degree n else limsG p s.servers s.degree s.group ((n + s.group - 1) / s.group) := by unfold limL; rw [if_neg (Classical.not_not.2 h)]
  have e2 : limE s p n = if s.kind = 1 then parE p n s.servers else if s.kind = 2 then planRE p s.servers s.degree n else codRE p s.servers s.degree s.group ((n + s.group - 1) / s.group) := by unfold limE; rw [if_neg (Classical.not_not.2 h)]
  unfold kindD
  rw [e1, e2]
  split
  · exact iface_meth (sumsLim_spec s.servers p n)
  · split
    · exact iface_meth (curvesLim_spec s.servers s.degree p n)
    · exact iface_meth (groupsLim_spec s.servers s.degree s.group p n (by unfold shapeS at h1; omega) hn)
theorem kind_qry {s : Schm} {p n i : Int} {t : Tape} (h : lookE s p n = 0) (hi : 0 ≤ i ∧ i ≤ n - 1) : ∀ I v, (kindD s).rel I v → (dMeth Tryz.prog "privatefetch/scheme.queries" [dAgg [dInt .i64 p], dInt .i64 n, dInt .i64 i, dTape t] (dTup [dRows (qryL s p n i t), dTape (qryT s p n i t), dInt .i64 (qryE s p n i t)])).rel I v := by
  obtain ⟨⟨h1, h2, h3⟩, hn⟩ := lookE_zero h
  have hbd := shape_bd h1
  have e1 : qryL s p n i t = if s.kind = 1 then pqL p n s.servers i t else if s.kind = 2 then cqL p s.servers s.degree n i t else gqL p s.servers s.degree s.group ((n + s.group - 1) / s.group) (i / s.group) t := by unfold qryL; rw [if_neg (by omega)]
  have e2 : qryE s p n i t = if s.kind = 1 then pqE p n s.servers i t else if s.kind = 2 then cqE p s.servers s.degree n i t else gqE p s.servers s.degree s.group ((n + s.group - 1) / s.group) (i / s.group) t := by unfold qryE; rw [if_neg (Classical.not_not.2 h), if_neg (by omega)]
  have e3 : qryT s p n i t = if s.kind = 1 then pqT p n s.servers i t else if s.kind = 2 then cqT p s.servers s.degree n i t else gqT p s.servers s.degree s.group ((n + s.group - 1) / s.group) (i / s.group) t := by unfold qryT; rw [if_neg (by omega)]
  unfold kindD
  rw [e1, e2, e3]
  split
  · exact iface_meth (sumsQ_spec s.servers p n i t)
  · split
    · exact iface_meth (curvesQ_spec s.servers s.degree p n i t)
    · exact iface_meth (groupsQ_spec s.servers s.degree s.group p n i t (by unfold shapeS at h1; omega) hn (by omega))
theorem kindLim_spec {s : Schm} {p n : Int} (h : lookE s p n = 0) : SpecP Tryz.prog 41 [dSchm s] (dMeth Tryz.prog "privatefetch/scheme.limits" [dAgg [dInt .i64 p], dInt .i64 n] (dTup [dInts (limL s p n), dInt .i64 (limE s p n)])) := specP_post (kindOf_spec s) (kind_lim h)
theorem kindQry_spec {s : Schm} {p n i : Int} {t : Tape} (h : lookE s p n = 0) (hi : 0 ≤ i ∧ i ≤ n - 1) : SpecP Tryz.prog 41 [dSchm s] (dMeth Tryz.prog "privatefetch/scheme.queries" [dAgg [dInt .i64 p], dInt .i64 n, dInt .i64 i, dTape t] (dTup [dRows (qryL s p n i t), dTape (qryT s p n i t), dInt .i64 (qryE s p n i t)])) := specP_post (kindOf_spec s) (kind_qry h hi)
theorem slimits_spec (s : Schm) (p n : Int) : SpecP Tryz.prog 27 [dSchm s, dAgg [dInt .i64 p], dInt .i64 n] (dTup [dInts (limL s p n), dInt .i64 (limE s p n)]) := by
  refine specP_of_body Tryz.func27 rfl rfl (fun I M => ?_)
  refine au 13 ?_
  refine run_op (loc_call (look_spec _ _ _) rfl) rfl ?_
  refine au 7 ?_
  refine run_cond rfl (fun h1 => ?_) (fun h1 => ?_)
  ·
   have c1 := h1
   refine au 6 ?_
   refine run_ret2P Tryz.func27 rfl rfl rfl ?_
   exact d_tup2 (d_toInts (by unfold limL; rw [if_pos c1]) d_nil) (d_int (by unfold limE; rw [if_pos c1]))
  ·
   have c1 := Classical.not_not.1 h1
   refine au 2 ?_
   refine dr_start _ (.none) [⟨[(3, none)], [], none⟩,
       ⟨[(16, some (0, false))], [0], none⟩,
       ⟨[(4, none)], [], none⟩,
       ⟨[(2, none)], [], none⟩,
       ⟨[(17, some (1, false)), (18, some (2, false)), (19, some (3, false))], [0, 1, 2, 3], none⟩,
       ⟨[(20, some (4, false))], [0, 1, 2, 3, 4], none⟩,
       ⟨[(20, some (4, false))], [0, 1, 2, 3, 4], none⟩,
       ⟨[(21, some (5, false))], [0, 1, 2, 3, 4, 5, 6], none⟩,
       ⟨[(22, some (6, false))], [0, 1, 2, 3, 4, 5, 6, 7], none⟩] [] _ rfl rfl ?_
   refine da 1 ?_
   refine dq_pure rfl (fun s => .op rfl (.nil)) (fun s hs _ => loc_call (kindLim_spec (p := p) (n := n) c1) rfl) (by exact .nil) ?_
   refine da 2 ?_
   refine dq_pure rfl (fun s => .op rfl (.op rfl (.op rfl (.nil)))) (fun s hs _ => loc_invokeM rfl rfl) (by exact .nil) ?_
   refine da 4 ?_
   refine dq_end (rs := []) () rfl (fun _ => rfl) (.nil) rfl (fun _ => rfl) (fun _ _ => ?_)
   dsimp only [outG, outM, List.map, List.set, id]
   refine run_ret2P Tryz.func27 rfl rfl rfl ?_
   exact fun _ _ h => h
theorem squeries_spec (s : Schm) (p n i : Int) (t : Tape) : SpecP Tryz.prog 29 [dSchm s, dAgg [dInt .i64 p], dInt .i64 n, dInt .i64 i, dTape t] (dTup [dRows (qryL s p n i t), dTape (qryT s p n i t), dInt .i64 (qryE s p n i t)]) := by
  refine specP_of_body Tryz.func29 rfl rfl (fun I M => ?_)
  refine au 6 ?_
  refine run_new (loc_allocOwn (by simp)) rfl (fun b1 _ => ?_)
  refine au 8 ?_
  refine run_op (loc_call (look_spec _ _ _) rfl) rfl ?_
  refine au 7 ?_
  refine run_cond rfl (fun h2 => ?_) (fun h2 => ?_)
  ·
   have c1 := h2
   refine au 8 ?_
   refine run_retGP Tryz.func29 rfl (.tmp rfl (.cellN rfl (.here) (by rfl) (.tmp rfl (.nil)))) ?_ (fun _ _ h => inv_tail (h))
   exact d_tup3 (d_toRows (by unfold qryL; rw [if_pos (.inl c1)]) d_nil) (d_toTape (by unfold qryT; rw [if_pos (.inl c1)]) (d_aggU (.cons d_nil (.cons (d_int rfl) .nil)))) (d_int (by unfold qryE; rw [if_pos c1]))
  ·
   have c1 := Classical.not_not.1 h2
   have hln := (lookE_zero c1).2
   refine au 7 ?_
   refine run_op (loc_call (within_spec _ _ _) rfl) rfl ?_
   refine au 2 ?_
   refine run_cond rfl (fun h3 => ?_) (fun h3 => ?_)
   ·
    have c2 := h3
    refine au 7 ?_
    refine run_retGP Tryz.func29 rfl (.tmp rfl (.cellN rfl (.here) (by rfl) (.tmp rfl (.nil)))) ?_ (fun _ _ h => inv_tail (h))
    exact d_tup3 (d_toRows (by unfold qryL; rw [if_pos (.inr c2)]) d_nil) (d_toTape (by unfold qryT; rw [if_pos (.inr c2)]) (d_aggU (.cons d_nil (.cons (d_int rfl) .nil)))) (d_int (by unfold qryE; rw [if_neg (Classical.not_not.2 c1), if_pos c2]))
   ·
    have c2 := Classical.not_not.1 h3
    refine au 2 ?_
    refine dr_start _ (.none) [⟨[(5, none)], [], none⟩,
        ⟨[(28, some (0, false))], [0], none⟩,
        ⟨[(6, none)], [], none⟩,
        ⟨[(2, none)], [], none⟩,
        ⟨[(3, none)], [], none⟩,
        ⟨[(9, none)], [], none⟩,
        ⟨[(29, some (1, false)), (30, some (2, false)), (31, some (3, false)), (32, some (4, false)), (33, some (5, false))], [0, 1, 2, 3, 4, 5], none⟩,
        ⟨[(34, some (6, false))], [0, 1, 2, 3, 4, 5, 6], none⟩,
        ⟨[(34, some (6, false))], [0, 1, 2, 3, 4, 5, 6], none⟩,
        ⟨[(34, some (6, false))], [0, 1, 2, 3, 4, 5, 6], none⟩,
        ⟨[(35, some (7, false))], [0, 1, 2, 3, 4, 5, 6, 7, 8, 9], none⟩,
        ⟨[(11, none), (36, some (8, false))], [0, 1, 2, 3, 4, 5, 6, 7, 8, 9, 10], some (0, 0, true)⟩,
        ⟨[(37, some (9, false))], [0, 1, 2, 3, 4, 5, 6, 7, 8, 9, 10, 11], none⟩] [_] _ rfl rfl ?_
    refine da 1 ?_
    refine dq_pure rfl (fun s => .op rfl (.nil)) (fun s hs _ => loc_call (kindQry_spec (p := p) (n := n) (i := i) (t := t) c1 c2) rfl) (by exact .nil) ?_
    refine da 4 ?_
    refine dq_pure rfl (fun s => .op rfl (.op rfl (.op rfl (.op rfl (.op rfl (.nil)))))) (fun s hs _ => loc_invokeM rfl rfl) (by exact .nil) ?_
    refine da 4 ?_
    refine dq_write0 rfl (fun s => .g rfl (.op rfl (.nil))) rfl rfl (fun s hs => loc_storeN (ho := (by show OneAll [_, _]; infer_instance)) rfl rfl rfl) (by exact .nil) ?_
    refine da 1 ?_
    refine dq_end (rs := [_]) () rfl (fun _ => rfl) (.nil) rfl (fun _ => rfl) (fun _ _ => ?_)
    dsimp only [outG, outM, List.map, List.set, id]
    refine run_retGP Tryz.func29 rfl (.tmp rfl (.cellN rfl (.here) (by rfl) (.tmp rfl (.nil)))) ?_ (fun _ _ h => inv_tail (h))
    exact fun _ _ h => h
end Go.Q

namespace Go.Q
def placeL (rec : Int → List Int → List Bool → Bool × List Int × List Bool) (fx : List Bool) (i : Int) : List Nat → List Int → List Bool → Bool × List Int × List Bool
 | [], bk, sn => (false, bk, sn)
 | b :: bs, bk, sn =>
  if sn[b]?.getD default = true ∨ fx[b]?.getD default = true then placeL rec fx i bs bk sn
  else if bk[b]?.getD default < 0 then (true, bk.set b i, sn)
  else
   let r := rec (bk[b]?.getD default) bk (sn.set b true)
   if r.1 = true then (true, r.2.1.set b i, r.2.2) else placeL rec fx i bs r.2.1 r.2.2
def placeF (hs : Int → List Nat) (fx : List Bool) : Nat → Int → List Int → List Bool → Bool × List Int × List Bool
 | 0, _, bk, sn => (false, bk, sn)
 | n + 1, i, bk, sn => placeL (placeF hs fx n) fx i (hs i) bk sn
def unseen (sn : List Bool) : Nat := (sn.filter fun b => !b).length
theorem unseen_set : ∀ {sn : List Bool} {b : Nat}, b < sn.length → sn[b]?.getD default = false → unseen (sn.set b true) + 1 = unseen sn
 | [], _, h, _ => by simp at h
 | x :: sn, 0, _, h => by
  have hx : x = false := h
  subst hx
  simp [unseen]
 | x :: sn, b + 1, h, h2 => by
  have ih := unseen_set (sn := sn) (b := b) (by simpa using h) (by simpa using h2)
  unfold unseen at ih ⊢
  cases x <;> simp at ih ⊢ <;> omega
structure PlaceKeep (bk bk' : List Int) (sn sn' : List Bool) : Prop where
 blen : bk'.length = bk.length
 slen : sn'.length = sn.length
 up : ∀ b : Nat, sn[b]?.getD default = true → sn'[b]?.getD default = true
theorem PlaceKeep.rfl' {bk : List Int} {sn : List Bool} : PlaceKeep bk bk sn sn := ⟨rfl, rfl, fun _ h => h⟩
theorem PlaceKeep.trans {a b c : List Int} {x y z : List Bool} (h : PlaceKeep a b x y) (g : PlaceKeep b c y z) : PlaceKeep a c x z := ⟨g.blen.trans h.blen, g.slen.trans h.slen, fun i hi => g.up i (h.up i hi)⟩
structure PlaceNo (hs : Int → List Nat) (fx : List Bool) (bk : List Int) (sn sn' : List Bool) (bs : List Nat) : Prop where
 home : ∀ b ∈ bs, sn'[b]?.getD default = true ∨ fx[b]?.getD default = true
 new : ∀ b : Nat, sn'[b]?.getD default = true → sn[b]?.getD default = true ∨ (fx[b]?.getD default = false ∧ 0 ≤ bk[b]?.getD default ∧ ∀ c ∈ hs (bk[b]?.getD default), sn'[c]?.getD default = true ∨ fx[c]?.getD default = true)
theorem all_seen : ∀ {sn : List Bool} {b : Nat}, unseen sn = 0 → b < sn.length → sn[b]?.getD default = true
 | [], _, _, h => by simp at h
 | x :: sn, 0, h, _ => by
  cases x
  ·simp [unseen] at h
  ·rfl
 | x :: sn, b + 1, h, hb => by
  have := all_seen (sn := sn) (b := b) (by unfold unseen at h ⊢; cases x <;> simp at h ⊢; exact h) (by simpa using hb)
  simpa using this
end Go.Q

namespace Go.Q
structure PlaceYes (hs : Int → List Nat) (fx : List Bool) (bk bk' : List Int) (sn : List Bool) (i : Int) : Prop where
 cnt : ∀ j, 0 ≤ j → bk'.count j = bk.count j + if i = j then 1 else 0
 same : ∀ c : Nat, sn[c]?.getD default = true ∨ fx[c]?.getD default = true → bk'[c]? = bk[c]?
 home : (∀ (b : Nat) j, bk[b]? = some j → 0 ≤ j → b ∈ hs j) → ∀ (b : Nat) j, bk'[b]? = some j → 0 ≤ j → b ∈ hs j
theorem count_put {bk : List Int} {b : Nat} {i j x : Int} (h : bk[b]? = some x) : (bk.set b i).count j + (if x = j then 1 else 0) = bk.count j + if i = j then 1 else 0 := by
 obtain ⟨hb, hx⟩ := List.getElem?_eq_some_iff.1 h
 have h1 := List.count_set (l := bk) (a := i) (b := j) hb
 rw [hx] at h1
 have h2 : (if x = j then 1 else 0) ≤ bk.count j := by
  split
  ·rename_i e; subst e; rw [← hx]; exact List.count_pos_iff.2 (List.getElem_mem hb)
  ·exact Nat.zero_le _
 simp only [beq_iff_eq] at h1
 omega
end Go.Q

namespace Go.Q
theorem nodup_map_on {α β : Type} {f : α → β} : ∀ {l : List α}, l.Nodup → (∀ x ∈ l, ∀ y ∈ l, f x = f y → x = y) → (l.map f).Nodup
 | [], _, _ => List.nodup_nil
 | x :: l, hn, hi => by
  obtain ⟨h1, h2⟩ := List.nodup_cons.1 hn
  refine List.nodup_cons.2 ⟨fun hm => ?_, nodup_map_on h2 (fun a ha b hb => hi a (List.mem_cons_of_mem _ ha) b (List.mem_cons_of_mem _ hb))⟩
  obtain ⟨y, hy, he⟩ := List.mem_map.1 hm
  exact h1 (by rw [hi x (List.mem_cons_self ..) y (List.mem_cons_of_mem _ hy) he.symm]; exact hy)
structure Asg (hs : Int → List Nat) (fx : List Bool) (bk : List Int) (its : Int → Prop) (a : Int → Nat) : Prop where
 home : ∀ j, its j → a j ∈ hs j
 inj : ∀ j k, its j → its k → a j = a k → j = k
 fix : ∀ (b : Nat) j, fx[b]?.getD default = true → bk[b]? = some j → its j ∧ a j = b
end Go.Q

namespace Go.Q
def allF (hs : Int → List Nat) (fx : List Bool) (m : Nat) : List Int → List Int → Bool × List Int
 | [], bk => (true, bk)
 | i :: is, bk =>
  let r := placeF hs fx m i bk (List.replicate m false)
  if r.1 = true then allF hs fx m is r.2.1 else (false, r.2.1)
structure BkOk (hs : Int → List Nat) (fx : List Bool) (m : Nat) (bk : List Int) : Prop where
 len : bk.length = m
 one : ∀ j, 0 ≤ j → bk.count j ≤ 1
 home : ∀ (b : Nat) j, bk[b]? = some j → 0 ≤ j → b ∈ hs j
 held : ∀ (b : Nat) j, fx[b]?.getD default = true → bk[b]? = some j → 0 ≤ j
end Go.Q

namespace Go.Q
def clearF (fx : List Bool) (bk : List Int) : List Int := (List.range bk.length).map fun b => if fx[b]?.getD default = true then bk[b]?.getD default else -1
def firstL (hs : Int → List Nat) (m : Nat) (later : List Int) (i : Int) : List Nat → List Bool → List Int → Bool × List Bool × List Int
 | [], fx, bk => (false, fx, bk)
 | b :: bs, fx, bk =>
  if fx[b]?.getD default = true then firstL hs m later i bs fx bk
  else if (allF hs (fx.set b true) m later (clearF (fx.set b true) (bk.set b i))).1 = true then (true, fx.set b true, bk.set b i)
  else firstL hs m later i bs ((fx.set b true).set b false) ((bk.set b i).set b (-1))
def firstF (hs : Int → List Nat) (m : Nat) : List Int → List Bool → List Int → Bool × List Bool × List Int
 | [], fx, bk => (true, fx, bk)
 | i :: is, fx, bk =>
  let r := firstL hs m is i (hs i) fx bk
  if r.1 = true then firstF hs m is r.2.1 r.2.2 else (false, r.2.1, r.2.2)
structure FxOk (hs : Int → List Nat) (m : Nat) (fx : List Bool) (bk : List Int) : Prop extends BkOk hs fx m bk where
 flen : fx.length = m
 free : ∀ b : Nat, b < m → fx[b]?.getD default = false → bk[b]? = some (-1)
theorem clear_id {hs : Int → List Nat} {m : Nat} {fx : List Bool} {bk : List Int} (h : FxOk hs m fx bk) : clearF fx bk = bk := by
 unfold clearF
 refine List.ext_getElem (by simp) fun b h1 h2 => ?_
 rw [List.getElem_map, List.getElem_range]
 split
 ·rw [List.getElem?_eq_getElem h2]; rfl
 ·rename_i hf
  have h3 := h.free b (by rw [← h.len]; exact h2) (by simpa using hf)
  rw [List.getElem?_eq_getElem h2] at h3
  injection h3 with h3
  exact h3.symm
theorem fx_put {hs : Int → List Nat} {m : Nat} {fx : List Bool} {bk : List Int} {b : Nat} {i : Int} (h : FxOk hs m fx bk) (hb : b < m) (hf : fx[b]?.getD default = false) (hi : 0 ≤ i) (hn : i ∉ bk) (hh : b ∈ hs i) : FxOk hs m (fx.set b true) (bk.set b i) := by
 have h0 := h.free b hb hf
 have hl := h.len
 have hfl := h.flen
 refine ⟨⟨by rw [List.length_set]; exact hl, fun j hj => ?_, fun c j hc hj => ?_, fun c j hc hj => ?_⟩, by rw [List.length_set]; exact hfl, fun c hc hcf => ?_⟩
 ·have h1 := count_put (i := i) (j := j) h0
  rw [if_neg (by omega)] at h1
  have h2 := h.one j hj
  by_cases e : i = j
  ·subst e; rw [if_pos rfl, List.count_eq_zero.2 hn] at h1; omega
  ·rw [if_neg e] at h1; omega
 ·by_cases e : c = b
  ·subst e; rw [List.getElem?_set_self (by omega)] at hc; injection hc with hc; subst hc; exact hh
  ·rw [List.getElem?_set_ne (fun h => e h.symm)] at hc; exact h.home c j hc hj
 ·by_cases e : c = b
  ·subst e; rw [List.getElem?_set_self (by omega)] at hj; injection hj with hj; omega
  ·rw [List.getElem?_set_ne (fun h => e h.symm)] at hc hj; exact h.held c j hc hj
 ·by_cases e : c = b
  ·subst e; rw [List.getElem?_set_self (by omega)] at hcf; cases hcf
  ·rw [List.getElem?_set_ne (fun h => e h.symm)] at hcf ⊢; exact h.free c hc hcf
end Go.Q

namespace Go.Q
theorem set_back {α : Type} {l : List α} {b : Nat} {x y : α} (h : l[b]? = some y) : (l.set b x).set b y = l := by
 rw [List.set_set]
 refine List.ext_getElem? fun c => ?_
 by_cases e : c = b
 ·subst e
  obtain ⟨hb, _⟩ := List.getElem?_eq_some_iff.1 h
  rw [List.getElem?_set_self hb, h]
 ·rw [List.getElem?_set_ne (fun g => e g.symm)]
theorem firstL_go {hs : Int → List Nat} {m : Nat} {later : List Int} {i : Int} {fx : List Bool} {bk : List Int} (h : FxOk hs m fx bk) (hi : 0 ≤ i) (hn : i ∉ bk) : ∀ bs : List Nat, (∀ b ∈ bs, b ∈ hs i ∧ b < m) →
  ((firstL hs m later i bs fx bk).1 = true ∧ ∃ b ∈ bs, fx[b]?.getD default = false ∧ (firstL hs m later i bs fx bk).2 = (fx.set b true, bk.set b i) ∧ (allF hs (fx.set b true) m later (bk.set b i)).1 = true)
  ∨ ((firstL hs m later i bs fx bk).1 = false ∧ ∀ b ∈ bs, fx[b]?.getD default = false → (allF hs (fx.set b true) m later (bk.set b i)).1 = false)
 | [], _ => .inr ⟨rfl, fun b hb => absurd hb List.not_mem_nil⟩
 | b :: bs, hb => by
  obtain ⟨hbh, hbm⟩ := hb b (List.mem_cons_self ..)
  have ih := firstL_go h hi hn (later := later) bs (fun c hc => hb c (List.mem_cons_of_mem _ hc))
  unfold firstL
  by_cases h1 : fx[b]?.getD default = true
  ·rw [if_pos h1]
   rcases ih with ⟨g1, c, g2, g3⟩ | ⟨g1, g2⟩
   ·exact .inl ⟨g1, c, List.mem_cons_of_mem _ g2, g3⟩
   ·refine .inr ⟨g1, fun c hc hf => ?_⟩
    rcases List.mem_cons.1 hc with rfl | hc
    ·rw [h1] at hf; cases hf
    ·exact g2 c hc hf
  ·have h1' : fx[b]?.getD default = false := by simpa using h1
   have hput := fx_put h hbm h1' hi hn hbh
   rw [if_neg h1, clear_id hput]
   by_cases h2 : (allF hs (fx.set b true) m later (bk.set b i)).1 = true
   ·rw [if_pos h2]
    exact .inl ⟨rfl, b, List.mem_cons_self .., h1', rfl, h2⟩
   ·have hfb : fx[b]? = some false := by
     have := h.flen
     rw [List.getElem?_eq_getElem (by omega)] at h1' ⊢
     exact congrArg some h1'
    rw [if_neg h2, set_back hfb, set_back (h.free b hbm h1')]
    rcases ih with ⟨g1, c, g2, g3⟩ | ⟨g1, g2⟩
    ·exact .inl ⟨g1, c, List.mem_cons_of_mem _ g2, g3⟩
    ·refine .inr ⟨g1, fun c hc hf => ?_⟩
     rcases List.mem_cons.1 hc with rfl | hc
     ·simpa using h2
     ·exact g2 c hc hf
theorem mem_put {bk : List Int} {b : Nat} {i j x : Int} (h : bk[b]? = some x) (hx : x < 0) (hj : 0 ≤ j) : j ∈ bk.set b i ↔ j = i ∨ j ∈ bk := by
 have h1 := count_put (i := i) (j := j) h
 rw [if_neg (by omega)] at h1
 rw [← List.count_pos_iff, ← List.count_pos_iff]
 by_cases e : i = j
 ·subst e; rw [if_pos rfl] at h1; exact ⟨fun _ => .inl rfl, fun _ => by omega⟩
 ·rw [if_neg e] at h1; rw [show bk.count j = (bk.set b i).count j by omega]; exact ⟨.inr, fun h => h.resolve_left (fun e2 => e e2.symm)⟩
theorem firstF_ok {hs : Int → List Nat} {m : Nat} (hh : ∀ j, ∀ b ∈ hs j, b < m) : ∀ (is : List Int) (fx : List Bool) (bk : List Int), FxOk hs m fx bk → (∀ i ∈ is, 0 ≤ i ∧ i ∉ bk) → is.Nodup → (firstF hs m is fx bk).1 = true →
  FxOk hs m (firstF hs m is fx bk).2.1 (firstF hs m is fx bk).2.2 ∧ ∀ j, 0 ≤ j → (j ∈ (firstF hs m is fx bk).2.2 ↔ j ∈ is ∨ j ∈ bk)
 | [], fx, bk, h, _, _, _ => ⟨h, fun j _ => by simp [firstF]⟩
 | i :: is, fx, bk, h, hi, hn, hp => by
  obtain ⟨h1, h2⟩ := List.nodup_cons.1 hn
  obtain ⟨g1, g2⟩ := hi i (List.mem_cons_self ..)
  unfold firstF at hp ⊢
  dsimp only at hp ⊢
  rcases firstL_go h g1 g2 (later := is) (hs i) (fun b hb => ⟨hb, hh i b hb⟩) with ⟨q1, b, q2, q3, q4, q5⟩ | ⟨q1, q2⟩
  ·rw [if_pos q1, q4] at hp ⊢
   have hm : ∀ j, 0 ≤ j → (j ∈ bk.set b i ↔ j = i ∨ j ∈ bk) := fun j hj => mem_put (h.free b (hh i b q2) q3) (by omega) hj
   obtain ⟨r1, r2⟩ := firstF_ok hh is _ _ (fx_put h (hh i b q2) q3 g1 g2 q2) (fun k hk => ⟨(hi k (List.mem_cons_of_mem _ hk)).1, fun hmk => by
    rcases (hm k (hi k (List.mem_cons_of_mem _ hk)).1).1 hmk with e | e
    ·exact h1 (by rw [← e]; exact hk)
    ·exact (hi k (List.mem_cons_of_mem _ hk)).2 e⟩) h2 hp
   refine ⟨r1, fun j hj => ?_⟩
   rw [r2 j hj, hm j hj, List.mem_cons]
   constructor
   ·rintro (u | u | u)
    ·exact .inl (.inr u)
    ·exact .inl (.inl u)
    ·exact .inr u
   ·rintro ((u | u) | u)
    ·exact .inr (.inl u)
    ·exact .inl u
    ·exact .inr (.inr u)
  ·rw [q1] at hp; cases hp
end Go.Q

namespace Go.Q
structure Hsh where
 m : Int
 ps : List (Int × Int)
abbrev cHsh (h : Hsh) : List D := [dInt .i64 h.m, dSl 2 cSh h.ps]
abbrev dHsh (h : Hsh) : D := dAgg (cHsh h)
abbrev fBo (b : Bool) : List D := [dB (b = true)]
def okSh (p : Int × Int) : Prop := (0 ≤ p.1 ∧ p.1 < 2147483647) ∧ 0 ≤ p.2 ∧ p.2 < 2147483647
def okH (h : Hsh) : Prop := (1 ≤ h.m ∧ h.m ≤ 64) ∧ (1 ≤ h.ps.length ∧ h.ps.length ≤ 4) ∧ ∀ p ∈ h.ps, okSh p
def homeI (m n : Int) (p : Int × Int) : Int := (p.1 * n + p.2) % 2147483647 % m
def homesI (h : Hsh) (n : Int) : List Int := h.ps.map (homeI h.m n)
theorem homesI_len (h : Hsh) (n : Int) : (homesI h n).length = h.ps.length := by simp [homesI]
theorem homesI_bd {h : Hsh} (hh : okH h) (n : Int) : ∀ b ∈ homesI h n, 0 ≤ b ∧ b < h.m := by
 intro b hb
 obtain ⟨p, _, rfl⟩ := List.mem_map.1 hb
 have := hh.1.1
 exact ⟨Int.emod_nonneg _ (by omega), Int.emod_lt_of_pos _ (by omega)⟩
def hsF (H : List (List Int)) (j : Int) : List Nat := (H[j.toNat]?.getD default).map Int.toNat
structure HOk (m : Nat) (H : List (List Int)) : Prop where
 bd : ∀ l ∈ H, ∀ b ∈ l, 0 ≤ b ∧ b < (m : Int)
 len : ∀ l ∈ H, l.length ≤ 4
theorem hsF_bd {m : Nat} {H : List (List Int)} (h : HOk m H) : ∀ j, ∀ b ∈ hsF H j, b < m := by
 intro j b hb
 obtain ⟨c, hc, rfl⟩ := List.mem_map.1 hb
 cases e : H[j.toNat]? with
 | none => rw [e] at hc; cases hc
 | some l =>
  rw [e] at hc
  have := h.bd l (List.mem_of_getElem? e) c hc
  omega
theorem HOk.at {m : Nat} {H : List (List Int)} (h : HOk m H) {i : Nat} (hi : i < H.length) : (H[i]?.getD default).length ≤ 4 ∧ ∀ b ∈ H[i]?.getD default, 0 ≤ b ∧ b < (m : Int) := by
 rw [List.getElem?_eq_getElem hi]
 exact ⟨h.len _ (List.getElem_mem hi), h.bd _ (List.getElem_mem hi)⟩
theorem HOk.home {m : Nat} {H : List (List Int)} (h : HOk m H) {i k : Nat} (hi : i < H.length) (hk : k < (H[i]?.getD default).length) : 0 ≤ (H[i]?.getD default)[k]?.getD default ∧ (H[i]?.getD default)[k]?.getD default < (m : Int) := by
 rw [List.getElem?_eq_getElem hk]
 exact (h.at hi).2 _ (List.getElem_mem hk)
theorem placeL_seen {rec : Int → List Int → List Bool → Bool × List Int × List Bool} {fx : List Bool} {i : Int} {bk : List Int} {sn : List Bool} : ∀ bs : List Nat, (∀ b ∈ bs, sn[b]?.getD default = true) → placeL rec fx i bs bk sn = (false, bk, sn)
 | [], _ => rfl
 | b :: bs, h => by
  unfold placeL
  rw [if_pos (.inl (h b (List.mem_cons_self ..)))]
  exact placeL_seen bs fun c hc => h c (List.mem_cons_of_mem _ hc)
theorem placeF_eq {hs : Int → List Nat} {m n : Nat} (hh : ∀ j, ∀ b ∈ hs j, b < m) {fx : List Bool} {i : Int} {bk : List Int} {sn : List Bool} (hl : sn.length = m) (hu : unseen sn ≤ n) : placeF hs fx n i bk sn = placeL (placeF hs fx (n - 1)) fx i (hs i) bk sn := by
 cases n with
 | zero =>
  rw [placeL_seen]
  ·rfl
  ·exact fun b hb => all_seen (by omega) (by rw [hl]; exact hh i b hb)
 | succ n => rfl
structure PlOk (m q n : Nat) (bk : List Int) (sn : List Bool) : Prop where
 bl : bk.length = m
 sl : sn.length = m
 it : ∀ x ∈ bk, x < (q : Int)
 un : unseen sn ≤ n
theorem PlOk.at {m q n : Nat} {bk : List Int} {sn : List Bool} (h : PlOk m q n bk sn) {b : Nat} (hb : b < m) : bk[b]?.getD default < (q : Int) := by
 have hbl := h.bl
 rw [List.getElem?_eq_getElem (by omega)]
 exact h.it _ (List.getElem_mem _)
theorem PlOk.seen {m q n : Nat} {bk : List Int} {sn : List Bool} (h : PlOk m q n bk sn) {b : Nat} (hb : b < m) (hs : sn[b]?.getD default ≠ true) : PlOk m q (n - 1) bk (sn.set b true) ∧ 0 < n := by
 have hu := unseen_set (sn := sn) (b := b) (by rw [h.sl]; exact hb) (by simpa using hs)
 have := h.un
 exact ⟨⟨h.bl, by rw [List.length_set]; exact h.sl, h.it, by omega⟩, by omega⟩
theorem PlOk.put {m q n : Nat} {bk : List Int} {sn : List Bool} (h : PlOk m q n bk sn) {b : Nat} {i : Int} (hi : i < (q : Int)) : PlOk m q n (bk.set b i) sn :=
 ⟨by rw [List.length_set]; exact h.bl, h.sl, fun x hx => by
  rcases List.mem_or_eq_of_mem_set hx with hx | rfl
  ·exact h.it x hx
  ·exact hi, h.un⟩
theorem PlOk.more {m q n n' : Nat} {bk : List Int} {sn : List Bool} (h : PlOk m q n bk sn) (hn : n ≤ n') : PlOk m q n' bk sn := ⟨h.bl, h.sl, h.it, Nat.le_trans h.un hn⟩
theorem placeL_plok {m q n n' : Nat} {rec : Int → List Int → List Bool → Bool × List Int × List Bool} {fx : List Bool} {i : Int} (hi : i < (q : Int)) (hb0 : ∀ j < (q : Int), ∀ bk sn, PlOk m q n' bk sn → PlOk m q n' (rec j bk sn).2.1 (rec j bk sn).2.2) (hn : n' = n - 1) :
  ∀ (bs : List Nat) (bk : List Int) (sn : List Bool), (∀ b ∈ bs, b < m) → PlOk m q n bk sn → PlOk m q n (placeL rec fx i bs bk sn).2.1 (placeL rec fx i bs bk sn).2.2
 | [], _, _, _, h => h
 | b :: bs, bk, sn, hb, h => by
  have h0 := hb b (List.mem_cons_self ..)
  have h1 := fun c hc => hb c (List.mem_cons_of_mem _ hc)
  unfold placeL
  split
  ·exact placeL_plok hi hb0 hn bs bk sn h1 h
  ·rename_i hs
   split
   ·exact h.put hi
   ·obtain ⟨h2, h3⟩ := h.seen h0 (fun e => hs (.inl e))
    rw [← hn] at h2
    have h4 := (hb0 _ (h.at h0) _ _ h2).more (show n' ≤ n by omega)
    dsimp only
    split
    ·exact h4.put hi
    ·exact placeL_plok hi hb0 hn bs _ _ h1 h4
theorem placeF_plok {m q : Nat} {hs : Int → List Nat} (hh : ∀ j, ∀ b ∈ hs j, b < m) {fx : List Bool} : ∀ (n : Nat) (i : Int) (bk : List Int) (sn : List Bool), i < (q : Int) → PlOk m q n bk sn → PlOk m q n (placeF hs fx n i bk sn).2.1 (placeF hs fx n i bk sn).2.2
 | 0, _, _, _, _, h => h
 | n + 1, i, bk, sn, hi, h => placeL_plok (n' := n) hi (fun j hj bk sn h => placeF_plok hh n j bk sn hj h) rfl (hs i) bk sn (hh i) h
theorem homes_next {H : List (List Int)} {i : Int} {k : Nat} (hk : k < (H[i.toNat]?.getD default).length) : (hsF H i).drop k = ((H[i.toNat]?.getD default)[k]?.getD default).toNat :: (hsF H i).drop (k + 1) := by
 unfold hsF
 rw [List.drop_eq_getElem_cons (by rw [List.length_map]; exact hk), List.getElem_map, List.getElem?_eq_getElem hk]
 rfl
theorem homes_end {H : List (List Int)} {i : Int} {k : Nat} (hk : (H[i.toNat]?.getD default).length ≤ k) : (hsF H i).drop k = [] := List.drop_eq_nil_of_le (by unfold hsF; rw [List.length_map]; exact hk)
end Go.Q

namespace Go.Q
variable {P : Program} {f : FuncId} {N : Nat} {I0 : Imm} {R : Goal} {g : G} {M : List Res} {k : List Item}
theorem stepR_scope {b : Frame} {a : Act} {cs : List Frame} {w : World} {c : Code} : step P (lone (b.atR a (.code (.scope c) :: k)) cs w) = .next (lone (b.atR a (.code c :: .inScope c :: k)) cs w) :=
 step_lone_go (by simp [stepG, stepG.exec, Frame.atR])
theorem run_scope {c : Code} (h : Run P f N I0 R g M (.code c :: .inScope c :: k)) : Run P f N I0 R g M (.code (.scope c) :: k) :=
 ⟨fun I a w b cs hb hk hl hs hi => .step (.one stepR_scope) (h.go I a w b cs hb hk hl hs hi)⟩
end Go.Q
