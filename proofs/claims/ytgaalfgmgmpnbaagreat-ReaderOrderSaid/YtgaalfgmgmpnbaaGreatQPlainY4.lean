/- Contracts of reads: what takes an answer. -/
import Derived.Test.YtgaalfgmgmpnbaaGreatQFitsR
import Derived.Test.YtgaalfgmgmpnbaaGreatQDraws
import Derived.Test.YtgaalfgmgmpnbaaGreatQMapB
import Derived.Test.YtgaalfgmgmpnbaaGreatQServer6
set_option linter.unusedVariables false
set_option linter.unusedSimpArgs false
namespace Go.Q
open Go.Proofs
open Classical
theorem own2 {A B c1 c2 : Res} {X Y F : List Res} {I : Imm} {w : World} (h : Inv I (A :: B :: c1 :: c2 :: (X ++ (Y ++ F))) w) : Inv I (A :: B :: ((X ++ Y) ++ F)) w := by
 rw [List.append_assoc]
 exact h.sub (.cons_cons _ (.cons_cons _ (.cons _ (.cons _ (.refl _)))))
theorem els_put {α : Type} {xs : List α} {f' : α → List D} {r : List (List D)} {q i : Nat} {x : α} {e : List D} (h : i < xs.length) (hq : q = i) (he : e = f' x) : (xs.map f' ++ r).set q e = (xs.set i x).map f' ++ r := by
 subst hq he
 rw [List.set_append, if_pos (by simpa using h), List.map_set]
theorem set_some {α : Type} {xs : List α} {i : Nat} {x : α} (h : xs[i]? = some x) : xs.set i x = xs := by
 obtain ⟨hi, rfl⟩ := List.getElem?_eq_some_iff.1 h
 exact List.set_getElem_self hi
theorem map_set1 {α : Type} {fa : List (Value × α)} {i : Nat} {h : Value} {x y : α} (hi : fa[i]? = some (h, x)) : (fa.set i (h, y)).map (·.1) = fa.map (·.1) := by
 rw [List.map_set]
 exact set_some (by rw [List.getElem?_map, hi]; rfl)
def okRd (r : Rdr) : Prop := szR r ∧ (∀ q ∈ r.queries, q.length ≤ 10) ∧ r.answers.length = r.queries.length ∧ r.marks.length = r.queries.length ∧ ∀ p, p < r.queries.length → (r.answers[p]?.getD default).length = (r.queries[p]?.getD default).length ∧ (r.marks[p]?.getD default).length = (r.queries[p]?.getD default).length
noncomputable def takeE (r : Rdr) (n : Nte) : Int := if r.ended then 46 else if ¬ fitsR r n then 2 else if ¬ (signE (1000 + n.server) (numsN n) = 0 ∧ n.mark = signM (1000 + n.server) (numsN n)) then 16 else if ((r.answers[n.probe.toNat]?.getD default)[(n.server - 1).toNat]?.getD default).known then 7 else 0
noncomputable def takeR (r : Rdr) (n : Nte) : Rdr := if takeE r n = 0 then { r with answers := r.answers.set n.probe.toNat ((r.answers[n.probe.toNat]?.getD default).set (n.server - 1).toNat ⟨True, n.values⟩), marks := r.marks.set n.probe.toNat ((r.marks[n.probe.toNat]?.getD default).set (n.server - 1).toNat n.mark) } else r
theorem takeM_spec (r : Rdr) (n : Nte) (hr : okRd r) (hn : n.query.length ≤ 100000 ∧ n.values.length ≤ 100000) : Spec Tryz.prog 38 [dRdr r, dSl 2 cPsn peopleL, dNte n] [] (σ := Value × Value × List (Value × List Ans) × List (Value × List Int)) (fun s => s.2.2.1.map (·.2) = (takeR r n).answers ∧ s.2.2.2.map (·.2) = (takeR r n).marks) (fun s => dTup [dAgg [dInt .i64 r.read, dInt .i64 r.scheme.kind, dInt .i64 r.scheme.servers, dInt .i64 r.scheme.degree, dInt .i64 r.scheme.group, dInt .i64 r.head.number, dInt .i64 r.head.p, dInt .i64 r.head.count, dInt .i64 r.head.width, dInt .i64 r.head.root, dInts r.rows, dQs r.queries, dSlV s.1, dSlV s.2.1, dB r.ended], dInt .i64 (takeE r n)]) (fun s => rRow s.1 137 1 (fun u => [dSlV u]) (s.2.2.1.map (·.1)) :: rRow s.2.1 44 1 (fun u => [dSlV u]) (s.2.2.2.map (·.1)) :: (fam 3 1 fI s.2.2.2 ++ fam 136 2 cAns s.2.2.1)) := by
  refine spec_of_body Tryz.func38 rfl rfl (fun I F => ?_)
  refine au 4 ?_
  refine run_new (loc_allocOwn (by simp)) rfl (fun b6 _ => ?_)
  refine au 5 ?_
  refine run_opM (Min := []) (loc_callM (rownT_spec r hr.1) rfl) rfl (fun s9 hs9 => ?_)
  obtain ⟨_, va, vm, _, fa, fm⟩ := s9
  obtain ⟨_, ha, hm⟩ := hs9
  dsimp only at ha hm ⊢
  refine runL_inv (M' := rRow va 137 1 (fun u => [dSlV u]) (fa.map (·.1)) :: rRow vm 44 1 (fun u => [dSlV u]) (fm.map (·.1)) :: rCells b6 76 [dInt .i64 0, dInt .i64 0, dInt .i64 0, dInt .i64 0, dInt .i64 0, dInt .i64 0, dInt .i64 0, dInt .i64 0, dInt .i64 0, dInt .i64 0, dVal (.slice none 0 0), dVal (.slice none 0 0), dVal (.slice none 0 0), dVal (.slice none 0 0), dB False] :: (fam 3 1 fI fm ++ (fam 136 2 cAns fa ++ F))) (fun I w h => ?_) ?_
  · simp only [List.cons_append, List.append_assoc, List.nil_append] at h
    refine h.perm (List.Perm.cons _ (List.Perm.cons _ ?_))
    rw [← List.append_assoc, ← List.append_assoc]
    exact List.perm_middle
  refine run_new (loc_allocOwn (by simp)) rfl (fun b8 _ => ?_)
  refine au 10 ?_
  refine run_cond rfl (fun h1 => ?_) (fun h1 => ?_)
  ·
   have c1 := h1
   refine au 6 ?_
   have hE : takeE r n = 46 := by unfold takeE; rw [if_pos c1]
   refine run_front (.there (.there (.there (.here)))) ?_
   refine run_front (.there (.here)) ?_
   refine run_front (.there (.there (.there (.here)))) ?_
   refine run_front (.there (.there (.there (.here)))) ?_
   refine run_retG ((va, vm, fa, fm)) Tryz.func38 rfl (.cellN rfl (.there (.there (.there (.here)))) (by rfl) (.tmp rfl (.nil))) ?_ (⟨ha.trans (by unfold takeR; rw [if_neg (by rw [hE]; omega)]), hm.trans (by unfold takeR; rw [if_neg (by rw [hE]; omega)])⟩) (fun I w h => own2 h)
   exact d_tup2 (fun _ _ h => h) (d_int hE.symm)
  ·
   have c1 := h1
   refine au 4 ?_
   refine run_op (loc_call (fits_spec r n hr.1) rfl) rfl ?_
   refine au 3 ?_
   refine run_cond rfl (fun h2 => ?_) (fun h2 => ?_)
   ·
    have c2 := h2
    refine au 6 ?_
    have hE : takeE r n = 2 := by unfold takeE; rw [if_neg c1, if_pos c2]
    refine run_front (.there (.there (.there (.here)))) ?_
    refine run_front (.there (.here)) ?_
    refine run_front (.there (.there (.there (.here)))) ?_
    refine run_front (.there (.there (.there (.here)))) ?_
    refine run_retG ((va, vm, fa, fm)) Tryz.func38 rfl (.cellN rfl (.there (.there (.there (.here)))) (by rfl) (.tmp rfl (.nil))) ?_ (⟨ha.trans (by unfold takeR; rw [if_neg (by rw [hE]; omega)]), hm.trans (by unfold takeR; rw [if_neg (by rw [hE]; omega)])⟩) (fun I w h => own2 h)
    exact d_tup2 (fun _ _ h => h) (d_int hE.symm)
   ·
    have c2 := Classical.not_not.1 h2
    refine au 1 ?_
    have hft := c2
    unfold fitsR at hft
    obtain ⟨hf1, hf2, hf3, hf4, hf5, hf6, hf7, hf8, hf9⟩ := hft
    obtain ⟨hz, hq10, hla1, hlm1, hin⟩ := hr
    have hqp := hq10 _ (getD_mem (xs := r.queries) (k := n.probe.toNat) (by omega))
    obtain ⟨hil, himl⟩ := hin n.probe.toNat (by omega)
    refine dr_start _ (.none) [⟨[(1, none)], [], none⟩,
        ⟨[(5, none)], [], none⟩,
        ⟨[(24, some (1, false))], [1], none⟩,
        ⟨[(5, none)], [], none⟩,
        ⟨[(26, some (3, false))], [3], none⟩,
        ⟨[(5, none)], [], none⟩,
        ⟨[(28, some (5, false))], [5], none⟩,
        ⟨[(23, some (0, false)), (25, some (2, false)), (27, some (4, false)), (29, some (6, false))], [0, 1, 2, 3, 4, 5, 6], none⟩,
        ⟨[(30, some (7, false))], [0, 1, 2, 3, 4, 5, 6, 7], none⟩,
        ⟨[(31, some (8, false))], [0, 1, 2, 3, 4, 5, 6, 7, 8], none⟩] [] _ rfl rfl ?_
    refine da 4 ?_
    refine dq_pure rfl (fun s => .op rfl (.nil)) (fun s hs _ => loc_call (numbers_spec n hn) rfl) (by exact .nil) ?_
    refine da 2 ?_
    refine dq_pure rfl (fun s => .op rfl (.op rfl (.op rfl (.op rfl (.nil))))) (fun s hs _ => loc_call (mverify_spec n.server _ _ (by omega)) rfl) (by exact .nil) ?_
    refine da 2 ?_
    refine dq_end (rs := []) () rfl (fun _ => rfl) (.nil) rfl (fun _ => rfl) (fun _ _ => ?_)
    dsimp only [outG, outM, List.map, List.set, id]
    refine run_cond rfl (fun h3 => ?_) (fun h3 => ?_)
    ·
     have c3 := h3
     refine au 6 ?_
     have hE : takeE r n = 16 := by unfold takeE; rw [if_neg c1, if_neg (Classical.not_not.2 c2), if_pos c3]
     refine run_front (.there (.there (.there (.here)))) ?_
     refine run_front (.there (.here)) ?_
     refine run_front (.there (.there (.there (.here)))) ?_
     refine run_front (.there (.there (.there (.here)))) ?_
     refine run_retG ((va, vm, fa, fm)) Tryz.func38 rfl (.cellN rfl (.there (.there (.there (.here)))) (by rfl) (.tmp rfl (.nil))) ?_ (⟨ha.trans (by unfold takeR; rw [if_neg (by rw [hE]; omega)]), hm.trans (by unfold takeR; rw [if_neg (by rw [hE]; omega)])⟩) (fun I w h => own2 h)
     exact d_tup2 (fun _ _ h => h) (d_int hE.symm)
    ·
     have c3 := Classical.not_not.1 h3
     refine au 3 ?_
     refine run_front (.there (.there (.there (.here)))) ?_
     refine run_front (.there (.here)) ?_
     refine run_front (.there (.there (.there (.here)))) ?_
     refine run_front (.there (.there (.there (.here)))) ?_
     have hfl : fa.length = r.answers.length := by rw [← ha, List.length_map]
     have hml : fm.length = r.marks.length := by rw [← hm, List.length_map]
     obtain ⟨⟨hh, la⟩, hpa⟩ : ∃ pa, fa[n.probe.toNat]? = some pa := ⟨fa[n.probe.toNat]'(by omega), List.getElem?_eq_getElem (by omega)⟩
     have hla : la = (r.answers[n.probe.toNat]?.getD default) := by rw [← ha, List.getElem?_map, hpa]; rfl
     subst hla
     have hset := set_some hpa
     have hpk1 : (fa.map (·.1))[n.probe.toNat]?.getD default = hh := by rw [List.getElem?_map, hpa]; rfl
     have hfml : (fa.map (·.1)).length = fa.length := List.length_map ..
     refine run_inv (fun I w h => fam_out (_ :: _ :: _ :: _ :: fam 3 1 fI fm) n.probe.toNat hpa h) ?_
     refine run_rowForm (xs := fa.map (·.1)) (.there .here) (by omega) (fun ba capa hva => ?_)
     rw [hva]
     refine run_openRow (xs := (r.answers[n.probe.toNat]?.getD default)) .here (by intro he; have h0 := congrArg List.length he; rw [List.length_nil] at h0; omega) (fun bi cbi hvbi hcbi hmbi hlbi hfbi => ?_)
     refine dr_start _ (.none) [⟨[(8, none)], [], none⟩,
         ⟨[(33, some (0, false))], [0], some (3, 0, false)⟩,
         ⟨[(5, none)], [], none⟩,
         ⟨[(35, some (2, false))], [2], none⟩,
         ⟨[(34, some (1, false)), (36, some (3, false))], [0, 1, 2, 3], none⟩,
         ⟨[(37, some (4, false))], [0, 1, 2, 3, 4], some (1, 0, false)⟩,
         ⟨[(5, none)], [], none⟩,
         ⟨[(39, some (6, false))], [6], none⟩,
         ⟨[(40, some (7, false))], [6, 7], none⟩,
         ⟨[(38, some (5, false)), (41, some (8, false))], [0, 1, 2, 3, 4, 5, 6, 7, 8], none⟩,
         ⟨[(42, some (9, false))], [0, 1, 2, 3, 4, 5, 6, 7, 8, 9], none⟩] [_, _, _, _, _] _ rfl rfl ?_
     refine da 1 ?_
     first | refine dq_read rfl (fun s => .op rfl (.nil)) rfl rfl (fun s hs _ hm => LocP.upV (loc_loadOwn1 rfl hm (by rfl))) (by exact .nil) ?_ | refine dq_read rfl (fun s => .op rfl (.nil)) rfl rfl (fun s hs _ hm => loc_loadOwn1 rfl hm (by rfl)) (by exact .nil) ?_
     refine da 3 ?_
     refine dq_read rfl (fun s => .op rfl (.nil)) rfl rfl (fun s hs _ hm => LocP.upV (LocP.conv (loc_loadRow1 rfl hm (by omega)) (congrArg dSlV (hpk1.trans hvbi)))) (by exact .nil) ?_
     refine da 3 ?_
     refine dq_pure rfl (fun s => .op rfl (.op rfl (.nil))) (fun s hs _ => loc_indexOwn rfl rfl (by first | omega | assumption)) (by exact .nil) ?_
     refine da 1 ?_
     refine dq_end (rs := [_, _, _, _, _]) () rfl (fun _ => rfl) (.nil) rfl (fun _ => rfl) (fun _ _ => ?_)
     dsimp only [outG, outM, List.map, List.set, id]
     refine au 6 ?_
     refine run_op (loc_loadBufF rfl (.here) (els_get (i := (n.server - 1).toNat) (by omega) (by omega)) rfl) rfl ?_
     refine au 1 ?_
     refine run_cond rfl (fun h4 => ?_) (fun h4 => ?_)
     ·
      have c4 := h4
      refine au 1 ?_
      refine run_shutRow (f' := cAns) (xs := (r.answers[n.probe.toNat]?.getD default)) .here rfl rfl (by simp [junk_length]; omega) hmbi hlbi ?_
      rw [← hvbi]
      refine run_inv (fun I w h => fam_in (_ :: _ :: _ :: _ :: fam 3 1 fI fm) n.probe.toNat (p := (hh, (r.answers[n.probe.toNat]?.getD default))) (by omega) h) ?_
      rw [hset, ← hva]
      refine au 5 ?_
      have hE : takeE r n = 7 := by unfold takeE; rw [if_neg c1, if_neg (Classical.not_not.2 c2), if_neg (Classical.not_not.2 c3), if_pos c4]
      skip
      refine run_retG ((va, vm, fa, fm)) Tryz.func38 rfl (.cellN rfl (.there (.there (.there (.here)))) (by rfl) (.tmp rfl (.nil))) ?_ (⟨ha.trans (by unfold takeR; rw [if_neg (by rw [hE]; omega)]), hm.trans (by unfold takeR; rw [if_neg (by rw [hE]; omega)])⟩) (fun I w h => own2 h)
      exact d_tup2 (fun _ _ h => h) (d_int hE.symm)
     ·
      have c4 := h4
      refine au 6 ?_
      refine run_op (loc_call (cloneI_spec _ (by omega)) rfl) rfl ?_
      refine run_op (LocP.conv (d' := dAgg (cAns ⟨True, n.values⟩)) (loc_build (.one rfl rfl rfl (.one rfl rfl rfl (.nil)))) rfl) rfl ?_
      refine au 1 ?_
      refine run_updS0 (.here) (loc_storeBufN rfl rfl (by first | omega | (simp only [List.length_append, List.length_map, junk_length]; omega) | (simp only [List.length_append, List.length_map, junk_length]; split <;> omega) | (simp [put, junk_length]; omega)) rfl) (fun _ _ => ?_)
      refine au 1 ?_
      refine run_shutRow (f' := cAns) (xs := (r.answers[n.probe.toNat]?.getD default).set (n.server - 1).toNat ⟨True, n.values⟩) .here (els_put (x := (⟨True, n.values⟩ : Ans)) (by omega) (by omega) (by rfl)) (by rw [List.length_set]) (by simp [junk_length]; omega) hmbi (by rw [List.length_set]; exact hlbi) ?_
      rw [← hvbi]
      refine run_inv (fun I w h => fam_in (_ :: _ :: _ :: _ :: fam 3 1 fI fm) n.probe.toNat (p := (hh, (r.answers[n.probe.toNat]?.getD default).set (n.server - 1).toNat ⟨True, n.values⟩)) (by omega) h) ?_
      rw [← hva]
      refine au 1 ?_
      obtain ⟨⟨hk, lm⟩, hpm⟩ : ∃ pm, fm[n.probe.toNat]? = some pm := ⟨fm[n.probe.toNat]'(by omega), List.getElem?_eq_getElem (by omega)⟩
      have hlm : lm = (r.marks[n.probe.toNat]?.getD default) := by rw [← hm, List.getElem?_map, hpm]; rfl
      subst hlm
      have hpk2 : (fm.map (·.1))[n.probe.toNat]?.getD default = hk := by rw [List.getElem?_map, hpm]; rfl
      have hfml2 : (fm.map (·.1)).length = fm.length := List.length_map ..
      refine run_inv (fun I w h => fam_out [_, _, _, _] n.probe.toNat hpm h) ?_
      dsimp only
      refine run_rowForm (xs := fm.map (·.1)) (.there (.there .here)) (by omega) (fun bm capm hvm => ?_)
      refine run_rowForm (v := hk) (xs := (r.marks[n.probe.toNat]?.getD default)) .here (by omega) (fun bk capk hvk => ?_)
      rw [hvm, hvk]
      rw [hvk] at hpk2
      refine dr_start _ (.none) [⟨[(8, none)], [], none⟩,
          ⟨[(54, some (0, false))], [0], some (3, 0, false)⟩,
          ⟨[(5, none)], [], none⟩,
          ⟨[(56, some (2, false))], [2], none⟩,
          ⟨[(55, some (1, false)), (57, some (3, false))], [0, 1, 2, 3], none⟩,
          ⟨[(58, some (4, false))], [0, 1, 2, 3, 4], some (2, 0, false)⟩,
          ⟨[(5, none)], [], none⟩,
          ⟨[(60, some (6, false))], [6], none⟩,
          ⟨[(61, some (7, false))], [6, 7], none⟩,
          ⟨[(5, none)], [], none⟩,
          ⟨[(63, some (9, false))], [9], none⟩,
          ⟨[(59, some (5, false)), (62, some (8, false))], [0, 1, 2, 3, 4, 5, 6, 7, 8, 9, 10], none⟩,
          ⟨[(65, some (11, false)), (64, some (10, false))], [0, 1, 2, 3, 4, 5, 6, 7, 8, 9, 10, 11], some (0, 0, true)⟩] [_, _, _, _, _] _ rfl rfl ?_
      refine da 1 ?_
      first | refine dq_read rfl (fun s => .op rfl (.nil)) rfl rfl (fun s hs _ hm => LocP.upV (loc_loadOwn1 rfl hm (by rfl))) (by exact .nil) ?_ | refine dq_read rfl (fun s => .op rfl (.nil)) rfl rfl (fun s hs _ hm => loc_loadOwn1 rfl hm (by rfl)) (by exact .nil) ?_
      refine da 3 ?_
      refine dq_read rfl (fun s => .op rfl (.nil)) rfl rfl (fun s hs _ hm => LocP.upV (LocP.conv (loc_loadRow1 rfl hm (by omega)) (congrArg dSlV hpk2))) (by exact .nil) ?_
      refine da 6 ?_
      refine dq_write0 rfl (fun s => .op rfl (.op rfl (.nil))) rfl rfl (fun s hs => loc_storeRow1 _ rfl rfl rfl (by first | omega | assumption)) (by exact .nil) ?_
      refine dq_end (rs := [_, _, _, _, _]) () rfl (fun _ => rfl) (.nil) rfl (fun _ => rfl) (fun _ _ => ?_)
      dsimp only [outG, outM, List.map, List.set, id]
      rw [← hvk, ← hvm]
      refine run_inv (fun I w h => fam_in [_, _, _, _] n.probe.toNat (p := (hk, (r.marks[n.probe.toNat]?.getD default).set (n.server - 1).toNat n.mark)) (by omega) h) ?_
      refine au 6 ?_
      have hE : takeE r n = 0 := by unfold takeE; rw [if_neg c1, if_neg (Classical.not_not.2 c2), if_neg (Classical.not_not.2 c3), if_neg c4]
      refine run_retG ((va, vm, fa.set n.probe.toNat (hh, (r.answers[n.probe.toNat]?.getD default).set (n.server - 1).toNat ⟨True, n.values⟩), fm.set n.probe.toNat (hk, (r.marks[n.probe.toNat]?.getD default).set (n.server - 1).toNat n.mark))) Tryz.func38 rfl (.cellN rfl (.there (.there (.there (.here)))) (by rfl) (.tmp rfl (.nil))) ?_ (⟨by simp only [List.map_set]; rw [ha]; unfold takeR; rw [if_pos hE], by simp only [List.map_set]; rw [hm]; unfold takeR; rw [if_pos hE]⟩) (fun I w h => by rw [map_set1 hpa, map_set1 hpm]; exact own2 h)
      exact d_tup2 (fun _ _ h => h) (d_int hE.symm)
theorem takeR_eq (r : Rdr) (n : Nte) : takeR r n = { r with answers := (takeR r n).answers, marks := (takeR r n).marks } := by unfold takeR; split <;> rfl
theorem take_spec (r : Rdr) (n : Nte) (hr : okRd r) (hn : n.query.length ≤ 100000 ∧ n.values.length ≤ 100000) : SpecP Tryz.prog 38 [dRdr r, dSl 2 cPsn peopleL, dNte n] (dTup [dRdr (takeR r n), dInt .i64 (takeE r n)]) := by
 have h1 := nest_spec (d' := fun s => dTup [dAgg [dInt .i64 r.read, dInt .i64 r.scheme.kind, dInt .i64 r.scheme.servers, dInt .i64 r.scheme.degree, dInt .i64 r.scheme.group, dInt .i64 r.head.number, dInt .i64 r.head.p, dInt .i64 r.head.count, dInt .i64 r.head.width, dInt .i64 r.head.root, dInts r.rows, dQs r.queries, dSl 1 (fun x => [dSl 2 cAns x]) (takeR r n).answers, dSlV s.2.1, dB r.ended], dInt .i64 (takeE r n)]) (Mo := fun s => rRow s.2.1 44 1 (fun u => [dSlV u]) (s.2.2.2.map (·.1)) :: fam 3 1 fI s.2.2.2) (v := fun s => s.1) (fa := fun s => s.2.2.1) (T := 137) (T' := 136) (n := 2) (c := cAns) (takeM_spec r n hr hn) (fun s F I w _ h => by
   refine h.perm (List.Perm.cons _ ?_)
   simp only [List.cons_append, List.append_assoc]
   refine List.Perm.trans (List.Perm.cons _ ?_) List.perm_middle.symm
   simp only [← List.append_assoc]
   exact List.Perm.append_right F List.perm_append_comm) (fun s J J' u hs hle hd hq => by
   obtain ⟨cs, e, h⟩ := hd
   refine ⟨cs, e, ?_⟩
   rw [hs.1] at hq
   match hc : cs.toList, h with
   | [x, y], ⟨⟨ds, e1, g1⟩, g2, _⟩ => exact ⟨⟨ds, e1, relL_swap (A := [dInt .i64 r.read, dInt .i64 r.scheme.kind, dInt .i64 r.scheme.servers, dInt .i64 r.scheme.degree, dInt .i64 r.scheme.group, dInt .i64 r.head.number, dInt .i64 r.head.p, dInt .i64 r.head.count, dInt .i64 r.head.width, dInt .i64 r.head.root, dInts r.rows, dQs r.queries]) hle hq g1⟩, D.mono _ hle g2, trivial⟩)
 have h2 := nest_spec (d' := fun _ => dTup [dAgg [dInt .i64 r.read, dInt .i64 r.scheme.kind, dInt .i64 r.scheme.servers, dInt .i64 r.scheme.degree, dInt .i64 r.scheme.group, dInt .i64 r.head.number, dInt .i64 r.head.p, dInt .i64 r.head.count, dInt .i64 r.head.width, dInt .i64 r.head.root, dInts r.rows, dQs r.queries, dSl 1 (fun x => [dSl 2 cAns x]) (takeR r n).answers, dSl 1 (fun x => [dSl 1 fI x]) (takeR r n).marks, dB r.ended], dInt .i64 (takeE r n)]) (Mo := fun _ => []) (v := fun s : Value × Value × List (Value × List Ans) × List (Value × List Int) => s.2.1) (fa := fun s => s.2.2.2) (T := 44) (T' := 3) (n := 1) (c := fI) h1 (fun s F I w _ h => by exact h) (fun s J J' u hs hle hd hq => by
   obtain ⟨cs, e, h⟩ := hd
   refine ⟨cs, e, ?_⟩
   rw [hs.2] at hq
   match hc : cs.toList, h with
   | [x, y], ⟨⟨ds, e1, g1⟩, g2, _⟩ => exact ⟨⟨ds, e1, relL_swap (A := [dInt .i64 r.read, dInt .i64 r.scheme.kind, dInt .i64 r.scheme.servers, dInt .i64 r.scheme.degree, dInt .i64 r.scheme.group, dInt .i64 r.head.number, dInt .i64 r.head.p, dInt .i64 r.head.count, dInt .i64 r.head.width, dInt .i64 r.head.root, dInts r.rows, dQs r.queries, dSl 1 (fun x => [dSl 2 cAns x]) (takeR r n).answers]) hle hq g1⟩, D.mono _ hle g2, trivial⟩)
 intro I M w vs hv hi
 refine (h2 I M w vs hv hi).mono ?_
 rintro e w' ⟨u, rfl, s, _, J, g1, g2, g3⟩
 refine ⟨u, rfl, J, g1, ?_, g3⟩
 rw [takeR_eq r n]
 exact g2
end Go.Q

namespace Go.Q
open Go.Proofs
open Classical
theorem ints31_spec (xs : List Int) : SpecP Tryz.prog 88 [dInts xs, dInts xs] (dB True) := by
  refine specP_of_body Tryz.func88 rfl rfl (fun I M => ?_)
  refine au 8 ?_
  first | refine runL_fact (s := 6) rfl (fun _ _ h => dSl_len h) (fun hlen1 => ?_) | skip
  refine au 2 ?_
  first | refine runL_fact (s := 8) rfl (fun _ _ h => dSl_len h) (fun hlen2 => ?_) | skip
  refine au 3 ?_
  refine run_cond rfl (fun h3 => ?_) (fun h3 => ?_)
  · exfalso; exact h3 rfl
  ·
   refine au 7 ?_
   refine run_loopC (σ := Nat) (ks := [0, 1]) (.cons rfl (.cons rfl (.nil))) (fun k => [(5, dInt .i64 (k : Nat))]) (fun k => k ≤ xs.length) (fun k => xs.length - k) (0) ((by omega)) (.cons rfl (by first | exact fun _ _ h => h | exact d_int (by omega) | exact d_int (by simp) | exact d_intN (by omega) | exact d_any) .nil) ?_
   intro k hk ih4
   refine au 5 ?_
   first | refine runL_fact (s := 12) rfl (fun _ _ h => dSl_len h) (fun hlen5 => ?_) | skip
   refine au 3 ?_
   refine run_cond rfl (fun h6 => ?_) (fun h6 => ?_)
   ·
    refine au 4 ?_
    refine dr_start _ (.none) [⟨[(0, none)], [], none⟩,
        ⟨[(5, none)], [], none⟩,
        ⟨[(17, some (0, false)), (18, some (1, false))], [0, 1], none⟩,
        ⟨[(19, some (2, false))], [0, 1, 2], none⟩,
        ⟨[(1, none)], [], none⟩,
        ⟨[(5, none)], [], none⟩,
        ⟨[(21, some (4, false)), (22, some (5, false))], [4, 5], none⟩,
        ⟨[(23, some (6, false))], [4, 5, 6], none⟩,
        ⟨[(20, some (3, false)), (24, some (7, false))], [0, 1, 2, 3, 4, 5, 6, 7], none⟩] [] _ rfl rfl ?_
    refine da 9 ?_
    refine dq_end (rs := []) () rfl (fun _ => rfl) (.nil) rfl (fun _ => rfl) (fun _ _ => ?_)
    dsimp only [outG, outM, List.map, List.set, id]
    refine run_cond rfl (fun h7 => ?_) (fun h7 => ?_)
    · exfalso; exact h7 rfl
    ·
     refine au 7 ?_
     exact run_againC ih4 (k + 1) (by omega) (by omega) (.cons rfl (by first | exact fun _ _ h => h | exact d_int (by omega) | exact d_int (by simp) | exact d_intN (by omega) | exact d_any) .nil) (.cons rfl (fun _ _ x => x) (.cons rfl (fun _ _ x => x) (.nil)))
   ·
    refine au 5 ?_
    refine run_retP Tryz.func88 rfl rfl ?_
    exact d_B (by simp)
theorem sameQs32_spec (xs : List (List (List Int))) : SpecP Tryz.prog 89 [dQs xs, dQs xs] (dB True) := by
  refine specP_of_body Tryz.func89 rfl rfl (fun I M => ?_)
  refine au 8 ?_
  first | refine runL_fact (s := 6) rfl (fun _ _ h => dSl_len h) (fun hlen1 => ?_) | skip
  refine au 2 ?_
  first | refine runL_fact (s := 8) rfl (fun _ _ h => dSl_len h) (fun hlen2 => ?_) | skip
  refine au 3 ?_
  refine run_cond rfl (fun h3 => ?_) (fun h3 => ?_)
  · exfalso; exact h3 rfl
  ·
   refine au 7 ?_
   refine run_loopC (σ := Nat) (ks := [0, 1]) (.cons rfl (.cons rfl (.nil))) (fun k => [(5, dInt .i64 (k : Nat))]) (fun k => k ≤ xs.length) (fun k => xs.length - k) (0) ((by omega)) (.cons rfl (by first | exact fun _ _ h => h | exact d_int (by omega) | exact d_int (by simp) | exact d_intN (by omega) | exact d_any) .nil) ?_
   intro k hk ih4
   refine au 5 ?_
   first | refine runL_fact (s := 12) rfl (fun _ _ h => dSl_len h) (fun hlen5 => ?_) | skip
   refine au 3 ?_
   refine run_cond rfl (fun h6 => ?_) (fun h6 => ?_)
   ·
    refine au 4 ?_
    refine dr_start _ (.none) [⟨[(0, none)], [], none⟩,
        ⟨[(5, none)], [], none⟩,
        ⟨[(17, some (0, false)), (18, some (1, false))], [0, 1], none⟩,
        ⟨[(19, some (2, false))], [0, 1, 2], none⟩,
        ⟨[(1, none)], [], none⟩,
        ⟨[(5, none)], [], none⟩,
        ⟨[(21, some (4, false)), (22, some (5, false))], [4, 5], none⟩,
        ⟨[(23, some (6, false))], [4, 5, 6], none⟩,
        ⟨[(20, some (3, false)), (24, some (7, false))], [0, 1, 2, 3, 4, 5, 6, 7], none⟩,
        ⟨[(25, some (8, false))], [0, 1, 2, 3, 4, 5, 6, 7, 8], none⟩] [] _ rfl rfl ?_
    refine da 8 ?_
    refine dq_pure rfl (fun s => .op rfl (.op rfl (.nil))) (fun s hs _ => loc_call (sameRs30_spec _ _) rfl) (by exact .nil) ?_
    refine da 1 ?_
    refine dq_end (rs := []) () rfl (fun _ => rfl) (.nil) rfl (fun _ => rfl) (fun _ _ => ?_)
    dsimp only [outG, outM, List.map, List.set, id]
    refine run_cond rfl (fun h7 => ?_) (fun h7 => ?_)
    · exfalso; exact h7 rfl
    ·
     refine au 7 ?_
     exact run_againC ih4 (k + 1) (by omega) (by omega) (.cons rfl (by first | exact fun _ _ h => h | exact d_int (by omega) | exact d_int (by simp) | exact d_intN (by omega) | exact d_any) .nil) (.cons rfl (fun _ _ x => x) (.cons rfl (fun _ _ x => x) (.nil)))
   ·
    refine au 5 ?_
    refine run_retP Tryz.func89 rfl rfl ?_
    exact d_B (by simp)
theorem same32_spec (r : Rdr) : SpecP Tryz.prog 39 [dRdr r, dRdr r] (dB True) := by
  refine specP_of_body Tryz.func39 rfl rfl (fun I M => ?_)
  refine au 19 ?_
  refine run_gop rfl rfl gdI.ok (fun hg => loc_neqI rfl rfl (.cons (.cons (.cons (.cons (.nil))))) rfl) rfl ?_
  refine au 7 ?_
  refine run_gop rfl rfl gdI.ok (fun hg => loc_neqI rfl rfl (.cons (.cons (.cons (.cons (.cons (.nil)))))) rfl) rfl ?_
  refine au 7 ?_
  refine run_gop rfl rfl gdI.ok (fun hg => loc_neqB rfl rfl) rfl ?_
  refine au 7 ?_
  refine run_gop rfl rfl gdI.ok (fun hg => loc_call (ints31_spec _) rfl) rfl ?_
  refine au 8 ?_
  refine run_gop rfl rfl gdI.ok (fun hg => loc_call (sameQs32_spec _) rfl) rfl ?_
  refine au 8 ?_
  refine run_gop rfl rfl gdI.ok (fun hg => loc_call (sameRs30_spec _ _) rfl) rfl ?_
  refine au 14 ?_
  refine run_cond rfl (fun h1 => ?_) (fun h1 => ?_)
  · exfalso; simp at h1
  ·
   refine au 7 ?_
   refine run_loopC (σ := Nat) (ks := [2, 3]) (.cons rfl (.cons rfl (.nil))) (fun k => [(5, dInt .i64 (k : Nat))]) (fun k => k ≤ r.answers.length) (fun k => r.answers.length - k) (0) ((by omega)) (.cons rfl (by first | exact fun _ _ h => h | exact d_int (by omega) | exact d_int (by simp) | exact d_intN (by omega) | exact d_any) .nil) ?_
   intro k hk ih2
   refine au 6 ?_
   first | refine runL_fact (s := 68) rfl (fun _ _ h => dSl_len h) (fun hlen3 => ?_) | skip
   refine au 3 ?_
   refine run_cond rfl (fun h4 => ?_) (fun h4 => ?_)
   ·
    refine au 5 ?_
    refine dr_start _ (.none) [⟨[(2, none)], [], none⟩,
        ⟨[(73, some (0, false))], [0], none⟩,
        ⟨[(5, none)], [], none⟩,
        ⟨[(74, some (1, false)), (75, some (2, false))], [0, 1, 2], none⟩,
        ⟨[(76, some (3, false))], [0, 1, 2, 3], none⟩,
        ⟨[(77, some (4, false))], [0, 1, 2, 3, 4], none⟩,
        ⟨[(3, none)], [], none⟩,
        ⟨[(79, some (6, false))], [6], none⟩,
        ⟨[(5, none)], [], none⟩,
        ⟨[(80, some (7, false)), (81, some (8, false))], [6, 7, 8], none⟩,
        ⟨[(82, some (9, false))], [6, 7, 8, 9], none⟩,
        ⟨[(83, some (10, false))], [6, 7, 8, 9, 10], none⟩,
        ⟨[(78, some (5, false)), (84, some (11, false))], [0, 1, 2, 3, 4, 5, 6, 7, 8, 9, 10, 11], none⟩] [] _ rfl rfl ?_
    refine da 13 ?_
    refine dq_end (rs := []) () rfl (fun _ => rfl) (.nil) rfl (fun _ => rfl) (fun _ _ => ?_)
    dsimp only [outG, outM, List.map, List.set, id]
    refine run_cond rfl (fun h5 => ?_) (fun h5 => ?_)
    · exfalso; exact h5 rfl
    ·
     refine au 6 ?_
     refine run_loopC (σ := Nat) (ks := [2, 3, 5]) (.cons rfl (.cons rfl (.cons rfl (.nil)))) (fun u => [(6, dInt .i64 (u : Nat))]) (fun u => u ≤ (r.answers[k]?.getD default).length) (fun u => (r.answers[k]?.getD default).length - u) (0) ((by omega)) (.cons rfl (by first | exact fun _ _ h => h | exact d_int (by omega) | exact d_int (by simp) | exact d_intN (by omega) | exact d_any) .nil) ?_
     intro u hu ih6
     refine au 9 ?_
     first | refine runL_fact (s := 91) rfl (fun _ _ h => dSl_len h) (fun hlen7 => ?_) | skip
     refine au 3 ?_
     refine run_cond rfl (fun h8 => ?_) (fun h8 => ?_)
     ·
      refine au 4 ?_
      refine dr_start _ (.none) [⟨[(2, none)], [], none⟩,
          ⟨[(96, some (0, false))], [0], none⟩,
          ⟨[(5, none)], [], none⟩,
          ⟨[(97, some (1, false)), (98, some (2, false))], [0, 1, 2], none⟩,
          ⟨[(99, some (3, false))], [0, 1, 2, 3], none⟩,
          ⟨[(6, none)], [], none⟩,
          ⟨[(100, some (4, false)), (101, some (5, false))], [0, 1, 2, 3, 4, 5], none⟩,
          ⟨[(102, some (6, false))], [0, 1, 2, 3, 4, 5, 6], none⟩,
          ⟨[(103, some (7, false))], [0, 1, 2, 3, 4, 5, 6, 7], none⟩,
          ⟨[(3, none)], [], none⟩,
          ⟨[(105, some (9, false))], [9], none⟩,
          ⟨[(5, none)], [], none⟩,
          ⟨[(106, some (10, false)), (107, some (11, false))], [9, 10, 11], none⟩,
          ⟨[(108, some (12, false))], [9, 10, 11, 12], none⟩,
          ⟨[(6, none)], [], none⟩,
          ⟨[(109, some (13, false)), (110, some (14, false))], [9, 10, 11, 12, 13, 14], none⟩,
          ⟨[(111, some (15, false))], [9, 10, 11, 12, 13, 14, 15], none⟩,
          ⟨[(112, some (16, false))], [9, 10, 11, 12, 13, 14, 15, 16], none⟩,
          ⟨[(104, some (8, false)), (113, some (17, false))], [0, 1, 2, 3, 4, 5, 6, 7, 8, 9, 10, 11, 12, 13, 14, 15, 16, 17], none⟩,
          ⟨[(114, some (18, false))], [0, 1, 2, 3, 4, 5, 6, 7, 8, 9, 10, 11, 12, 13, 14, 15, 16, 17, 18], none⟩,
          ⟨[(2, none)], [0, 1, 2, 3, 4, 5, 6, 7, 8, 9, 10, 11, 12, 13, 14, 15, 16, 17, 18, 19], none⟩,
          ⟨[(116, some (20, true))], [0, 1, 2, 3, 4, 5, 6, 7, 8, 9, 10, 11, 12, 13, 14, 15, 16, 17, 18, 19, 20], none⟩,
          ⟨[(5, none)], [0, 1, 2, 3, 4, 5, 6, 7, 8, 9, 10, 11, 12, 13, 14, 15, 16, 17, 18, 19], none⟩,
          ⟨[(117, some (21, true)), (118, some (22, true))], [0, 1, 2, 3, 4, 5, 6, 7, 8, 9, 10, 11, 12, 13, 14, 15, 16, 17, 18, 19, 20, 21, 22], none⟩,
          ⟨[(119, some (23, true))], [0, 1, 2, 3, 4, 5, 6, 7, 8, 9, 10, 11, 12, 13, 14, 15, 16, 17, 18, 19, 20, 21, 22, 23], none⟩,
          ⟨[(6, none)], [0, 1, 2, 3, 4, 5, 6, 7, 8, 9, 10, 11, 12, 13, 14, 15, 16, 17, 18, 19], none⟩,
          ⟨[(120, some (24, true)), (121, some (25, true))], [0, 1, 2, 3, 4, 5, 6, 7, 8, 9, 10, 11, 12, 13, 14, 15, 16, 17, 18, 19, 20, 21, 22, 23, 24, 25], none⟩,
          ⟨[(122, some (26, true))], [0, 1, 2, 3, 4, 5, 6, 7, 8, 9, 10, 11, 12, 13, 14, 15, 16, 17, 18, 19, 20, 21, 22, 23, 24, 25, 26], none⟩,
          ⟨[(123, some (27, true))], [0, 1, 2, 3, 4, 5, 6, 7, 8, 9, 10, 11, 12, 13, 14, 15, 16, 17, 18, 19, 20, 21, 22, 23, 24, 25, 26, 27], none⟩,
          ⟨[(3, none)], [0, 1, 2, 3, 4, 5, 6, 7, 8, 9, 10, 11, 12, 13, 14, 15, 16, 17, 18, 19], none⟩,
          ⟨[(125, some (29, true))], [0, 1, 2, 3, 4, 5, 6, 7, 8, 9, 10, 11, 12, 13, 14, 15, 16, 17, 18, 19, 29], none⟩,
          ⟨[(5, none)], [0, 1, 2, 3, 4, 5, 6, 7, 8, 9, 10, 11, 12, 13, 14, 15, 16, 17, 18, 19], none⟩,
          ⟨[(126, some (30, true)), (127, some (31, true))], [0, 1, 2, 3, 4, 5, 6, 7, 8, 9, 10, 11, 12, 13, 14, 15, 16, 17, 18, 19, 29, 30, 31], none⟩,
          ⟨[(128, some (32, true))], [0, 1, 2, 3, 4, 5, 6, 7, 8, 9, 10, 11, 12, 13, 14, 15, 16, 17, 18, 19, 29, 30, 31, 32], none⟩,
          ⟨[(6, none)], [0, 1, 2, 3, 4, 5, 6, 7, 8, 9, 10, 11, 12, 13, 14, 15, 16, 17, 18, 19], none⟩,
          ⟨[(129, some (33, true)), (130, some (34, true))], [0, 1, 2, 3, 4, 5, 6, 7, 8, 9, 10, 11, 12, 13, 14, 15, 16, 17, 18, 19, 29, 30, 31, 32, 33, 34], none⟩,
          ⟨[(131, some (35, true))], [0, 1, 2, 3, 4, 5, 6, 7, 8, 9, 10, 11, 12, 13, 14, 15, 16, 17, 18, 19, 29, 30, 31, 32, 33, 34, 35], none⟩,
          ⟨[(132, some (36, true))], [0, 1, 2, 3, 4, 5, 6, 7, 8, 9, 10, 11, 12, 13, 14, 15, 16, 17, 18, 19, 29, 30, 31, 32, 33, 34, 35, 36], none⟩,
          ⟨[(124, some (28, true)), (133, some (37, true))], [0, 1, 2, 3, 4, 5, 6, 7, 8, 9, 10, 11, 12, 13, 14, 15, 16, 17, 18, 19, 20, 21, 22, 23, 24, 25, 26, 27, 28, 29, 30, 31, 32, 33, 34, 35, 36, 37], none⟩,
          ⟨[(134, some (38, true))], [0, 1, 2, 3, 4, 5, 6, 7, 8, 9, 10, 11, 12, 13, 14, 15, 16, 17, 18, 19, 20, 21, 22, 23, 24, 25, 26, 27, 28, 29, 30, 31, 32, 33, 34, 35, 36, 37, 38], none⟩,
          ⟨[(115, some (19, false)), (135, some (39, false))], [0, 1, 2, 3, 4, 5, 6, 7, 8, 9, 10, 11, 12, 13, 14, 15, 16, 17, 18, 19, 20, 21, 22, 23, 24, 25, 26, 27, 28, 29, 30, 31, 32, 33, 34, 35, 36, 37, 38, 39], none⟩] [] _ rfl rfl ?_
      refine da 18 ?_
      refine dq_pure rfl (fun s => .op rfl (.op rfl (.nil))) (fun s hs _ => loc_neqB rfl rfl) (by exact .nil) ?_
      refine da 19 ?_
      refine dq_gpure rfl (fun s => .opU rfl (.opU rfl (.nil))) rfl (fun _ => gdI.ok) (fun s hs hg _ => loc_call (ints31_spec _) rfl) (by exact .nil) ?_
      refine da 2 ?_
      refine dq_end (rs := []) () rfl (fun _ => rfl) (.nil) rfl (fun _ => rfl) (fun _ _ => ?_)
      dsimp only [outG, outM, List.map, List.set, id]
      refine run_cond rfl (fun h9 => ?_) (fun h9 => ?_)
      · exfalso; simp at h9
      ·
       refine au 7 ?_
       exact run_againC ih6 (u + 1) (by omega) (by omega) (.cons rfl (by first | exact fun _ _ h => h | exact d_int (by omega) | exact d_int (by simp) | exact d_intN (by omega) | exact d_any) .nil) (.cons rfl (fun _ _ x => x) (.cons rfl (fun _ _ x => x) (.cons rfl (fun _ _ x => x) (.nil))))
     ·
      refine au 7 ?_
      exact run_againC ih2 (k + 1) (by omega) (by omega) (.cons rfl (by first | exact fun _ _ h => h | exact d_int (by omega) | exact d_int (by simp) | exact d_intN (by omega) | exact d_any) .nil) (.cons rfl (fun _ _ x => x) (.cons rfl (fun _ _ x => x) (.nil)))
   ·
    refine au 5 ?_
    refine run_retP Tryz.func39 rfl rfl ?_
    exact d_B (by simp)
end Go.Q

namespace Go.Q
open Go.Proofs
open Classical
end Go.Q

namespace Go.Q
open Go.Proofs
open Classical
end Go.Q

namespace Go.Q
open Go.Proofs
open Classical
end Go.Q

namespace Go.Q
open Go.Proofs
open Classical
theorem rwordA_spec (v : Srv) (p : Psn) (lie : Int) (hok : okI v) : SpecP Tryz.prog 29 [dSrv v, dPsn p, dInt .i64 lie] (dTup [dSrv (wordV v p lie), dNte (wordN v p lie), dB (wordR v p lie), dInt .i64 (wordE v p lie)]) := by
 by_cases hup : v.up
 ·match hj : v.jobs with
  | [] => exact rwordN_spec v p lie (.inr (by rw [hj]; rfl))
  | j :: rest => exact rword_spec v p lie hok hup j rest hj
 ·exact rwordN_spec v p lie (.inl hup)
end Go.Q

namespace Go.Q
open Classical
def set2 {α : Type} (A : List (List α)) (p i : Nat) (v : α) : List (List α) := A.set p ((A[p]?.getD default).set i v)
theorem set2_len {α : Type} (A : List (List α)) (p i : Nat) (v : α) : (set2 A p i v).length = A.length := List.length_set
theorem set2_at {α : Type} {A : List (List α)} {p i q : Nat} {v : α} : (set2 A p i v)[q]?.getD default = if p = q ∧ p < A.length then (A[p]?.getD default).set i v else A[q]?.getD default := by
 unfold set2
 rw [List.getElem?_set]
 by_cases h : p = q
 ·subst h
  by_cases hl : p < A.length
  ·simp [hl]
  ·rw [if_pos rfl, if_neg hl, if_neg (fun h => hl h.2), List.getElem?_eq_none (by omega)]
 ·rw [if_neg h, if_neg (fun c => h c.1)]
theorem set2_inner {α : Type} {A : List (List α)} {p i q : Nat} {v : α} : ((set2 A p i v)[q]?.getD default).length = (A[q]?.getD default).length := by
 rw [set2_at]; split
 ·rename_i h; rw [List.length_set, h.1]
 ·rfl
theorem set2_comm {α : Type} {A : List (List α)} {p i q j : Nat} {v w : α} (h : p ≠ q ∨ i ≠ j) : set2 (set2 A p i v) q j w = set2 (set2 A q j w) p i v := by
 refine list_extD (by rw [set2_len, set2_len, set2_len, set2_len]) fun k hk => ?_
 rw [set2_at, set2_at (A := set2 A q j w), set2_len, set2_len]
 rw [set2_at (A := A) (q := k), set2_at (A := A) (q := q), set2_at (A := A) (q := k) (p := q), set2_at (A := A) (q := p) (p := q)]
 by_cases h1 : p = k <;> by_cases h2 : q = k
 ·subst h1; subst h2
  have hij : i ≠ j := h.resolve_left (fun e => e rfl)
  by_cases hl : q < A.length
  ·simp only [true_and, hl, if_true]
   exact List.set_comm v w hij
  ·simp [hl]
 ·subst h1
  have : ¬ q = p := h2
  have h3 : ¬ p = q := fun e => h2 e.symm
  simp [this, h3]
 ·subst h2
  have h3 : ¬ q = p := fun e => h1 e.symm
  simp [h1, h3]
 ·simp [h1, h2]
noncomputable def setN (r : Rdr) (n : Nte) : Rdr := { r with answers := set2 r.answers n.probe.toNat (n.server - 1).toNat ⟨True, n.values⟩, marks := set2 r.marks n.probe.toNat (n.server - 1).toNat n.mark }
def placeN (n : Nte) : Nat × Nat := (n.probe.toNat, (n.server - 1).toNat)
theorem setN_comm {r : Rdr} {a b : Nte} (h : placeN a ≠ placeN b) : setN (setN r a) b = setN (setN r b) a := by
 have h2 : a.probe.toNat ≠ b.probe.toNat ∨ (a.server - 1).toNat ≠ (b.server - 1).toNat := by
  by_cases h3 : a.probe.toNat = b.probe.toNat
  ·exact .inr fun h4 => h (by unfold placeN; rw [h3, h4])
  ·exact .inl h3
 unfold setN
 simp only
 rw [set2_comm h2, set2_comm (A := r.marks) h2]
theorem takeR_set {r : Rdr} {n : Nte} (h : takeE r n = 0) : takeR r n = setN r n := by unfold takeR; rw [if_pos h]; rfl
def knownN (r : Rdr) (q : Nat × Nat) : Prop := ((r.answers[q.1]?.getD default)[q.2]?.getD default).known
theorem known_set {r : Rdr} {a : Nte} {q : Nat × Nat} (h : placeN a ≠ q) : knownN (setN r a) q ↔ knownN r q := by
 unfold knownN setN
 simp only
 rw [set2_at]
 split
 ·rename_i hc
  have h2 : (a.server - 1).toNat ≠ q.2 := fun e => h (by unfold placeN; rw [hc.1, e])
  rw [List.getElem?_set_ne h2, hc.1]
 ·exact Iff.rfl
noncomputable def foldN (r : Rdr) (ns : List Nte) : Rdr := ns.foldl setN r
theorem fold_snoc (r : Rdr) (ns : List Nte) (n : Nte) : foldN r (ns ++ [n]) = setN (foldN r ns) n := by unfold foldN; rw [List.foldl_append]; rfl
theorem fold_fits {n : Nte} : ∀ {ns : List Nte} {r : Rdr}, fitsR (foldN r ns) n ↔ fitsR r n
 | [], _ => Iff.rfl
 | _ :: ns, r => fold_fits (ns := ns) (r := setN r _)
theorem fold_known {q : Nat × Nat} : ∀ {ns : List Nte} {r : Rdr}, (∀ a ∈ ns, placeN a ≠ q) → (knownN (foldN r ns) q ↔ knownN r q)
 | [], _, _ => Iff.rfl
 | a :: ns, r, h => (fold_known (ns := ns) (r := setN r a) fun b hb => h b (List.mem_cons_of_mem _ hb)).trans (known_set (h a (List.mem_cons_self ..)))
theorem fold_ended : ∀ {ns : List Nte} {r : Rdr}, (foldN r ns).ended ↔ r.ended
 | [], _ => Iff.rfl
 | _ :: ns, r => fold_ended (ns := ns) (r := setN r _)
theorem fold_take {r : Rdr} {ns : List Nte} {n : Nte} (he : ¬ r.ended) (hf : fitsR r n) (hs : signE (1000 + n.server) (numsN n) = 0 ∧ n.mark = signM (1000 + n.server) (numsN n)) (hk : ¬ knownN r (placeN n)) (hp : ∀ a ∈ ns, placeN a ≠ placeN n) :
  takeE (foldN r ns) n = 0 ∧ takeR (foldN r ns) n = foldN r (ns ++ [n]) := by
 have h0 : takeE (foldN r ns) n = 0 := by
  unfold takeE
  have k1 : ¬ (foldN r ns).ended := fun h => he (fold_ended.1 h)
  have k4 : ¬ (((foldN r ns).answers[n.probe.toNat]?.getD default)[(n.server - 1).toNat]?.getD default).known := fun h => hk ((fold_known hp).1 h)
  rw [if_neg k1, if_neg (Classical.not_not.2 (fold_fits.2 hf)), if_neg (Classical.not_not.2 hs), if_neg k4]
 exact ⟨h0, by rw [takeR_set h0, fold_snoc]⟩
theorem pw_inj : ∀ {ns : List Nte}, ns.Pairwise (fun a b => placeN a ≠ placeN b) → ∀ x ∈ ns, ∀ y ∈ ns, placeN x = placeN y → x = y
 | [], _, x, hx, _, _, _ => absurd hx (by simp)
 | a :: ns, h, x, hx, y, hy, e => by
  obtain ⟨h1, h2⟩ := List.pairwise_cons.1 h
  rcases List.mem_cons.1 hx with rfl | hx1 <;> rcases List.mem_cons.1 hy with rfl | hy1
  ·rfl
  ·exact absurd e (h1 y hy1)
  ·exact absurd e.symm (h1 x hx1)
  ·exact pw_inj h2 x hx1 y hy1 e
theorem fold_perm {r : Rdr} {ns ms : List Nte} (hp : ns.Perm ms) (hd : ns.Pairwise fun a b => placeN a ≠ placeN b) : foldN r ns = foldN r ms := by
 unfold foldN
 refine hp.foldl_eq' (fun x hx y hy z => ?_) r
 by_cases e : placeN x = placeN y
 ·rw [pw_inj hd x hx y hy e]
 ·exact setN_comm e
theorem okRd_set {r : Rdr} {n : Nte} (h : okRd r) (hn : n.values.length ≤ 100000) : okRd (setN r n) := by
 obtain ⟨⟨z1, z2, z3, z4, z5, z6, z7⟩, h2, h3, h4, h5⟩ := h
 have hget : ∀ {α : Type} [Inhabited α] {xs : List α} {x : α}, x ∈ xs → ∃ i, i < xs.length ∧ xs[i]?.getD default = x := by
  intro α _ xs x hx
  obtain ⟨i, hi, rfl⟩ := List.mem_iff_getElem.1 hx
  exact ⟨i, hi, by simp [hi]⟩
 refine ⟨⟨z1, z2, z3, by show (set2 _ _ _ _).length ≤ _; rw [set2_len]; exact z4, fun a ha => ?_, by show (set2 _ _ _ _).length ≤ _; rw [set2_len]; exact z6, fun m hm => ?_⟩, h2, by show (set2 _ _ _ _).length = _; rw [set2_len]; exact h3, by show (set2 _ _ _ _).length = _; rw [set2_len]; exact h4, fun p hp => ⟨?_, ?_⟩⟩
 ·obtain ⟨i, hi, rfl⟩ := hget ha
  have hi' : i < r.answers.length := by rw [← set2_len r.answers]; exact hi
  have hz := z5 _ (getD_mem hi')
  refine ⟨by show ((set2 _ _ _ _)[i]?.getD default).length ≤ _; rw [set2_inner]; exact hz.1, fun x hx => ?_⟩
  have hx2 : x ∈ (set2 r.answers n.probe.toNat (n.server - 1).toNat (⟨True, n.values⟩ : Ans))[i]?.getD default := hx
  rw [set2_at] at hx2
  split at hx2
  ·rename_i hc
   rcases List.mem_or_eq_of_mem_set hx2 with h9 | h9
   ·rw [hc.1] at h9; exact hz.2 x h9
   ·rw [h9]; exact hn
  ·exact hz.2 x hx2
 ·obtain ⟨i, hi, rfl⟩ := hget hm
  have hi' : i < r.marks.length := by rw [← set2_len r.marks]; exact hi
  show ((set2 _ _ _ _)[i]?.getD default).length ≤ _
  rw [set2_inner]; exact z7 _ (getD_mem hi')
 ·show ((set2 _ _ _ _)[p]?.getD default).length = _
  rw [set2_inner]; exact (h5 p hp).1
 ·show ((set2 _ _ _ _)[p]?.getD default).length = _
  rw [set2_inner]; exact (h5 p hp).2
theorem okRd_fold {ns : List Nte} : ∀ {r : Rdr}, okRd r → (∀ n ∈ ns, n.values.length ≤ 100000) → okRd (foldN r ns) := by
 induction ns with
 | nil => intro r h _; exact h
 | cons a ns ih => intro r h hv; exact ih (okRd_set h (hv a (List.mem_cons_self ..))) (fun n hn => hv n (List.mem_cons_of_mem _ hn))
end Go.Q

namespace Go.Q
open Classical
def jB (n rd pr : Int) (q got : List Int) : Job := ⟨rd, pr, n, q, got⟩
theorem word_valB {s : Schm} {id : Int} {t : Tab} (o : OkA s id t) {q : List Int} {rd pr : Int} {i : Nat} (hi : (i : Int) < t.width) : wordX (heldT s id t) (jB t.number rd pr q ((wantA s id t q).take i)) 0 = (wantA s id t q)[i]?.getD default := by
 obtain ⟨g1, g2, g3, g4⟩ := heldA_eq o
 have hp := (checkT_ok o.ht).2.1
 have hl := (want_len o q).1
 have hgl : ((wantA s id t q).take i).length = i := by rw [List.length_take]; omega
 have hr : ∀ r ∈ hldL s t id, r.length = t.width.toNat := fun r h => by
  have := (g1.2.2.2 r (by rw [g2]; exact h)).1
  rw [g4] at this; omega
 have h1 : (wantA s id t q)[i]?.getD default = dotK t.p i (hldL s t id) q (hldL s t id).length := combN_at hp.1 (by omega) _ (Nat.le_refl _) hr
 have hb : 0 ≤ dotK t.p i (hldL s t id) q (hldL s t id).length ∧ dotK t.p i (hldL s t id) q (hldL s t id).length < t.p := by
  generalize (hldL s t id).length = k
  cases k with
  | zero => exact ⟨Int.le_refl _, by have := hp.1; show (0 : Int) < t.p; omega⟩
  | succ k => exact mod_bd _ (by have := hp.1; omega)
 unfold wordX
 rw [h1]
 show (if ((wantA s id t q).take i).length = 0 then (dotK (heldT s id t).head.p ((wantA s id t q).take i).length (heldT s id t).rows q (heldT s id t).rows.length + 0 % (heldT s id t).head.p) % (heldT s id t).head.p else dotK (heldT s id t).head.p ((wantA s id t q).take i).length (heldT s id t).rows q (heldT s id t).rows.length) = _
 rw [hgl, g2, g3]
 split
 ·rw [Int.zero_emod, Int.add_zero, Int.emod_eq_of_lt hb.1 hb.2]
 ·rfl
theorem word_jobB {s : Schm} {id : Int} {t : Tab} (o : OkA s id t) {c : Nat} (hc : 1 ≤ c ∧ c ≤ 1000) {q : List Int} {rd pr : Int} {i : Nat} (hi : (i : Int) < t.width) (rest : List Job) :
  job1 (vA s id t c (jB t.number rd pr q ((wantA s id t q).take i) :: rest)) 0 = jB t.number rd pr q ((wantA s id t q).take (i + 1)) ∧ (moreV (vA s id t c (jB t.number rd pr q ((wantA s id t q).take i) :: rest)) 0 ↔ (i : Int) + 1 < t.width) := by
 obtain ⟨h1, h2, h3⟩ := vA_at o hc (jB t.number rd pr q ((wantA s id t q).take i) :: rest)
 obtain ⟨g1, g2, g3, g4⟩ := heldA_eq o
 have hl := (want_len o q).1
 have e1 : job1 (vA s id t c (jB t.number rd pr q ((wantA s id t q).take i) :: rest)) 0 = jB t.number rd pr q ((wantA s id t q).take (i + 1)) := by
  unfold job1
  show ({ jB t.number rd pr q ((wantA s id t q).take i) with got := (wantA s id t q).take i ++ [wordX (heldV (vA s id t c (jB t.number rd pr q ((wantA s id t q).take i) :: rest)) t.number) (jB t.number rd pr q ((wantA s id t q).take i)) 0] } : Job) = _
  rw [h3, word_valB o hi]
  have e : (wantA s id t q).take (i + 1) = (wantA s id t q).take i ++ [(wantA s id t q)[i]?.getD default] := by
   rw [List.take_add_one]; simp [show i < (wantA s id t q).length by omega]
  rw [e]; rfl
 refine ⟨e1, ?_⟩
 unfold moreV
 rw [e1]
 show (((wantA s id t q).take (i + 1)).length : Int) < (heldV (vA s id t c (jB t.number rd pr q ((wantA s id t q).take i) :: rest)) t.number).head.width ↔ _
 rw [h3, g4, List.length_take]
 omega
theorem vA_wordB {s : Schm} {id : Int} {t : Tab} (o : OkA s id t) (hid : id ≤ 10) {c : Nat} (hc : 1 ≤ c ∧ c ≤ 1000) {q : List Int} (hq : okQ s id t q) {rd pr : Int} {i : Nat} (hi : (i : Int) < t.width) (rest : List Job) {v : Srv} (hv : v = vA s id t c (jB t.number rd pr q ((wantA s id t q).take i) :: rest)) :
  wordE v ⟨id, 1000 + id⟩ 0 = 0 ∧ (wordR v ⟨id, 1000 + id⟩ 0 ↔ (i : Int) + 1 = t.width) ∧ ((i : Int) + 1 < t.width → wordV v ⟨id, 1000 + id⟩ 0 = vA s id t c (jB t.number rd pr q ((wantA s id t q).take (i + 1)) :: rest)) ∧
  (¬ (i : Int) + 1 < t.width → wordV v ⟨id, 1000 + id⟩ 0 = vA s id t c rest) ∧ (wordR v ⟨id, 1000 + id⟩ 0 → (wordN v ⟨id, 1000 + id⟩ 0).values = wantA s id t q ∧ (wordN v ⟨id, 1000 + id⟩ 0).query = q ∧ (wordN v ⟨id, 1000 + id⟩ 0).server = id ∧ (wordN v ⟨id, 1000 + id⟩ 0).version = t.number ∧ ((wordN v ⟨id, 1000 + id⟩ 0).kind = 2 ∧ (wordN v ⟨id, 1000 + id⟩ 0).read = rd ∧ (wordN v ⟨id, 1000 + id⟩ 0).probe = pr) ∧
   signE (1000 + id) (numsN (wordN v ⟨id, 1000 + id⟩ 0)) = 0 ∧ signM (1000 + id) (numsN (wordN v ⟨id, 1000 + id⟩ 0)) = (wordN v ⟨id, 1000 + id⟩ 0).mark) := by
 obtain ⟨e1, e2⟩ := word_jobB o hc hi rest (q := q) (rd := rd) (pr := pr)
 rw [← hv] at e1 e2
 have hup : v.up := by rw [hv]; trivial
 have hjl : ¬ v.jobs.length = 0 := by rw [hv]; exact fun h => by cases h
 have hnn : ¬ (¬ v.up ∨ v.jobs.length = 0) := by rintro (h | h); (· exact h hup); (· exact hjl h)
 have hl := (want_len o q).1
 have hw := (checkT_ok o.ht).2.2.1
 have hid1 := o.hid.1
 obtain ⟨b1, _⟩ := hld_sz o.hv o.ht o.hr o.hid
 have hn1 : note1 v 0 = ⟨2, rd, pr, id, t.number, q, (wantA s id t q).take (i + 1), 0⟩ := by unfold note1; rw [e1, hv]; rfl
 have hs : signE (1000 + id) (numsN (note1 v 0)) = 0 := by
  rw [hn1]
  unfold signE
  rw [if_neg (by omega), if_neg]
  unfold numsN
  simp only [List.length_append, List.length_cons, List.length_nil, List.length_take]
  have := hq.1
  omega
 refine ⟨?_, ?_, ?_, ?_, ?_⟩
 ·unfold wordE; rw [if_neg (Classical.not_not.2 hup), if_neg hjl]; split; (· rfl); (· exact hs)
 ·unfold wordR
  rw [e2]
  exact ⟨fun h => by have := h.2.2.1; omega, fun h => ⟨hup, hjl, by omega, hs⟩⟩
 ·intro h
  unfold wordV; rw [if_neg hnn, if_pos (e2.2 h), e1, hv]; rfl
 ·intro h
  unfold wordV; rw [if_neg hnn, if_neg (fun hc => h (e2.1 hc)), if_pos hs, hv]; rfl
 ·intro hr
  have hi2 : ¬ (i : Int) + 1 < t.width := fun h => hr.2.2.1 (e2.2 h)
  have hN : wordN v ⟨id, 1000 + id⟩ 0 = { note1 v 0 with mark := signM (1000 + id) (numsN (note1 v 0)) } := by unfold wordN; rw [if_pos hr]
  have hnum : numsN (wordN v ⟨id, 1000 + id⟩ 0) = numsN (note1 v 0) := by rw [hN]; rfl
  rw [hnum, hN]
  refine ⟨?_, ?_, ?_, ?_, ⟨?_, ?_, ?_⟩, hs, rfl⟩
  ·show (note1 v 0).values = _
   rw [hn1]; exact List.take_of_length_le (by omega)
  ·show (note1 v 0).query = _
   rw [hn1]
  ·show (note1 v 0).server = _
   rw [hn1]
  ·show (note1 v 0).version = _
   rw [hn1]
  ·show (note1 v 0).kind = _
   rw [hn1]
  ·show (note1 v 0).read = _
   rw [hn1]
  ·show (note1 v 0).probe = _
   rw [hn1]
theorem vA_askB {s : Schm} {id : Int} {t : Tab} (o : OkA s id t) {q : List Int} {rd pr : Int} (hq : okQ s id t q) :
  askE (vA s id t 1 []) ⟨1, rd, pr, id, t.number, q, [], 0⟩ = 0 ∧ askV (vA s id t 1 []) ⟨1, rd, pr, id, t.number, q, [], 0⟩ = vA s id t 1 [jB t.number rd pr q ((wantA s id t q).take 0)] := by
 obtain ⟨h1, h2, h3⟩ := vA_at o (c := 1) (by omega) []
 obtain ⟨g1, g2, g3, g4⟩ := heldA_eq o
 have e : askE (vA s id t 1 []) ⟨1, rd, pr, id, t.number, q, [], 0⟩ = 0 := by
  unfold askE
  rw [if_neg (Classical.not_not.2 (show (vA s id t 1 []).up from trivial)), if_neg (by rintro (h | h); (· exact h rfl); (· exact h rfl)), if_neg (Classical.not_not.2 h2), h3, g2, g3,
   if_neg (by rintro (h | h); (· exact h hq.1); (· exact h ⟨g3 ▸ g1.1, hq.2⟩)),
   if_neg (by
    rintro ⟨b, hb, _⟩
    exact absurd hb (by show b ∉ ([] : List Job); simp)),
   if_neg (by show ¬ ([] : List Job).length ≥ 32; simp)]
 refine ⟨e, ?_⟩
 unfold askV
 rw [if_pos e]
 rfl
noncomputable def endS (s : Schm) (t : Tab) (n : Nte) : Srv := vA s n.server t 1 [jB t.number n.read n.probe n.query ((wantA s n.server t n.query).take (t.width.toNat - 1))]
noncomputable def ansN (s : Schm) (t : Tab) (n : Nte) : Nte := wordN (endS s t n) ⟨n.server, 1000 + n.server⟩ 0
theorem ans_facts {s : Schm} {t : Tab} {n : Nte} (o : OkA s n.server t) (hid : n.server ≤ 10) (hq : okQ s n.server t n.query) :
  wordR (endS s t n) ⟨n.server, 1000 + n.server⟩ 0 ∧ (ansN s t n).values = wantA s n.server t n.query ∧ (ansN s t n).query = n.query ∧ (ansN s t n).server = n.server ∧ (ansN s t n).version = t.number ∧ (ansN s t n).kind = 2 ∧ (ansN s t n).read = n.read ∧ (ansN s t n).probe = n.probe ∧
   signE (1000 + n.server) (numsN (ansN s t n)) = 0 ∧ (ansN s t n).mark = signM (1000 + n.server) (numsN (ansN s t n)) := by
 have hw := (checkT_ok o.ht).2.2.1
 have hi : ((t.width.toNat - 1 : Nat) : Int) + 1 = t.width := by omega
 obtain ⟨_, h2, _, _, h5⟩ := vA_wordB o hid (c := 1) (by omega) hq (rd := n.read) (pr := n.probe) (i := t.width.toNat - 1) (by omega) [] (v := endS s t n) rfl
 have hr := h2.2 hi
 obtain ⟨g1, g2, g3, g4, ⟨g5, g6, g7⟩, g8, g9⟩ := h5 hr
 exact ⟨hr, g1, g2, g3, g4, g5, g6, g7, g8, g9.symm⟩
end Go.Q

namespace Go.Q
open Classical
theorem qry_has {s : Schm} {p n i : Int} {t : Tape} (hv : validS s p) (hn : 1 ≤ n ∧ n ≤ 1024) (hi : 0 ≤ i ∧ i < n) (h0 : drawE t p (limN s n) = 0) : ∀ q ∈ qryL s p n i t, allP p q := by
 have hl := lookE_ok hv hn
 have hs := hv.1
 have hsh := hv.1
 unfold shapeS at hs
 have hp2 : 2 ≤ p := hv.2.1.1
 have e1 : qryL s p n i t = if s.kind = 1 then pqL p n s.servers i t else if s.kind = 2 then cqL p s.servers s.degree n i t else gqL p s.servers s.degree s.group ((n + s.group - 1) / s.group) (i / s.group) t := by unfold qryL; rw [if_neg (by omega)]
 intro q hq
 rw [e1] at hq
 have hd := h0
 unfold limN at hd
 by_cases h1 : s.kind = 1
 ·simp only [if_pos h1, if_neg (show ¬ s.kind = 3 by omega)] at hd hq
  unfold pqL at hq
  split at hq
  ·rcases List.mem_append.1 hq with hq | hq
   ·exact (pQs_all (t := t) (p := p) (rows := n) (k := (s.servers - 1).toNat) hn.1 (by rw [show (((s.servers - 1).toNat : Nat) : Int) = s.servers - 1 by omega]; exact hd) q hq).2
   ·rw [List.mem_singleton.1 hq]; unfold pLast; exact addT_has (by omega) (unitL_has hp2)
  ·cases hq
 ·simp only [if_neg h1] at hq
  by_cases h2 : s.kind = 2
  ·simp only [if_pos h2] at hq
   unfold cqL at hq
   split at hq
   ·unfold cqQ at hq
    obtain ⟨k, _, rfl⟩ := List.mem_map.1 hq
    intro x hx
    obtain ⟨r, _, rfl⟩ := List.mem_map.1 hx
    exact valP_bd (by omega) _
   ·cases hq
  ·simp only [if_neg h2] at hq
   unfold gqL at hq
   split at hq
   ·unfold gQs at hq
    obtain ⟨k, _, rfl⟩ := List.mem_map.1 hq
    intro x hx
    obtain ⟨r, _, rfl⟩ := List.mem_map.1 hx
    unfold gV gW
    split <;> exact mod_bd _ (by omega)
   ·cases hq
theorem qs_has {s : Schm} {p n : Int} (hv : validS s p) (hn : 1 ≤ n ∧ n ≤ 1024) : ∀ {rows : List Int} {t : Tape}, okTape t → (∀ r ∈ rows, -1 ≤ r ∧ r < n) → drawE t p ((rows.length : Nat) * limN s n) = 0 →
  ∀ q ∈ qsL s p n rows t, ∀ x ∈ q, allP p x
 | [], t, hk, _, _ => fun q hq => by cases hq
 | r :: rs, t, hk, hr, hd => by
  have hr0 := hr r (List.mem_cons_self ..)
  have hl := (limN_bd hv hn).1
  have hq := qry_ok (s := s) (p := p) (n := n) (i := max r 0) (t := t) hv hn (by omega)
  have h0 : 0 ≤ ((rs.length : Nat) : Int) * limN s n := Int.mul_nonneg (by omega) hl
  have e1 : (((r :: rs).length : Nat) : Int) * limN s n = limN s n + (rs.length : Nat) * limN s n := by rw [List.length_cons, Int.natCast_add, Int.add_mul, Int.add_comm]; simp
  have hda : drawE t p (limN s n) = 0 := by
   by_cases h : drawE t p (limN s n) = 0
   ·exact h
   ·rw [e1, drawE_stop hl h0 h] at hd; exact absurd hd h
  obtain ⟨hqT, hqL, hqA⟩ := hq.2 hda
  obtain ⟨e2, e3⟩ := drawT_ok hda
  rw [e1, drawE_sum hl h0 hda] at hd
  have ih := qs_has hv hn (rows := rs) (t := qryT s p n (max r 0) t) (by rw [hqT]; exact e3) (fun x hx => hr x (List.mem_cons_of_mem _ hx)) (by rw [hqT]; exact hd)
  intro q hm
  rcases List.mem_cons.1 hm with rfl | hm
  ·exact qry_has hv hn (by omega) hda
  ·exact ih q hm
def gotR (r : Rdr) (ns : List Nte) : Prop := okRd r ∧ ¬ r.ended ∧ (1 ≤ ns.length ∧ ns.length ≤ 100) ∧ ns.Pairwise (fun a b => placeN a ≠ placeN b) ∧ ∀ n ∈ ns, fitsR r n ∧ (signE (1000 + n.server) (numsN n) = 0 ∧ n.mark = signM (1000 + n.server) (numsN n)) ∧ ¬ knownN r (placeN n) ∧ n.query.length ≤ 100000 ∧ n.values.length ≤ 100000 ∧ 1 ≤ n.query.length ∧ allP r.head.p n.query
noncomputable def srvJ (sc : Schm) (t : Tab) (n : Nte) (j : Nat) : Srv := if (j : Int) < t.width then vA sc n.server t 1 [jB t.number n.read n.probe n.query ((wantA sc n.server t n.query).take j)] else vA sc n.server t 1 []
noncomputable def outJ (sc : Schm) (t : Tab) (l : List Nte) (k j : Nat) : List Nte := if (j : Int) < t.width then (l.take k).map (ansN sc t) else (l.take (k + 1)).map (ansN sc t)
def sentN (sc : Schm) (tb : Tab) (rd : Int) (n : Nte) : Prop := OkA sc n.server tb ∧ n.server ≤ 10 ∧ okQ sc n.server tb n.query ∧ n = ⟨1, rd, n.probe, n.server, tb.number, n.query, [], 0⟩
theorem srvJ_start {sc : Schm} {tb : Tab} {rd : Int} {n : Nte} (h : sentN sc tb rd n) : newS n.server sc = ⟨n.server, sc, True, [], []⟩ ∧ askV (loadV (newS n.server sc) tb) n = srvJ sc tb n 0 := by
 obtain ⟨o, hid, hq, hn⟩ := h
 have hw := (checkT_ok o.ht).2.2.1
 have e2 := (okI_new o.hv.1 o.hid).2.1
 refine ⟨e2, ?_⟩
 rw [e2, (load0 o).2]
 unfold srvJ
 rw [if_pos (by omega)]
 have h2 := (vA_askB o (rd := n.read) (pr := n.probe) hq).2
 have e : (⟨1, n.read, n.probe, n.server, tb.number, n.query, [], 0⟩ : Nte) = n := by rw [hn]
 rw [e] at h2
 exact h2
theorem srvJ_job {sc : Schm} {tb : Tab} {rd : Int} {n : Nte} (h : sentN sc tb rd n) {j : Nat} (hj : (j : Int) < tb.width) : okI (srvJ sc tb n j) := by
 obtain ⟨o, hid, hq, hn⟩ := h
 unfold srvJ
 rw [if_pos hj]
 refine ⟨vA_ok o (by omega) (by simp) fun x hx => ?_, o.hv.1, o.hid⟩
 rw [List.mem_singleton.1 hx]
 refine ⟨rfl, hq, ?_, fun y hy => (want_len o n.query).2 y (List.mem_of_mem_take hy)⟩
 show (((wantA sc n.server tb n.query).take j).length : Int) < tb.width
 rw [List.length_take]; omega
theorem srvJ_word {sc : Schm} {tb : Tab} {rd : Int} {n : Nte} (h : sentN sc tb rd n) {j : Nat} (hj : (j : Int) < tb.width) :
  wordV (srvJ sc tb n j) ⟨n.server, 1000 + n.server⟩ 0 = srvJ sc tb n (j + 1) ∧ (wordR (srvJ sc tb n j) ⟨n.server, 1000 + n.server⟩ 0 ↔ (j : Int) + 1 = tb.width) ∧ ((j : Int) + 1 = tb.width → wordN (srvJ sc tb n j) ⟨n.server, 1000 + n.server⟩ 0 = ansN sc tb n) := by
 obtain ⟨o, hid, hq, hn⟩ := h
 have e : srvJ sc tb n j = vA sc n.server tb 1 [jB tb.number n.read n.probe n.query ((wantA sc n.server tb n.query).take j)] := by unfold srvJ; rw [if_pos hj]
 obtain ⟨_, h2, h3, h4, _⟩ := vA_wordB o hid (c := 1) (by omega) hq (rd := n.read) (pr := n.probe) hj [] e
 refine ⟨?_, h2, fun hl => ?_⟩
 ·by_cases hl : (j : Int) + 1 < tb.width
  ·rw [h3 hl]; unfold srvJ; rw [if_pos (by omega)]
  ·rw [h4 hl]; unfold srvJ; rw [if_neg (by omega)]
 ·rw [e]
  unfold ansN endS
  rw [show tb.width.toNat - 1 = j by omega]
theorem outJ_next {sc : Schm} {tb : Tab} {l : List Nte} {k j : Nat} (hk : k < l.length) : ((j : Int) + 1 = tb.width → (l.take k).map (ansN sc tb) ++ [ansN sc tb (l[k]?.getD default)] = outJ sc tb l k (j + 1)) ∧ ((j : Int) < tb.width → ¬ (j : Int) + 1 = tb.width → outJ sc tb l k j = outJ sc tb l k (j + 1)) ∧ ((j : Int) < tb.width → outJ sc tb l k j = (l.take k).map (ansN sc tb)) := by
 refine ⟨fun h => ?_, fun h1 h2 => ?_, fun h => ?_⟩
 ·unfold outJ
  rw [if_neg (by omega), List.take_add_one, List.map_append]
  simp [hk]
 ·unfold outJ
  rw [if_pos h1, if_pos (by omega)]
 ·unfold outJ; rw [if_pos h]
theorem units_pos {s : Schm} {n : Int} (h : shapeS s) (hn : 1 ≤ n ∧ n ≤ 1024) : 1 ≤ unitsS s n := by
 unfold unitsS
 rw [if_neg (by rintro (h1 | h1); (· exact h1 h); (· exact h1 hn))]
 split
 ·rename_i hk
  have hg : 1 ≤ s.group := by unfold shapeS at h; omega
  exact Int.le_ediv_of_mul_le (by omega) (by omega)
 ·omega
theorem got_ok {sc : Schm} {tb : Tab} {p rd : Int} {rows : List Int} {t : Tape} (hs : dieS sc) (hp : dieP p) (ht : dieT p tb) (hw : dieW tb.rows.length rows) (hrd : 0 ≤ rd) (htp : dieTp (wlimL sc p tb.rows.length rows.length) t)
  {R : Rdr} (hR : R = bgR rd sc (headT tb) rows t) : R.read = rd ∧ R.scheme = sc ∧ R.head = headT tb ∧
  (∀ i, i < (notesN R.read R.head.number R.queries R.queries.length).length → sentN sc tb rd ((notesN R.read R.head.number R.queries R.queries.length)[i]?.getD default)) ∧
  gotR R ((notesN R.read R.head.number R.queries R.queries.length).map (ansN sc tb)) := by
 have hct := checkT_ok ht.1
 have hhd := head_ok ht.1
 have htp2 := ht.2.1
 have hv := die_valid hs hp
 have hrl := ht.2.2.1
 have hwl := hw.1
 have hs2 := hs.2
 have hn : 1 ≤ (tb.rows.length : Int) ∧ (tb.rows.length : Int) ≤ 5 := by omega
 have hh1 : (headT tb).p = p := by rw [hhd]; exact htp2
 have hh2 : (headT tb).count = (tb.rows.length : Int) := by rw [hhd]
 have hh3 : (headT tb).number = tb.number := by rw [hhd]
 have hh5 : (headT tb).width = tb.width := by rw [hhd]
 have hh4 : 1 ≤ (headT tb).width ∧ (headT tb).width ≤ 64 := by rw [hhd]; exact hct.2.2.1
 obtain ⟨a1, a2, a3, a4⟩ := die_wish hs hp hn hw.2 (by omega) rfl htp
 rw [← hh1, ← hh2] at a2
 rw [← hh2] at a1
 obtain ⟨b1, b2, _⟩ := bg_ok (rd := rd) (hd := headT tb) (by rw [hh1]; exact hv) hrd a1 hh4 a3 a2
 rw [hh1, hh2] at a2 b2
 have hq := qs_ok (s := sc) (p := p) (n := (tb.rows.length : Int)) hv (by omega) a3 hw.2 a2
 have hqp := qs_has (s := sc) (p := p) (n := (tb.rows.length : Int)) hv (by omega) a3 hw.2 a2
 have hql := qsL_len sc p (tb.rows.length : Int) rows t
 have hub := units_bd (n := (tb.rows.length : Int)) hs.1 (by omega)
 generalize qsL sc p (tb.rows.length : Int) rows t = Q at hq hqp hql b2
 have hqS := hq.2.2.2
 clear hq b1 a1 a2 a4
 obtain ⟨m, hm⟩ : ∃ m : Nat, sc.servers = m := ⟨sc.servers.toNat, by omega⟩
 have hmQ : ∀ q ∈ Q, q.length = m := fun q h => by have := (hqS q h).1; omega
 have hmt : sc.servers.toNat = m := by omega
 rw [b2] at hR
 subst hR
 rw [hmt]
 dsimp only
 rw [hh3]
 have hNL := notesN_len (rd := rd) (ver := tb.number) hmQ (Nat.le_refl Q.length)
 have hget : ∀ i, i < Q.length * m → i / m < Q.length ∧ i % m < m ∧ (notesN rd tb.number Q Q.length)[i]?.getD default = ⟨1, rd, ((i / m : Nat) : Int), ((i % m : Nat) : Int) + 1, tb.number, (Q[i / m]?.getD default)[i % m]?.getD default, [], 0⟩ := fun i hi => by
  exact ⟨by rw [Nat.div_lt_iff_lt_mul (by omega)]; exact hi, Nat.mod_lt _ (by omega), notesN_get hmQ (by omega) (Nat.le_refl _) hi⟩
 have hsent : ∀ i, i < (notesN rd tb.number Q Q.length).length → sentN sc tb rd ((notesN rd tb.number Q Q.length)[i]?.getD default) := by
  intro i hi
  rw [hNL] at hi
  obtain ⟨g1, g2, g3⟩ := hget i hi
  rw [g3]
  have hqm := getD_mem g1
  have hql2 := hmQ _ hqm
  have hxm : (Q[i / m]?.getD default)[i % m]?.getD default ∈ Q[i / m]?.getD default := getD_mem (by omega)
  have hx := (hqS _ hqm).2 _ hxm
  have hb := hct.2.2.1
  have hid : 1 ≤ ((i % m : Nat) : Int) + 1 ∧ ((i % m : Nat) : Int) + 1 ≤ sc.servers := by omega
  have hv2 : validS sc tb.p := by rw [htp2]; exact hv
  have hhl := (hld_ok hv2 ht.1 hrl.1 hid).2
  have hxq := (hqS _ hqm).2 _ hxm
  generalize i % m = b at *
  generalize i / m = a at *
  exact ⟨⟨ht.1, by have := ht.2.2.2.1; omega, hv2, hrl.1, hid⟩, by show (b : Int) + 1 ≤ 10; omega, ⟨by show ((Q[a]?.getD default)[b]?.getD default).length = (hldL sc tb ((b : Int) + 1)).length; omega, by rw [htp2]; exact hqp _ hqm _ hxm⟩, rfl⟩
 refine ⟨rfl, rfl, rfl, hsent, ?_⟩
 have hml := mul_bd (a := (Q.length : Int)) (b := m) (A := 3) (B := 6) (by omega) (by omega) (by omega) (by omega)
 have hml1 : 1 ≤ Q.length * m := Nat.mul_pos (by omega) (by omega)
 have hml2 : Q.length * m ≤ 18 := by have := hml.2; rw [← Int.natCast_mul] at this; omega
 have hrep : ∀ {α : Type} [Inhabited α] (x : α) (i : Nat), i < rows.length → (List.replicate rows.length x)[i]?.getD default = x := fun x i hi => by rw [List.getElem?_replicate, if_pos hi]; rfl
 refine ⟨⟨⟨by show rows.length ≤ _; omega, by show Q.length ≤ _; omega, fun q h => ⟨by have := hmQ q h; omega, fun x hx => by have := (hqS q h).2 x hx; omega⟩, by show (List.replicate _ _).length ≤ _; rw [List.length_replicate]; omega, fun a ha => ?_, by show (List.replicate _ _).length ≤ _; rw [List.length_replicate]; omega, fun a ha => ?_⟩, fun q h => by have := hmQ q h; omega, by show (List.replicate _ _).length = _; rw [List.length_replicate]; exact hql.symm, by show (List.replicate _ _).length = _; rw [List.length_replicate]; exact hql.symm, fun i hi => ?_⟩, id, by rw [List.length_map, hNL]; omega, ?_, fun n hn2 => ?_⟩
 ·rw [List.eq_of_mem_replicate ha]
  exact ⟨by rw [List.length_replicate]; omega, fun x hx => by rw [List.eq_of_mem_replicate hx]; simp⟩
 ·rw [List.eq_of_mem_replicate ha, List.length_replicate]; omega
 ·have hi2 : i < rows.length := by have : i < Q.length := hi; omega
  have hqm := hmQ _ (getD_mem (xs := Q) (k := i) hi)
  show ((List.replicate rows.length (List.replicate m (⟨False, []⟩ : Ans)))[i]?.getD default).length = (Q[i]?.getD default).length ∧ ((List.replicate rows.length (List.replicate m (0 : Int)))[i]?.getD default).length = (Q[i]?.getD default).length
  rw [hrep _ i hi2, hrep _ i hi2, hqm, List.length_replicate, List.length_replicate]
  exact ⟨rfl, rfl⟩
 ·rw [List.pairwise_map, List.pairwise_iff_getElem]
  intro i j hi hj hij he
  have e1 := hsent i hi
  have e2 := hsent j hj
  have hi' := hi
  have hj' := hj
  rw [hNL] at hi hj
  obtain ⟨_, _, g3⟩ := hget i hi
  obtain ⟨_, _, g3'⟩ := hget j hj
  have x1 : (notesN rd tb.number Q Q.length)[i]?.getD default = (notesN rd tb.number Q Q.length)[i] := by rw [List.getElem?_eq_getElem hi']; rfl
  have x2 : (notesN rd tb.number Q Q.length)[j]?.getD default = (notesN rd tb.number Q Q.length)[j] := by rw [List.getElem?_eq_getElem hj']; rfl
  rw [x1] at e1 g3
  rw [x2] at e2 g3'
  obtain ⟨o1, i1, q1, _⟩ := e1
  obtain ⟨o2, i2, q2, _⟩ := e2
  obtain ⟨_, _, _, f1, _, _, _, f2, _⟩ := ans_facts o1 i1 q1
  obtain ⟨_, _, _, f1', _, _, _, f2', _⟩ := ans_facts o2 i2 q2
  unfold placeN at he
  rw [f1, f2, f1', f2', g3, g3'] at he
  have h1 := congrArg Prod.fst he
  have h2 := congrArg Prod.snd he
  simp only at h1 h2
  have h5 := Nat.div_add_mod i m
  have h6 := Nat.div_add_mod j m
  generalize i / m = a at *
  generalize i % m = b at *
  generalize j / m = a' at *
  generalize j % m = b' at *
  have h3 : a = a' := by omega
  have h4 : b = b' := by omega
  rw [h3, h4] at h5
  omega
 ·obtain ⟨n0, hn0, rfl⟩ := List.mem_map.1 hn2
  obtain ⟨i, hi, rfl⟩ := List.mem_iff_getElem.1 hn0
  have e1 := hsent i hi
  have hi' := hi
  rw [hNL] at hi
  obtain ⟨g1, g2, g3⟩ := hget i hi
  have x1 : (notesN rd tb.number Q Q.length)[i]?.getD default = (notesN rd tb.number Q Q.length)[i] := by rw [List.getElem?_eq_getElem hi']; rfl
  rw [x1] at e1 g3
  obtain ⟨o1, i1, q1, _⟩ := e1
  obtain ⟨_, f1, f2, f3, f4, f5, f6, f7, f8, f9⟩ := ans_facts o1 i1 q1
  have hwl2 := want_len o1 (notesN rd tb.number Q Q.length)[i].query
  have hql2 := hmQ _ (getD_mem g1)
  have hwb := hct.2.2.1
  have hxl : ((Q[i / m]?.getD default)[i % m]?.getD default).length ≤ 1024 := by have := (hqS _ (getD_mem g1)).2 _ (getD_mem (k := i % m) (by omega)); omega
  generalize i % m = b at *
  generalize i / m = a at *
  refine ⟨⟨f5, by rw [f6, g3], by rw [f4]; exact hh3.symm, ?_, ?_, ?_, ?_, ?_, ?_⟩, by rw [f3]; exact ⟨f8, f9⟩, ?_, ?_, ?_, ?_, ?_⟩
  ·rw [f7, g3]; show (0 : Int) ≤ ((a : Nat) : Int) ∧ ((a : Nat) : Int) < (Q.length : Int); omega
  ·rw [f3, f7, g3]; show (1 : Int) ≤ ((b : Nat) : Int) + 1 ∧ ((b : Nat) : Int) + 1 ≤ ((Q[((a : Nat) : Int).toNat]?.getD default).length : Int)
   rw [Int.toNat_natCast]; omega
  ·rw [f2, f3, f7, g3]
   show _ = (Q[((a : Nat) : Int).toNat]?.getD default)[(((b : Nat) : Int) + 1 - 1).toNat]?.getD default
   rw [Int.toNat_natCast, show (((b : Nat) : Int) + 1 - 1).toNat = b by omega]
  ·rw [f1, hwl2.1]; show ((tb.width.toNat : Nat) : Int) = (headT tb).width; rw [hh5]; omega
  ·show okP (headT tb).p; rw [hh1]; exact (dieP_ok hp).1
  ·rw [f1]; show allP (headT tb).p _; rw [hh1, ← htp2]; exact hwl2.2
  ·unfold knownN placeN
   rw [f3, f7, g3]
   show ¬ (((List.replicate rows.length (List.replicate m (⟨False, []⟩ : Ans)))[((a : Nat) : Int).toNat]?.getD default)[(((b : Nat) : Int) + 1 - 1).toNat]?.getD default).known
   rw [hrep _ _ (by omega), List.getElem?_replicate, if_pos (by omega)]
   exact id
  ·rw [f2, g3]; show ((Q[a]?.getD default)[b]?.getD default).length ≤ _; omega
  ·rw [f1, hwl2.1]; omega
  ·rw [f2, g3]; show 1 ≤ ((Q[a]?.getD default)[b]?.getD default).length
   have h5 := (hqS _ (getD_mem g1)).2 _ (getD_mem (k := b) (by omega))
   have h6 := units_pos hs.1 (n := (tb.rows.length : Int)) (by omega)
   omega
  ·rw [f2]; show allP (headT tb).p _; rw [hh1, ← htp2]; exact q1.2
theorem got_take {r : Rdr} {ns : List Nte} {k : Nat} (h : gotR r ns) (hk : k < ns.length) : okRd (foldN r (ns.take k)) ∧ takeE (foldN r (ns.take k)) (ns[k]?.getD default) = 0 ∧ takeR (foldN r (ns.take k)) (ns[k]?.getD default) = foldN r (ns.take (k + 1)) ∧ (ns[k]?.getD default).query.length ≤ 100000 ∧ (ns[k]?.getD default).values.length ≤ 100000 := by
 obtain ⟨h1, h2, h3, h4, h5⟩ := h
 have hm := getD_mem hk
 obtain ⟨a1, a2, a3, a4, a5, a6⟩ := h5 _ hm
 have he : ns[k]?.getD default = ns[k] := by rw [List.getElem?_eq_getElem hk]; rfl
 have hp : ∀ a ∈ ns.take k, placeN a ≠ placeN (ns[k]?.getD default) := by
  intro a ha
  obtain ⟨i, hi, rfl⟩ := List.mem_iff_getElem.1 ha
  rw [List.length_take] at hi
  rw [List.getElem_take, he]
  exact List.pairwise_iff_getElem.1 h4 i k (by omega) hk (by omega)
 obtain ⟨b1, b2⟩ := fold_take h2 a1 a2 a3 hp
 refine ⟨okRd_fold h1 fun n hn => (h5 n (List.mem_of_mem_take hn)).2.2.2.2.1, b1, ?_, a4, a5⟩
 rw [b2, List.take_add_one, List.getElem?_eq_getElem hk]; rfl
theorem got_rev {r : Rdr} {ns : List Nte} (h : gotR r ns) : gotR r ns.reverse := by
 obtain ⟨h1, h2, h3, h4, h5⟩ := h
 exact ⟨h1, h2, by rw [List.length_reverse]; exact h3, List.pairwise_reverse.2 (h4.imp fun h e => h e.symm), fun n hn => h5 n (List.mem_reverse.1 hn)⟩
theorem rev_at {ns : List Nte} {k : Nat} (hk : k < ns.length) : ns.reverse[k]?.getD default = ns[((ns.length : Int) - 1 - (k : Int)).toNat]?.getD default := by
 rw [List.getElem?_reverse hk]
 congr 2
 omega
theorem got_end {r : Rdr} {ns : List Nte} (h : gotR r ns) : foldN r ns.reverse = foldN r ns := (fold_perm ns.reverse_perm.symm h.2.2.2.1).symm
theorem got_okRd {r : Rdr} {ns : List Nte} (h : gotR r ns) : okRd (foldN r ns) := okRd_fold h.1 fun n hn => (h.2.2.2.2 n hn).2.2.2.2.1
theorem got_bad {r : Rdr} {ns : List Nte} (h : gotR r ns) {y : Nte} (hf : ¬ fitsR r y) : takeE (foldN r ns) y = 2 := by
 unfold takeE
 rw [if_neg (fun c => h.2.1 (fold_ended.1 c)), if_pos (fun c => hf (fold_fits.1 c))]
theorem bad_ver {r : Rdr} {n : Nte} (h : fitsR r n) : ¬ fitsR r { n with version := n.version + 1 } := fun c => by
 have h1 := h.2.2.1
 have h2 : n.version + 1 = r.head.number := c.2.2.1
 omega
theorem bad_read {r : Rdr} {n : Nte} (h : fitsR r n) : ¬ fitsR r { n with read := n.read + 1 } := fun c => by
 have h1 := h.2.1
 have h2 : n.read + 1 = r.read := c.2.1
 omega
theorem bad_query {r : Rdr} {n : Nte} (h : fitsR r n) (hl : 1 ≤ n.query.length) (hp : allP r.head.p n.query) : ¬ fitsR r { n with query := n.query.set 0 ((n.query[0]?.getD default + 1) % r.head.p) } := fun c => by
 have h1 := h.2.2.2.2.2.1
 have h2 : n.query.set 0 ((n.query[0]?.getD default + 1) % r.head.p) = (r.queries[n.probe.toNat]?.getD default)[(n.server - 1).toNat]?.getD default := c.2.2.2.2.2.1
 rw [← h1] at h2
 have h3 := hp _ (getD_mem (xs := n.query) (k := 0) (by omega))
 have h4 := congrArg (fun l : List Int => l[0]?.getD default) h2
 replace h4 : (n.query.set 0 ((n.query[0]?.getD default + 1) % r.head.p))[0]?.getD default = n.query[0]?.getD default := h4
 rw [List.getElem?_set_self (by omega)] at h4
 have hp2 : 2 ≤ r.head.p := h.2.2.2.2.2.2.2.1.1
 generalize n.query[0]?.getD default = a at h3 h4
 have h5 : (a + 1) % r.head.p = a := h4
 obtain ⟨h6, h7⟩ := h3
 by_cases h8 : a + 1 < r.head.p
 ·rw [Int.emod_eq_of_lt (by omega) h8] at h5; omega
 ·rw [show a + 1 = r.head.p by omega, Int.emod_self] at h5; omega
end Go.Q
