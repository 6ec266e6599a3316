/- Contracts of the queries on polynomials, in the reference. -/
import Derived.Test.YtgaalfgmgmpnbaaGreatQParR
import Derived.Test.YtgaalfgmgmpnbaaGreatQDraws
import Derived.Test.YtgaalfgmgmpnbaaGreatQServer6
import Derived.Test.YtgaalfgmgmpnbaaGreatQRound
set_option linter.unusedVariables false
set_option linter.unusedSimpArgs false
namespace Go.Q
open Go.Proofs
open Classical
theorem splitE_draw {p sec d sv : Int} {t : Tape} (hp : okP p) (hs : hasP p sec) (hd : 0 ≤ d ∧ d ≤ 9) (hv : 1 ≤ sv ∧ sv < p ∧ sv ≤ 512) : splitE p sec d sv t = drawE t p d := by
 unfold splitE
 rw [if_neg (fun h => h.elim (fun h => h hp) (fun h => h hs)), if_neg (by omega)]
theorem rcurqM_spec (p sv d rows index : Int) (t : Tape) : Spec Tryz.prog 185 [dAgg [dInt .i64 p], dAgg [dInt .i64 sv, dInt .i64 d], dInt .i64 rows, dInt .i64 index, dTape t] [] (σ := Value × List (Value × List Int)) (fun q => q.2.map (·.2) = cqL p sv d rows index t) (fun q => dTup [dVal q.1, dTape (cqT p sv d rows index t), dInt .i64 (cqE p sv d rows index t)]) (fun q => rRow q.1 44 1 (fun u => [dSlV u]) (q.2.map (·.1)) :: fam 3 1 (fun x => [dInt .i64 x]) q.2) := by
  refine spec_of_body Tryz.func185 rfl rfl (fun I F => ?_)
  refine au 4 ?_
  refine run_new (loc_boxOwnN rfl) rfl (fun b9 _ => ?_)
  refine au 1 ?_
  refine run_new (loc_allocOwn (by simp)) rfl (fun b11 _ => ?_)
  refine au 8 ?_
  refine run_op (loc_call (rlim17_spec _ _ _ _) rfl) rfl ?_
  refine au 11 ?_
  refine run_cond rfl (fun h1 => ?_) (fun h1 => ?_)
  ·
   have c1 := h1
   refine au 8 ?_
   have hE : cqE p sv d rows index t = planRE p sv d rows := by unfold cqE; rw [if_pos c1]
   refine run_retG ((.slice none 0 0, [])) Tryz.func185 rfl (.tmp rfl (.cellN rfl (.here) (by rfl) (.tmp rfl (.nil)))) ?_ (by unfold cqL; rw [if_neg (by rw [hE]; first | omega | assumption)]; rfl) (fun I w h => nil_ok ((fun _ _ h => h.sub (.cons _ (.cons _ (.refl _)))) I w h))
   exact d_tup3 (fun _ _ h => h) (d_toTape (by unfold cqT; rw [if_neg (by rw [hE]; first | omega | assumption)]) (d_aggU (.cons d_nil (.cons (d_int rfl) .nil)))) (d_int hE.symm)
  ·
   have c1 := Classical.not_not.1 h1
   refine au 13 ?_
   refine run_cond rfl (fun h2 => ?_) (fun h2 => ?_)
   ·
    have c2 := h2
    refine au 7 ?_
    have hE : cqE p sv d rows index t = 6 := by unfold cqE; rw [if_neg (Classical.not_not.2 c1), if_pos (by omega)]
    refine run_retG ((.slice none 0 0, [])) Tryz.func185 rfl (.tmp rfl (.cellN rfl (.here) (by rfl) (.tmp rfl (.nil)))) ?_ (by unfold cqL; rw [if_neg (by rw [hE]; first | omega | assumption)]; rfl) (fun I w h => nil_ok ((fun _ _ h => h.sub (.cons _ (.cons _ (.refl _)))) I w h))
    exact d_tup3 (fun _ _ h => h) (d_toTape (by unfold cqT; rw [if_neg (by rw [hE]; first | omega | assumption)]) (d_aggU (.cons d_nil (.cons (d_int rfl) .nil)))) (d_int hE.symm)
   ·
    have c2 := h2
    refine au 2 ?_
    obtain ⟨hp, hsv, hd, hsp, hr⟩ := planRE_zero c1
    have hpb := hp.1
    have hpb2 := hp.2.1
    have hm := mul_bd (a := rows) (b := d) (A := 1024) (B := 9) (by omega) (by omega) (by omega) (by omega)
    have hmc : rows * d = d * rows := Int.mul_comm _ _
    refine au 3 ?_
    refine run_new (loc_makeSlice rfl rfl (by first | omega | assumption) (by first | omega | assumption) _ _ rfl (by simp)) rfl (fun b17 _ => ?_)
    refine au 4 ?_
    refine run_inv (M' := rRow (.slice (some ⟨b17, 0, none⟩) sv.toNat sv.toNat) 44 1 (fun u => [dSlV u]) ((List.replicate sv.toNat ((.slice none 0 0 : Value), ([] : List Int))).map (·.1)) :: rCells b11 122 [dVal (.slice none 0 0), dInt .i64 0] :: rCells b9 122 (cTape (tpK t p d 0)) :: (fam 3 1 fI (List.replicate sv.toNat ((.slice none 0 0 : Value), ([] : List Int))) ++ F)) (fun I w h => fam_nils [_, _, _] sv.toNat (by rw [List.map_replicate]; exact row_nilV (h.sub (.cons_cons _ (.cons_cons _ (.cons_cons _ (.refl _))))))) ?_
    refine au 4 ?_
    refine run_loopE (σ := Nat × List (Value × List Int)) (ks := [2, 3, 5, 6, 9, 11, 15]) (.cons rfl (.cons rfl (.cons rfl (.cons rfl (.cons rfl (.cons rfl (.cons rfl (.nil)))))))) (fun q => [(16, dInt .i64 (q.1 : Nat))]) (fun q => rRow (.slice (some ⟨b17, 0, none⟩) sv.toNat sv.toNat) 44 1 (fun u => [dSlV u]) (q.2.map (·.1)) :: rCells b11 122 [dVal (.slice none 0 0), dInt .i64 0] :: rCells b9 122 (cTape (tpK t p d q.1)) :: (fam 3 1 fI q.2 ++ F)) (fun q => q.1 ≤ rows.toNat ∧ q.2.length = sv.toNat ∧ q.2.map (·.2) = cqP p d index (drB t (rows * d)) sv.toNat 0 q.1 ∧ (q.1 = 0 ∨ drawE t p (d * (q.1 : Nat)) = 0)) (fun q => rows.toNat - q.1) ((0, (List.replicate sv.toNat ((.slice none 0 0 : Value), ([] : List Int))))) (⟨Nat.zero_le _, by simp, by rw [cqP_0]; simp, .inl rfl⟩) (.cons rfl (by first | exact fun _ _ h => h | exact d_int (by omega) | exact d_int (by simp) | exact d_intN (by omega) | exact d_any) .nil) (rfl) ?_
    rintro q ⟨hq1, hq2, hq3, hq4⟩ ih3
    refine au 7 ?_
    refine run_cond rfl (fun h4 => ?_) (fun h4 => ?_)
    ·
     have hq5 : (q.1 : Int) < rows := h4
     refine au 14 ?_
     refine run_joinC (σ := Unit) (ks := [2, 3, 5, 6, 9, 11, 15, 16]) (.cons rfl (.cons rfl (.cons rfl (.cons rfl (.cons rfl (.cons rfl (.cons rfl (.cons rfl (.nil))))))))) (fun _u => [(17, dInt .i64 (if (q.1 : Int) = index then 1 else 0))]) (fun _u => True) (fun j5 => ?_) ?_
     ·
      refine run_cond rfl (fun h6 => ?_) (fun h6 => ?_)
      ·
       refine au 3 ?_
       exact run_atC j5 (()) (trivial) (.cons rfl (d_int (by rw [if_pos (by omega)])) .nil) (.cons rfl (fun _ _ x => x) (.cons rfl (fun _ _ x => x) (.cons rfl (fun _ _ x => x) (.cons rfl (fun _ _ x => x) (.cons rfl (fun _ _ x => x) (.cons rfl (fun _ _ x => x) (.cons rfl (fun _ _ x => x) (.cons rfl (fun _ _ x => x) (.nil)))))))))
      ·
       refine au 1 ?_
       exact run_atC j5 (()) (trivial) (.cons rfl (d_int (by rw [if_neg (by omega)])) .nil) (.cons rfl (fun _ _ x => x) (.cons rfl (fun _ _ x => x) (.cons rfl (fun _ _ x => x) (.cons rfl (fun _ _ x => x) (.cons rfl (fun _ _ x => x) (.cons rfl (fun _ _ x => x) (.cons rfl (fun _ _ x => x) (.cons rfl (fun _ _ x => x) (.nil)))))))))
     intro _u _
     refine au 1 ?_
     have hspE : splitE p (if (q.1 : Int) = index then 1 else 0) d sv (tpK t p d q.1) = drawE (tpK t p d q.1) p d := splitE_draw hp (by unfold hasP; split <;> omega) (by omega) (by omega)
     refine au 8 ?_
     refine run_op (loc_call (rsplit_spec _ _ _ _ _) rfl) rfl ?_
     refine au 4 ?_
     refine run_new (loc_allocOwn (by simp)) rfl (fun b7 _ => ?_)
     refine au 10 ?_
     refine run_cond rfl (fun h8 => ?_) (fun h8 => ?_)
     ·
      have c3 := h8
      rw [hspE] at c3
      refine au 8 ?_
      have hE : cqE p sv d rows index t = splitE p (if (q.1 : Int) = index then 1 else 0) d sv (tpK t p d q.1) := by rw [hspE]; unfold cqE; rw [if_neg (Classical.not_not.2 c1), if_neg (by omega), hmc, show d * rows = d * ((q.1 : Int) + 1) + d * (rows - 1 - q.1) by rw [← Int.mul_add]; congr 1; omega, drawE_stop (Int.mul_nonneg (by omega) (by omega)) (Int.mul_nonneg (by omega) (by omega)) (by rw [← tpK_E (by omega) hq4]; exact c3), tpK_E (by omega) hq4]
      refine run_retG ((.slice none 0 0, [])) Tryz.func185 rfl (.tmp rfl (.cellN rfl (.there (.there (.here))) (by rfl) (.tmp rfl (.nil)))) ?_ (by unfold cqL; rw [if_neg (by rw [hE]; first | omega | assumption)]; rfl) (fun I w h => nil_ok (h.sub (.cons _ (.cons _ (.cons _ (.cons _ (List.sublist_append_right _ _)))))))
      exact d_tup3 (fun _ _ h => h) (d_toTape (by unfold cqT; rw [if_neg (by rw [hE]; first | omega | assumption)]) (d_aggU (.cons d_nil (.cons (d_int rfl) .nil)))) (d_int hE.symm)
     ·
      have c3 := Classical.not_not.1 h8
      rw [hspE] at c3
      have htk := tpK_ok (by omega) hq4 c3
      refine au 2 ?_
      have hsp0 : splitE p (if (q.1 : Int) = index then 1 else 0) d sv (tpK t p d q.1) = 0 := hspE.trans c3
      have hspT : splitT p (if (q.1 : Int) = index then 1 else 0) d sv (tpK t p d q.1) = (tpK t p d (q.1 + 1)) := by unfold splitT; rw [if_pos hsp0, htk.2.1]
      have hsp1 : splitE p (if (q.1 : Int) = index then 1 else 0) d sv (tpK t p d q.1) = 0 ∧ splitL p (if (q.1 : Int) = index then 1 else 0) d sv (tpK t p d q.1) = sharesL p ([(if (q.1 : Int) = index then 1 else 0)] ++ (((drB t (rows * d)).take (((q.1 : Int) + 1) * d).toNat).drop ((q.1 : Int) * d).toNat)) (ptsL sv.toNat) := ⟨hsp0, by unfold splitL; rw [if_pos hsp0, htk.1, chunk_int (by omega) hq5]⟩
      refine au 4 ?_
      rw [hspT]
      refine au 3 ?_
      first | refine runL_fact (s := 70) rfl (fun _ _ h => dSl_len h) (fun hlen9 => ?_) | skip
      refine au 4 ?_
      refine run_inv (fun _ _ h => inv_tail h) ?_
      refine run_loopE (σ := Nat × List (Value × List Int)) (ks := [2, 3, 5, 6, 9, 11, 15, 16, 70, 71]) (.cons rfl (.cons rfl (.cons rfl (.cons rfl (.cons rfl (.cons rfl (.cons rfl (.cons rfl (.cons rfl (.cons rfl (.nil))))))))))) (fun u => [(72, dInt .i64 (u.1 : Nat))]) (fun u => rRow (.slice (some ⟨b17, 0, none⟩) sv.toNat sv.toNat) 44 1 (fun u => [dSlV u]) (u.2.map (·.1)) :: rCells b11 122 [dVal (.slice none 0 0), dInt .i64 0] :: rCells b9 122 (cTape (tpK t p d (q.1 + 1))) :: (fam 3 1 fI u.2 ++ F)) (fun u => u.1 ≤ sv.toNat ∧ u.2.length = sv.toNat ∧ u.2.map (·.2) = cqP p d index (drB t (rows * d)) sv.toNat u.1 q.1) (fun u => sv.toNat - u.1) ((0, q.2)) (⟨Nat.zero_le _, hq2, hq3⟩) (.cons rfl (by first | exact fun _ _ h => h | exact d_int (by omega) | exact d_int (by simp) | exact d_intN (by omega) | exact d_any) .nil) (rfl) ?_
      rintro u ⟨hu1, hu2, hu3⟩ ih10
      refine au 5 ?_
      refine run_cond rfl (fun h11 => ?_) (fun h11 => ?_)
      ·
       have hus : u.1 < sv.toNat := by have := h11; rw [hsp1.2, shares_len] at this; omega
       obtain ⟨pk, hpk⟩ : ∃ pk, u.2[u.1]? = some pk := ⟨u.2[u.1]'(by omega), List.getElem?_eq_getElem (by omega)⟩
       have hpk1 : (u.2.map (·.1))[u.1]?.getD default = pk.1 := by rw [List.getElem?_map, hpk]; rfl
       have hpk2 : pk.2 = (List.range q.1).map (fun r => cV p d index (drB t (rows * d)) u.1 r) := by rw [← cqP_get (d := d) (index := index) hus, ← hu3, List.getElem?_map, hpk]; rfl
       have hml : (u.2.map (·.1)).length = sv.toNat := by rw [List.length_map]; exact hu2
       have hpl : pk.2.length = q.1 := by rw [hpk2]; simp
       have hsh : (splitL p (if (q.1 : Int) = index then 1 else 0) d sv (tpK t p d q.1))[u.1]?.getD default = ((u.1 : Int) + 1, cV p d index (drB t (rows * d)) u.1 q.1) := by rw [hsp1.2, shares_get hus]; rfl
       refine au 8 ?_
       refine runL_recast (s := 76) rfl (d_eq (d' := dAgg [dInt .i64 ((u.1 : Int) + 1), dInt .i64 (cV p d index (drB t (rows * d)) u.1 q.1)]) (by rw [hsh]; rfl)) ?_
       refine run_new (loc_allocOwn (by simp)) rfl (fun b12 _ => ?_)
       refine au 3 ?_
       refine run_inv (fun I w h => fam_out [_, _, _, _] u.1 hpk h) ?_
       refine dr_start _ (.one (σ := Value) 9 (fun _ => True)) [⟨[(15, none)], [], none⟩,
           ⟨[(21, none)], [], none⟩,
           ⟨[(15, none)], [], none⟩,
           ⟨[(21, none)], [], none⟩,
           ⟨[(79, some (2, false)), (80, some (3, false))], [2, 3], none⟩,
           ⟨[(81, some (4, false))], [2, 3, 4], some (2, 0, false)⟩,
           ⟨[(22, none)], [], none⟩,
           ⟨[(83, some (6, false))], [6], some (1, 0, false)⟩,
           ⟨[(84, some (7, false))], [6, 7], none⟩,
           ⟨[(82, some (5, false)), (85, some (8, false))], [2, 3, 4, 5, 6, 7, 8], some (0, 0, true)⟩,
           ⟨[(77, some (0, false)), (78, some (1, false))], [0, 1, 2, 3, 4, 5, 6, 7, 8, 9], none⟩,
           ⟨[(87, some (10, false)), (86, some (9, false))], [0, 1, 2, 3, 4, 5, 6, 7, 8, 9, 10], some (2, 0, true)⟩] [_, _, _, _, _] _ rfl rfl ?_
       refine da 5 ?_
       refine dq_read rfl (fun s => .op rfl (.nil)) rfl rfl (fun s hs _ hm => LocP.conv (loc_loadRow1 rfl hm (by omega)) (congrArg dSlV hpk1)) (by exact .cons (.inr fun _ _ _ => rfl) (.nil)) ?_
       refine da 2 ?_
       refine dq_pure rfl (fun s => .op rfl (.nil)) (fun s hs _ => loc_buildSlice rfl rfl (.one rfl (.nil)) rfl rfl) (by exact .cons (.inr fun _ _ _ => rfl) (.nil)) ?_
       refine dq_choose id (fun _ t => t) rfl (fun _ _ => ⟨rfl, id, trivial⟩) (fun s => .op rfl (.op rfl (.nil))) rfl rfl (fun s hs => loc_append1V _ rfl rfl rfl rfl (by first | omega | (simp [lenMax]; omega) | (simp [lenMax]; done) | assumption) (by first | omega | (simp [lenMax]; omega) | (simp [lenMax]; done) | assumption)) (by exact .cons (.inl rfl) (.nil)) (fun _ _ => rfl) ?_
       refine da 1 ?_
       refine dq_write0 rfl (fun s => .op rfl (.op rfl (.nil))) rfl rfl (fun s hs => loc_storeRow1 _ rfl rfl rfl (by first | omega | assumption)) (by exact .cons (.inl rfl) (.nil)) ?_
       refine dq_end (rs := [_, _, _, _, _]) (.bool true) rfl (fun _ => rfl) (.cons rfl (.nil)) rfl (fun _ => rfl) (fun v9 _ => ?_)
       dsimp only [outG, outM, List.map, List.set, id]
       refine run_inv (M' := rRow (.slice (some ⟨b17, 0, none⟩) sv.toNat sv.toNat) 44 1 (fun u => [dSlV u]) ((u.2.set u.1 (v9, pk.2 ++ [cV p d index (drB t (rows * d)) u.1 q.1])).map (·.1)) :: rCells b11 122 [dVal (.slice none 0 0), dInt .i64 0] :: rCells b9 122 (cTape (tpK t p d (q.1 + 1))) :: (fam 3 1 fI (u.2.set u.1 (v9, pk.2 ++ [cV p d index (drB t (rows * d)) u.1 q.1])) ++ F)) (fun I w h => by have h2 := fam_in [_, _, _, _] u.1 (p := (v9, pk.2 ++ [cV p d index (drB t (rows * d)) u.1 q.1])) (by omega) h; rw [List.map_set]; exact h2.sub (.cons _ (.refl _))) ?_
       refine au 5 ?_
       exact run_againE ih10 ((u.1 + 1, u.2.set u.1 (v9, pk.2 ++ [cV p d index (drB t (rows * d)) u.1 q.1]))) (⟨by simp only; omega, by simp only [List.length_set]; exact hu2, by simp only [List.map_set]; rw [hu3, hpk2, cqP_set hus]⟩) (by simp only; omega) (.cons rfl (by first | exact fun _ _ h => h | exact d_int (by omega) | exact d_int (by simp) | exact d_intN (by omega) | exact d_any) .nil) (.cons rfl (fun _ _ x => x) (.cons rfl (fun _ _ x => x) (.cons rfl (fun _ _ x => x) (.cons rfl (fun _ _ x => x) (.cons rfl (fun _ _ x => x) (.cons rfl (fun _ _ x => x) (.cons rfl (fun _ _ x => x) (.cons rfl (fun _ _ x => x) (.cons rfl (fun _ _ x => x) (.cons rfl (fun _ _ x => x) (.nil))))))))))) (rfl)
      ·
       have hus : u.1 = sv.toNat := by have := h11; rw [hsp1.2, shares_len] at this; omega
       refine au 7 ?_
       exact run_againE ih3 ((q.1 + 1, u.2)) (⟨by simp only; omega, hu2, by simp only; rw [hu3, hus, cqP_next], .inr htk.2.2⟩) (by simp only; omega) (.cons rfl (by first | exact fun _ _ h => h | exact d_int (by omega) | exact d_int (by simp) | exact d_intN (by omega) | exact d_any) .nil) (.cons rfl (fun _ _ x => x) (.cons rfl (fun _ _ x => x) (.cons rfl (fun _ _ x => x) (.cons rfl (fun _ _ x => x) (.cons rfl (fun _ _ x => x) (.cons rfl (fun _ _ x => x) (.cons rfl (fun _ _ x => x) (.nil)))))))) (rfl)
    ·
     have hq5 : q.1 = rows.toNat := by have := h4; omega
     refine au 2 ?_
     have hE2 : drawE t p (rows * d) = 0 := by have := hq4.resolve_left (by omega); rw [hq5, show ((rows.toNat : Nat) : Int) = rows by omega] at this; rw [hmc]; exact this
     have hE : cqE p sv d rows index t = 0 := by unfold cqE; rw [if_neg (Classical.not_not.2 c1), if_neg (by omega)]; exact hE2
     refine dr_start _ (.none) [⟨[(15, none)], [], none⟩,
         ⟨[(9, none)], [], some (2, 0, false)⟩,
         ⟨[(89, some (0, false))], [0], none⟩,
         ⟨[(11, none), (90, some (1, false))], [0, 1, 2], some (1, 0, true)⟩,
         ⟨[], [0, 1, 2, 3], none⟩] [_, _, _] _ rfl rfl ?_
     refine da 3 ?_
     refine dq_write0 rfl (fun s => .g rfl (.op rfl (.nil))) rfl rfl (fun s hs => loc_storeN (ho := (by show OneAll [_, _]; infer_instance)) rfl rfl rfl) (by exact .nil) ?_
     refine da 1 ?_
     refine dq_end (rs := [_, _, _]) () rfl (fun _ => rfl) (.nil) rfl (fun _ => rfl) (fun _ _ => ?_)
     dsimp only [outG, outM, List.map, List.set, id]
     refine run_retG ((.slice (some ⟨b17, 0, none⟩) sv.toNat sv.toNat, q.2)) Tryz.func185 rfl (.tmp rfl (.cellN rfl (.there (.here)) (by rfl) (.tmp rfl (.nil)))) ?_ (by unfold cqL; rw [if_pos hE, drB_eq hE2]; simp only; rw [hq3, hq5, cqP_end]) (fun _ _ h => h.sub (.cons_cons _ (.cons _ (.cons _ (.refl _)))))
     exact d_tup3 (fun _ _ h => h) (d_toTape (t' := (tpK t p d q.1)) (by unfold cqT tpK; rw [if_pos hE, if_neg (by omega), hq5, show ((rows.toNat : Nat) : Int) = rows by omega, hmc]) (fun _ _ h => h)) (d_int hE.symm)
theorem rcurq_spec (p sv d rows index : Int) (t : Tape) : SpecP Tryz.prog 185 [dAgg [dInt .i64 p], dAgg [dInt .i64 sv, dInt .i64 d], dInt .i64 rows, dInt .i64 index, dTape t] (dTup [dRows (cqL p sv d rows index t), dTape (cqT p sv d rows index t), dInt .i64 (cqE p sv d rows index t)]) := spec_freezeRows3 (rcurqM_spec p sv d rows index t)
end Go.Q

namespace Go.Q
open Go.Proofs
open Classical
theorem set_app {xs ys : List Int} {i : Nat} {x : Int} (h : i < xs.length) : xs.set i x ++ ys = (xs ++ ys).set i x := by rw [List.set_append, if_pos h]
theorem grp_val {p d g group n j : Int} {t : Tape} {i : Nat} (hd : 0 ≤ d) (hi : (i : Int) < n) (hg : 1 ≤ g.toNat) : valP p ((if (i : Int) = group then (List.replicate g.toNat (0 : Int)).set 0 1 else List.replicate g.toNat (0 : Int)) ++ (((pBase t).drop (i * d.toNat)).take d.toNat)) j = gV p d g group (drB t (n * d)) j i := by
 unfold gV gW
 rw [chunk_int hd hi]
 by_cases h : (i : Int) = group
 ·rw [if_pos h, if_pos h, val_group1 hg]
 ·rw [if_neg h, if_neg h, val_group]
theorem rcodqM_spec (p sv d g n group : Int) (t : Tape) : Spec Tryz.prog 186 [dAgg [dInt .i64 p], dAgg [dInt .i64 sv, dInt .i64 d, dInt .i64 g], dInt .i64 n, dInt .i64 group, dTape t] [] (σ := Value × List (Value × List Int)) (fun q => q.2.map (·.2) = gqL p sv d g n group t) (fun q => dTup [dVal q.1, dTape (gqT p sv d g n group t), dInt .i64 (gqE p sv d g n group t)]) (fun q => rRow q.1 44 1 (fun u => [dSlV u]) (q.2.map (·.1)) :: fam 3 1 (fun x => [dInt .i64 x]) q.2) := by
  refine spec_of_body Tryz.func186 rfl rfl (fun I F => ?_)
  refine au 4 ?_
  refine run_new (loc_boxOwnN rfl) rfl (fun b9 _ => ?_)
  refine au 1 ?_
  refine run_new (loc_allocOwn (by simp)) rfl (fun b11 _ => ?_)
  refine au 8 ?_
  refine run_op (loc_call (rlim18_spec _ _ _ _ _) rfl) rfl ?_
  refine au 11 ?_
  refine run_cond rfl (fun h1 => ?_) (fun h1 => ?_)
  ·
   have c1 := h1
   refine au 8 ?_
   have hE : gqE p sv d g n group t = codRE p sv d g n := by unfold gqE; rw [if_pos c1]
   refine run_retG ((.slice none 0 0, [])) Tryz.func186 rfl (.tmp rfl (.cellN rfl (.here) (by rfl) (.tmp rfl (.nil)))) ?_ (by unfold gqL; rw [if_neg (by rw [hE]; first | omega | assumption)]; rfl) (fun I w h => nil_ok ((fun _ _ h => h.sub (.cons _ (.cons _ (.refl _)))) I w h))
   exact d_tup3 (fun _ _ h => h) (d_toTape (by unfold gqT; rw [if_neg (by rw [hE]; first | omega | assumption)]) (d_aggU (.cons d_nil (.cons (d_int rfl) .nil)))) (d_int hE.symm)
  ·
   have c1 := Classical.not_not.1 h1
   refine au 13 ?_
   refine run_cond rfl (fun h2 => ?_) (fun h2 => ?_)
   ·
    have c2 := h2
    refine au 7 ?_
    have hE : gqE p sv d g n group t = 6 := by unfold gqE; rw [if_neg (Classical.not_not.2 c1), if_pos (by omega)]
    refine run_retG ((.slice none 0 0, [])) Tryz.func186 rfl (.tmp rfl (.cellN rfl (.here) (by rfl) (.tmp rfl (.nil)))) ?_ (by unfold gqL; rw [if_neg (by rw [hE]; first | omega | assumption)]; rfl) (fun I w h => nil_ok ((fun _ _ h => h.sub (.cons _ (.cons _ (.refl _)))) I w h))
    exact d_tup3 (fun _ _ h => h) (d_toTape (by unfold gqT; rw [if_neg (by rw [hE]; first | omega | assumption)]) (d_aggU (.cons d_nil (.cons (d_int rfl) .nil)))) (d_int hE.symm)
   ·
    have c2 := h2
    refine au 2 ?_
    obtain ⟨hce, hn⟩ := codRE_zero c1
    obtain ⟨hp, hsv, hsp, hd, hg, hgd⟩ := codE_zero hce
    have hpb := hp.1
    have hpb2 := hp.2.1
    have hm := mul_bd (a := n) (b := d) (A := 1024) (B := 10) (by omega) (by omega) (by omega) (by omega)
    have hmc : n * d = d * n := Int.mul_comm _ _
    have hrl : (List.replicate g.toNat (0 : Int)).length = g.toNat := List.length_replicate
    refine au 3 ?_
    refine run_new (loc_makeSlice rfl rfl (by first | omega | assumption) (by first | omega | assumption) _ _ rfl (by simp)) rfl (fun b17 _ => ?_)
    refine au 4 ?_
    refine run_inv (M' := rRow (.slice (some ⟨b17, 0, none⟩) sv.toNat sv.toNat) 44 1 (fun u => [dSlV u]) ((List.replicate sv.toNat ((.slice none 0 0 : Value), ([] : List Int))).map (·.1)) :: rCells b11 122 [dVal (.slice none 0 0), dInt .i64 0] :: rCells b9 122 (cTape (tpK t p d 0)) :: (fam 3 1 fI (List.replicate sv.toNat ((.slice none 0 0 : Value), ([] : List Int))) ++ F)) (fun I w h => fam_nils [_, _, _] sv.toNat (by rw [List.map_replicate]; exact row_nilV (h.sub (.cons_cons _ (.cons_cons _ (.cons_cons _ (.refl _))))))) ?_
    refine au 4 ?_
    refine run_loopE (σ := Nat × List (Value × List Int)) (ks := [2, 3, 5, 6, 9, 11, 15]) (.cons rfl (.cons rfl (.cons rfl (.cons rfl (.cons rfl (.cons rfl (.cons rfl (.nil)))))))) (fun q => [(16, dInt .i64 (q.1 : Nat))]) (fun q => rRow (.slice (some ⟨b17, 0, none⟩) sv.toNat sv.toNat) 44 1 (fun u => [dSlV u]) (q.2.map (·.1)) :: rCells b11 122 [dVal (.slice none 0 0), dInt .i64 0] :: rCells b9 122 (cTape (tpK t p d q.1)) :: (fam 3 1 fI q.2 ++ F)) (fun q => q.1 ≤ n.toNat ∧ q.2.length = sv.toNat ∧ q.2.map (·.2) = colP (fun (j r : Nat) => gV p d g group (drB t (n * d)) ((j : Int) + 1) r) sv.toNat 0 q.1 ∧ (q.1 = 0 ∨ drawE t p (d * (q.1 : Nat)) = 0)) (fun q => n.toNat - q.1) ((0, (List.replicate sv.toNat ((.slice none 0 0 : Value), ([] : List Int))))) (⟨Nat.zero_le _, by simp, by rw [colP_0]; simp, .inl rfl⟩) (.cons rfl (by first | exact fun _ _ h => h | exact d_int (by omega) | exact d_int (by simp) | exact d_intN (by omega) | exact d_any) .nil) (rfl) ?_
    rintro q ⟨hq1, hq2, hq3, hq4⟩ ih3
    refine au 7 ?_
    refine run_cond rfl (fun h4 => ?_) (fun h4 => ?_)
    ·
     have hq5 : (q.1 : Int) < n := h4
     refine au 10 ?_
     refine run_op (loc_call (rdraws_spec _ _ _) rfl) rfl ?_
     refine au 4 ?_
     refine run_new (loc_allocOwn (by simp)) rfl (fun b5 _ => ?_)
     refine au 10 ?_
     refine run_cond rfl (fun h6 => ?_) (fun h6 => ?_)
     ·
      have c3 := h6
      refine au 8 ?_
      have hE : gqE p sv d g n group t = drawE (tpK t p d q.1) p d := by unfold gqE; rw [if_neg (Classical.not_not.2 c1), if_neg (by omega), hmc, show d * n = d * ((q.1 : Int) + 1) + d * (n - 1 - q.1) by rw [← Int.mul_add]; congr 1; omega, drawE_stop (Int.mul_nonneg (by omega) (by omega)) (Int.mul_nonneg (by omega) (by omega)) (by rw [← tpK_E (by omega) hq4]; exact c3), tpK_E (by omega) hq4]
      refine run_retG ((.slice none 0 0, [])) Tryz.func186 rfl (.tmp rfl (.cellN rfl (.there (.there (.here))) (by rfl) (.tmp rfl (.nil)))) ?_ (by unfold gqL; rw [if_neg (by rw [hE]; first | omega | assumption)]; rfl) (fun I w h => nil_ok (h.sub (.cons _ (.cons _ (.cons _ (.cons _ (List.sublist_append_right _ _)))))))
      exact d_tup3 (fun _ _ h => h) (d_toTape (by unfold gqT; rw [if_neg (by rw [hE]; first | omega | assumption)]) (d_aggU (.cons d_nil (.cons (d_int rfl) .nil)))) (d_int hE.symm)
     ·
      have c3 := Classical.not_not.1 h6
      have htk := tpK_ok (by omega) hq4 c3
      refine au 2 ?_
      rw [htk.2.1]
      refine au 5 ?_
      rw [htk.1]
      have hdz := drawE_zero c3
      have hdl := hdz.2.2.2.2.1
      have hda := hdz.2.2.2.2.2
      rw [htk.1] at hdl hda
      refine au 3 ?_
      refine run_new (loc_makeSlice rfl rfl (by first | omega | assumption) (by first | omega | assumption) _ _ rfl (by simp)) rfl (fun b7 _ => ?_)
      refine au 1 ?_
      refine run_append rfl (.here) rfl (by rfl) (by first | omega | (simp [lenMax]; omega) | (simp [lenMax]; done) | assumption) (by first | omega | (simp [lenMax]; omega) | (simp [lenMax]; done) | assumption) rfl (fun v8 => ?_)
      refine au 2 ?_
      have hal : 0 < ((List.replicate g.toNat (0 : Int)) ++ (((pBase t).drop (q.1 * d.toNat)).take d.toNat)).length := by rw [List.length_append, hrl]; omega
      refine run_rowForm (.here) (by rw [List.length_append, hrl]; omega) (fun b cap hv => ?_)
      subst hv
      refine au 7 ?_
      refine run_joinF (σ := Unit) (ks := [2, 3, 5, 6, 9, 11, 15, 16, 20]) _ (.cons rfl (.cons rfl (.cons rfl (.cons rfl (.cons rfl (.cons rfl (.cons rfl (.cons rfl (.cons rfl (.nil)))))))))) (fun _u => []) (fun _u => [rRow (.slice (some ⟨b, 0, none⟩) ((List.replicate g.toNat (0 : Int)) ++ (((pBase t).drop (q.1 * d.toNat)).take d.toNat)).length cap) 3 1 fI ((if (q.1 : Int) = group then (List.replicate g.toNat (0 : Int)).set 0 1 else (List.replicate g.toNat (0 : Int))) ++ (((pBase t).drop (q.1 * d.toNat)).take d.toNat))]) (fun _u => True) ⟨[_], rfl⟩ (fun j9 => ?_) ?_
      ·
       refine run_cond rfl (fun h10 => ?_) (fun h10 => ?_)
       ·
        have c4 := h10
        refine au 3 ?_
        refine run_storeRow1 rfl (.here) rfl (by rfl) (by first | omega | assumption) ?_
        refine au 1 ?_
        exact run_atF j9 (()) (trivial) (by simp only [appR]; rw [if_pos c4, set_app (by rw [hrl]; omega)]) (.nil) (.cons rfl (fun _ _ x => x) (.cons rfl (fun _ _ x => x) (.cons rfl (fun _ _ x => x) (.cons rfl (fun _ _ x => x) (.cons rfl (fun _ _ x => x) (.cons rfl (fun _ _ x => x) (.cons rfl (fun _ _ x => x) (.cons rfl (fun _ _ x => x) (.cons rfl (fun _ _ x => x) (.nil))))))))))
       ·
        have c4 := h10
        refine au 1 ?_
        exact run_atF j9 (()) (trivial) (by simp only [appR]; rw [if_neg c4]) (.nil) (.cons rfl (fun _ _ x => x) (.cons rfl (fun _ _ x => x) (.cons rfl (fun _ _ x => x) (.cons rfl (fun _ _ x => x) (.cons rfl (fun _ _ x => x) (.cons rfl (fun _ _ x => x) (.cons rfl (fun _ _ x => x) (.cons rfl (fun _ _ x => x) (.cons rfl (fun _ _ x => x) (.nil))))))))))
      intro _u _
      refine au 1 ?_
      refine run_freezeRow (s := 20) rfl (.here) ?_
      have hcl : ((if (q.1 : Int) = group then (List.replicate g.toNat (0 : Int)).set 0 1 else (List.replicate g.toNat (0 : Int))) ++ (((pBase t).drop (q.1 * d.toNat)).take d.toNat)).length ≤ 512 := by rw [List.length_append]; split <;> (first | rw [List.length_set] | skip) <;> omega
      have hcs : ∀ c ∈ ((if (q.1 : Int) = group then (List.replicate g.toNat (0 : Int)).set 0 1 else (List.replicate g.toNat (0 : Int))) ++ (((pBase t).drop (q.1 * d.toNat)).take d.toNat)), hasP p c := by
        intro c hc
        rcases List.mem_append.1 hc with hc | hc
        · split at hc
          · rcases List.mem_or_eq_of_mem_set hc with hc | rfl
            · rw [List.eq_of_mem_replicate hc]; unfold hasP; omega
            · unfold hasP; omega
          · rw [List.eq_of_mem_replicate hc]; unfold hasP; omega
        · exact hda c hc
      refine au 4 ?_
      refine run_inv (fun _ _ h => inv_tail h) ?_
      refine run_loopE (σ := Nat × List (Value × List Int)) (ks := [2, 3, 5, 6, 9, 11, 15, 16, 20]) (.cons rfl (.cons rfl (.cons rfl (.cons rfl (.cons rfl (.cons rfl (.cons rfl (.cons rfl (.cons rfl (.nil)))))))))) (fun u => [(21, dInt .i64 ((u.1 : Nat) + 1 : Int))]) (fun u => rRow (.slice (some ⟨b17, 0, none⟩) sv.toNat sv.toNat) 44 1 (fun u => [dSlV u]) (u.2.map (·.1)) :: rCells b11 122 [dVal (.slice none 0 0), dInt .i64 0] :: rCells b9 122 (cTape (tpK t p d (q.1 + 1))) :: (fam 3 1 fI u.2 ++ F)) (fun u => u.1 ≤ sv.toNat ∧ u.2.length = sv.toNat ∧ u.2.map (·.2) = colP (fun (j r : Nat) => gV p d g group (drB t (n * d)) ((j : Int) + 1) r) sv.toNat u.1 q.1) (fun u => sv.toNat - u.1) ((0, q.2)) (⟨Nat.zero_le _, hq2, hq3⟩) (.cons rfl (d_int rfl) .nil) (rfl) ?_
      rintro u ⟨hu1, hu2, hu3⟩ ih11
      refine au 8 ?_
      refine run_cond rfl (fun h12 => ?_) (fun h12 => ?_)
      ·
       have hus : u.1 < sv.toNat := by have := h12; omega
       obtain ⟨pk, hpk⟩ : ∃ pk, u.2[u.1]? = some pk := ⟨u.2[u.1]'(by omega), List.getElem?_eq_getElem (by omega)⟩
       have hpk1 : (u.2.map (·.1))[((u.1 : Int) + 1 - 1).toNat]?.getD default = pk.1 := by rw [show ((u.1 : Int) + 1 - 1).toNat = u.1 by omega, List.getElem?_map, hpk]; rfl
       have hpk2 : pk.2 = (List.range q.1).map ((fun (j r : Nat) => gV p d g group (drB t (n * d)) ((j : Int) + 1) r) u.1) := by have h0 := colP_get (f := (fun (j r : Nat) => gV p d g group (drB t (n * d)) ((j : Int) + 1) r)) (i := q.1) hus; rw [← hu3, List.getElem?_map, hpk] at h0; exact h0
       have hml : (u.2.map (·.1)).length = sv.toNat := by rw [List.length_map]; exact hu2
       have hpl : pk.2.length = q.1 := by rw [hpk2]; simp
       refine au 8 ?_
       refine run_op (loc_call (rValue05_spec _ _ _ hp (by unfold hasP; omega) hcs hcl) rfl) rfl ?_
       refine au 6 ?_
       have hgv := grp_val (p := p) (d := d) (n := n) (g := g) (group := group) (t := t) (j := (u.1 : Int) + 1) (by omega) hq5 (by omega)
       refine run_inv (fun I w h => fam_out [_, _, _] u.1 hpk h) ?_
       refine au 8 ?_
       refine run_op (LocP.conv (loc_loadRow1 rfl (.there .here) (by omega)) (congrArg dSlV hpk1)) rfl ?_
       refine runL_recast (s := 96) rfl (d' := dVal pk.1) (fun _ _ h => h.1) ?_
       refine au 1 ?_
       refine run_op (loc_buildSlice rfl rfl (.one rfl (.nil)) rfl rfl) rfl ?_
       refine run_append1 rfl (.here) rfl (by rfl) (by rfl) (by first | omega | (simp [lenMax]; omega) | (simp [lenMax]; done) | assumption) (by first | omega | (simp [lenMax]; omega) | (simp [lenMax]; done) | assumption) rfl (fun v13 => ?_)
       refine runL_rowV (s := 99) rfl (.here) ?_
       refine au 1 ?_
       refine run_storeRow1 rfl (.there (.here)) rfl (by rfl) (by first | omega | assumption) ?_
       refine au 1 ?_
       rw [hgv, show ((u.1 : Int) + 1 - 1).toNat = u.1 by omega]
       refine run_inv (M' := rRow (.slice (some ⟨b17, 0, none⟩) sv.toNat sv.toNat) 44 1 (fun u => [dSlV u]) ((u.2.set u.1 (v13, pk.2 ++ [(fun (j r : Nat) => gV p d g group (drB t (n * d)) ((j : Int) + 1) r) u.1 q.1])).map (·.1)) :: rCells b11 122 [dVal (.slice none 0 0), dInt .i64 0] :: rCells b9 122 (cTape (tpK t p d (q.1 + 1))) :: (fam 3 1 fI (u.2.set u.1 (v13, pk.2 ++ [(fun (j r : Nat) => gV p d g group (drB t (n * d)) ((j : Int) + 1) r) u.1 q.1])) ++ F)) (fun I w h => by have h2 := fam_in [_, _, _] u.1 (p := (v13, pk.2 ++ [(fun (j r : Nat) => gV p d g group (drB t (n * d)) ((j : Int) + 1) r) u.1 q.1])) (by omega) h; rw [List.map_set]; exact h2) ?_
       refine au 6 ?_
       exact run_againE ih11 ((u.1 + 1, u.2.set u.1 (v13, pk.2 ++ [(fun (j r : Nat) => gV p d g group (drB t (n * d)) ((j : Int) + 1) r) u.1 q.1]))) (⟨by simp only; omega, by simp only [List.length_set]; exact hu2, by simp only [List.map_set]; rw [hu3, hpk2, colP_set hus]⟩) (by simp only; omega) (.cons rfl (d_int (by omega)) .nil) (.cons rfl (fun _ _ x => x) (.cons rfl (fun _ _ x => x) (.cons rfl (fun _ _ x => x) (.cons rfl (fun _ _ x => x) (.cons rfl (fun _ _ x => x) (.cons rfl (fun _ _ x => x) (.cons rfl (fun _ _ x => x) (.cons rfl (fun _ _ x => x) (.cons rfl (fun _ _ x => x) (.nil)))))))))) (rfl)
      ·
       have hus : u.1 = sv.toNat := by have := h12; omega
       refine au 7 ?_
       exact run_againE ih3 ((q.1 + 1, u.2)) (⟨by simp only; omega, hu2, by simp only; rw [hu3, hus, colP_next], .inr htk.2.2⟩) (by simp only; omega) (.cons rfl (by first | exact fun _ _ h => h | exact d_int (by omega) | exact d_int (by simp) | exact d_intN (by omega) | exact d_any) .nil) (.cons rfl (fun _ _ x => x) (.cons rfl (fun _ _ x => x) (.cons rfl (fun _ _ x => x) (.cons rfl (fun _ _ x => x) (.cons rfl (fun _ _ x => x) (.cons rfl (fun _ _ x => x) (.cons rfl (fun _ _ x => x) (.nil)))))))) (rfl)
    ·
     have hq5 : q.1 = n.toNat := by have := h4; omega
     refine au 2 ?_
     have hE2 : drawE t p (n * d) = 0 := by have := hq4.resolve_left (by omega); rw [hq5, show ((n.toNat : Nat) : Int) = n by omega] at this; rw [hmc]; exact this
     have hE : gqE p sv d g n group t = 0 := by unfold gqE; rw [if_neg (Classical.not_not.2 c1), if_neg (by omega)]; exact hE2
     refine dr_start _ (.none) [⟨[(15, none)], [], none⟩,
         ⟨[(9, none)], [], some (2, 0, false)⟩,
         ⟨[(101, some (0, false))], [0], none⟩,
         ⟨[(11, none), (102, some (1, false))], [0, 1, 2], some (1, 0, true)⟩,
         ⟨[], [0, 1, 2, 3], none⟩] [_, _, _] _ rfl rfl ?_
     refine da 3 ?_
     refine dq_write0 rfl (fun s => .g rfl (.op rfl (.nil))) rfl rfl (fun s hs => loc_storeN (ho := (by show OneAll [_, _]; infer_instance)) rfl rfl rfl) (by exact .nil) ?_
     refine da 1 ?_
     refine dq_end (rs := [_, _, _]) () rfl (fun _ => rfl) (.nil) rfl (fun _ => rfl) (fun _ _ => ?_)
     dsimp only [outG, outM, List.map, List.set, id]
     refine run_retG ((.slice (some ⟨b17, 0, none⟩) sv.toNat sv.toNat, q.2)) Tryz.func186 rfl (.tmp rfl (.cellN rfl (.there (.here)) (by rfl) (.tmp rfl (.nil)))) ?_ (by unfold gqL; rw [if_pos hE, drB_eq hE2]; simp only; rw [hq3, hq5]; unfold colP gQs gRow; simp) (fun _ _ h => h.sub (.cons_cons _ (.cons _ (.cons _ (.refl _)))))
     exact d_tup3 (fun _ _ h => h) (d_toTape (t' := (tpK t p d q.1)) (by unfold gqT tpK; rw [if_pos hE, if_neg (by omega), hq5, show ((n.toNat : Nat) : Int) = n by omega, hmc]) (fun _ _ h => h)) (d_int hE.symm)
theorem rcodq_spec (p sv d g n group : Int) (t : Tape) : SpecP Tryz.prog 186 [dAgg [dInt .i64 p], dAgg [dInt .i64 sv, dInt .i64 d, dInt .i64 g], dInt .i64 n, dInt .i64 group, dTape t] (dTup [dRows (gqL p sv d g n group t), dTape (gqT p sv d g n group t), dInt .i64 (gqE p sv d g n group t)]) := spec_freezeRows3 (rcodqM_spec p sv d g n group t)
end Go.Q

namespace Go.Q
open Go.Proofs
open Classical
theorem rqry23_spec (sc : Schm) (p n i : Int) (t : Tape) : SpecP Tryz.prog 166 [dSchm sc, dAgg [dInt .i64 p], dInt .i64 n, dInt .i64 i, dTape t] (dTup [dRows (qryL sc p n i t), dTape (qryT sc p n i t), dInt .i64 (qryE sc p n i t)]) := by
  refine specP_of_body Tryz.func166 rfl rfl (fun I M => ?_)
  refine au 6 ?_
  refine run_new (loc_allocOwn (by simp)) rfl (fun b1 _ => ?_)
  refine au 7 ?_
  refine run_op (loc_call (rvalid_spec _ _) rfl) rfl ?_
  refine au 2 ?_
  refine run_cond rfl (fun h2 => ?_) (fun h2 => ?_)
  ·
   have c1 := h2
   have hlk : lookE sc p n = 40 := by unfold lookE; rw [if_pos c1]
   refine au 7 ?_
   refine run_retGP Tryz.func166 rfl (.tmp rfl (.cellN rfl (.here) (by rfl) (.tmp rfl (.nil)))) ?_ (fun _ _ h => inv_tail (h))
   exact d_tup3 (d_toRows (by unfold qryL; rw [if_pos (.inl (by omega))]) d_nil) (d_toTape (by unfold qryT; rw [if_pos (.inl (by omega))]) (d_aggU (.cons d_nil (.cons (d_int rfl) .nil)))) (d_int (by unfold qryE; rw [if_pos (by omega), hlk]))
  ·
   have c1 := Classical.not_not.1 h2
   have hbd := shape_bd c1.1
   refine au 12 ?_
   refine run_cond rfl (fun h3 => ?_) (fun h3 => ?_)
   ·
    have c2 := h3
    have hlk : lookE sc p n = 1 := by unfold lookE; rw [if_neg (Classical.not_not.2 c1), if_pos (by omega)]
    refine au 7 ?_
    refine run_retGP Tryz.func166 rfl (.tmp rfl (.cellN rfl (.here) (by rfl) (.tmp rfl (.nil)))) ?_ (fun _ _ h => inv_tail (h))
    exact d_tup3 (d_toRows (by unfold qryL; rw [if_pos (.inl (by omega))]) d_nil) (d_toTape (by unfold qryT; rw [if_pos (.inl (by omega))]) (d_aggU (.cons d_nil (.cons (d_int rfl) .nil)))) (d_int (by unfold qryE; rw [if_pos (by omega), hlk]))
   ·
    have c2 := h3
    have hlk : lookE sc p n = 0 := lookE_ok c1 (by omega)
    refine au 13 ?_
    refine run_cond rfl (fun h4 => ?_) (fun h4 => ?_)
    ·
     have c3 := h4
     refine au 7 ?_
     refine run_retGP Tryz.func166 rfl (.tmp rfl (.cellN rfl (.here) (by rfl) (.tmp rfl (.nil)))) ?_ (fun _ _ h => inv_tail (h))
     exact d_tup3 (d_toRows (by unfold qryL; rw [if_pos (.inr (by omega))]) d_nil) (d_toTape (by unfold qryT; rw [if_pos (.inr (by omega))]) (d_aggU (.cons d_nil (.cons (d_int rfl) .nil)))) (d_int (by unfold qryE; rw [if_neg (by omega), if_pos (by omega)]))
    ·
     have c3 := h4
     have hno : ¬ (lookE sc p n ≠ 0 ∨ ¬ (0 ≤ i ∧ i ≤ n - 1)) := by omega
     refine au 13 ?_
     refine run_cond rfl (fun h5 => ?_) (fun h5 => ?_)
     ·
      have c4 := h5
      refine au 8 ?_
      refine run_op (loc_call (rparq_spec _ _ _ _ _) rfl) rfl ?_
      refine au 7 ?_
      refine run_retGP Tryz.func166 rfl (.tmp rfl (.cellN rfl (.here) (by rfl) (.tmp rfl (.nil)))) ?_ (fun _ _ h => inv_tail (h))
      exact d_tup3 (d_toRows (by unfold qryL; rw [if_neg hno, if_pos c4]) (fun _ _ h => h)) (d_toTape (by unfold qryT; rw [if_neg hno, if_pos c4]) (fun _ _ h => h)) (d_int (by unfold qryE; rw [if_neg (by omega), if_neg (by omega), if_pos c4]))
     ·
      have c4 := h5
      refine au 5 ?_
      refine run_cond rfl (fun h6 => ?_) (fun h6 => ?_)
      ·
       have c5 := h6
       refine au 1 ?_
       refine dr_start _ (.none) [⟨[(6, none)], [], none⟩,
           ⟨[(5, none)], [], none⟩,
           ⟨[(50, some (1, false))], [1], none⟩,
           ⟨[(2, none)], [], none⟩,
           ⟨[(3, none)], [], none⟩,
           ⟨[(9, none)], [], none⟩,
           ⟨[(49, some (0, false)), (51, some (2, false)), (52, some (3, false)), (53, some (4, false)), (54, some (5, false))], [0, 1, 2, 3, 4, 5], none⟩,
           ⟨[(55, some (6, false))], [0, 1, 2, 3, 4, 5, 6], none⟩,
           ⟨[(55, some (6, false))], [0, 1, 2, 3, 4, 5, 6], none⟩,
           ⟨[(55, some (6, false))], [0, 1, 2, 3, 4, 5, 6], none⟩,
           ⟨[(56, some (7, false))], [0, 1, 2, 3, 4, 5, 6, 7, 8, 9], none⟩,
           ⟨[(11, none), (57, some (8, false))], [0, 1, 2, 3, 4, 5, 6, 7, 8, 9, 10], some (0, 0, true)⟩,
           ⟨[(58, some (9, false))], [0, 1, 2, 3, 4, 5, 6, 7, 8, 9, 10, 11], none⟩] [_] _ rfl rfl ?_
       refine da 2 ?_
       refine dq_pure rfl (fun s => .op rfl (.nil)) (fun s hs _ => loc_call (plan23_spec _) rfl) (by exact .nil) ?_
       refine da 3 ?_
       refine dq_pure rfl (fun s => .op rfl (.op rfl (.op rfl (.op rfl (.op rfl (.nil)))))) (fun s hs _ => loc_call (rcurq_spec _ _ _ _ _ _) rfl) (by exact .nil) ?_
       refine da 4 ?_
       refine dq_write0 rfl (fun s => .g rfl (.op rfl (.nil))) rfl rfl (fun s hs => loc_storeN (ho := (by show OneAll [_, _]; infer_instance)) rfl rfl rfl) (by exact .nil) ?_
       refine da 1 ?_
       refine dq_end (rs := [_]) () rfl (fun _ => rfl) (.nil) rfl (fun _ => rfl) (fun _ _ => ?_)
       dsimp only [outG, outM, List.map, List.set, id]
       refine run_retGP Tryz.func166 rfl (.tmp rfl (.cellN rfl (.here) (by rfl) (.tmp rfl (.nil)))) ?_ (fun _ _ h => inv_tail (h))
       exact d_tup3 (d_toRows (by unfold qryL; rw [if_neg hno, if_neg c4, if_pos c5]) (fun _ _ h => h)) (d_toTape (by unfold qryT; rw [if_neg hno, if_neg c4, if_pos c5]) (fun _ _ h => h)) (d_int (by unfold qryE; rw [if_neg (by omega), if_neg (by omega), if_neg c4, if_pos c5]))
      ·
       have c5 := h6
       refine au 3 ?_
       have hk3 := shape_kind c1.1
       have hun := units_ok (n := n) c1.1 (by omega)
       rw [if_pos (by omega)] at hun
       have hg1 : 1 ≤ sc.group := by have h7 := c1.1; unfold shapeS at h7; omega
       refine dr_start _ (.none) [⟨[(6, none)], [], none⟩,
           ⟨[(5, none)], [], none⟩,
           ⟨[(60, some (1, false))], [1], none⟩,
           ⟨[(5, none)], [], none⟩,
           ⟨[(2, none)], [], none⟩,
           ⟨[(62, some (3, false)), (63, some (4, false))], [1, 2, 3, 4], none⟩,
           ⟨[(3, none)], [], none⟩,
           ⟨[(5, none)], [], none⟩,
           ⟨[(66, some (7, false))], [7], none⟩,
           ⟨[(65, some (6, false)), (67, some (8, false))], [6, 7, 8], none⟩,
           ⟨[(9, none)], [], none⟩,
           ⟨[(59, some (0, false)), (61, some (2, false)), (64, some (5, false)), (68, some (9, false)), (69, some (10, false))], [0, 1, 2, 3, 4, 5, 6, 7, 8, 9, 10], none⟩,
           ⟨[(70, some (11, false))], [0, 1, 2, 3, 4, 5, 6, 7, 8, 9, 10, 11], none⟩,
           ⟨[(70, some (11, false))], [0, 1, 2, 3, 4, 5, 6, 7, 8, 9, 10, 11], none⟩,
           ⟨[(70, some (11, false))], [0, 1, 2, 3, 4, 5, 6, 7, 8, 9, 10, 11], none⟩,
           ⟨[(71, some (12, false))], [0, 1, 2, 3, 4, 5, 6, 7, 8, 9, 10, 11, 12, 13, 14], none⟩,
           ⟨[(11, none), (72, some (13, false))], [0, 1, 2, 3, 4, 5, 6, 7, 8, 9, 10, 11, 12, 13, 14, 15], some (0, 0, true)⟩,
           ⟨[(73, some (14, false))], [0, 1, 2, 3, 4, 5, 6, 7, 8, 9, 10, 11, 12, 13, 14, 15, 16], none⟩] [_] _ rfl rfl ?_
       refine da 2 ?_
       refine dq_pure rfl (fun s => .op rfl (.nil)) (fun s hs _ => loc_call (sto23_spec _) rfl) (by exact .nil) ?_
       refine da 2 ?_
       refine dq_pure rfl (fun s => .op rfl (.op rfl (.nil))) (fun s hs _ => loc_call (runits_spec _ _) rfl) (by exact .nil) ?_
       refine da 5 ?_
       refine dq_pure rfl (fun s => .op rfl (.op rfl (.op rfl (.op rfl (.op rfl (.nil)))))) (fun s hs _ => loc_call (rcodq_spec _ _ _ _ _ _ _) rfl) (by exact .nil) ?_
       refine da 4 ?_
       refine dq_write0 rfl (fun s => .g rfl (.op rfl (.nil))) rfl rfl (fun s hs => loc_storeN (ho := (by show OneAll [_, _]; infer_instance)) rfl rfl rfl) (by exact .nil) ?_
       refine da 1 ?_
       refine dq_end (rs := [_]) () rfl (fun _ => rfl) (.nil) rfl (fun _ => rfl) (fun _ _ => ?_)
       dsimp only [outG, outM, List.map, List.set, id]
       refine run_retGP Tryz.func166 rfl (.tmp rfl (.cellN rfl (.here) (by rfl) (.tmp rfl (.nil)))) ?_ (fun _ _ h => inv_tail (h))
       exact d_tup3 (d_toRows (by unfold qryL; rw [if_neg hno, if_neg c4, if_neg c5, ← hun]) (fun _ _ h => h)) (d_toTape (by unfold qryT; rw [if_neg hno, if_neg c4, if_neg c5, ← hun]) (fun _ _ h => h)) (d_int (by unfold qryE; rw [if_neg (by omega), if_neg (by omega), if_neg c4, if_neg c5, ← hun]))
theorem rwval_spec (rows : List Int) (n : Int) : SpecP Tryz.prog 127 [dInts rows, dInt .i64 n] (dB (okW n rows)) := by
  refine specP_of_body Tryz.func127 rfl rfl (fun I M => ?_)
  refine au 8 ?_
  first | refine runL_fact (s := 6) rfl (fun _ _ h => dSl_len h) (fun hlen1 => ?_) | skip
  refine au 19 ?_
  refine run_cond rfl (fun h2 => ?_) (fun h2 => ?_)
  ·
   have c1 := h2
   refine au 4 ?_
   refine run_retP Tryz.func127 rfl rfl ?_
   exact d_B (by unfold okW; constructor; (· exact False.elim); (· rintro ⟨a, b, _⟩; omega))
  ·
   have c1 := h2
   refine au 7 ?_
   refine run_loopC (σ := Nat) (ks := [0, 1]) (.cons rfl (.cons rfl (.nil))) (fun k => [(5, dInt .i64 (k : Nat))]) (fun k => k ≤ rows.length ∧ (∀ j, j < k → -1 ≤ rows[j]?.getD default ∧ rows[j]?.getD default ≤ n - 1)) (fun k => rows.length - k) (0) (⟨by omega, fun j hj => by omega⟩) (.cons rfl (by first | exact fun _ _ h => h | exact d_int (by omega) | exact d_int (by simp) | exact d_intN (by omega) | exact d_any) .nil) ?_
   rintro k ⟨hk, hbk⟩ ih3
   refine au 5 ?_
   first | refine runL_fact (s := 23) rfl (fun _ _ h => dSl_len h) (fun hlen4 => ?_) | skip
   refine au 3 ?_
   refine run_cond rfl (fun h5 => ?_) (fun h5 => ?_)
   ·
    refine au 20 ?_
    refine run_cond rfl (fun h6 => ?_) (fun h6 => ?_)
    ·
     refine au 4 ?_
     refine run_retP Tryz.func127 rfl rfl ?_
     exact d_B (by unfold okW; constructor; (· exact False.elim); (· rintro ⟨_, _, c⟩; have := c _ (getD_mem (k := k) (by omega)); omega))
    ·
     refine au 7 ?_
     exact run_againC ih3 (k + 1) (⟨by omega, fun j hj => by by_cases e : j = k; (· subst e; omega); (· exact hbk j (by omega))⟩) (by omega) (.cons rfl (by first | exact fun _ _ h => h | exact d_int (by omega) | exact d_int (by simp) | exact d_intN (by omega) | exact d_any) .nil) (.cons rfl (fun _ _ x => x) (.cons rfl (fun _ _ x => x) (.nil)))
   ·
    refine au 5 ?_
    refine run_retP Tryz.func127 rfl rfl ?_
    exact d_B (by unfold okW; refine ⟨fun _ => ⟨by omega, by omega, fun r hr => ?_⟩, fun _ => trivial⟩; obtain ⟨i, hi, rfl⟩ := List.mem_iff_getElem.1 hr; have := hbk i (by omega); simpa [hi] using this)
theorem rwq_spec (sc : Schm) (p n : Int) (rows : List Int) (t : Tape) : SpecP Tryz.prog 128 [dSchm sc, dAgg [dInt .i64 p], dInt .i64 n, dInts rows, dTape t] (dTup [dQs (wqL sc p n rows t), dTape (wqT sc p n rows t), dInt .i64 (wqE sc p n rows t)]) := by
  refine specP_of_body Tryz.func128 rfl rfl (fun I M => ?_)
  refine au 4 ?_
  refine run_new (loc_boxOwnN rfl) rfl (fun b9 _ => ?_)
  refine au 1 ?_
  refine run_new (loc_allocOwn (by simp)) rfl (fun b1 _ => ?_)
  refine au 7 ?_
  refine run_op (loc_call (rvalid_spec _ _) rfl) rfl ?_
  refine au 2 ?_
  refine run_cond rfl (fun h2 => ?_) (fun h2 => ?_)
  ·
   have c1 := h2
   refine au 7 ?_
   refine run_retGP Tryz.func128 rfl (.tmp rfl (.cellN rfl (.here) (by rfl) (.tmp rfl (.nil)))) ?_ (fun _ _ h => inv_tail (inv_tail (h)))
   exact d_tup3 (d_toQs (by unfold wqL wqE; rw [if_pos c1, if_neg (by omega)]) d_nil) (d_toTape (by unfold wqT wqE; rw [if_pos c1, if_neg (by omega)]) (d_aggU (.cons d_nil (.cons (d_int rfl) .nil)))) (d_int (by unfold wqE; rw [if_pos c1]))
  ·
   have c1 := Classical.not_not.1 h2
   refine au 6 ?_
   refine run_op (loc_call (rwval_spec _ _) rfl) rfl ?_
   refine au 2 ?_
   refine run_cond rfl (fun h3 => ?_) (fun h3 => ?_)
   ·
    have c2 := h3
    refine au 7 ?_
    refine run_retGP Tryz.func128 rfl (.tmp rfl (.cellN rfl (.here) (by rfl) (.tmp rfl (.nil)))) ?_ (fun _ _ h => inv_tail (inv_tail (h)))
    exact d_tup3 (d_toQs (by unfold wqL wqE; rw [if_neg (Classical.not_not.2 c1), if_pos c2, if_neg (by omega)]) d_nil) (d_toTape (by unfold wqT wqE; rw [if_neg (Classical.not_not.2 c1), if_pos c2, if_neg (by omega)]) (d_aggU (.cons d_nil (.cons (d_int rfl) .nil)))) (d_int (by unfold wqE; rw [if_neg (Classical.not_not.2 c1), if_pos c2]))
   ·
    have c2 := Classical.not_not.1 h3
    refine au 11 ?_
    refine run_rowNil 30 1 fQ ?_
    refine run_front (.here) ?_
    refine run_front (.there (.there (.here))) ?_
    refine run_loopF (σ := Value × Nat) (ks := [2, 3, 5, 6, 9, 11]) (.cons rfl (.cons rfl (.cons rfl (.cons rfl (.cons rfl (.cons rfl (.nil))))))) (fun q => [(13, dVal q.1), (14, dInt .i64 (q.2 : Nat))]) (fun q => [rCells b9 122 (cTape (qsT sc p n (rows.take q.2) t)), rRow q.1 30 1 fQ (qsL sc p n (rows.take q.2) t)]) (fun q => q.2 ≤ rows.length ∧ qsE sc p n (rows.take q.2) t = 0) (fun q => rows.length - q.2) ((.slice none 0 0, 0)) (⟨Nat.zero_le _, by simp [qsE]⟩) (.cons rfl (by first | exact fun _ _ h => h | exact d_int (by omega) | exact d_int (by simp) | exact d_intN (by omega) | exact d_any) (.cons rfl (by first | exact fun _ _ h => h | exact d_int (by omega) | exact d_int (by simp) | exact d_intN (by omega) | exact d_any) .nil)) (rfl) ?_
    rintro q ⟨hql, hq0⟩ ih4
    have hqn : (qsL sc p n (rows.take q.2) t).length = q.2 := by rw [qsL_len, List.length_take]; omega
    have hw16 := c2.2.1
    refine au 5 ?_
    first | refine runL_fact (s := 29) rfl (fun _ _ h => dSl_len h) (fun hlen5 => ?_) | skip
    refine au 3 ?_
    refine run_cond rfl (fun h6 => ?_) (fun h6 => ?_)
    ·
     refine au 4 ?_
     refine run_addNone ?_
     refine dr_start _ (.one (σ := Nat) 14 (fun _ => True)) [⟨[(5, none)], [], none⟩,
         ⟨[(6, none)], [], none⟩,
         ⟨[(2, none)], [], none⟩,
         ⟨[(3, none)], [], none⟩,
         ⟨[(14, none)], [], none⟩,
         ⟨[(38, some (3, false)), (39, some (4, false))], [3, 4], none⟩,
         ⟨[(40, some (5, false))], [3, 4, 5], none⟩,
         ⟨[(41, some (6, false))], [3, 4, 5, 6], none⟩,
         ⟨[(9, none)], [], some (1, 0, false)⟩,
         ⟨[(35, some (0, false)), (36, some (1, false)), (37, some (2, false)), (42, some (7, false)), (43, some (8, false))], [0, 1, 2, 3, 4, 5, 6, 7, 8], none⟩,
         ⟨[(44, some (9, false))], [0, 1, 2, 3, 4, 5, 6, 7, 8, 9], none⟩,
         ⟨[(34, some (10, false))], [0, 1, 2, 3, 4, 5, 6, 7, 8, 9, 10], none⟩,
         ⟨[(34, some (10, false))], [0, 1, 2, 3, 4, 5, 6, 7, 8, 9, 10], none⟩,
         ⟨[(34, some (10, false))], [0, 1, 2, 3, 4, 5, 6, 7, 8, 9, 10], none⟩,
         ⟨[], [], some (0, 0, true)⟩,
         ⟨[(45, some (11, false))], [0, 1, 2, 3, 4, 5, 6, 7, 8, 9, 10, 11, 14], none⟩,
         ⟨[(16, some (14, false)), (46, some (12, false))], [0, 1, 2, 3, 4, 5, 6, 7, 8, 9, 10, 11, 12, 14, 15], some (0, 1, true)⟩,
         ⟨[(47, some (13, false))], [0, 1, 2, 3, 4, 5, 6, 7, 8, 9, 10, 11, 12, 13, 14, 15, 16], none⟩] [_, _, _, _] _ rfl rfl ?_
     refine da 7 ?_
     refine dq_pure rfl (fun s => .op rfl (.nil)) (fun s hs _ => loc_max rfl rfl) (by exact .cons (.inr fun _ _ _ => rfl) (.nil)) ?_
     refine da 1 ?_
     refine dq_pure rfl (fun s => .op rfl (.op rfl (.op rfl (.op rfl (.op rfl (.nil)))))) (fun s hs _ => loc_call (rqry23_spec _ _ _ _ _) rfl) (by exact .cons (.inr fun _ _ _ => rfl) (.nil)) ?_
     refine da 4 ?_
     refine dq_choose id (fun _ t => t) rfl (fun _ _ => ⟨rfl, id, trivial⟩) (fun s => .nil) rfl rfl (fun s hs => locM_new (loc_allocOwn (by simp))) (by exact .cons (.inl rfl) (.nil)) (fun _ _ => rfl) ?_
     refine da 1 ?_
     refine dq_write0 rfl (fun s => .op rfl (.op rfl (.nil))) rfl rfl (fun s hs => loc_storeN (ho := (by show OneAll [_, _]; infer_instance)) rfl rfl rfl) (by exact .cons (.inl rfl) (.nil)) ?_
     refine da 1 ?_
     refine dq_end (rs := [_, _, _, _]) 0 rfl (fun _ => rfl) (.cons rfl (.nil)) rfl (fun _ => rfl) (fun b7 _ => ?_)
     dsimp only [outG, outM, List.map, List.set, id]
     refine au 6 ?_
     refine run_cond rfl (fun h8 => ?_) (fun h8 => ?_)
     ·
      have c5 := h8
      refine au 8 ?_
      have hE : wqE sc p n rows t = qryE sc p n (max (rows[q.2]?.getD default) 0) (qsT sc p n (rows.take q.2) t) := by unfold wqE; rw [if_neg (Classical.not_not.2 c1), if_neg (Classical.not_not.2 c2), qs_stop (by omega) hq0 c5]
      refine run_retGP Tryz.func128 rfl (.tmp rfl (.cellN rfl (.there (.there (.there (.here)))) (by rfl) (.tmp rfl (.nil)))) ?_ (fun _ _ h => inv_tail (inv_tail (inv_tail (inv_tail (h)))))
      exact d_tup3 (d_toQs (by unfold wqL; rw [hE, if_neg c5]) d_nil) (d_toTape (by unfold wqT; rw [hE, if_neg c5]) (d_aggU (.cons d_nil (.cons (d_int rfl) .nil)))) (d_int hE.symm)
     ·
      have c5 := Classical.not_not.1 h8
      refine au 1 ?_
      refine dr_start _ (.one (σ := Value) 3 (fun _ => True)) [⟨[(13, none)], [], none⟩,
          ⟨[(15, none)], [], none⟩,
          ⟨[(53, some (1, false))], [1], none⟩,
          ⟨[(52, some (0, false)), (54, some (2, false))], [0, 1, 2], some (2, 0, true)⟩,
          ⟨[(16, none)], [], some (0, 0, false)⟩,
          ⟨[(55, some (3, false))], [0, 1, 2, 3], none⟩,
          ⟨[(9, none), (56, some (4, false))], [0, 1, 2, 3, 4, 5], some (1, 0, true)⟩] [_, _, _, _] _ rfl rfl ?_
      refine da 2 ?_
      refine dq_pure rfl (fun s => .op rfl (.nil)) (fun s hs _ => loc_buildSlice rfl rfl (.one rfl (.nil)) rfl rfl) (by exact .cons (.inr fun _ _ _ => rfl) (.nil)) ?_
      refine dq_choose id (fun _ t => t) rfl (fun _ _ => ⟨rfl, id, trivial⟩) (fun s => .op rfl (.op rfl (.nil))) rfl rfl (fun s hs => loc_append1 _ rfl rfl rfl rfl (by first | omega | (simp [lenMax]; omega) | (simp [lenMax]; done) | assumption) (by first | omega | (simp [lenMax]; omega) | (simp [lenMax]; done) | assumption)) (by exact .cons (.inl rfl) (.nil)) (fun _ _ => rfl) ?_
      refine da 2 ?_
      refine dq_write0 rfl (fun s => .g rfl (.op rfl (.nil))) rfl rfl (fun s hs => loc_storeN (ho := (by show OneAll [_, _]; infer_instance)) rfl rfl rfl) (by exact .cons (.inl rfl) (.nil)) ?_
      refine dq_end (rs := [_, _, _, _]) (.bool true) rfl (fun _ => rfl) (.cons rfl (.nil)) rfl (fun _ => rfl) (fun v9 _ => ?_)
      dsimp only [outG, outM, List.map, List.set, id]
      refine au 6 ?_
      refine run_drop (.cons _ (.refl _)) ?_
      exact run_againF ih4 ((v9, q.2 + 1)) (⟨by simp only; omega, (qs_step (by omega) hq0 c5).1⟩) (by simp only; omega) (.cons rfl (by first | exact fun _ _ h => h | exact d_int (by omega) | exact d_int (by simp) | exact d_intN (by omega) | exact d_any) (.cons rfl (by first | exact fun _ _ h => h | exact d_int (by omega) | exact d_int (by simp) | exact d_intN (by omega) | exact d_any) .nil)) (.cons rfl (fun _ _ x => x) (.cons rfl (fun _ _ x => x) (.cons rfl (fun _ _ x => x) (.cons rfl (fun _ _ x => x) (.cons rfl (fun _ _ x => x) (.cons rfl (fun _ _ x => x) (.nil))))))) (by simp only [appR]; rw [(qs_step (by omega) hq0 c5).2.1, (qs_step (by omega) hq0 c5).2.2]; rfl)
    ·
     refine au 2 ?_
     have hall : rows.take q.2 = rows := List.take_of_length_le (by omega)
     have hE : wqE sc p n rows t = 0 := by unfold wqE; rw [if_neg (Classical.not_not.2 c1), if_neg (Classical.not_not.2 c2), ← hall]; exact hq0
     refine run_freezeRow (s := 13) rfl (.there (.here)) ?_
     refine dr_start _ (.none) [⟨[(13, none)], [], none⟩,
         ⟨[(9, none)], [], some (0, 0, false)⟩,
         ⟨[(57, some (0, false))], [0], none⟩,
         ⟨[(11, none), (58, some (1, false))], [0, 1, 2], some (1, 0, true)⟩,
         ⟨[], [0, 1, 2, 3], none⟩] [_, _] _ rfl rfl ?_
     refine da 3 ?_
     refine dq_write0 rfl (fun s => .g rfl (.op rfl (.nil))) rfl rfl (fun s hs => loc_storeN (ho := (by show OneAll [_, _]; infer_instance)) rfl rfl rfl) (by exact .nil) ?_
     refine da 1 ?_
     refine dq_end (rs := [_, _]) () rfl (fun _ => rfl) (.nil) rfl (fun _ => rfl) (fun _ _ => ?_)
     dsimp only [outG, outM, List.map, List.set, id]
     refine run_retGP Tryz.func128 rfl (.tmp rfl (.cellN rfl (.there (.here)) (by rfl) (.tmp rfl (.nil)))) ?_ (fun _ _ h => inv_tail (inv_tail (h)))
     exact d_tup3 (d_toQs (t' := qsL sc p n (rows.take q.2) t) (by unfold wqL; rw [if_pos hE, hall]) (fun _ _ h => h)) (d_toTape (t' := qsT sc p n (rows.take q.2) t) (by unfold wqT; rw [if_pos hE, hall]) (fun _ _ h => h)) (d_int hE.symm)
end Go.Q

namespace Go.Q
open Go.Proofs
open Classical
theorem rbegin_spec (rd : Int) (sc : Schm) (hd : Hd) (rows : List Int) (t : Tape) : SpecP Tryz.prog 81 [dInt .i64 rd, dSchm sc, dHd hd, dInts rows, dTape t] (dTup [dRdr (bgR rd sc hd rows t), dTape (bgT rd sc hd rows t), dInt .i64 (bgE rd sc hd rows t)]) := by
  refine specP_of_body Tryz.func81 rfl rfl (fun I M => ?_)
  refine au 5 ?_
  refine run_new (loc_allocOwn (by simp)) rfl (fun b1 _ => ?_)
  refine run_new (loc_allocOwn (by simp)) rfl (fun b2 _ => ?_)
  refine au 8 ?_
  refine run_cond rfl (fun h3 => ?_) (fun h3 => ?_)
  ·
   have c1 := h3
   refine au 8 ?_
   have hE : bgE rd sc hd rows t = 1 := by unfold bgE; rw [if_pos c1]
   refine run_retGP Tryz.func81 rfl (.cellN rfl (.there (.here)) (by rfl) (.cellN rfl (.here) (by rfl) (.tmp rfl (.nil)))) ?_ (fun _ _ h => inv_tail (inv_tail (h)))
   exact d_tup3 (d_toRdr (by unfold bgR; rw [if_neg (by rw [hE]; omega)]) (d_aggU (.cons (d_int rfl) (.cons (d_int rfl) (.cons (d_int rfl) (.cons (d_int rfl) (.cons (d_int rfl) (.cons (d_int rfl) (.cons (d_int rfl) (.cons (d_int rfl) (.cons (d_int rfl) (.cons (d_int rfl) (.cons d_nil (.cons d_nil (.cons d_nil (.cons d_nil (.cons (d_B Iff.rfl) .nil))))))))))))))))) (d_toTape (by unfold bgT; rw [if_neg (by rw [hE]; omega)]) (d_aggU (.cons d_nil (.cons (d_int rfl) .nil)))) (d_int hE.symm)
  ·
   have c1 := h3
   refine au 6 ?_
   refine run_new (loc_allocOwn (by simp)) rfl (fun b4 _ => ?_)
   refine au 7 ?_
   refine run_op (loc_call (rvalid_spec _ _) rfl) rfl ?_
   refine au 2 ?_
   refine run_cond rfl (fun h5 => ?_) (fun h5 => ?_)
   ·
    have c2 := h5
    refine au 8 ?_
    have hE : bgE rd sc hd rows t = 40 := by unfold bgE; rw [if_neg c1, if_pos c2]
    refine run_retGP Tryz.func81 rfl (.cellN rfl (.there (.there (.here))) (by rfl) (.cellN rfl (.there (.here)) (by rfl) (.tmp rfl (.nil)))) ?_ (fun _ _ h => inv_tail (inv_tail (inv_tail (h))))
    exact d_tup3 (d_toRdr (by unfold bgR; rw [if_neg (by rw [hE]; omega)]) (d_aggU (.cons (d_int rfl) (.cons (d_int rfl) (.cons (d_int rfl) (.cons (d_int rfl) (.cons (d_int rfl) (.cons (d_int rfl) (.cons (d_int rfl) (.cons (d_int rfl) (.cons (d_int rfl) (.cons (d_int rfl) (.cons d_nil (.cons d_nil (.cons d_nil (.cons d_nil (.cons (d_B Iff.rfl) .nil))))))))))))))))) (d_toTape (by unfold bgT; rw [if_neg (by rw [hE]; omega)]) (d_aggU (.cons d_nil (.cons (d_int rfl) .nil)))) (d_int hE.symm)
   ·
    have c2 := Classical.not_not.1 h5
    have hbd := shape_bd c2.1
    refine au 7 ?_
    refine run_op (loc_call (rwval_spec _ _) rfl) rfl ?_
    refine au 14 ?_
    refine run_cond rfl (fun h6 => ?_) (fun h6 => ?_)
    ·
     have c3 : ¬ okW hd.count rows ∨ hd.width < 1 ∨ hd.width > 64 := by rcases h6 with (h | h) | h; (· exact .inl h); (· exact .inr (.inl h)); (· exact .inr (.inr h))
     refine au 8 ?_
     have hE : bgE rd sc hd rows t = 41 := by unfold bgE; rw [if_neg c1, if_neg (Classical.not_not.2 c2), if_pos c3]
     refine run_retGP Tryz.func81 rfl (.cellN rfl (.there (.there (.here))) (by rfl) (.cellN rfl (.there (.here)) (by rfl) (.tmp rfl (.nil)))) ?_ (fun _ _ h => inv_tail (inv_tail (inv_tail (h))))
     exact d_tup3 (d_toRdr (by unfold bgR; rw [if_neg (by rw [hE]; omega)]) (d_aggU (.cons (d_int rfl) (.cons (d_int rfl) (.cons (d_int rfl) (.cons (d_int rfl) (.cons (d_int rfl) (.cons (d_int rfl) (.cons (d_int rfl) (.cons (d_int rfl) (.cons (d_int rfl) (.cons (d_int rfl) (.cons d_nil (.cons d_nil (.cons d_nil (.cons d_nil (.cons (d_B Iff.rfl) .nil))))))))))))))))) (d_toTape (by unfold bgT; rw [if_neg (by rw [hE]; omega)]) (d_aggU (.cons d_nil (.cons (d_int rfl) .nil)))) (d_int hE.symm)
    ·
     have c3 : ¬ (¬ okW hd.count rows ∨ hd.width < 1 ∨ hd.width > 64) := fun h => h6 (by rcases h with h | h | h; (· exact .inl (.inl h)); (· exact .inl (.inr h)); (· exact .inr h))
     have hkw : okW hd.count rows := Classical.not_not.1 fun h => c3 (.inl h)
     have hk16 := hkw.2.1
     refine au 9 ?_
     refine run_op (loc_call (rwq_spec _ _ _ _ _) rfl) rfl ?_
     refine au 4 ?_
     refine run_new (loc_allocOwn (by simp)) rfl (fun b7 _ => ?_)
     refine au 10 ?_
     refine run_cond rfl (fun h8 => ?_) (fun h8 => ?_)
     ·
      have c4 := h8
      refine au 9 ?_
      have hE : bgE rd sc hd rows t = wqE sc hd.p hd.count rows t := by unfold bgE; rw [if_neg c1, if_neg (Classical.not_not.2 c2), if_neg c3]
      refine run_retGP Tryz.func81 rfl (.cellN rfl (.there (.there (.there (.here)))) (by rfl) (.cellN rfl (.there (.there (.here))) (by rfl) (.tmp rfl (.nil)))) ?_ (fun _ _ h => inv_tail (inv_tail (inv_tail (inv_tail (h)))))
      exact d_tup3 (d_toRdr (by unfold bgR; rw [if_neg (by rw [hE]; exact c4)]) (d_aggU (.cons (d_int rfl) (.cons (d_int rfl) (.cons (d_int rfl) (.cons (d_int rfl) (.cons (d_int rfl) (.cons (d_int rfl) (.cons (d_int rfl) (.cons (d_int rfl) (.cons (d_int rfl) (.cons (d_int rfl) (.cons d_nil (.cons d_nil (.cons d_nil (.cons d_nil (.cons (d_B Iff.rfl) .nil))))))))))))))))) (d_toTape (by unfold bgT; rw [if_neg (by rw [hE]; exact c4)]) (d_aggU (.cons d_nil (.cons (d_int rfl) .nil)))) (d_int hE.symm)
     ·
      have c4 := Classical.not_not.1 h8
      refine au 2 ?_
      refine run_addNone ?_
      refine run_addNone ?_
      refine dr_start _ (.two (τ1 := Nat) (τ2 := Nat) 3 8 (fun _ => True) (fun _ => True)) [⟨[(0, none)], [], none⟩,
          ⟨[(6, none)], [], none⟩,
          ⟨[(7, none)], [], none⟩,
          ⟨[], [], some (1, 0, true)⟩,
          ⟨[(3, none)], [], none⟩,
          ⟨[(68, some (3, false)), (69, some (4, false))], [3, 4], some (1, 1, true)⟩,
          ⟨[(14, none)], [], none⟩,
          ⟨[(65, some (0, false)), (66, some (1, false)), (67, some (2, false)), (70, some (5, false)), (71, some (6, false))], [0, 1, 2, 3, 4, 5, 6], none⟩,
          ⟨[], [], some (0, 0, true)⟩,
          ⟨[(17, some (8, false)), (72, some (7, false))], [0, 1, 2, 3, 4, 5, 6, 7, 8], some (0, 1, true)⟩] [_, _, _, _, _, _] _ rfl rfl ?_
      refine da 3 ?_
      refine dq_choose Prod.fst (fun s t => (t, s.2)) rfl (fun _ _ => ⟨rfl, id, rfl⟩) (fun s => .nil) rfl rfl (fun s hs => locM_new (loc_build0 fI)) (by exact .cons (.inl rfl) (.cons (.inr (.inr fun ⟨a, b⟩ ⟨c, d⟩ h => by have h : c = a := h; subst h; exact rfl)) (.nil))) (fun _ _ => rfl) ?_
      refine da 1 ?_
      refine dq_write rfl (fun s => .op rfl (.op rfl (.nil))) rfl rfl (fun s hs => LocM.frz (loc_append rfl rfl rfl (by first | omega | (simp [lenMax]; omega) | (simp [lenMax]; done) | assumption) (by first | omega | (simp [lenMax]; omega) | (simp [lenMax]; done) | assumption)) rfl) (by exact .cons (.inl rfl) (.cons (.inr fun ⟨a, b⟩ ⟨c, d⟩ h => by have h : c = a := h; subst h; exact ⟨rfl, rfl⟩) (.nil))) ?_
      refine da 2 ?_
      refine dq_choose Prod.snd (fun s t => (s.1, t)) rfl (fun _ _ => ⟨rfl, id, rfl⟩) (fun s => .nil) rfl rfl (fun s hs => locM_new (loc_allocOwn (by simp))) (by exact .cons (.inr (.inr fun ⟨a, b⟩ ⟨c, d⟩ h => by have h : d = b := h; subst h; exact rfl)) (.cons (.inl rfl) (.nil))) (fun _ _ => rfl) ?_
      refine dq_write0 rfl (fun s => .op rfl (.op rfl (.nil))) rfl rfl (fun s hs => loc_storeN (ho := (by show OneAll [_, _, _, _, _, _, _, _, _, _, _, _, _, _, _]; infer_instance)) rfl rfl rfl) (by exact .cons (.inl rfl) (.cons (.inl rfl) (.nil))) ?_
      refine dq_end (rs := [_, _, _, _, _, _]) (0, 0) rfl (fun _ => rfl) (.cons rfl (.cons rfl (.nil))) rfl (fun _ => rfl) (fun s9 _ => ?_)
      obtain ⟨b68, b17⟩ := s9
      dsimp only [outG, outM, List.map, List.set, id]
      refine au 6 ?_
      refine run_rowNil 137 1 fAs ?_
      refine run_rowNil 44 1 fR ?_
      refine run_cellsUp (kk := 12) (b := b17) (dVal (.slice none 0 0)) (dSlV (.slice none 0 0)) (.there (.there (.here))) rfl (fun J u h => ⟨h, _, _, _, h⟩) ?_
      refine run_cellsUp (kk := 13) (b := b17) (dVal (.slice none 0 0)) (dSlV (.slice none 0 0)) (.there (.there (.here))) rfl (fun J u h => ⟨h, _, _, _, h⟩) ?_
      refine run_front (.here) ?_
      refine run_front (.there (.here)) ?_
      refine run_front (.there (.there (.here))) ?_
      refine run_loopF (σ := Value × Value × Nat) (ks := [3, 6, 10, 11, 15, 17]) (.cons rfl (.cons rfl (.cons rfl (.cons rfl (.cons rfl (.cons rfl (.nil))))))) (fun q => [(18, dInt .i64 (q.2.2 : Nat))]) (fun q => [rCells b17 76 [dInt .i64 rd, dInt .i64 sc.kind, dInt .i64 sc.servers, dInt .i64 sc.degree, dInt .i64 sc.group, dInt .i64 hd.number, dInt .i64 hd.p, dInt .i64 hd.count, dInt .i64 hd.width, dInt .i64 hd.root, dInts rows, dQs (wqL sc hd.p hd.count rows t), dSlV q.1, dSlV q.2.1, dB False], rRow q.1 137 1 fAs (List.replicate q.2.2 (List.replicate sc.servers.toNat ⟨False, []⟩)), rRow q.2.1 44 1 fR (List.replicate q.2.2 (List.replicate sc.servers.toNat 0))]) (fun q => q.2.2 ≤ rows.length) (fun q => rows.length - q.2.2) ((.slice none 0 0, .slice none 0 0, 0)) (Nat.zero_le _) (.cons rfl (by first | exact fun _ _ h => h | exact d_int (by omega) | exact d_int (by simp) | exact d_intN (by omega) | exact d_any) .nil) (rfl) ?_
      intro q hq ih11
      have hla : (List.replicate q.2.2 (List.replicate sc.servers.toNat (⟨False, []⟩ : Ans))).length = q.2.2 := List.length_replicate
      have hlm : (List.replicate q.2.2 (List.replicate sc.servers.toNat (0 : Int))).length = q.2.2 := List.length_replicate
      refine au 5 ?_
      first | refine runL_fact (s := 74) rfl (fun _ _ h => dSl_len h) (fun hlen12 => ?_) | skip
      refine au 3 ?_
      refine run_cond rfl (fun h13 => ?_) (fun h13 => ?_)
      ·
       refine au 4 ?_
       refine dr_start _ (.one (σ := Value) 6 (fun _ => True)) [⟨[(17, none)], [], none⟩,
           ⟨[(79, some (0, false))], [0], some (0, 0, false)⟩,
           ⟨[(6, none)], [], none⟩,
           ⟨[(81, some (2, false))], [2], none⟩,
           ⟨[(82, some (3, false)), (82, some (3, false))], [2, 3], none⟩,
           ⟨[(83, some (4, false))], [2, 3, 4], none⟩,
           ⟨[(80, some (1, false)), (84, some (5, false))], [0, 1, 2, 3, 4, 5], some (1, 0, true)⟩,
           ⟨[(17, none)], [0, 1, 2, 3, 4, 5, 6], none⟩,
           ⟨[(86, some (7, false)), (85, some (6, false))], [0, 1, 2, 3, 4, 5, 6, 7], some (0, 0, true)⟩] [_, _, _, _, _, _, _, _] _ rfl rfl ?_
       refine da 1 ?_
       first | refine dq_read rfl (fun s => .op rfl (.nil)) rfl rfl (fun s hs _ hm => LocP.upV (loc_loadOwn1 rfl hm (by rfl))) (by exact .cons (.inr fun _ _ _ => rfl) (.nil)) ?_ | refine dq_read rfl (fun s => .op rfl (.nil)) rfl rfl (fun s hs _ hm => loc_loadOwn1 rfl hm (by rfl)) (by exact .cons (.inr fun _ _ _ => rfl) (.nil)) ?_
       refine da 2 ?_
       refine dq_pure rfl (fun s => .op rfl (.op rfl (.nil))) (fun s hs _ => loc_makeFrzN (m := sc.servers.toNat) rfl rfl (by omega) (by omega) (by omega) rfl (by decide) (by simp) cAns ⟨False, []⟩ (fun J vs h => ansUp h) rfl) (by exact .cons (.inr fun _ _ _ => rfl) (.nil)) ?_
       refine dq_pure rfl (fun s => .op rfl (.nil)) (fun s hs _ => loc_buildSlice rfl rfl (.one rfl (.nil)) rfl rfl) (by exact .cons (.inr fun _ _ _ => rfl) (.nil)) ?_
       refine dq_choose id (fun _ t => t) rfl (fun _ _ => ⟨rfl, id, trivial⟩) (fun s => .op rfl (.op rfl (.nil))) rfl rfl (fun s hs => LocM.rowV (loc_append1 _ rfl rfl rfl rfl (by first | omega | (simp [lenMax]; omega) | (simp [lenMax]; done) | assumption) (by first | omega | (simp [lenMax]; omega) | (simp [lenMax]; done) | assumption))) (by exact .cons (.inl rfl) (.nil)) (fun _ _ => rfl) ?_
       refine da 1 ?_
       refine dq_write0 rfl (fun s => .op rfl (.op rfl (.nil))) rfl rfl (fun s hs => loc_store1 rfl rfl rfl) (by exact .cons (.inl rfl) (.nil)) ?_
       refine dq_end (rs := [_, _, _, _, _, _, _, _]) (.bool true) rfl (fun _ => rfl) (.cons rfl (.nil)) rfl (fun _ => rfl) (fun v14 _ => ?_)
       dsimp only [outG, outM, List.map, List.set, id]
       refine dr_start _ (.one (σ := Value) 6 (fun _ => True)) [⟨[(17, none)], [], none⟩,
           ⟨[(87, some (0, false))], [0], some (0, 0, false)⟩,
           ⟨[(6, none)], [], none⟩,
           ⟨[(89, some (2, false))], [2], none⟩,
           ⟨[(90, some (3, false)), (90, some (3, false))], [2, 3], none⟩,
           ⟨[(91, some (4, false))], [2, 3, 4], none⟩,
           ⟨[(88, some (1, false)), (92, some (5, false))], [0, 1, 2, 3, 4, 5], some (2, 0, true)⟩,
           ⟨[(17, none)], [0, 1, 2, 3, 4, 5, 6], none⟩,
           ⟨[(94, some (7, false)), (93, some (6, false))], [0, 1, 2, 3, 4, 5, 6, 7], some (0, 0, true)⟩] [_, _, _, _, _, _, _, _] _ rfl rfl ?_
       refine da 1 ?_
       first | refine dq_read rfl (fun s => .op rfl (.nil)) rfl rfl (fun s hs _ hm => LocP.upV (loc_loadOwn1 rfl hm (by rfl))) (by exact .cons (.inr fun _ _ _ => rfl) (.nil)) ?_ | refine dq_read rfl (fun s => .op rfl (.nil)) rfl rfl (fun s hs _ hm => loc_loadOwn1 rfl hm (by rfl)) (by exact .cons (.inr fun _ _ _ => rfl) (.nil)) ?_
       refine da 2 ?_
       refine dq_pure rfl (fun s => .op rfl (.op rfl (.nil))) (fun s hs _ => loc_makeFrz rfl rfl (by omega) (by omega) (fun x => dInt .i64 x) 0 rfl (by simp)) (by exact .cons (.inr fun _ _ _ => rfl) (.nil)) ?_
       refine dq_pure rfl (fun s => .op rfl (.nil)) (fun s hs _ => loc_buildSlice rfl rfl (.one rfl (.nil)) rfl rfl) (by exact .cons (.inr fun _ _ _ => rfl) (.nil)) ?_
       refine dq_choose id (fun _ t => t) rfl (fun _ _ => ⟨rfl, id, trivial⟩) (fun s => .op rfl (.op rfl (.nil))) rfl rfl (fun s hs => LocM.rowV (loc_append1 _ rfl rfl rfl rfl (by first | omega | (simp [lenMax]; omega) | (simp [lenMax]; done) | assumption) (by first | omega | (simp [lenMax]; omega) | (simp [lenMax]; done) | assumption))) (by exact .cons (.inl rfl) (.nil)) (fun _ _ => rfl) ?_
       refine da 1 ?_
       refine dq_write0 rfl (fun s => .op rfl (.op rfl (.nil))) rfl rfl (fun s hs => loc_store1 rfl rfl rfl) (by exact .cons (.inl rfl) (.nil)) ?_
       refine dq_end (rs := [_, _, _, _, _, _, _, _]) (.bool true) rfl (fun _ => rfl) (.cons rfl (.nil)) rfl (fun _ => rfl) (fun v15 _ => ?_)
       dsimp only [outG, outM, List.map, List.set, id]
       refine au 6 ?_
       exact run_againF ih11 ((v14, v15, q.2.2 + 1)) (by simp only; omega) (by simp only; omega) (.cons rfl (by first | exact fun _ _ h => h | exact d_int (by omega) | exact d_int (by simp) | exact d_intN (by omega) | exact d_any) .nil) (.cons rfl (fun _ _ x => x) (.cons rfl (fun _ _ x => x) (.cons rfl (fun _ _ x => x) (.cons rfl (fun _ _ x => x) (.cons rfl (fun _ _ x => x) (.cons rfl (fun _ _ x => x) (.nil))))))) (by simp only [appR]; rw [List.replicate_succ', List.replicate_succ'])
      ·
       refine au 2 ?_
       first | refine run_freezeRowCellV (kk := 12) (.there (.here)) (.here) rfl ?_ | refine run_freezeRowCell (kk := 12) (.there (.here)) (.here) rfl ?_
       first | refine run_freezeRowCellV (kk := 13) (.there (.here)) (.here) rfl ?_ | refine run_freezeRowCell (kk := 13) (.there (.here)) (.here) rfl ?_
       refine dr_start _ (.none) [⟨[(17, none)], [], some (0, 0, false)⟩,
           ⟨[(15, none)], [], some (2, 0, false)⟩,
           ⟨[(10, none), (95, some (0, false))], [0], some (5, 0, true)⟩,
           ⟨[(11, none), (96, some (1, false))], [0, 1, 2], some (4, 0, true)⟩,
           ⟨[], [0, 1, 2, 3], none⟩] [_, _, _, _, _, _] _ rfl rfl ?_
       refine da 2 ?_
       refine dq_write0 rfl (fun s => .g rfl (.op rfl (.nil))) rfl rfl (fun s hs => loc_storeN (ho := (by show OneAll [_, _, _, _, _, _, _, _, _, _, _, _, _, _, _]; infer_instance)) rfl rfl rfl) (by exact .nil) ?_
       refine dq_write0 rfl (fun s => .g rfl (.op rfl (.nil))) rfl rfl (fun s hs => loc_storeN (ho := (by show OneAll [_, _]; infer_instance)) rfl rfl rfl) (by exact .nil) ?_
       refine da 1 ?_
       refine dq_end (rs := [_, _, _, _, _, _]) () rfl (fun _ => rfl) (.nil) rfl (fun _ => rfl) (fun _ _ => ?_)
       dsimp only [outG, outM, List.map, List.set, id]
       have hE : bgE rd sc hd rows t = 0 := by unfold bgE; rw [if_neg c1, if_neg (Classical.not_not.2 c2), if_neg c3]; exact c4
       refine run_retGP Tryz.func81 rfl (.cellN rfl (.there (.there (.there (.there (.there (.here)))))) (by rfl) (.cellN rfl (.there (.there (.there (.there (.here))))) (by rfl) (.tmp rfl (.nil)))) ?_ (fun _ _ h => inv_tail (inv_tail (inv_tail (inv_tail (inv_tail (inv_tail (h)))))))
       exact d_tup3 (d_toRdr (t' := ⟨rd, sc, hd, rows, wqL sc hd.p hd.count rows t, List.replicate q.2.2 (List.replicate sc.servers.toNat ⟨False, []⟩), List.replicate q.2.2 (List.replicate sc.servers.toNat 0), False⟩) (by unfold bgR; rw [if_pos hE, show rows.length = q.2.2 by omega]) (fun _ _ h => h)) (d_toTape (by unfold bgT; rw [if_pos hE]) (fun _ _ h => h)) (d_int hE.symm)
theorem rnotes_spec (r : Rdr) (hr : r.queries.length ≤ 1000 ∧ ∀ q ∈ r.queries, q.length ≤ 1000 ∧ ∀ x ∈ q, x.length ≤ 100000) : SpecP Tryz.prog 83 [dRdr r] (dNts (notesN r.read r.head.number r.queries r.queries.length)) := by
  refine specP_of_body Tryz.func83 rfl rfl (fun I M => ?_)
  refine au 15 ?_
  refine run_rowNil 46 8 cNte ?_
  refine run_loopF (σ := Value × Nat) (ks := [1]) (.cons rfl (.nil)) (fun q => [(3, dVal q.1), (4, dInt .i64 (q.2 : Nat))]) (fun q => [rRow q.1 46 8 cNte (notesN r.read r.head.number r.queries q.2)]) (fun q => q.2 ≤ r.queries.length) (fun q => r.queries.length - q.2) ((.slice none 0 0, 0)) (Nat.zero_le _) (.cons rfl (by first | exact fun _ _ h => h | exact d_int (by omega) | exact d_int (by simp) | exact d_intN (by omega) | exact d_any) (.cons rfl (by first | exact fun _ _ h => h | exact d_int (by omega) | exact d_int (by simp) | exact d_intN (by omega) | exact d_any) .nil)) (rfl) ?_
  intro q hq ih1
  have hnl := notesN_le (rd := r.read) (ver := r.head.number) (fun x hx => (hr.2 x hx).1) (k := q.2) hq
  refine au 6 ?_
  first | refine runL_fact (s := 8) rfl (fun _ _ h => dSl_len h) (fun hlen2 => ?_) | skip
  refine au 3 ?_
  refine run_cond rfl (fun h3 => ?_) (fun h3 => ?_)
  ·
   refine au 8 ?_
   have hqm := hr.2 _ (getD_mem (xs := r.queries) (k := q.2) (by omega))
   have hqm1 := hqm.1
   refine run_loopF (σ := Value × Nat) (ks := [1, 4]) (.cons rfl (.cons rfl (.nil))) (fun u => [(3, dVal u.1), (5, dInt .i64 (u.2 : Nat))]) (fun u => [rRow u.1 46 8 cNte (notesN r.read r.head.number r.queries q.2 ++ probeN r.read r.head.number q.2 (r.queries[q.2]?.getD default) u.2)]) (fun u => u.2 ≤ (r.queries[q.2]?.getD default).length) (fun u => (r.queries[q.2]?.getD default).length - u.2) ((q.1, 0)) (Nat.zero_le _) (.cons rfl (by first | exact fun _ _ h => h | exact d_int (by omega) | exact d_int (by simp) | exact d_intN (by omega) | exact d_any) (.cons rfl (by first | exact fun _ _ h => h | exact d_int (by omega) | exact d_int (by simp) | exact d_intN (by omega) | exact d_any) .nil)) (by simp only [appR]; rw [show probeN r.read r.head.number q.2 (r.queries[q.2]?.getD default) 0 = [] from rfl, List.append_nil]) ?_
   intro u hu ih4
   have hpl := probeN_len r.read r.head.number q.2 (r.queries[q.2]?.getD default) u.2
   have hal : (notesN r.read r.head.number r.queries q.2 ++ probeN r.read r.head.number q.2 (r.queries[q.2]?.getD default) u.2).length ≤ 2000000 := by rw [List.length_append]; omega
   refine au 9 ?_
   first | refine runL_fact (s := 18) rfl (fun _ _ h => dSl_len h) (fun hlen5 => ?_) | skip
   refine au 3 ?_
   refine run_cond rfl (fun h6 => ?_) (fun h6 => ?_)
   ·
    have hxl := hqm.2 _ (getD_mem (xs := r.queries[q.2]?.getD default) (k := u.2) (by omega))
    refine au 3 ?_
    refine run_addNone ?_
    refine dr_start _ (.two (τ1 := Nat) (τ2 := Value) 9 21 (fun _ => True) (fun _ => True)) [⟨[(3, none)], [], none⟩,
        ⟨[(1, none)], [], none⟩,
        ⟨[(24, some (1, false))], [1], none⟩,
        ⟨[(4, none)], [], none⟩,
        ⟨[(5, none)], [], none⟩,
        ⟨[(27, some (4, false))], [4], none⟩,
        ⟨[(1, none)], [], none⟩,
        ⟨[(29, some (6, false))], [6], none⟩,
        ⟨[(30, some (7, false))], [6, 7], none⟩,
        ⟨[], [], some (0, 0, true)⟩,
        ⟨[(1, none)], [], none⟩,
        ⟨[(33, some (10, false))], [10], none⟩,
        ⟨[(4, none)], [], none⟩,
        ⟨[(34, some (11, false)), (35, some (12, false))], [10, 11, 12], none⟩,
        ⟨[(36, some (13, false))], [10, 11, 12, 13], none⟩,
        ⟨[(5, none)], [], none⟩,
        ⟨[(37, some (14, false)), (38, some (15, false))], [10, 11, 12, 13, 14, 15], none⟩,
        ⟨[(39, some (16, false))], [10, 11, 12, 13, 14, 15, 16], none⟩,
        ⟨[(32, some (9, false)), (40, some (17, false))], [9, 10, 11, 12, 13, 14, 15, 16, 17], some (0, 1, true)⟩,
        ⟨[(25, some (2, false)), (26, some (3, false)), (28, some (5, false)), (31, some (8, false)), (41, some (18, false))], [1, 2, 3, 4, 5, 6, 7, 8, 9, 10, 11, 12, 13, 14, 15, 16, 17, 18], none⟩,
        ⟨[(42, some (19, false))], [1, 2, 3, 4, 5, 6, 7, 8, 9, 10, 11, 12, 13, 14, 15, 16, 17, 18, 19], none⟩,
        ⟨[(23, some (0, false)), (43, some (20, false))], [0, 1, 2, 3, 4, 5, 6, 7, 8, 9, 10, 11, 12, 13, 14, 15, 16, 17, 18, 19, 20], some (1, 0, true)⟩,
        ⟨[(44, some (21, false))], [0, 1, 2, 3, 4, 5, 6, 7, 8, 9, 10, 11, 12, 13, 14, 15, 16, 17, 18, 19, 20, 21], none⟩] [_, _] _ rfl rfl ?_
    refine da 9 ?_
    refine dq_choose Prod.fst (fun s t => (t, s.2)) rfl (fun _ _ => ⟨rfl, id, rfl⟩) (fun s => .nil) rfl rfl (fun s hs => locM_new (loc_build0 fI)) (by exact .cons (.inl rfl) (.cons (.inr (.inr fun ⟨a, b⟩ ⟨c, d⟩ h => by have h : c = a := h; subst h; exact rfl)) (.nil))) (fun _ _ => rfl) ?_
    refine da 8 ?_
    refine dq_write rfl (fun s => .op rfl (.op rfl (.nil))) rfl rfl (fun s hs => LocM.frz (loc_append rfl rfl rfl (by first | omega | (simp [lenMax]; omega) | (simp [lenMax]; done) | assumption) (by first | omega | (simp [lenMax]; omega) | (simp [lenMax]; done) | assumption)) rfl) (by exact .cons (.inl rfl) (.cons (.inr fun ⟨a, b⟩ ⟨c, d⟩ h => by have h : c = a := h; subst h; exact ⟨rfl, rfl⟩) (.nil))) ?_
    refine dq_pure rfl (fun s => .op rfl (.op rfl (.op rfl (.op rfl (.op rfl (.nil)))))) (fun s hs _ => LocP.imp (d' := dAgg (cNte ⟨1, r.read, q.2, (u.2 : Int) + 1, r.head.number, (r.queries[q.2]?.getD default)[u.2]?.getD default, [], 0⟩)) (loc_build (.one rfl rfl rfl (.one rfl rfl rfl (.one rfl rfl rfl (.one rfl rfl rfl (.one rfl rfl rfl (.one rfl rfl rfl (.nil)))))))) (by exact d_aggU (.cons (fun _ _ h => h) (.cons (fun _ _ h => h) (.cons (fun _ _ h => h) (.cons (fun _ _ h => h) (.cons (fun _ _ h => h) (.cons (fun _ _ h => h) (.cons d_nil (.cons (fun _ _ h => h) .nil)))))))))) (by exact .cons (.inl rfl) (.cons (.inr fun ⟨a, b⟩ ⟨c, d⟩ h => by have h : c = a := h; subst h; exact rfl) (.nil))) ?_
    refine dq_pure rfl (fun s => .op rfl (.nil)) (fun s hs _ => loc_buildSlice rfl rfl (.agg rfl (.nil)) rfl rfl) (by exact .cons (.inl rfl) (.cons (.inr fun ⟨a, b⟩ ⟨c, d⟩ h => by have h : c = a := h; subst h; exact rfl) (.nil))) ?_
    refine dq_choose Prod.snd (fun s t => (s.1, t)) rfl (fun _ _ => ⟨rfl, id, rfl⟩) (fun s => .op rfl (.op rfl (.nil))) rfl rfl (fun s hs => loc_append1 (⟨1, r.read, q.2, (u.2 : Int) + 1, r.head.number, (r.queries[q.2]?.getD default)[u.2]?.getD default, [], 0⟩ : Nte) rfl rfl rfl rfl (by first | omega | (simp [lenMax]; omega) | (simp [lenMax]; done) | assumption) (by first | omega | (simp [lenMax]; omega) | (simp [lenMax]; done) | assumption)) (by exact .cons (.inr (.inl rfl)) (.cons (.inl rfl) (.nil))) (fun _ _ => rfl) ?_
    refine da 1 ?_
    refine dq_end (rs := [_, _]) (0, (.bool true)) rfl (fun _ => rfl) (.cons rfl (.cons rfl (.nil))) rfl (fun _ => rfl) (fun s9 _ => ?_)
    obtain ⟨b32, v9⟩ := s9
    dsimp only [outG, outM, List.map, List.set, id]
    refine au 6 ?_
    refine run_drop (.cons _ (.refl _)) ?_
    exact run_againF ih4 ((v9, u.2 + 1)) (by simp only; omega) (by simp only; omega) (.cons rfl (by first | exact fun _ _ h => h | exact d_int (by omega) | exact d_int (by simp) | exact d_intN (by omega) | exact d_any) (.cons rfl (by first | exact fun _ _ h => h | exact d_int (by omega) | exact d_int (by simp) | exact d_intN (by omega) | exact d_any) .nil)) (.cons rfl (fun _ _ x => x) (.cons rfl (fun _ _ x => x) (.nil))) (by simp only [appR]; rw [probeN_snoc, ← List.append_assoc])
   ·
    refine au 7 ?_
    exact run_againF ih1 ((u.1, q.2 + 1)) (by simp only; omega) (by simp only; omega) (.cons rfl (by first | exact fun _ _ h => h | exact d_int (by omega) | exact d_int (by simp) | exact d_intN (by omega) | exact d_any) (.cons rfl (by first | exact fun _ _ h => h | exact d_int (by omega) | exact d_int (by simp) | exact d_intN (by omega) | exact d_any) .nil)) (.cons rfl (fun _ _ x => x) (.nil)) (by simp only [appR]; rw [notesN_snoc, show u.2 = (r.queries[q.2]?.getD default).length by omega])
  ·
   refine au 2 ?_
   refine run_freezeRow (s := 3) rfl (.here) ?_
   refine au 4 ?_
   refine run_retP Tryz.func83 rfl rfl ?_
   exact d_sl (by rw [show q.2 = r.queries.length by omega])
end Go.Q

namespace Go.Q
open Go.Proofs
open Classical
theorem relL4 {a b c d : D} {I : Imm} {vs : List Value} (h : relL [a, b, c, d] I vs) : ∃ u v x y, vs = [u, v, x, y] ∧ a.rel I u ∧ b.rel I v ∧ c.rel I x ∧ d.rel I y := by
 match vs, h with
 | [u, v, x, y], ⟨h1, h2, h3, h4, _⟩ => exact ⟨u, v, x, y, rfl, h1, h2, h3, h4⟩
theorem d_tup4 {a a' b b' c c' d d' : D} (h1 : ∀ I v, a.rel I v → a'.rel I v) (h2 : ∀ I v, b.rel I v → b'.rel I v) (h3 : ∀ I v, c.rel I v → c'.rel I v) (h4 : ∀ I v, d.rel I v → d'.rel I v) : ∀ I v, (dTup [a, b, c, d]).rel I v → (dTup [a', b', c', d']).rel I v := by
 rintro I v ⟨cs, e, r⟩
 obtain ⟨u, w, x, y, e2, r1, r2, r3, r4⟩ := relL4 r
 exact ⟨cs, e, by rw [e2]; exact ⟨h1 _ _ r1, h2 _ _ r2, h3 _ _ r3, h4 _ _ r4, trivial⟩⟩
end Go.Q

namespace Go.Q
open Go.Proofs
open Classical
end Go.Q

namespace Go.Q
structure Sett where
 index : Int
 row : List Int
deriving Inhabited
structure Chg where
 from' : Int
 to' : Int
 count : Int
 sets : List Sett
deriving Inhabited
end Go.Q

namespace Go.Q
open Classical
def ascV (l : List Held) : Prop := ∀ i j, i < j → j < l.length → (l[i]?.getD default).head.number < (l[j]?.getD default).head.number
theorem atV_lead {v : Srv} (hs : ascV v.versions) (n : Int) : atV v n = lead (fun h : Held => h.head.number < n) v.versions := by
 have hle := lead_le (fun h : Held => h.head.number < n) v.versions
 refine atV_at hle (fun a ha => lead_lt (q := fun h : Held => h.head.number < n) a ha) (fun a ha hb => ?_)
 have hk := lead_end (q := fun h : Held => h.head.number < n) (xs := v.versions) (by omega)
 by_cases e : a = lead (fun h : Held => h.head.number < n) v.versions
 ·rw [e]; omega
 ·have := hs _ a (by omega : lead (fun h : Held => h.head.number < n) v.versions < a) hb
  omega
theorem at_lo {v : Srv} (hs : ascV v.versions) (n : Int) {a : Nat} (h : a < atV v n) : (v.versions[a]?.getD default).head.number < n := by
 rw [atV_lead hs] at h
 exact lead_lt (q := fun h : Held => h.head.number < n) a h
theorem at_hi {v : Srv} (hs : ascV v.versions) (n : Int) {a : Nat} (h : atV v n ≤ a) (hb : a < v.versions.length) : n ≤ (v.versions[a]?.getD default).head.number := by
 rw [atV_lead hs] at h
 have hk := lead_end (q := fun h : Held => h.head.number < n) (xs := v.versions) (by omega)
 by_cases e : a = lead (fun h : Held => h.head.number < n) v.versions
 ·rw [e]; omega
 ·have := hs _ a (by omega : lead (fun h : Held => h.head.number < n) v.versions < a) hb
  omega
theorem there_of {v : Srv} (hs : ascV v.versions) {n : Int} {k : Nat} (hk : k < v.versions.length) (hn : (v.versions[k]?.getD default).head.number = n) : atV v n = k ∧ thereV v n ∧ heldV v n = v.versions[k]?.getD default := by
 have e : atV v n = k := by
  have h1 : ¬ atV v n < k := fun h => by
   have h2 := at_hi hs n (Nat.le_refl _) (by omega)
   have h3 := hs _ k h hk
   omega
  have h2 : ¬ k < atV v n := fun h => by have := at_lo hs n h; omega
  omega
 exact ⟨e, ⟨by omega, by rw [e]; exact cmpI_zero.2 hn⟩, by unfold heldV; rw [e]⟩
theorem there_num {v : Srv} {n : Int} (h : thereV v n) : (heldV v n).head.number = n := cmpI_zero.1 h.2
theorem asc_ins {v : Srv} (hs : ascV v.versions) {n : Int} (hno : ¬ thereV v n) {h0 : Held} (hn : h0.head.number = n) : ascV (v.versions.take (atV v n) ++ [h0] ++ v.versions.drop (atV v n)) := by
 have hle := atV_le v n
 have hhi : ∀ a, atV v n ≤ a → a < v.versions.length → n < (v.versions[a]?.getD default).head.number := fun a ha hb => by
  have h1 := at_hi hs n ha hb
  by_cases e : (v.versions[a]?.getD default).head.number = n
  ·exact absurd (there_of hs hb e).2.1 hno
  ·omega
 have hl : (v.versions.take (atV v n)).length = atV v n := by rw [List.length_take]; omega
 have g1 : ∀ a, a < atV v n → ((v.versions.take (atV v n) ++ [h0] ++ v.versions.drop (atV v n))[a]?.getD default) = v.versions[a]?.getD default := fun a ha => by
  rw [List.append_assoc, List.getElem?_append_left (by omega), List.getElem?_take, if_pos ha]
 have g2 : ((v.versions.take (atV v n) ++ [h0] ++ v.versions.drop (atV v n))[atV v n]?.getD default) = h0 := by
  rw [List.append_assoc, List.getElem?_append_right (by omega), hl, Nat.sub_self]; rfl
 have g3 : ∀ a, atV v n < a → ((v.versions.take (atV v n) ++ [h0] ++ v.versions.drop (atV v n))[a]?.getD default) = v.versions[a - 1]?.getD default := fun a ha => by
  rw [List.append_assoc, List.getElem?_append_right (by omega), hl, List.getElem?_append_right (by simp; omega), List.getElem?_drop]
  simp only [List.length_singleton]
  rw [show atV v n + (a - atV v n - 1) = a - 1 by omega]
 intro i j hij hj
 simp only [List.length_append, List.length_singleton, List.length_drop, hl] at hj
 by_cases c1 : j < atV v n
 ·rw [g1 i (by omega), g1 j c1]; exact hs i j hij (by omega)
 ·by_cases c2 : j = atV v n
  ·rw [c2, g2, g1 i (by omega), hn]; exact at_lo hs n (by omega)
  ·rw [g3 j (by omega)]
   by_cases c3 : i < atV v n
   ·rw [g1 i c3]; have := at_lo hs n c3; have := hhi (j - 1) (by omega) (by omega); omega
   ·by_cases c4 : i = atV v n
    ·rw [c4, g2, hn]; exact hhi (j - 1) (by omega) (by omega)
    ·rw [g3 i (by omega)]; exact hs (i - 1) (j - 1) (by omega) (by omega)
end Go.Q

namespace Go.Q
open Classical
theorem heldN_okH {s : Schm} {id : Int} {t : Tab} (ht : checkT t = 0) (hv : validS s t.p) (hr : 1 ≤ t.rows.length) (hid : 1 ≤ id ∧ id ≤ s.servers) : okHeld ⟨headT t, hldL s t id⟩ := by
 have h2 := hld_sz hv ht hr hid
 have h3 := checkT_ok ht
 have hrow : ∀ r ∈ hldL s t id, (r.length : Int) = t.width ∧ allP t.p r := by
  intro r hr
  unfold hldL at hr
  rw [if_neg (hld_no ht hv hid)] at hr
  split at hr
  ·unfold holdG at hr
   split at hr
   ·obtain ⟨q, _, rfl⟩ := List.mem_map.1 hr
    unfold heldG
    obtain ⟨h4, h5⟩ := heldN_ok h3.2.1.1 id t.width.toNat q.2 q.2.length
    exact ⟨by rw [h4]; have := h3.2.2.1; omega, h5⟩
   ·cases hr
  ·exact h3.2.2.2.2 r hr
 rw [head_ok ht]
 exact ⟨h3.2.1, h3.2.2.1, h2.1, hrow⟩
theorem load_zero {v : Srv} {t : Tab} (h : loadE v t = 0) : v.up ∧ checkT t = 0 ∧ validS v.scheme t.p ∧ 1 ≤ t.rows.length ∧ ¬ thereV v t.number ∧ v.versions.length < 16 ∧ (1 ≤ v.id ∧ v.id ≤ v.scheme.servers) := by
 unfold loadE at h
 by_cases c1 : v.up
 ·rw [if_neg (Classical.not_not.2 c1)] at h
  by_cases c2 : checkT t = 0
  ·rw [if_neg (Classical.not_not.2 c2)] at h
   by_cases c3 : validS v.scheme t.p
   ·rw [if_neg (Classical.not_not.2 c3)] at h
    by_cases c4 : t.rows.length = 0
    ·rw [if_pos c4] at h; cases h
    ·rw [if_neg c4] at h
     by_cases c5 : thereV v t.number
     ·rw [if_pos c5] at h; cases h
     ·rw [if_neg c5] at h
      by_cases c6 : v.versions.length ≥ 16
      ·rw [if_pos c6] at h; cases h
      ·rw [if_neg c6] at h
       refine ⟨c1, c2, c3, by omega, c5, by omega, ?_⟩
       unfold hldE at h
       rw [if_neg (Classical.not_not.2 c2), if_neg (Classical.not_not.2 c3)] at h
       by_cases c7 : 1 ≤ v.id ∧ v.id ≤ v.scheme.servers
       ·exact c7
       ·rw [if_pos c7] at h; cases h
   ·rw [if_pos c3] at h; cases h
  ·rw [if_pos c2] at h; exact absurd h c2
 ·rw [if_pos c1] at h; cases h
theorem ok_load {v : Srv} {t : Tab} (hok : okSrv v) : okSrv (loadV v t) := by
 by_cases h : loadE v t = 0
 ·obtain ⟨c1, c2, c3, c4, c5, c6, c7⟩ := load_zero h
  obtain ⟨o1, o2, o3, o4, o5⟩ := hok
  have hs : ascV v.versions := o4
  have hn : (⟨headT t, hldL v.scheme t v.id⟩ : Held).head.number = t.number := heldT_number (s := v.scheme) (id := v.id) c2
  have ha := asc_ins hs c5 hn
  have hle := atV_le v t.number
  have hL : loadV v t = { v with versions := v.versions.take (atV v t.number) ++ [⟨headT t, hldL v.scheme t v.id⟩] ++ v.versions.drop (atV v t.number) } := by unfold loadV; rw [if_pos h]
  rw [hL]
  have hl : (v.versions.take (atV v t.number)).length = atV v t.number := by rw [List.length_take]; omega
  refine ⟨?_, o2, fun x hx => ?_, ha, fun j hj => ?_⟩
  ·simp only [List.length_append, List.length_singleton, List.length_drop, hl]; omega
  ·rcases List.mem_append.1 hx with hx | hx
   ·rcases List.mem_append.1 hx with hx | hx
    ·exact o3 x (List.mem_of_mem_take hx)
    ·rw [List.mem_singleton.1 hx]; exact heldN_okH c2 c3 c4 c7
   ·exact o3 x (List.mem_of_mem_drop hx)
  ·obtain ⟨p1, p2, p3, p4, p5⟩ := o5 j hj
   have hk := p1.1
   have hnum : (v.versions[atV v j.version]?.getD default).head.number = j.version := cmpI_zero.1 p1.2
   have key : ∃ k, k < (v.versions.take (atV v t.number) ++ [(⟨headT t, hldL v.scheme t v.id⟩ : Held)] ++ v.versions.drop (atV v t.number)).length ∧ (v.versions.take (atV v t.number) ++ [(⟨headT t, hldL v.scheme t v.id⟩ : Held)] ++ v.versions.drop (atV v t.number))[k]?.getD default = v.versions[atV v j.version]?.getD default := by
    by_cases c : atV v j.version < atV v t.number
    ·refine ⟨atV v j.version, by simp only [List.length_append, List.length_singleton, List.length_drop, hl]; omega, ?_⟩
     rw [List.append_assoc, List.getElem?_append_left (by omega), List.getElem?_take, if_pos c]
    ·refine ⟨atV v j.version + 1, by simp only [List.length_append, List.length_singleton, List.length_drop, hl]; omega, ?_⟩
     rw [List.append_assoc, List.getElem?_append_right (by omega), hl, List.getElem?_append_right (by simp; omega), List.getElem?_drop]
     simp only [List.length_singleton]
     rw [show atV v t.number + (atV v j.version + 1 - atV v t.number - 1) = atV v j.version by omega]
   obtain ⟨k, hk1, hk2⟩ := key
   obtain ⟨e1, e2, e3⟩ := there_of (v := { v with versions := v.versions.take (atV v t.number) ++ [⟨headT t, hldL v.scheme t v.id⟩] ++ v.versions.drop (atV v t.number) }) ha (n := j.version) hk1 (by rw [hk2]; exact hnum)
   have e4 : heldV { v with versions := v.versions.take (atV v t.number) ++ [⟨headT t, hldL v.scheme t v.id⟩] ++ v.versions.drop (atV v t.number) } j.version = heldV v j.version := e3.trans hk2
   unfold okJob
   rw [e4]
   exact ⟨e2, p2, p3, p4, p5⟩
 ·have hL : loadV v t = v := by unfold loadV; rw [if_neg h]
  rw [hL]; exact hok
end Go.Q
