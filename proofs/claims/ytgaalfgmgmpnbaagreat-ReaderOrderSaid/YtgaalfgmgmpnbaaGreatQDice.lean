/- Contracts of coded storage. -/
import Derived.Test.YtgaalfgmgmpnbaaGreatQParity
import Derived.Test.YtgaalfgmgmpnbaaGreatQDraws
import Derived.Test.YtgaalfgmgmpnbaaGreatQRound
import Derived.MapKept
set_option linter.unusedVariables false
set_option linter.unusedSimpArgs false
namespace Go.Q
open Go.Proofs
open Classical
theorem gcheck_spec (p s d g : Int) : SpecP Tryz.prog 145 [dAgg [dInt .i64 p], dAgg [dInt .i64 s, dInt .i64 d, dInt .i64 g]] (dInt .i64 (codE p s d g)) := by
  refine specP_of_body Tryz.func145 rfl rfl (fun I M => ?_)
  refine au 10 ?_
  refine run_op (loc_call (of_spec _) rfl) rfl ?_
  refine au 11 ?_
  refine run_cond rfl (fun h1 => ?_) (fun h1 => ?_)
  ·
   have c1 := h1
   refine au 4 ?_
   refine run_retP Tryz.func145 rfl rfl ?_
   exact d_int (by unfold codE; rw [if_pos c1])
  ·
   have c1 := h1
   refine au 52 ?_
   first | refine run_gop rfl rfl gdI.ok (fun hg => loc_mul rfl rfl (by first | omega | assumption | (refine ⟨?_, ?_⟩ <;> omega))) rfl ?_ | refine run_gop rfl rfl gdI.ok (fun hg => loc_mulW rfl rfl) rfl ?_
   refine au 2 ?_
   first | refine run_gop rfl rfl gdI.ok (fun hg => loc_add rfl rfl (by first | omega | assumption | (refine ⟨?_, ?_⟩ <;> omega))) rfl ?_ | refine run_gop rfl rfl gdI.ok (fun hg => loc_addW rfl rfl) rfl ?_
   first | refine run_gop rfl rfl gdI.ok (fun hg => loc_sub rfl rfl (by first | omega | assumption | (refine ⟨?_, ?_⟩ <;> omega))) rfl ?_ | refine run_gop rfl rfl gdI.ok (fun hg => loc_subW rfl rfl) rfl ?_
   refine au 6 ?_
   refine run_cond rfl (fun h2 => ?_) (fun h2 => ?_)
   ·
    have c2 := h2
    refine au 4 ?_
    refine run_retP Tryz.func145 rfl rfl ?_
    exact d_int (by unfold codE; rw [if_neg c1, if_pos (by omega)])
   ·
    have c2 := h2
    refine au 5 ?_
    refine run_retP Tryz.func145 rfl rfl ?_
    exact d_int (by unfold codE; rw [if_neg c1, if_neg (by omega)])
theorem gcheckR_spec (p s d g n : Int) : SpecP Tryz.prog 241 [dAgg [dInt .i64 p], dAgg [dInt .i64 s, dInt .i64 d, dInt .i64 g], dInt .i64 n] (dInt .i64 (codRE p s d g n)) := by
  refine specP_of_body Tryz.func241 rfl rfl (fun I M => ?_)
  refine au 10 ?_
  refine run_op (loc_call (gcheck_spec _ _ _ _) rfl) rfl ?_
  refine au 15 ?_
  first | refine run_gfirst rfl rfl gdI.ok (fun hg => loc_or rfl rfl) rfl ?_ | refine run_gfirst rfl rfl gdI.ok (fun hg => loc_orG hg rfl rfl) rfl ?_ | refine run_gfirst rfl rfl gdI.ok (fun hg => loc_orH hg rfl rfl) rfl ?_
  refine au 3 ?_
  refine run_cond rfl (fun h1 => ?_) (fun h1 => ?_)
  ·
   have c1 := h1
   refine au 4 ?_
   refine run_retP Tryz.func241 rfl rfl ?_
   exact d_int (by unfold codRE; rw [if_pos c1])
  ·
   have c1 := h1
   refine au 6 ?_
   refine run_retP Tryz.func241 rfl rfl ?_
   exact d_int (by unfold codRE; rw [if_neg c1])
theorem powerI_spec (p a g : Int) (h : 2 ≤ p ∧ p ≤ 65521) (ha : 0 ≤ a ∧ a ≤ 65521) (hg : 0 ≤ g ∧ g ≤ 65521) : SpecP Tryz.prog 149 [dInt .i64 p, dInt .i64 a, dInt .i64 g] (dInt .i64 (powM p a g.toNat)) := by
 have h1 := power_spec p a g.toNat h ha (by omega)
 rw [show ((g.toNat : Nat) : Int) = g by omega] at h1
 exact h1
theorem gqueriesM_spec (p s d g n group : Int) (t : Tape) : Spec Tryz.prog 240 [dAgg [dInt .i64 p], dAgg [dInt .i64 s, dInt .i64 d, dInt .i64 g], dInt .i64 n, dInt .i64 group, dTape t] [] (σ := Value) (fun _ => True) (fun v => dTup [dVal v, dTape (gqT p s d g n group t), dInt .i64 (gqE p s d g n group t)]) (fun v => [rRow v 44 1 fR (gqL p s d g n group t)]) := by
  refine spec_of_body Tryz.func240 rfl rfl (fun I F => ?_)
  refine au 4 ?_
  refine run_new (loc_boxOwnN rfl) rfl (fun b9 _ => ?_)
  refine au 1 ?_
  refine run_new (loc_allocOwn (by simp)) rfl (fun b11 _ => ?_)
  refine au 8 ?_
  refine run_op (loc_call (gcheckR_spec _ _ _ _ _) rfl) rfl ?_
  refine au 7 ?_
  refine run_cond rfl (fun h1 => ?_) (fun h1 => ?_)
  ·
   have c1 := h1
   refine au 8 ?_
   have hE : gqE p s d g n group t = codRE p s d g n := by unfold gqE; rw [if_pos c1]
   refine run_retG (.slice none 0 0) Tryz.func240 rfl (.tmp rfl (.cellN rfl (.here) (by rfl) (.tmp rfl (.nil)))) ?_ (trivial) (fun I w h => by rw [show gqL p s d g n group t = [] by unfold gqL; rw [if_neg (by rw [hE]; omega)]]; exact nil_ok ((fun _ _ h => h.sub (.cons _ (.cons _ (.refl _)))) I w h))
   exact d_tup3 (fun _ _ h => h) (d_toTape (by unfold gqT; rw [if_neg (by rw [hE]; omega)]) (d_aggU (.cons d_nil (.cons (d_int rfl) .nil)))) (d_int hE.symm)
  ·
   have c1 := Classical.not_not.1 h1
   refine au 13 ?_
   refine run_cond rfl (fun h2 => ?_) (fun h2 => ?_)
   ·
    have c2 := h2
    refine au 7 ?_
    have hE : gqE p s d g n group t = 6 := by unfold gqE; rw [if_neg (Classical.not_not.2 c1), if_pos (by omega)]
    refine run_retG (.slice none 0 0) Tryz.func240 rfl (.tmp rfl (.cellN rfl (.here) (by rfl) (.tmp rfl (.nil)))) ?_ (trivial) (fun I w h => by rw [show gqL p s d g n group t = [] by unfold gqL; rw [if_neg (by rw [hE]; omega)]]; exact nil_ok ((fun _ _ h => h.sub (.cons _ (.cons _ (.refl _)))) I w h))
    exact d_tup3 (fun _ _ h => h) (d_toTape (by unfold gqT; rw [if_neg (by rw [hE]; omega)]) (d_aggU (.cons d_nil (.cons (d_int rfl) .nil)))) (d_int hE.symm)
   ·
    have c2 := h2
    refine au 2 ?_
    obtain ⟨hce, hn⟩ := codRE_zero c1
    obtain ⟨hp, hs, hsp, hd, hg, hgd⟩ := codE_zero hce
    have hpb := hp.1
    have hpb2 := hp.2.1
    have hm := mul_bd (a := n) (b := d) (A := 1024) (B := 10) (by omega) (by omega) (by omega) (by omega)
    refine au 8 ?_
    refine run_op (loc_call (draws_spec _ _ _) rfl) rfl ?_
    refine au 8 ?_
    have hE : gqE p s d g n group t = drawE t p (n * d) := by unfold gqE; rw [if_neg (Classical.not_not.2 c1), if_neg (by omega)]
    refine au 6 ?_
    refine run_cond rfl (fun h3 => ?_) (fun h3 => ?_)
    ·
     have c3 := h3
     refine au 8 ?_
     skip
     refine run_retG (.slice none 0 0) Tryz.func240 rfl (.tmp rfl (.cellN rfl (.here) (by rfl) (.tmp rfl (.nil)))) ?_ (trivial) (fun I w h => by rw [show gqL p s d g n group t = [] by unfold gqL; rw [if_neg (by rw [hE]; omega)]]; exact nil_ok ((fun _ _ h => h.sub (.cons _ (.cons _ (.refl _)))) I w h))
     exact d_tup3 (fun _ _ h => h) (d_toTape (by unfold gqT; rw [if_neg (by rw [hE]; omega)]) (d_aggU (.cons d_nil (.cons (d_int rfl) .nil)))) (d_int hE.symm)
    ·
     have c3 := Classical.not_not.1 h3
     refine au 2 ?_
     have hdz := drawE_zero c3
     have hdl := hdz.2.2.2.2.1
     have hda := hdz.2.2.2.2.2
     refine au 15 ?_
     refine run_rowNil 44 1 fR ?_
     refine run_loopF (σ := Value × Nat) (ks := [2, 3, 6, 9, 11, 14, 16]) (.cons rfl (.cons rfl (.cons rfl (.cons rfl (.cons rfl (.cons rfl (.cons rfl (.nil)))))))) (fun q => [(17, dVal q.1), (18, dInt .i64 ((q.2 : Int) + 1))]) (fun q => [rRow q.1 44 1 fR (gQs p d g group (drawL t p (n * d)) n.toNat q.2)]) (fun q => q.2 ≤ s.toNat) (fun q => s.toNat - q.2) ((.slice none 0 0, 0)) (Nat.zero_le _) (.cons rfl (by first | exact fun _ _ h => h | exact d_int (by omega) | exact d_int (by simp) | exact d_intN (by omega) | exact d_any) (.cons rfl (by first | exact fun _ _ h => h | exact d_int (by omega) | exact d_int (by simp) | exact d_intN (by omega) | exact d_any) .nil)) (rfl) ?_
     rintro q hq ih4
     have hql : (gQs p d g group (drawL t p (n * d)) n.toNat q.2).length = q.2 := by simp [gQs]
     refine au 8 ?_
     refine run_cond rfl (fun h5 => ?_) (fun h5 => ?_)
     ·
      refine au 14 ?_
      refine run_rowNil 3 1 fI ?_
      refine run_loopF (σ := Value × Nat) (ks := [2, 3, 6, 9, 11, 14, 16, 17, 18, 62]) (.cons rfl (.cons rfl (.cons rfl (.cons rfl (.cons rfl (.cons rfl (.cons rfl (.cons rfl (.cons rfl (.cons rfl (.nil))))))))))) (fun u => [(19, dVal u.1), (63, dInt .i64 (u.2 : Nat))]) (fun u => [rRow u.1 3 1 fI (gRow p d g group (drawL t p (n * d)) ((q.2 : Int) + 1) u.2)]) (fun u => u.2 ≤ n.toNat) (fun u => n.toNat - u.2) ((.slice none 0 0, 0)) (Nat.zero_le _) (.cons rfl (by first | exact fun _ _ h => h | exact d_int (by omega) | exact d_int (by simp) | exact d_intN (by omega) | exact d_any) (.cons rfl (by first | exact fun _ _ h => h | exact d_int (by omega) | exact d_int (by simp) | exact d_intN (by omega) | exact d_any) .nil)) (rfl) ?_
      rintro u hu ih6
      have hul : (gRow p d g group (drawL t p (n * d)) ((q.2 : Int) + 1) u.2).length = u.2 := by simp [gRow]
      refine au 5 ?_
      refine run_cond rfl (fun h7 => ?_) (fun h7 => ?_)
      ·
       refine au 9 ?_
       have hqd := mul_bd (a := (u.2 : Int)) (b := d) (A := 1024) (B := 10) (by omega) (by omega) (by omega) (by omega)
       have hqd1 : ((u.2 : Int) + 1) * d = (u.2 : Int) * d + d := by rw [Int.add_mul, Int.one_mul]
       have hqd2 : ((u.2 : Int) + 1) * d ≤ n * d := Int.mul_le_mul_of_nonneg_right (by omega) (by omega)
       have hw1 := valP_bd (x := (q.2 : Int) + 1) (show 0 < p by omega) (((drawL t p (n * d)).take (((u.2 : Int) + 1) * d).toNat).drop ((u.2 : Int) * d).toNat)
       have hw2 : 0 ≤ powM p ((q.2 : Int) + 1) g.toNat ∧ powM p ((q.2 : Int) + 1) g.toNat < p := mod_bd _ (by omega)
       have hw3 := mod_bd (powM p ((q.2 : Int) + 1) g.toNat * valP p (((drawL t p (n * d)).take (((u.2 : Int) + 1) * d).toNat).drop ((u.2 : Int) * d).toNat) ((q.2 : Int) + 1)) (show 0 < p by omega)
       refine dr_start _ (.none) [⟨[(16, none)], [], none⟩,
           ⟨[(16, none)], [], none⟩,
           ⟨[(18, none)], [], none⟩,
           ⟨[(6, none)], [], none⟩,
           ⟨[(69, some (3, false))], [3], none⟩,
           ⟨[(67, some (1, false)), (68, some (2, false)), (70, some (4, false))], [1, 2, 3, 4], none⟩,
           ⟨[(16, none)], [], none⟩,
           ⟨[(14, none)], [], none⟩,
           ⟨[(20, none)], [], none⟩,
           ⟨[(6, none)], [], none⟩,
           ⟨[(75, some (9, false))], [9], none⟩,
           ⟨[(74, some (8, false)), (76, some (10, false))], [8, 9, 10], none⟩,
           ⟨[(20, none)], [], none⟩,
           ⟨[(78, some (12, false))], [12], none⟩,
           ⟨[(6, none)], [], none⟩,
           ⟨[(80, some (14, false))], [14], none⟩,
           ⟨[(79, some (13, false)), (81, some (15, false))], [12, 13, 14, 15], none⟩,
           ⟨[(73, some (7, false)), (77, some (11, false)), (82, some (16, false))], [7, 8, 9, 10, 11, 12, 13, 14, 15, 16], none⟩,
           ⟨[(18, none)], [], none⟩,
           ⟨[(72, some (6, false)), (83, some (17, false)), (84, some (18, false))], [1, 2, 3, 4, 5, 6, 7, 8, 9, 10, 11, 12, 13, 14, 15, 16, 17, 18], none⟩,
           ⟨[(66, some (0, false)), (71, some (5, false)), (85, some (19, false))], [0, 1, 2, 3, 4, 5, 6, 7, 8, 9, 10, 11, 12, 13, 14, 15, 16, 17, 18, 19], none⟩,
           ⟨[(86, some (20, false))], [0, 1, 2, 3, 4, 5, 6, 7, 8, 9, 10, 11, 12, 13, 14, 15, 16, 17, 18, 19, 20], none⟩] [] _ rfl rfl ?_
       refine da 5 ?_
       refine dq_pure rfl (fun s => .op rfl (.op rfl (.op rfl (.nil)))) (fun s hs _ => loc_call (powerI_spec _ _ _ ⟨hpb, hpb2⟩ ⟨by omega, by omega⟩ ⟨by omega, by omega⟩) rfl) (by exact .nil) ?_
       refine da 11 ?_
       refine dq_pure rfl (fun s => .op rfl (.op rfl (.op rfl (.nil)))) (fun s hs _ => loc_slice rfl rfl rfl (by first | omega | assumption)) (by exact .nil) ?_
       refine da 1 ?_
       refine dq_pure rfl (fun s => .op rfl (.op rfl (.op rfl (.nil)))) (fun s hs _ => loc_call (value_spec _ _ _ ⟨hpb, hpb2⟩ ⟨by omega, by omega⟩ (sl_all hda)) rfl) (by exact .nil) ?_
       refine dq_pure rfl (fun s => .op rfl (.op rfl (.op rfl (.nil)))) (fun s hs _ => loc_call (fmul_spec _ _ _ ⟨hpb, hpb2⟩ ⟨by omega, by omega⟩ ⟨by omega, by omega⟩) rfl) (by exact .nil) ?_
       refine da 1 ?_
       refine dq_end (rs := []) () rfl (fun _ => rfl) (.nil) rfl (fun _ => rfl) (fun _ _ => ?_)
       dsimp only [outG, outM, List.map, List.set, id]
       refine au 7 ?_
       refine run_joinC (σ := Unit) (ks := [2, 3, 6, 9, 11, 14, 16, 17, 18, 19, 62, 63]) (.cons rfl (.cons rfl (.cons rfl (.cons rfl (.cons rfl (.cons rfl (.cons rfl (.cons rfl (.cons rfl (.cons rfl (.cons rfl (.cons rfl (.nil))))))))))))) (fun _u => [(21, dInt .i64 (gV p d g group (drawL t p (n * d)) ((q.2 : Int) + 1) u.2))]) (fun _u => True) (fun j8 => ?_) ?_
       ·
        refine run_cond rfl (fun h9 => ?_) (fun h9 => ?_)
        ·
         refine au 3 ?_
         refine run_op (loc_call (fadd_spec _ _ _ ⟨hpb, hpb2⟩ ⟨by omega, by omega⟩ ⟨by omega, by omega⟩) rfl) rfl ?_
         refine au 2 ?_
         exact run_atC j8 (()) (trivial) (.cons rfl (d_int (by unfold gV; rw [if_pos (by omega)]; rfl)) .nil) (.cons rfl (fun _ _ x => x) (.cons rfl (fun _ _ x => x) (.cons rfl (fun _ _ x => x) (.cons rfl (fun _ _ x => x) (.cons rfl (fun _ _ x => x) (.cons rfl (fun _ _ x => x) (.cons rfl (fun _ _ x => x) (.cons rfl (fun _ _ x => x) (.cons rfl (fun _ _ x => x) (.cons rfl (fun _ _ x => x) (.cons rfl (fun _ _ x => x) (.cons rfl (fun _ _ x => x) (.nil)))))))))))))
        ·
         refine au 1 ?_
         exact run_atC j8 (()) (trivial) (.cons rfl (d_int (by unfold gV; rw [if_neg (by omega)]; rfl)) .nil) (.cons rfl (fun _ _ x => x) (.cons rfl (fun _ _ x => x) (.cons rfl (fun _ _ x => x) (.cons rfl (fun _ _ x => x) (.cons rfl (fun _ _ x => x) (.cons rfl (fun _ _ x => x) (.cons rfl (fun _ _ x => x) (.cons rfl (fun _ _ x => x) (.cons rfl (fun _ _ x => x) (.cons rfl (fun _ _ x => x) (.cons rfl (fun _ _ x => x) (.cons rfl (fun _ _ x => x) (.nil)))))))))))))
       intro _u _
       refine au 3 ?_
       refine run_op (loc_buildSlice rfl rfl (.one rfl (.nil)) rfl rfl) rfl ?_
       refine run_append1 rfl (.here) rfl (by rfl) (by rfl) (by first | omega | (simp [lenMax]; omega) | (simp [lenMax]; done) | assumption) (by first | omega | (simp [lenMax]; omega) | (simp [lenMax]; done) | assumption) rfl (fun v10 => ?_)
       refine au 7 ?_
       exact run_againF ih6 ((v10, u.2 + 1)) (by simp only; omega) (by simp only; omega) (.cons rfl (by first | exact fun _ _ h => h | exact d_int (by omega) | exact d_int (by simp) | exact d_intN (by omega) | exact d_any) (.cons rfl (by first | exact fun _ _ h => h | exact d_int (by omega) | exact d_int (by simp) | exact d_intN (by omega) | exact d_any) .nil)) (.cons rfl (fun _ _ x => x) (.cons rfl (fun _ _ x => x) (.cons rfl (fun _ _ x => x) (.cons rfl (fun _ _ x => x) (.cons rfl (fun _ _ x => x) (.cons rfl (fun _ _ x => x) (.cons rfl (fun _ _ x => x) (.cons rfl (fun _ _ x => x) (.cons rfl (fun _ _ x => x) (.cons rfl (fun _ _ x => x) (.nil))))))))))) (by simp only [appR]; rw [gRow_snoc])
      ·
       refine au 1 ?_
       refine run_freezeRow (s := 19) rfl (.here) ?_
       refine au 3 ?_
       refine run_op (loc_buildSlice rfl rfl (.one rfl (.nil)) rfl rfl) rfl ?_
       refine run_append1 rfl (.here) rfl (by rfl) (by rfl) (by first | omega | (simp [lenMax]; omega) | (simp [lenMax]; done) | assumption) (by first | omega | (simp [lenMax]; omega) | (simp [lenMax]; done) | assumption) rfl (fun v11 => ?_)
       refine au 8 ?_
       exact run_againF ih4 ((v11, q.2 + 1)) (by simp only; omega) (by simp only; omega) (.cons rfl (by first | exact fun _ _ h => h | exact d_int (by omega) | exact d_int (by simp) | exact d_intN (by omega) | exact d_any) (.cons rfl (by first | exact fun _ _ h => h | exact d_int (by omega) | exact d_int (by simp) | exact d_intN (by omega) | exact d_any) .nil)) (.cons rfl (fun _ _ x => x) (.cons rfl (fun _ _ x => x) (.cons rfl (fun _ _ x => x) (.cons rfl (fun _ _ x => x) (.cons rfl (fun _ _ x => x) (.cons rfl (fun _ _ x => x) (.cons rfl (fun _ _ x => x) (.nil)))))))) (by simp only [appR]; rw [gQs_snoc, show n.toNat = u.2 by omega])
     ·
      refine au 2 ?_
      refine dr_start _ (.none) [⟨[(17, none)], [], none⟩,
          ⟨[(9, none)], [], some (2, 0, false)⟩,
          ⟨[(102, some (0, false))], [0], none⟩,
          ⟨[(11, none), (103, some (1, false))], [0, 1, 2], some (1, 0, true)⟩,
          ⟨[], [0, 1, 2, 3], none⟩] [_, _, _] _ rfl rfl ?_
      refine da 3 ?_
      refine dq_write0 rfl (fun s => .g rfl (.op rfl (.nil))) rfl rfl (fun s hs => loc_storeN (ho := (by show OneAll [_, _]; infer_instance)) rfl rfl rfl) (by exact .nil) ?_
      refine da 1 ?_
      refine dq_end (rs := [_, _, _]) () rfl (fun _ => rfl) (.nil) rfl (fun _ => rfl) (fun _ _ => ?_)
      dsimp only [outG, outM, List.map, List.set, id]
      refine run_retG (q.1) Tryz.func240 rfl (.tmp rfl (.cellN rfl (.there (.here)) (by rfl) (.tmp rfl (.nil)))) ?_ (trivial) (fun I w h => by rw [show gqL p s d g n group t = gQs p d g group (drawL t p (n * d)) n.toNat q.2 by unfold gqL; rw [if_pos (hE.trans c3), show s.toNat = q.2 by omega]]; exact (fun _ _ h => h.sub (.cons_cons _ (.cons _ (.cons _ (.refl _))))) I w h)
      exact d_tup3 (fun _ _ h => h) (d_toTape (by unfold gqT; rw [if_pos (hE.trans c3)]) (fun _ _ h => h)) (d_int (hE.trans c3).symm)
theorem gqueries_spec (p s d g n group : Int) (t : Tape) : SpecP Tryz.prog 240 [dAgg [dInt .i64 p], dAgg [dInt .i64 s, dInt .i64 d, dInt .i64 g], dInt .i64 n, dInt .i64 group, dTape t] (dTup [dRows (gqL p s d g n group t), dTape (gqT p s d g n group t), dInt .i64 (gqE p s d g n group t)]) := spec_freeze3 (gqueriesM_spec p s d g n group t)
end Go.Q

namespace Go.Q
open Go.Proofs
open Classical
end Go.Q

namespace Go.Q
open Classical
def shapeS (s : Schm) : Prop := (2 ≤ s.servers ∧ s.servers ≤ 10) ∧ ((s.kind = 1 ∧ s.degree = 0 ∧ s.group = 0) ∨ (s.kind = 2 ∧ 1 ≤ s.degree ∧ s.degree ≤ s.servers - 1 ∧ s.group = 0) ∨ (s.kind = 3 ∧ 1 ≤ s.degree ∧ s.degree ≤ s.servers ∧ 1 ≤ s.group ∧ s.group ≤ s.servers ∧ 2 * s.group + s.degree - 1 ≤ s.servers))
def validS (s : Schm) (p : Int) : Prop := shapeS s ∧ okP p ∧ (s.kind = 1 ∨ s.servers < p)
noncomputable def unitsS (s : Schm) (n : Int) : Int := if ¬ shapeS s ∨ ¬ (1 ≤ n ∧ n ≤ 1024) then 0 else if s.kind = 3 then (n + s.group - 1) / s.group else n
theorem shape_bd {s : Schm} (h : shapeS s) : (2 ≤ s.servers ∧ s.servers ≤ 10) ∧ (0 ≤ s.degree ∧ s.degree ≤ 10) ∧ (0 ≤ s.group ∧ s.group ≤ 10) := by
 unfold shapeS at h
 omega
theorem shape_kind {s : Schm} (h : shapeS s) : s.kind = 1 ∨ s.kind = 2 ∨ s.kind = 3 := by
 unfold shapeS at h
 omega
noncomputable def lookE (s : Schm) (p n : Int) : Int := if ¬ validS s p then 40 else if ¬ (1 ≤ n ∧ n ≤ 1024) then 1 else 0
theorem lookE_zero {s : Schm} {p n : Int} (h : lookE s p n = 0) : validS s p ∧ (1 ≤ n ∧ n ≤ 1024) := by
 unfold lookE at h
 split at h
 ·cases h
 ·split at h
  ·cases h
  ·rename_i h1 h2
   exact ⟨Classical.not_not.1 h1, by omega⟩
theorem lookE_ok {s : Schm} {p n : Int} (h : validS s p) (hn : 1 ≤ n ∧ n ≤ 1024) : lookE s p n = 0 := by
 unfold lookE
 rw [if_neg (Classical.not_not.2 h), if_neg (by omega)]

noncomputable def limE (s : Schm) (p n : Int) : Int := if lookE s p n ≠ 0 then lookE s p n else if s.kind = 1 then parE p n s.servers else if s.kind = 2 then planRE p s.servers s.degree n else codRE p s.servers s.degree s.group ((n + s.group - 1) / s.group)
noncomputable def limL (s : Schm) (p n : Int) : List Int := if lookE s p n ≠ 0 then [] else if s.kind = 1 then limsP p n s.servers else if s.kind = 2 then limsC p s.servers s.degree n else limsG p s.servers s.degree s.group ((n + s.group - 1) / s.group)
noncomputable def qryE (s : Schm) (p n i : Int) (t : Tape) : Int := if lookE s p n ≠ 0 then lookE s p n else if ¬ (0 ≤ i ∧ i ≤ n - 1) then 6 else if s.kind = 1 then pqE p n s.servers i t else if s.kind = 2 then cqE p s.servers s.degree n i t else gqE p s.servers s.degree s.group ((n + s.group - 1) / s.group) (i / s.group) t
noncomputable def qryL (s : Schm) (p n i : Int) (t : Tape) : List (List Int) := if lookE s p n ≠ 0 ∨ ¬ (0 ≤ i ∧ i ≤ n - 1) then [] else if s.kind = 1 then pqL p n s.servers i t else if s.kind = 2 then cqL p s.servers s.degree n i t else gqL p s.servers s.degree s.group ((n + s.group - 1) / s.group) (i / s.group) t
noncomputable def qryT (s : Schm) (p n i : Int) (t : Tape) : Tape := if lookE s p n ≠ 0 ∨ ¬ (0 ≤ i ∧ i ≤ n - 1) then ⟨[], 0⟩ else if s.kind = 1 then pqT p n s.servers i t else if s.kind = 2 then cqT p s.servers s.degree n i t else gqT p s.servers s.degree s.group ((n + s.group - 1) / s.group) (i / s.group) t
noncomputable def hldE (s : Schm) (t : Tab) (j : Int) : Int := if checkT t ≠ 0 then checkT t else if ¬ validS s t.p then 40 else if ¬ (1 ≤ j ∧ j ≤ s.servers) then 1 else if s.kind = 3 then holdE t.p s.servers s.degree s.group t.width t.rows j else 0
noncomputable def hldL (s : Schm) (t : Tab) (j : Int) : List (List Int) := if checkT t ≠ 0 ∨ ¬ validS s t.p ∨ ¬ (1 ≤ j ∧ j ≤ s.servers) then [] else if s.kind = 3 then holdG t.p s.servers s.degree s.group t.width t.rows j else t.rows
theorem hld_no {a : Int} {b c : Prop} (h1 : a = 0) (h2 : b) (h3 : c) : ¬ (a ≠ 0 ∨ ¬ b ∨ ¬ c) := by
 rintro (h | h | h)
 ·exact h h1
 ·exact h h2
 ·exact h h3
theorem take_snocR {xs : List (List Int)} {k : Nat} (h : k < xs.length) : xs.take (k + 1) = xs.take k ++ [xs[k]?.getD default] := by
 rw [List.take_add_one, List.getElem?_eq_getElem h]; rfl
theorem specP_post {P : Program} {f : FuncId} {Ds : List D} {d d' : D} (h : SpecP P f Ds d) (hd : ∀ I v, d.rel I v → d'.rel I v) : SpecP P f Ds d' := by
 intro I M w vs hv hi
 refine (h I M w vs hv hi).mono ?_
 rintro e w' ⟨v, rfl, J, h1, h2, h3⟩
 exact ⟨v, rfl, J, h1, hd _ _ h2, h3⟩
theorem un_no {A : Prop} {n : Int} (h : ¬ ((¬ A ∨ n < 1) ∨ 1024 < n)) : ¬ (¬ A ∨ ¬ (1 ≤ n ∧ n ≤ 1024)) := by
 rintro (h1 | h1)
 ·exact h (.inl (.inl h1))
 ·by_cases hh : n < 1
  ·exact h (.inl (.inr hh))
  ·exact h (.inr (by omega))
theorem un_yes {A : Prop} {n : Int} (h : (¬ A ∨ n < 1) ∨ 1024 < n) : ¬ A ∨ ¬ (1 ≤ n ∧ n ≤ 1024) := by
 rcases h with (h | h) | h
 ·exact .inl h
 ·exact .inr (by omega)
 ·exact .inr (by omega)
end Go.Q

namespace Go.Q
variable {P : Program} {N : Nat} {g : G} {M : List Res}
variable {dst : Option Tmp} {ty : TypeId} {pos : String} {after : Array Edge} {gd : Option (Nat × Bool)}
class TyMap (P : Program) (t kt et : TypeId) : Prop where
 eq : P.underlying t = some (.map kt et)
 key : P.underlying kt = some (.int .i64)
end Go.Q

namespace Go.Q
open Go.Proofs
open Classical
instance : TyConc Tryz.prog 228 := ⟨fun w v => by kernel_rfl⟩
instance : TyConc Tryz.prog 229 := ⟨fun w v => by kernel_rfl⟩
instance : TyConc Tryz.prog 230 := ⟨fun w v => by kernel_rfl⟩
instance : TyMeth Tryz.prog 228 "privatefetch/scheme.queries" 211 := ⟨fun w v args => by kernel_rfl⟩
instance : TyMeth Tryz.prog 229 "privatefetch/scheme.queries" 225 := ⟨fun w v args => by kernel_rfl⟩
instance : TyMeth Tryz.prog 230 "privatefetch/scheme.queries" 238 := ⟨fun w v args => by kernel_rfl⟩
theorem within_spec (n lo hi : Int) : SpecP Tryz.prog 108 [dInt .i64 n, dInt .i64 lo, dInt .i64 hi] (dB (lo ≤ n ∧ n ≤ hi)) := by
 refine specP_of_body Tryz.func108 rfl rfl (fun I M => ?_)
 refine au 17 ?_
 refine run_retP Tryz.func108 rfl rfl ?_
 exact d_B (by constructor <;> (intro h; omega))
theorem shape_spec (s : Schm) : SpecP Tryz.prog 59 [dSchm s] (dB (shapeS s)) := by
  refine specP_of_body Tryz.func59 rfl rfl (fun I M => ?_)
  refine au 10 ?_
  refine run_op (loc_call (within_spec _ _ _) rfl) rfl ?_
  refine au 2 ?_
  refine run_cond rfl (fun h1 => ?_) (fun h1 => ?_)
  ·
   have c1 := h1
   refine au 4 ?_
   refine run_retP Tryz.func59 rfl rfl ?_
   exact d_B ⟨False.elim, fun h => by have := shape_bd h; omega⟩
  ·
   have c1 := h1
   refine au 13 ?_
   refine run_cond rfl (fun h2 => ?_) (fun h2 => ?_)
   ·
    refine au 13 ?_
    refine run_retP Tryz.func59 rfl rfl ?_
    exact d_B (by unfold shapeS; constructor <;> (intro h; omega))
   ·
    refine au 5 ?_
    refine run_cond rfl (fun h3 => ?_) (fun h3 => ?_)
    ·
     refine au 7 ?_
     refine run_op (loc_call (within_spec _ _ _) rfl) rfl ?_
     refine au 8 ?_
     refine run_retP Tryz.func59 rfl rfl ?_
     exact d_B (by unfold shapeS; constructor <;> (intro h; omega))
    ·
     refine au 5 ?_
     refine run_cond rfl (fun h4 => ?_) (fun h4 => ?_)
     ·
      refine au 1 ?_
      have hbd : (2 ≤ s.servers ∧ s.servers ≤ 10) := by omega
      refine au 5 ?_
      refine run_op (loc_call (within_spec _ _ _) rfl) rfl ?_
      refine au 5 ?_
      refine run_gop rfl rfl gdI.ok (fun hg => loc_call (within_spec _ _ _) rfl) rfl ?_
      refine au 17 ?_
      refine run_retP Tryz.func59 rfl rfl ?_
      exact d_B (by unfold shapeS; constructor <;> (intro h; omega))
     ·
      refine au 6 ?_
      refine run_retP Tryz.func59 rfl rfl ?_
      exact d_B ⟨False.elim, fun h => by have := shape_kind h; omega⟩
theorem rshape_spec (s : Schm) : SpecP Tryz.prog 60 [dSchm s] (dB (shapeS s)) := by
  refine specP_of_body Tryz.func60 rfl rfl (fun I M => ?_)
  refine au 18 ?_
  refine run_cond rfl (fun h1 => ?_) (fun h1 => ?_)
  ·
   have c1 := h1
   refine au 4 ?_
   refine run_retP Tryz.func60 rfl rfl ?_
   exact d_B ⟨False.elim, fun h => by have := shape_bd h; omega⟩
  ·
   have c1 := h1
   refine au 13 ?_
   refine run_cond rfl (fun h2 => ?_) (fun h2 => ?_)
   ·
    refine au 13 ?_
    refine run_retP Tryz.func60 rfl rfl ?_
    exact d_B (by unfold shapeS; constructor <;> (intro h; omega))
   ·
    refine au 5 ?_
    refine run_cond rfl (fun h3 => ?_) (fun h3 => ?_)
    ·
     refine au 22 ?_
     refine run_retP Tryz.func60 rfl rfl ?_
     exact d_B (by unfold shapeS; constructor <;> (intro h; omega))
    ·
     refine au 5 ?_
     refine run_cond rfl (fun h4 => ?_) (fun h4 => ?_)
     ·
      refine au 38 ?_
      refine run_retP Tryz.func60 rfl rfl ?_
      exact d_B (by unfold shapeS; constructor <;> (intro h; omega))
     ·
      refine au 6 ?_
      refine run_retP Tryz.func60 rfl rfl ?_
      exact d_B ⟨False.elim, fun h => by have := shape_kind h; omega⟩
theorem valid_spec (s : Schm) (p : Int) : SpecP Tryz.prog 54 [dSchm s, dAgg [dInt .i64 p]] (dB (validS s p)) := by
 refine specP_of_body Tryz.func54 rfl rfl (fun I M => ?_)
 refine au 9 ?_
 refine run_op (loc_call (shape_spec _) rfl) rfl ?_
 refine au 2 ?_
 refine run_gop rfl rfl gdI.ok (fun hg => loc_call (fcheck_spec _) rfl) rfl ?_
 refine au 15 ?_
 first | refine run_gfirst rfl rfl gdI.ok (fun hg => loc_or rfl rfl) rfl ?_ | refine run_gfirst rfl rfl gdI.ok (fun hg => loc_orG hg rfl rfl) rfl ?_ | refine run_gfirst rfl rfl gdI.ok (fun hg => loc_orH hg rfl rfl) rfl ?_
 refine au 4 ?_
 refine run_retP Tryz.func54 rfl rfl ?_
 exact d_B (by unfold validS; rw [errP_zero]; constructor; (· rintro ⟨⟨a, b⟩, c⟩; exact ⟨a, b, c⟩); (· rintro ⟨a, b, c⟩; exact ⟨⟨a, b⟩, c⟩))
theorem rvalid_spec (s : Schm) (p : Int) : SpecP Tryz.prog 63 [dSchm s, dAgg [dInt .i64 p]] (dB (validS s p)) := by
 refine specP_of_body Tryz.func63 rfl rfl (fun I M => ?_)
 refine au 9 ?_
 refine run_op (loc_call (rshape_spec _) rfl) rfl ?_
 refine au 2 ?_
 refine run_gop rfl rfl gdI.ok (fun hg => loc_call (rcheck3_spec _) rfl) rfl ?_
 refine au 15 ?_
 first | refine run_gfirst rfl rfl gdI.ok (fun hg => loc_or rfl rfl) rfl ?_ | refine run_gfirst rfl rfl gdI.ok (fun hg => loc_orG hg rfl rfl) rfl ?_ | refine run_gfirst rfl rfl gdI.ok (fun hg => loc_orH hg rfl rfl) rfl ?_
 refine au 4 ?_
 refine run_retP Tryz.func63 rfl rfl ?_
 exact d_B (by unfold validS; rw [errP_zero]; constructor; (· rintro ⟨⟨a, b⟩, c⟩; exact ⟨a, b, c⟩); (· rintro ⟨a, b, c⟩; exact ⟨⟨a, b⟩, c⟩))
theorem storage_spec (s : Schm) : SpecP Tryz.prog 110 [dSchm s] (dAgg [dInt .i64 s.servers, dInt .i64 s.degree, dInt .i64 s.group]) := by
 refine specP_of_body Tryz.func110 rfl rfl (fun I M => ?_)
 refine au 3 ?_
 refine run_new (loc_allocOwn (by simp)) rfl (fun b1 _ => ?_)
 refine au 12 ?_
 refine run_retGP Tryz.func110 rfl (.cellN rfl (.here) (by rfl) (.nil)) ?_ (fun _ _ h => inv_tail (h))
 exact fun _ _ h => h
theorem unitsG_spec (s d g n : Int) (hg : 1 ≤ g ∧ g ≤ 10) (hn : 1 ≤ n ∧ n ≤ 1024) : SpecP Tryz.prog 239 [dAgg [dInt .i64 s, dInt .i64 d, dInt .i64 g], dInt .i64 n] (dInt .i64 ((n + g - 1) / g)) := by
 refine specP_of_body Tryz.func239 rfl rfl (fun I M => ?_)
 refine au 17 ?_
 refine run_retP Tryz.func239 rfl rfl ?_
 exact fun _ _ h => h
theorem runits_spec (s : Schm) (n : Int) : SpecP Tryz.prog 49 [dSchm s, dInt .i64 n] (dInt .i64 (unitsS s n)) := by
  refine specP_of_body Tryz.func49 rfl rfl (fun I M => ?_)
  refine au 9 ?_
  refine run_op (loc_call (rshape_spec _) rfl) rfl ?_
  refine au 12 ?_
  refine run_cond rfl (fun h1 => ?_) (fun h1 => ?_)
  ·
   have c1 : ¬ shapeS s ∨ ¬ (1 ≤ n ∧ n ≤ 1024) := un_yes h1
   refine au 4 ?_
   refine run_retP Tryz.func49 rfl rfl ?_
   exact d_int (by unfold unitsS; rw [if_pos c1])
  ·
   have c1 : ¬ (¬ shapeS s ∨ ¬ (1 ≤ n ∧ n ≤ 1024)) := un_no h1
   have c2 : shapeS s := Classical.not_not.1 fun h => c1 (.inl h)
   have c3 : 1 ≤ n ∧ n ≤ 1024 := Classical.not_not.1 fun h => c1 (.inr h)
   have hbd := shape_bd c2
   refine au 8 ?_
   refine run_cond rfl (fun h2 => ?_) (fun h2 => ?_)
   ·
    have c4 := h2
    have hg : 1 ≤ s.group := by unfold shapeS at c2; omega
    refine au 12 ?_
    refine run_retP Tryz.func49 rfl rfl ?_
    exact d_int (by unfold unitsS; rw [if_neg c1, if_pos c4])
   ·
    refine au 6 ?_
    refine run_retP Tryz.func49 rfl rfl ?_
    exact d_int (by unfold unitsS; rw [if_neg c1, if_neg (by assumption)])
theorem look_spec (s : Schm) (p n : Int) : SpecP Tryz.prog 181 [dSchm s, dAgg [dInt .i64 p], dInt .i64 n] (dInt .i64 (lookE s p n)) := by
  refine specP_of_body Tryz.func181 rfl rfl (fun I M => ?_)
  refine au 12 ?_
  refine run_op (loc_call (valid_spec _ _) rfl) rfl ?_
  refine au 3 ?_
  refine run_cond rfl (fun h1 => ?_) (fun h1 => ?_)
  ·
   have c1 := h1
   refine au 4 ?_
   refine run_retP Tryz.func181 rfl rfl ?_
   exact d_int (by unfold lookE; rw [if_pos c1])
  ·
   have c1 := h1
   refine au 3 ?_
   refine run_op (loc_call (within_spec _ _ _) rfl) rfl ?_
   refine au 3 ?_
   refine run_cond rfl (fun h2 => ?_) (fun h2 => ?_)
   ·
    have c2 := h2
    refine au 4 ?_
    refine run_retP Tryz.func181 rfl rfl ?_
    exact d_int (by unfold lookE; rw [if_neg c1, if_pos c2])
   ·
    have c2 := h2
    refine au 6 ?_
    refine run_retP Tryz.func181 rfl rfl ?_
    exact d_int (by unfold lookE; rw [if_neg c1, if_neg c2])
noncomputable def kindD (s : Schm) : D := if s.kind = 1 then dIface 228 (dAgg [dInt .i64 s.servers]) else if s.kind = 2 then dIface 229 (dAgg [dInt .i64 s.servers, dInt .i64 s.degree]) else dIface 230 (dAgg [dInt .i64 s.servers, dInt .i64 s.degree, dInt .i64 s.group])
theorem kindOf_spec (s : Schm) : SpecP Tryz.prog 182 [dSchm s] (kindD s) := by
  refine specP_of_body Tryz.func182 rfl rfl (fun I M => ?_)
  refine au 17 ?_
  refine run_cond rfl (fun h1 => ?_) (fun h1 => ?_)
  ·
   refine au 8 ?_
   refine run_retP Tryz.func182 rfl rfl ?_
   exact d_eq (by unfold kindD; rw [if_pos (by assumption)] <;> rfl)
  ·
   refine au 5 ?_
   refine run_cond rfl (fun h2 => ?_) (fun h2 => ?_)
   ·
    refine au 10 ?_
    refine run_retP Tryz.func182 rfl rfl ?_
    exact d_eq (by unfold kindD; rw [if_neg (by assumption), if_pos (by assumption)] <;> rfl)
   ·
    refine au 5 ?_
    refine run_op (loc_call (storage_spec _) rfl) rfl ?_
    refine au 3 ?_
    refine run_retP Tryz.func182 rfl rfl ?_
    exact d_eq (by unfold kindD; rw [if_neg (by assumption), if_neg (by assumption)] <;> rfl)
theorem sumsQ_spec (s p n i : Int) (t : Tape) : SpecP Tryz.prog 211 [dAgg [dInt .i64 s], dAgg [dInt .i64 p], dInt .i64 n, dInt .i64 i, dTape t] (dTup [dRows (pqL p n s i t), dTape (pqT p n s i t), dInt .i64 (pqE p n s i t)]) := by
 refine specP_of_body Tryz.func211 rfl rfl (fun I M => ?_)
 refine au 6 ?_
 refine run_new (loc_allocOwn (by simp)) rfl (fun b1 _ => ?_)
 refine au 10 ?_
 refine run_op (loc_call (pqueries_spec _ _ _ _ _) rfl) rfl ?_
 refine au 7 ?_
 refine run_retGP Tryz.func211 rfl (.tmp rfl (.cellN rfl (.here) (by rfl) (.tmp rfl (.nil)))) ?_ (fun _ _ h => inv_tail (h))
 exact fun _ _ h => h
theorem curvesQ_spec (s d p n i : Int) (t : Tape) : SpecP Tryz.prog 225 [dAgg [dInt .i64 s, dInt .i64 d], dAgg [dInt .i64 p], dInt .i64 n, dInt .i64 i, dTape t] (dTup [dRows (cqL p s d n i t), dTape (cqT p s d n i t), dInt .i64 (cqE p s d n i t)]) := by
 refine specP_of_body Tryz.func225 rfl rfl (fun I M => ?_)
 refine au 6 ?_
 refine run_new (loc_allocOwn (by simp)) rfl (fun b1 _ => ?_)
 refine au 9 ?_
 refine run_op (loc_call (cqueries_spec _ _ _ _ _ _) rfl) rfl ?_
 refine au 7 ?_
 refine run_retGP Tryz.func225 rfl (.tmp rfl (.cellN rfl (.here) (by rfl) (.tmp rfl (.nil)))) ?_ (fun _ _ h => inv_tail (h))
 exact fun _ _ h => h
theorem groupsQ_spec (s d g p n i : Int) (t : Tape) (hg : 1 ≤ g ∧ g ≤ 10) (hn : 1 ≤ n ∧ n ≤ 1024) (hi : 0 ≤ i ∧ i ≤ 1024) : SpecP Tryz.prog 238 [dAgg [dInt .i64 s, dInt .i64 d, dInt .i64 g], dAgg [dInt .i64 p], dInt .i64 n, dInt .i64 i, dTape t] (dTup [dRows (gqL p s d g ((n + g - 1) / g) (i / g) t), dTape (gqT p s d g ((n + g - 1) / g) (i / g) t), dInt .i64 (gqE p s d g ((n + g - 1) / g) (i / g) t)]) := by
 refine specP_of_body Tryz.func238 rfl rfl (fun I M => ?_)
 refine au 6 ?_
 refine run_new (loc_allocOwn (by simp)) rfl (fun b1 _ => ?_)
 refine au 3 ?_
 refine dr_start _ (.none) [⟨[(6, none)], [], none⟩,
   ⟨[(5, none)], [], none⟩,
   ⟨[(5, none)], [], none⟩,
   ⟨[(2, none)], [], none⟩,
   ⟨[(15, some (2, false)), (16, some (3, false))], [2, 3], none⟩,
   ⟨[(3, none)], [], none⟩,
   ⟨[(5, none)], [], none⟩,
   ⟨[(19, some (6, false))], [6], none⟩,
   ⟨[(18, some (5, false)), (20, some (7, false))], [5, 6, 7], none⟩,
   ⟨[(9, none)], [], none⟩,
   ⟨[(13, some (0, false)), (14, some (1, false)), (17, some (4, false)), (21, some (8, false)), (22, some (9, false))], [0, 1, 2, 3, 4, 5, 6, 7, 8, 9], none⟩,
   ⟨[(23, some (10, false))], [0, 1, 2, 3, 4, 5, 6, 7, 8, 9, 10], none⟩,
   ⟨[(23, some (10, false))], [0, 1, 2, 3, 4, 5, 6, 7, 8, 9, 10], none⟩,
   ⟨[(23, some (10, false))], [0, 1, 2, 3, 4, 5, 6, 7, 8, 9, 10], none⟩,
   ⟨[(24, some (11, false))], [0, 1, 2, 3, 4, 5, 6, 7, 8, 9, 10, 11, 12, 13], none⟩,
   ⟨[(11, none), (25, some (12, false))], [0, 1, 2, 3, 4, 5, 6, 7, 8, 9, 10, 11, 12, 13, 14], some (0, 0, true)⟩,
   ⟨[(26, some (13, false))], [0, 1, 2, 3, 4, 5, 6, 7, 8, 9, 10, 11, 12, 13, 14, 15], none⟩] [_] _ rfl rfl ?_
 refine da 4 ?_
 refine dq_pure rfl (fun s => .op rfl (.op rfl (.nil))) (fun s hs _ => loc_call (unitsG_spec _ _ _ _ hg hn) rfl) (by exact .nil) ?_
 refine da 5 ?_
 refine dq_pure rfl (fun s => .op rfl (.op rfl (.op rfl (.op rfl (.op rfl (.nil)))))) (fun s hs _ => loc_call (gqueries_spec _ _ _ _ _ _ _) rfl) (by exact .nil) ?_
 refine da 4 ?_
 refine dq_write0 rfl (fun s => .g rfl (.op rfl (.nil))) rfl rfl (fun s hs => loc_storeN (ho := (by show OneAll [_, _]; infer_instance)) rfl rfl rfl) (by exact .nil) ?_
 refine da 1 ?_
 refine dq_end (rs := [_]) () rfl (fun _ => rfl) (.nil) rfl (fun _ => rfl) (fun _ _ => ?_)
 dsimp only [outG, outM, List.map, List.set, id]
 refine run_retGP Tryz.func238 rfl (.tmp rfl (.cellN rfl (.here) (by rfl) (.tmp rfl (.nil)))) ?_ (fun _ _ h => inv_tail (h))
 exact fun _ _ h => h
theorem kind_qry {s : Schm} {p n i : Int} {t : Tape} (h : lookE s p n = 0) (hi : 0 ≤ i ∧ i ≤ n - 1) : ∀ I v, (kindD s).rel I v → (dMeth Tryz.prog "privatefetch/scheme.queries" [dAgg [dInt .i64 p], dInt .i64 n, dInt .i64 i, dTape t] (dTup [dRows (qryL s p n i t), dTape (qryT s p n i t), dInt .i64 (qryE s p n i t)])).rel I v := by
  obtain ⟨⟨h1, h2, h3⟩, hn⟩ := lookE_zero h
  have hbd := shape_bd h1
  have e1 : qryL s p n i t = if s.kind = 1 then pqL p n s.servers i t else if s.kind = 2 then cqL p s.servers s.degree n i t else gqL p s.servers s.degree s.group ((n + s.group - 1) / s.group) (i / s.group) t := by unfold qryL; rw [if_neg (by omega)]
  have e2 : qryE s p n i t = if s.kind = 1 then pqE p n s.servers i t else if s.kind = 2 then cqE p s.servers s.degree n i t else gqE p s.servers s.degree s.group ((n + s.group - 1) / s.group) (i / s.group) t := by unfold qryE; rw [if_neg (Classical.not_not.2 h), if_neg (by omega)]
  have e3 : qryT s p n i t = if s.kind = 1 then pqT p n s.servers i t else if s.kind = 2 then cqT p s.servers s.degree n i t else gqT p s.servers s.degree s.group ((n + s.group - 1) / s.group) (i / s.group) t := by unfold qryT; rw [if_neg (by omega)]
  unfold kindD
  rw [e1, e2, e3]
  split
  · exact iface_meth (sumsQ_spec s.servers p n i t)
  · split
    · exact iface_meth (curvesQ_spec s.servers s.degree p n i t)
    · exact iface_meth (groupsQ_spec s.servers s.degree s.group p n i t (by unfold shapeS at h1; omega) hn (by omega))
theorem kindQry_spec {s : Schm} {p n i : Int} {t : Tape} (h : lookE s p n = 0) (hi : 0 ≤ i ∧ i ≤ n - 1) : SpecP Tryz.prog 182 [dSchm s] (dMeth Tryz.prog "privatefetch/scheme.queries" [dAgg [dInt .i64 p], dInt .i64 n, dInt .i64 i, dTape t] (dTup [dRows (qryL s p n i t), dTape (qryT s p n i t), dInt .i64 (qryE s p n i t)])) := specP_post (kindOf_spec s) (kind_qry h hi)
theorem squeries_spec (s : Schm) (p n i : Int) (t : Tape) : SpecP Tryz.prog 161 [dSchm s, dAgg [dInt .i64 p], dInt .i64 n, dInt .i64 i, dTape t] (dTup [dRows (qryL s p n i t), dTape (qryT s p n i t), dInt .i64 (qryE s p n i t)]) := by
  refine specP_of_body Tryz.func161 rfl rfl (fun I M => ?_)
  refine au 6 ?_
  refine run_new (loc_allocOwn (by simp)) rfl (fun b1 _ => ?_)
  refine au 8 ?_
  refine run_op (loc_call (look_spec _ _ _) rfl) rfl ?_
  refine au 7 ?_
  refine run_cond rfl (fun h2 => ?_) (fun h2 => ?_)
  ·
   have c1 := h2
   refine au 8 ?_
   refine run_retGP Tryz.func161 rfl (.tmp rfl (.cellN rfl (.here) (by rfl) (.tmp rfl (.nil)))) ?_ (fun _ _ h => inv_tail (h))
   exact d_tup3 (d_toRows (by unfold qryL; rw [if_pos (.inl c1)]) d_nil) (d_toTape (by unfold qryT; rw [if_pos (.inl c1)]) (d_aggU (.cons d_nil (.cons (d_int rfl) .nil)))) (d_int (by unfold qryE; rw [if_pos c1]))
  ·
   have c1 := Classical.not_not.1 h2
   have hln := (lookE_zero c1).2
   refine au 7 ?_
   refine run_op (loc_call (within_spec _ _ _) rfl) rfl ?_
   refine au 2 ?_
   refine run_cond rfl (fun h3 => ?_) (fun h3 => ?_)
   ·
    have c2 := h3
    refine au 7 ?_
    refine run_retGP Tryz.func161 rfl (.tmp rfl (.cellN rfl (.here) (by rfl) (.tmp rfl (.nil)))) ?_ (fun _ _ h => inv_tail (h))
    exact d_tup3 (d_toRows (by unfold qryL; rw [if_pos (.inr c2)]) d_nil) (d_toTape (by unfold qryT; rw [if_pos (.inr c2)]) (d_aggU (.cons d_nil (.cons (d_int rfl) .nil)))) (d_int (by unfold qryE; rw [if_neg (Classical.not_not.2 c1), if_pos c2]))
   ·
    have c2 := Classical.not_not.1 h3
    refine au 2 ?_
    refine dr_start _ (.none) [⟨[(5, none)], [], none⟩,
        ⟨[(28, some (0, false))], [0], none⟩,
        ⟨[(6, none)], [], none⟩,
        ⟨[(2, none)], [], none⟩,
        ⟨[(3, none)], [], none⟩,
        ⟨[(9, none)], [], none⟩,
        ⟨[(29, some (1, false)), (30, some (2, false)), (31, some (3, false)), (32, some (4, false)), (33, some (5, false))], [0, 1, 2, 3, 4, 5], none⟩,
        ⟨[(34, some (6, false))], [0, 1, 2, 3, 4, 5, 6], none⟩,
        ⟨[(34, some (6, false))], [0, 1, 2, 3, 4, 5, 6], none⟩,
        ⟨[(34, some (6, false))], [0, 1, 2, 3, 4, 5, 6], none⟩,
        ⟨[(35, some (7, false))], [0, 1, 2, 3, 4, 5, 6, 7, 8, 9], none⟩,
        ⟨[(11, none), (36, some (8, false))], [0, 1, 2, 3, 4, 5, 6, 7, 8, 9, 10], some (0, 0, true)⟩,
        ⟨[(37, some (9, false))], [0, 1, 2, 3, 4, 5, 6, 7, 8, 9, 10, 11], none⟩] [_] _ rfl rfl ?_
    refine da 1 ?_
    refine dq_pure rfl (fun s => .op rfl (.nil)) (fun s hs _ => loc_call (kindQry_spec (p := p) (n := n) (i := i) (t := t) c1 c2) rfl) (by exact .nil) ?_
    refine da 4 ?_
    refine dq_pure rfl (fun s => .op rfl (.op rfl (.op rfl (.op rfl (.op rfl (.nil)))))) (fun s hs _ => loc_invokeM rfl rfl) (by exact .nil) ?_
    refine da 4 ?_
    refine dq_write0 rfl (fun s => .g rfl (.op rfl (.nil))) rfl rfl (fun s hs => loc_storeN (ho := (by show OneAll [_, _]; infer_instance)) rfl rfl rfl) (by exact .nil) ?_
    refine da 1 ?_
    refine dq_end (rs := [_]) () rfl (fun _ => rfl) (.nil) rfl (fun _ => rfl) (fun _ _ => ?_)
    dsimp only [outG, outM, List.map, List.set, id]
    refine run_retGP Tryz.func161 rfl (.tmp rfl (.cellN rfl (.here) (by rfl) (.tmp rfl (.nil)))) ?_ (fun _ _ h => inv_tail (h))
    exact fun _ _ h => h
end Go.Q

namespace Go.Q
open Classical
def keptOk (l : List Int) (j : Nat) : Prop := 1 ≤ l[j]?.getD default ∧ l[j]?.getD default ≤ 2147483646 ∧ (0 < j → l[j - 1]?.getD default < l[j]?.getD default)
def rowOk (kept : List Int) (l : List Pn) (j : Nat) : Prop := 0 ≤ (l[j]?.getD default).session ∧ (0 < j → (l[j - 1]?.getD default).session < (l[j]?.getD default).session) ∧ (l[j]?.getD default).version ∈ kept
structure okPins (p : Pins) : Prop where
 one : 1 ≤ p.kept.length
 most : p.kept.length ≤ 16
 reads : p.rows.length ≤ 64
 kept : ∀ j, j < p.kept.length → keptOk p.kept j
 rows : ∀ j, j < p.rows.length → rowOk p.kept p.rows j
theorem cmpI_neg {x y : Int} : cmpI x y < 0 ↔ x < y := by unfold cmpI; split <;> (try split) <;> omega
theorem cmpI_zero {x y : Int} : cmpI x y = 0 ↔ x = y := by unfold cmpI; split <;> (try split) <;> omega
end Go.Q

namespace Go.Q
open Classical
structure Dc where
 xs : List Int
 k : Nat
deriving Inhabited
def Dc.val (d : Dc) (n : Int) : Int := if d.k < d.xs.length then d.xs[d.k]?.getD default % n else 0
def Dc.next (d : Dc) : Dc := ⟨d.xs, if d.k < d.xs.length then d.k + 1 else d.k⟩
structure okDc (d : Dc) : Prop where
 byte : ∀ x ∈ d.xs, 0 ≤ x ∧ x ≤ 255
 len : d.xs.length ≤ 300
theorem Dc.val_nonneg {d : Dc} {n : Int} (hn : 1 ≤ n) : 0 ≤ d.val n := by
 unfold Dc.val
 split
 ·exact Int.emod_nonneg _ (by omega)
 ·omega
theorem Dc.val_lt {d : Dc} {n : Int} (hn : 1 ≤ n) : d.val n < n := by
 unfold Dc.val
 split
 ·exact Int.emod_lt_of_pos _ (by omega)
 ·omega
theorem Dc.next_ok {d : Dc} (h : okDc d) : okDc d.next := ⟨h.byte, h.len⟩
structure rowsP (kept : List Int) (l : List Pn) : Prop where
 nonneg : ∀ r ∈ l, 0 ≤ r.session
 mem : ∀ r ∈ l, r.version ∈ kept
 asc : l.Pairwise fun a b => a.session < b.session
structure keptP (l : List Int) : Prop where
 bd : ∀ v ∈ l, 1 ≤ v ∧ v ≤ 2147483646
 asc : l.Pairwise fun a b => a < b
end Go.Q

namespace Go.Q
open Classical
theorem okP_7 : okP 7 := by
 refine ⟨by omega, by omega, fun d h1 h2 h3 => ?_⟩
 have hd : d ≤ 2 := by by_cases h : d ≤ 2; (· exact h); (· exfalso; have := mul_bd (a := 3) (A := d) (b := 3) (B := d) (by omega) (by omega) (by omega) (by omega); omega)
 have : d = 2 := by omega
 subst this; omega
theorem okP_11 : okP 11 := by
 refine ⟨by omega, by omega, fun d h1 h2 h3 => ?_⟩
 have hd : d ≤ 3 := by by_cases h : d ≤ 3; (· exact h); (· exfalso; have := mul_bd (a := 4) (A := d) (b := 4) (B := d) (by omega) (by omega) (by omega) (by omega); omega)
 have : d = 2 ∨ d = 3 := by omega
 rcases this with rfl | rfl <;> omega
theorem okP_13 : okP 13 := by
 refine ⟨by omega, by omega, fun d h1 h2 h3 => ?_⟩
 have hd : d ≤ 3 := by by_cases h : d ≤ 3; (· exact h); (· exfalso; have := mul_bd (a := 4) (A := d) (b := 4) (B := d) (by omega) (by omega) (by omega) (by omega); omega)
 have : d = 2 ∨ d = 3 := by omega
 rcases this with rfl | rfl <;> omega
theorem okP_257 : okP 257 := by
 refine ⟨by omega, by omega, fun d h1 h2 h3 => ?_⟩
 have hd : d ≤ 16 := by by_cases h : d ≤ 16; (· exact h); (· exfalso; have := mul_bd (a := 17) (A := d) (b := 17) (B := d) (by omega) (by omega) (by omega) (by omega); omega)
 have : d = 2 ∨ d = 3 ∨ d = 4 ∨ d = 5 ∨ d = 6 ∨ d = 7 ∨ d = 8 ∨ d = 9 ∨ d = 10 ∨ d = 11 ∨ d = 12 ∨ d = 13 ∨ d = 14 ∨ d = 15 ∨ d = 16 := by omega
 rcases this with rfl | rfl | rfl | rfl | rfl | rfl | rfl | rfl | rfl | rfl | rfl | rfl | rfl | rfl | rfl <;> omega
def dieP (p : Int) : Prop := p = 7 ∨ p = 11 ∨ p = 13 ∨ p = 257
theorem dieP_ok {p : Int} (h : dieP p) : okP p ∧ 7 ≤ p ∧ p ≤ 257 := by
 rcases h with rfl | rfl | rfl | rfl
 ·exact ⟨okP_7, by omega, by omega⟩
 ·exact ⟨okP_11, by omega, by omega⟩
 ·exact ⟨okP_13, by omega, by omega⟩
 ·exact ⟨okP_257, by omega, by omega⟩
def dieS (s : Schm) : Prop := shapeS s ∧ 3 ≤ s.servers ∧ s.servers ≤ 6
theorem die_valid {s : Schm} {p : Int} (hs : dieS s) (hp : dieP p) : validS s p := by
 obtain ⟨h1, h2, h3⟩ := dieP_ok hp
 exact ⟨hs.1, h1, .inr (by have := hs.2; omega)⟩
def dieT (p : Int) (t : Tab) : Prop := checkT t = 0 ∧ t.p = p ∧ (1 ≤ t.rows.length ∧ t.rows.length ≤ 5) ∧ (1 ≤ t.number ∧ t.number ≤ 3) ∧ (1 ≤ t.width ∧ t.width ≤ 3)
def dieTp (ls : List Int) (t : Tape) : Prop := t.at' = 0 ∧ t.numbers.length = ls.length ∧ ∀ j, j < ls.length → 0 ≤ t.numbers[j]?.getD default ∧ t.numbers[j]?.getD default < ls[j]?.getD default
def dieW (n : Int) (l : List Int) : Prop := (1 ≤ l.length ∧ l.length ≤ 3) ∧ ∀ x ∈ l, -1 ≤ x ∧ x < n
theorem dieT_of {p n w c : Int} {rows : List (List Int)} (hp : dieP p) (hn : 1 ≤ n ∧ n ≤ 3) (hw : 1 ≤ w ∧ w ≤ 3) (hc : 1 ≤ c ∧ c ≤ 5) (h : rows.length = c.toNat ∧ ∀ r ∈ rows, r.length = w.toNat ∧ ∀ x ∈ r, hasP p x) : dieT p ⟨n, p, w, rows⟩ := by
 refine ⟨?_, rfl, ⟨by simp only; omega, by simp only; omega⟩, hn, hw⟩
 unfold checkT
 rw [if_neg (by simp only; omega), if_neg (Classical.not_not.2 (dieP_ok hp).1), if_neg (by simp only; omega), if_neg (by simp only; omega)]
 refine firstErr_none fun r hr => ?_
 obtain ⟨h1, h2⟩ := h.2 r hr
 unfold rowErr
 rw [if_neg (by simp only; omega), if_neg (Classical.not_not.2 (show allP p r from h2))]
theorem snoc_all {xs ls : List Int} {x : Int} (h : ∀ j, j < xs.length → 0 ≤ xs[j]?.getD default ∧ xs[j]?.getD default < ls[j]?.getD default) (hx : 0 ≤ x ∧ x < ls[xs.length]?.getD default) : ∀ j, j < (xs ++ [x]).length → 0 ≤ (xs ++ [x])[j]?.getD default ∧ (xs ++ [x])[j]?.getD default < ls[j]?.getD default := by
 intro j hj
 rw [List.length_append, List.length_singleton] at hj
 by_cases e : j = xs.length
 ·subst e; simpa using hx
 ·rw [List.getElem?_append_left (by omega)]; exact h j (by omega)
theorem die_get {k : Int} (h : 0 ≤ k ∧ k < 4) : dieP (([7, 11, 13, 257] : List Int)[k.toNat]?.getD default) := by
 have : k.toNat = 0 ∨ k.toNat = 1 ∨ k.toNat = 2 ∨ k.toNat = 3 := by omega
 unfold dieP
 rcases this with e | e | e | e <;> rw [e] <;> simp
theorem die1 {n : Int} (h : 3 ≤ n ∧ n ≤ 6) : dieS ⟨1, n, 0, 0⟩ := ⟨⟨⟨by simp only; omega, by simp only; omega⟩, .inl ⟨rfl, rfl, rfl⟩⟩, h⟩
theorem die2 {n d : Int} (h : 3 ≤ n ∧ n ≤ 6) (hd : 1 ≤ d ∧ d ≤ 2) : dieS ⟨2, n, d, 0⟩ := ⟨⟨⟨by simp only; omega, by simp only; omega⟩, .inr (.inl ⟨rfl, hd.1, by simp only; omega, rfl⟩)⟩, h⟩
theorem die3 {n d : Int} (h : 3 ≤ n ∧ n ≤ 6) (hd : 1 ≤ d ∧ d ≤ 2) : dieS ⟨3, n, d, 1⟩ := ⟨⟨⟨by simp only; omega, by simp only; omega⟩, .inr (.inr ⟨rfl, hd.1, by simp only; omega, by simp only; omega, by simp only; omega, by simp only; omega⟩)⟩, h⟩
theorem die4 {n : Int} (h : 4 ≤ n ∧ n ≤ 6) : dieS ⟨3, n, 1, 2⟩ := ⟨⟨⟨by simp only; omega, by simp only; omega⟩, .inr (.inr ⟨rfl, by simp only; omega, by simp only; omega, by simp only; omega, by simp only; omega, by simp only; omega⟩)⟩, by simp only; omega, h.2⟩
noncomputable def schI (d : Dc) : Dc := @ite _ (¬ 3 + d.val 4 < 4) (Classical.propDecidable _) d.next.next.next d.next.next
noncomputable def schV (d : Dc) : Schm := if d.next.val 3 = 0 then ⟨1, 3 + d.val 4, 0, 0⟩ else if d.next.val 3 = 1 then ⟨2, 3 + d.val 4, 1 + d.next.next.val 2, 0⟩ else if 3 + d.val 4 < 4 ∨ d.next.next.val 2 = 0 then ⟨3, 3 + d.val 4, 1 + (schI d).val 2, 1⟩ else ⟨3, 3 + d.val 4, 1, 2⟩
noncomputable def schD (d : Dc) : Dc := if d.next.val 3 = 0 then d.next.next else if d.next.val 3 = 1 then d.next.next.next else if 3 + d.val 4 < 4 ∨ d.next.next.val 2 = 0 then (schI d).next else schI d
theorem schI_ok {d : Dc} (h : okDc d) : okDc (schI d) := by
 have h1 := Dc.next_ok h
 have h2 := Dc.next_ok h1
 have h3 := Dc.next_ok h2
 unfold schI
 split <;> assumption
theorem schD_ok {d : Dc} (h : okDc d) : okDc (schD d) := by
 have h1 := Dc.next_ok h
 have h2 := Dc.next_ok h1
 have h3 := Dc.next_ok h2
 have h4 := schI_ok h
 have h5 := Dc.next_ok h4
 unfold schD
 split
 ·assumption
 ·split
  ·assumption
  ·split <;> assumption
theorem schV_die (d : Dc) : dieS (schV d) := by
 have v0 := Dc.val_lt (d := d) (n := 4) (by omega)
 have w0 := Dc.val_nonneg (d := d) (n := 4) (by omega)
 have v1 := Dc.val_lt (d := d.next.next) (n := 2) (by omega)
 have w1 := Dc.val_nonneg (d := d.next.next) (n := 2) (by omega)
 have v2 := Dc.val_lt (d := schI d) (n := 2) (by omega)
 have w2 := Dc.val_nonneg (d := schI d) (n := 2) (by omega)
 unfold schV
 split
 ·exact die1 (by omega)
 ·split
  ·exact die2 (by omega) (by omega)
  ·split
   ·exact die3 (by omega) (by omega)
   ·exact die4 (by omega)

noncomputable def limN (s : Schm) (n : Int) : Int := if s.kind = 1 then n * (s.servers - 1) else if s.kind = 2 then n * s.degree else (n + s.group - 1) / s.group * s.degree
theorem grp_bd {n g : Int} (hn : 1 ≤ n ∧ n ≤ 1024) (hg : 1 ≤ g ∧ g ≤ 10) : 1 ≤ (n + g - 1) / g ∧ (n + g - 1) / g ≤ 1024 := by
 constructor
 ·exact (Int.le_ediv_iff_mul_le (by omega)).2 (by omega)
 ·have h1 : (n + g - 1) / g * g ≤ n + g - 1 := Int.ediv_mul_le _ (by omega)
  by_cases h : (n + g - 1) / g ≤ 1024
  ·exact h
  ·exfalso
   have h2 : 1025 * g ≤ (n + g - 1) / g * g := Int.mul_le_mul_of_nonneg_right (by omega) (by omega)
   have : n ≤ 1024 := hn.2
   omega
theorem idx_bd {n g i : Int} (hg : 1 ≤ g) (hi : 0 ≤ i ∧ i < n) : 0 ≤ i / g ∧ i / g < (n + g - 1) / g := by
 refine ⟨Int.ediv_nonneg hi.1 (by omega), ?_⟩
 have h1 : i / g + 1 ≤ (n + g - 1) / g := by
  refine (Int.le_ediv_iff_mul_le (by omega)).2 ?_
  have : i / g * g ≤ i := Int.ediv_mul_le _ (by omega)
  rw [Int.add_mul, Int.one_mul]
  omega
 omega
theorem limN_bd {s : Schm} {p n : Int} (hv : validS s p) (hn : 1 ≤ n ∧ n ≤ 1024) : 0 ≤ limN s n ∧ limN s n ≤ 10240 := by
 have hb := shape_bd hv.1
 have hs := hv.1
 unfold shapeS at hs
 unfold limN
 split
 ·have := mul_bd (a := n) (b := s.servers - 1) (A := 1024) (B := 10) (by omega) (by omega) (by omega) (by omega); omega
 ·split
  ·have := mul_bd (a := n) (b := s.degree) (A := 1024) (B := 10) (by omega) (by omega) (by omega) (by omega); omega
  ·have h3 : s.kind = 3 := by have := shape_kind hv.1; omega
   have hg := grp_bd hn (g := s.group) (by omega)
   have := mul_bd (a := (n + s.group - 1) / s.group) (b := s.degree) (A := 1024) (B := 10) (by omega) (by omega) (by omega) (by omega); omega
theorem lim_ok {s : Schm} {p n : Int} (hv : validS s p) (hn : 1 ≤ n ∧ n ≤ 1024) : limE s p n = 0 ∧ limL s p n = List.replicate (limN s n).toNat p := by
 have hl := lookE_ok hv hn
 have hs := hv.1
 unfold shapeS at hs
 unfold limE limL limN
 rw [if_neg (Classical.not_not.2 hl), if_neg (Classical.not_not.2 hl)]
 by_cases h1 : s.kind = 1
 ·have e := parE_ok (p := p) (rows := n) (s := s.servers) hv.2.1 (by omega) hn
  simp only [if_pos h1]
  exact ⟨e, by unfold limsP; rw [if_pos e]⟩
 ·have hp : s.servers < p := hv.2.2.resolve_left h1
  simp only [if_neg h1]
  by_cases h2 : s.kind = 2
  ·have e := planRE_ok (p := p) (s := s.servers) (d := s.degree) (rows := n) hv.2.1 (by omega) (by omega) hp hn
   simp only [if_pos h2]
   exact ⟨e, by unfold limsC; rw [if_pos e]⟩
  ·have h3 : s.kind = 3 := by have := shape_kind hv.1; omega
   have e := codRE_ok (codE_ok (p := p) (s := s.servers) (d := s.degree) (g := s.group) hv.2.1 (by omega) hp (by omega) (by omega) (by omega)) (grp_bd hn (g := s.group) (by omega))
   simp only [if_neg h2]
   exact ⟨e, by unfold limsG; rw [if_pos e]⟩
theorem units_ok {s : Schm} {n : Int} (hs : shapeS s) (hn : 1 ≤ n ∧ n ≤ 1024) : unitsS s n = if s.kind = 3 then (n + s.group - 1) / s.group else n := by
 unfold unitsS
 rw [if_neg (by rintro (h | h); (· exact h hs); (· exact h hn))]
theorem qry_ok {s : Schm} {p n i : Int} {t : Tape} (hv : validS s p) (hn : 1 ≤ n ∧ n ≤ 1024) (hi : 0 ≤ i ∧ i < n) :
  qryE s p n i t = drawE t p (limN s n) ∧ (drawE t p (limN s n) = 0 → qryT s p n i t = drawT t p (limN s n) ∧ ((qryL s p n i t).length : Int) = s.servers ∧ ∀ q ∈ qryL s p n i t, (q.length : Int) = unitsS s n) := by
 have hl := lookE_ok hv hn
 have hs := hv.1
 have hsh := hv.1
 unfold shapeS at hs
 rw [units_ok hsh hn]
 have e1 : qryL s p n i t = if s.kind = 1 then pqL p n s.servers i t else if s.kind = 2 then cqL p s.servers s.degree n i t else gqL p s.servers s.degree s.group ((n + s.group - 1) / s.group) (i / s.group) t := by unfold qryL; rw [if_neg (by omega)]
 have e2 : qryE s p n i t = if s.kind = 1 then pqE p n s.servers i t else if s.kind = 2 then cqE p s.servers s.degree n i t else gqE p s.servers s.degree s.group ((n + s.group - 1) / s.group) (i / s.group) t := by unfold qryE; rw [if_neg (Classical.not_not.2 hl), if_neg (by omega)]
 have e3 : qryT s p n i t = if s.kind = 1 then pqT p n s.servers i t else if s.kind = 2 then cqT p s.servers s.degree n i t else gqT p s.servers s.degree s.group ((n + s.group - 1) / s.group) (i / s.group) t := by unfold qryT; rw [if_neg (by omega)]
 rw [e1, e2, e3]
 unfold limN
 by_cases h1 : s.kind = 1
 ·have e := parE_ok (p := p) (rows := n) (s := s.servers) hv.2.1 (by omega) hn
  simp only [if_pos h1, if_neg (show ¬ s.kind = 3 by omega)]
  have eE : pqE p n s.servers i t = drawE t p (n * (s.servers - 1)) := by unfold pqE; rw [if_neg (Classical.not_not.2 e), if_neg (by omega)]
  refine ⟨eE, fun h0 => ?_⟩
  have eL : pqL p n s.servers i t = pQs (pBase t) n.toNat (s.servers - 1).toNat ++ [pLast p i n (pQs (pBase t) n.toNat (s.servers - 1).toNat)] := by unfold pqL; rw [if_pos (eE.trans h0)]
  refine ⟨by unfold pqT; rw [if_pos (eE.trans h0)], ?_, fun q hq => ?_⟩
  ·rw [eL, List.length_append, pQs_len]; simp; omega
  ·rw [eL] at hq
   rcases List.mem_append.1 hq with hq | hq
   ·have := (pQs_all (t := t) (p := p) (rows := n) (k := (s.servers - 1).toNat) hn.1 (by rw [show (((s.servers - 1).toNat : Nat) : Int) = s.servers - 1 by omega]; exact h0) q hq).1
    omega
   ·rw [List.mem_singleton.1 hq]
    unfold pLast
    rw [addT_len, unitL_len]; omega
 ·have hp : s.servers < p := hv.2.2.resolve_left h1
  simp only [if_neg h1]
  by_cases h2 : s.kind = 2
  ·have e := planRE_ok (p := p) (s := s.servers) (d := s.degree) (rows := n) hv.2.1 (by omega) (by omega) hp hn
   simp only [if_pos h2, if_neg (show ¬ s.kind = 3 by omega)]
   have eE : cqE p s.servers s.degree n i t = drawE t p (n * s.degree) := by unfold cqE; rw [if_neg (Classical.not_not.2 e), if_neg (by omega)]
   refine ⟨eE, fun h0 => ⟨by unfold cqT; rw [if_pos (eE.trans h0)], ?_, fun q hq => ?_⟩⟩
   ·unfold cqL; rw [if_pos (eE.trans h0)]; unfold cqQ; simp; omega
   ·unfold cqL at hq; rw [if_pos (eE.trans h0)] at hq
    unfold cqQ at hq
    obtain ⟨k, _, rfl⟩ := List.mem_map.1 hq
    simp; omega
  ·have h3 : s.kind = 3 := by have := shape_kind hsh; omega
   have hg := grp_bd hn (g := s.group) (by omega)
   have hig := idx_bd (n := n) (g := s.group) (by omega) hi
   have e := codRE_ok (codE_ok (p := p) (s := s.servers) (d := s.degree) (g := s.group) hv.2.1 (by omega) hp (by omega) (by omega) (by omega)) hg
   simp only [if_neg h2, if_pos h3]
   have eE : gqE p s.servers s.degree s.group ((n + s.group - 1) / s.group) (i / s.group) t = drawE t p ((n + s.group - 1) / s.group * s.degree) := by unfold gqE; rw [if_neg (Classical.not_not.2 e), if_neg (by omega)]
   refine ⟨eE, fun h0 => ⟨by unfold gqT; rw [if_pos (eE.trans h0)], ?_, fun q hq => ?_⟩⟩
   ·unfold gqL; rw [if_pos (eE.trans h0)]; unfold gQs; simp; omega
   ·unfold gqL at hq; rw [if_pos (eE.trans h0)] at hq
    unfold gQs at hq
    obtain ⟨k, _, rfl⟩ := List.mem_map.1 hq
    simp [gRow]; omega
theorem hld_ok {s : Schm} {t : Tab} {j : Int} (hv : validS s t.p) (ht : checkT t = 0) (hn : 1 ≤ t.rows.length) (hj : 1 ≤ j ∧ j ≤ s.servers) : hldE s t j = 0 ∧ ((hldL s t j).length : Int) = unitsS s t.rows.length := by
 have hct := checkT_ok ht
 have hs := hv.1
 have hsh := hv.1
 unfold shapeS at hs
 have hn2 : 1 ≤ (t.rows.length : Int) ∧ (t.rows.length : Int) ≤ 1024 := by have := hct.2.2.2.1; omega
 rw [units_ok hsh hn2]
 unfold hldE hldL
 rw [if_neg (Classical.not_not.2 ht), if_neg (Classical.not_not.2 hv), if_neg (Classical.not_not.2 hj), if_neg (hld_no ht hv hj)]
 by_cases h3 : s.kind = 3
 ·simp only [if_pos h3]
  have hp : s.servers < t.p := hv.2.2.resolve_left (by omega)
  have e := codE_ok (p := t.p) (s := s.servers) (d := s.degree) (g := s.group) hv.2.1 (by omega) hp (by omega) (by omega) (by omega)
  have eE : holdE t.p s.servers s.degree s.group t.width t.rows j = 0 := by
   unfold holdE
   rw [if_neg (Classical.not_not.2 e), if_neg (by omega), if_neg (by have := hct.2.2.1; omega)]
   refine firstErr_none fun r hr => ?_
   obtain ⟨h5, h6⟩ := hct.2.2.2.2 r hr
   unfold rowErr
   rw [if_neg (by omega), if_neg (Classical.not_not.2 h6)]
  refine ⟨eE, ?_⟩
  unfold holdG
  rw [if_pos eE, List.length_map, grpL_len]
  unfold grpN
  rw [Int.natCast_ediv]
  congr 1 <;> omega
 ·simp only [if_neg h3]
  exact ⟨trivial, trivial⟩
theorem die_draw {p : Int} {m : Nat} {t : Tape} (hp : okP p) (hm : m ≤ 16384) (h : dieTp (List.replicate m p) t) : okTape t ∧ drawE t p m = 0 := by
 obtain ⟨h1, h2, h3⟩ := h
 rw [List.length_replicate] at h2 h3
 have hok : okTape t := ⟨by omega, by omega, by omega⟩
 refine ⟨hok, ?_⟩
 have := hp.1
 have := hp.2.1
 unfold drawE
 rw [if_neg (Classical.not_not.2 hok), if_neg (by omega), h1]
 refine stepE_ok (by simp; omega) (fun j hj => ?_)
 have hj' : j < m := by omega
 have := h3 j hj'
 simp only [Int.toNat_zero, List.drop_zero]
 rw [List.getElem?_replicate, if_pos hj'] at this
 exact this
end Go.Q

namespace Go.Q
open Go.Proofs
open Classical
def rDc (b : Nat) (d : Dc) : Res := rCells b 84 [dSl 1 fU8 d.xs, dInt .i64 (d.k : Nat)]
theorem dnew_spec (xs : List Int) : Spec Tryz.prog 7 [dBy xs] [] (σ := Nat) (fun _ => True) (fun b => dVal (ptr b 0)) (fun b => [rDc b ⟨xs.take 300, 0⟩]) := by
  refine spec_of_body Tryz.func7 rfl rfl (fun I F => ?_)
  refine au 8 ?_
  refine run_op (loc_lenBy rfl) rfl ?_
  refine au 2 ?_
  refine run_cond rfl (fun h1 => ?_) (fun h1 => ?_)
  ·
   refine au 2 ?_
   refine run_op (loc_sliceToBy rfl rfl (by omega)) rfl ?_
   refine au 6 ?_
   refine run_new (loc_boxOwnN rfl) rfl (fun b2 _ => ?_)
   refine au 2 ?_
   refine run_ret (b2) Tryz.func7 rfl rfl ?_ (trivial) (fun _ _ h => h)
   exact fun _ _ h => h
  ·
   refine run_recast (s := 0) rfl (dBy_sl (by omega)) ?_
   refine au 5 ?_
   refine run_new (loc_boxOwnN rfl) rfl (fun b3 _ => ?_)
   refine au 2 ?_
   refine run_ret (b3) Tryz.func7 rfl rfl ?_ (trivial) (fun _ _ h => by rw [show xs.take 300 = xs from List.take_of_length_le (by omega)]; exact h)
   exact fun _ _ h => h
theorem pick_spec (b : Nat) (d : Dc) (n : Int) (h : okDc d) (hn : 1 ≤ n) : Spec Tryz.prog 21 [dVal (ptr b 0), dInt .i64 n] [rDc b d] (σ := Unit) (fun _ => True) (fun _ => dInt .i64 (d.val n)) (fun _ => [rDc b d.next]) := by
  refine spec_of_body Tryz.func21 rfl rfl (fun I F => ?_)
  show Run _ _ _ _ _ _ (rCells b 84 [dSl 1 fU8 d.xs, dInt .i64 (d.k : Nat)] :: F) _
  refine au 1 ?_
  have hlen := h.len
  refine au 5 ?_
  refine dr_start _ (.none) [⟨[(0, none)], [], none⟩,
      ⟨[(5, some (0, false))], [0], none⟩,
      ⟨[(6, some (1, false))], [0, 1], none⟩,
      ⟨[(7, some (2, false))], [0, 1, 2], some (0, 0, false)⟩,
      ⟨[(0, none)], [], none⟩,
      ⟨[(9, some (4, false))], [4], none⟩,
      ⟨[(10, some (5, false))], [4, 5], none⟩,
      ⟨[(11, some (6, false))], [4, 5, 6], some (0, 0, false)⟩,
      ⟨[(12, some (7, false))], [4, 5, 6, 7], none⟩,
      ⟨[(8, some (3, false)), (13, some (8, false))], [0, 1, 2, 3, 4, 5, 6, 7, 8], none⟩] [_] _ rfl rfl ?_
  refine da 10 ?_
  refine dq_end (rs := [_]) () rfl (fun _ => rfl) (.nil) rfl (fun _ => rfl) (fun _ _ => ?_)
  dsimp only [outG, outM, List.map, List.set, id]
  refine run_cond rfl (fun h1 => ?_) (fun h1 => ?_)
  ·
   refine au 4 ?_
   refine run_ret (()) Tryz.func21 rfl rfl ?_ (trivial) (fun _ _ h => by unfold Dc.next rDc; rw [if_neg (by omega)]; exact h)
   exact d_int (by unfold Dc.val; rw [if_neg (by omega)])
  ·
   refine au 13 ?_
   have hx := h.byte (d.xs[((d.k : Int) + 1 - 1).toNat]?.getD default) (getD_mem (by omega))
   refine dr_start _ (.none) [⟨[(0, none)], [], none⟩,
       ⟨[(22, some (0, false))], [0], none⟩,
       ⟨[(23, some (1, false))], [0, 1], none⟩,
       ⟨[(24, some (2, false))], [0, 1, 2], some (0, 0, false)⟩,
       ⟨[(0, none)], [], none⟩,
       ⟨[(26, some (4, false))], [4], none⟩,
       ⟨[(27, some (5, false))], [4, 5], none⟩,
       ⟨[(28, some (6, false))], [4, 5, 6], some (0, 0, false)⟩,
       ⟨[(29, some (7, false))], [4, 5, 6, 7], none⟩,
       ⟨[(25, some (3, false)), (30, some (8, false))], [0, 1, 2, 3, 4, 5, 6, 7, 8], none⟩,
       ⟨[(31, some (9, false))], [0, 1, 2, 3, 4, 5, 6, 7, 8, 9], none⟩,
       ⟨[(32, some (10, false))], [0, 1, 2, 3, 4, 5, 6, 7, 8, 9, 10], none⟩,
       ⟨[(1, none)], [], none⟩,
       ⟨[(33, some (11, false)), (34, some (12, false))], [0, 1, 2, 3, 4, 5, 6, 7, 8, 9, 10, 11, 12], none⟩,
       ⟨[(35, some (13, false))], [0, 1, 2, 3, 4, 5, 6, 7, 8, 9, 10, 11, 12, 13], none⟩] [_] _ rfl rfl ?_
   refine da 11 ?_
   first | refine dq_pure rfl (fun s => .op rfl (.nil)) (fun s hs _ => loc_conv rfl (by first | omega | assumption)) (by exact .nil) ?_ | refine dq_pure rfl (fun s => .op rfl (.nil)) (fun s hs _ => loc_convW rfl) (by exact .nil) ?_
   refine da 3 ?_
   refine dq_end (rs := [_]) () rfl (fun _ => rfl) (.nil) rfl (fun _ => rfl) (fun _ _ => ?_)
   dsimp only [outG, outM, List.map, List.set, id]
   refine run_ret (()) Tryz.func21 rfl rfl ?_ (trivial) (fun _ _ h => by unfold Dc.next rDc; rw [if_pos (by omega)]; exact h)
   exact d_int (by unfold Dc.val; rw [if_pos (by omega)]; congr 3; omega)
end Go.Q
