/- Contracts of answers in the reference. -/
import Derived.Test.YtgaalfgmgmpnbaaGreatQServer6
import Derived.Test.YtgaalfgmgmpnbaaGreatQDraws
import Derived.Test.YtgaalfgmgmpnbaaGreatQDice
import Derived.Test.YtgaalfgmgmpnbaaGreatQRLim
set_option linter.unusedVariables false
set_option linter.unusedSimpArgs false
namespace Go.Q
open Go.Proofs
open Classical
theorem combine_spec (p w : Int) (rows : List (List Int)) (q : List Int) (hp : okP p) (hw : 0 ≤ w ∧ w ≤ 64) (hq : q.length = rows.length) (hr : ∀ r ∈ rows, (r.length : Int) = w ∧ allP p r) (hqa : allP p q) : SpecP Tryz.prog 157 [dAgg [dInt .i64 p], dInts q, dRows rows, dInt .i64 w] (dTup [dInts (combN p w.toNat rows q rows.length), dInt .i64 0]) := by
  have hp1 := hp.1
  have hp2 := hp.2.1
  refine specP_of_body Tryz.func157 rfl rfl (fun I M => ?_)
  refine au 10 ?_
  refine run_op (loc_call (rcheck3_spec _) rfl) rfl ?_
  refine au 7 ?_
  refine run_cond rfl (fun h1 => ?_) (fun h1 => ?_)
  · exfalso; exact h1 (errP_zero.2 hp)
  ·
   refine au 12 ?_
   refine run_cond rfl (fun h2 => ?_) (fun h2 => ?_)
   · exfalso; omega
   ·
    refine au 5 ?_
    first | refine runL_fact (s := 31) rfl (fun _ _ h => dSl_len h) (fun hlen3 => ?_) | skip
    refine au 2 ?_
    first | refine runL_fact (s := 33) rfl (fun _ _ h => dSl_len h) (fun hlen4 => ?_) | skip
    refine au 3 ?_
    refine run_cond rfl (fun h5 => ?_) (fun h5 => ?_)
    · exfalso; omega
    ·
     refine au 5 ?_
     first | refine runL_fact (s := 36) rfl (fun _ _ h => dSl_len h) (fun hlen6 => ?_) | skip
     refine au 4 ?_
     refine run_loopC (σ := Nat) (ks := [1, 2, 3, 4, 36, 37]) (.cons rfl (.cons rfl (.cons rfl (.cons rfl (.cons rfl (.cons rfl (.nil))))))) (fun k => [(38, dInt .i64 (k : Nat))]) (fun k => k ≤ rows.length) (fun k => rows.length - k) (0) ((by omega)) (.cons rfl (by first | exact fun _ _ h => h | exact d_int (by omega) | exact d_int (by simp) | exact d_intN (by omega) | exact d_any) .nil) ?_
     intro k hk ih7
     refine au 5 ?_
     refine run_cond rfl (fun h8 => ?_) (fun h8 => ?_)
     ·
      have hrk := (hr _ (getD_mem (xs := rows) (k := k) (by omega))).1
      refine au 12 ?_
      first | refine runL_fact (s := 42) rfl (fun _ _ h => dSl_len h) (fun hlen9 => ?_) | skip
      refine au 4 ?_
      refine run_cond rfl (fun h10 => ?_) (fun h10 => ?_)
      · exfalso; omega
      ·
       refine au 6 ?_
       exact run_againC ih7 (k + 1) (by omega) (by omega) (.cons rfl (by first | exact fun _ _ h => h | exact d_int (by omega) | exact d_int (by simp) | exact d_intN (by omega) | exact d_any) .nil) (.cons rfl (fun _ _ x => x) (.cons rfl (fun _ _ x => x) (.cons rfl (fun _ _ x => x) (.cons rfl (fun _ _ x => x) (.cons rfl (fun _ _ x => x) (.cons rfl (fun _ _ x => x) (.nil)))))))
     ·
      refine au 6 ?_
      refine run_op (loc_call (in3_spec _ _) rfl) rfl ?_
      refine au 2 ?_
      refine run_cond rfl (fun h11 => ?_) (fun h11 => ?_)
      · exfalso; exact h11 ⟨hp, hqa⟩
      ·
       refine au 5 ?_
       first | refine runL_fact (s := 51) rfl (fun _ _ h => dSl_len h) (fun hlen12 => ?_) | skip
       refine au 4 ?_
       refine run_loopC (σ := Nat) (ks := [1, 2, 3, 4, 51, 52]) (.cons rfl (.cons rfl (.cons rfl (.cons rfl (.cons rfl (.cons rfl (.nil))))))) (fun i => [(53, dInt .i64 (i : Nat))]) (fun i => i ≤ rows.length) (fun i => rows.length - i) (0) ((by omega)) (.cons rfl (by first | exact fun _ _ h => h | exact d_int (by omega) | exact d_int (by simp) | exact d_intN (by omega) | exact d_any) .nil) ?_
       intro i hi ih13
       refine au 5 ?_
       refine run_cond rfl (fun h14 => ?_) (fun h14 => ?_)
       ·
        have hri := (hr _ (getD_mem (xs := rows) (k := i) (by omega))).2
        refine au 13 ?_
        refine run_op (loc_call (in3_spec _ _) rfl) rfl ?_
        refine au 2 ?_
        refine run_cond rfl (fun h15 => ?_) (fun h15 => ?_)
        · exfalso; exact h15 ⟨hp, hri⟩
        ·
         refine au 6 ?_
         exact run_againC ih13 (i + 1) (by omega) (by omega) (.cons rfl (by first | exact fun _ _ h => h | exact d_int (by omega) | exact d_int (by simp) | exact d_intN (by omega) | exact d_any) .nil) (.cons rfl (fun _ _ x => x) (.cons rfl (fun _ _ x => x) (.cons rfl (fun _ _ x => x) (.cons rfl (fun _ _ x => x) (.cons rfl (fun _ _ x => x) (.cons rfl (fun _ _ x => x) (.nil)))))))
       ·
        refine au 4 ?_
        refine run_new (loc_makeSlice rfl rfl (by first | omega | assumption) (by first | omega | assumption) _ _ rfl (by simp)) rfl (fun b15 _ => ?_)
        refine au 6 ?_
        first | refine runL_fact (s := 64) rfl (fun _ _ h => dSl_len h) (fun hlen16 => ?_) | skip
        refine au 4 ?_
        refine run_loopF (σ := Nat) (ks := [1, 4, 15, 64, 65]) (.cons rfl (.cons rfl (.cons rfl (.cons rfl (.cons rfl (.nil)))))) (fun k => [(66, dInt .i64 (k : Nat))]) (fun k => [rRow (.slice (some ⟨b15, 0, none⟩) w.toNat w.toNat) 3 1 fI (combN p w.toNat rows q k)]) (fun k => k ≤ rows.length) (fun k => rows.length - k) (0) (Nat.zero_le _) (.cons rfl (by first | exact fun _ _ h => h | exact d_int (by omega) | exact d_int (by simp) | exact d_intN (by omega) | exact d_any) .nil) (rfl) ?_
        intro k hk2 ih17
        obtain ⟨hcl, hca⟩ := combN_ok (p := p) (by omega) w.toNat rows q k
        refine au 5 ?_
        refine run_cond rfl (fun h18 => ?_) (fun h18 => ?_)
        ·
         have hrk := hr _ (getD_mem (xs := rows) (k := k) (by omega))
         have hrk1 := hrk.1
         have hqk := hqa _ (getD_mem (xs := q) (k := k) (by omega))
         unfold hasP at hqk
         refine au 14 ?_
         first | refine runL_fact (s := 71) rfl (fun _ _ h => dSl_len h) (fun hlen19 => ?_) | skip
         refine au 4 ?_
         refine run_loopF (σ := Nat) (ks := [1, 4, 15, 16, 64, 65, 66, 71, 72]) (.cons rfl (.cons rfl (.cons rfl (.cons rfl (.cons rfl (.cons rfl (.cons rfl (.cons rfl (.cons rfl (.nil)))))))))) (fun u => [(73, dInt .i64 (u : Nat))]) (fun u => [rRow (.slice (some ⟨b15, 0, none⟩) w.toNat w.toNat) 3 1 fI (addT p (q[k]?.getD default) (combN p w.toNat rows q k) ((rows[k]?.getD default).take u))]) (fun u => u ≤ (rows[k]?.getD default).length) (fun u => (rows[k]?.getD default).length - u) (0) (Nat.zero_le _) (.cons rfl (by first | exact fun _ _ h => h | exact d_int (by omega) | exact d_int (by simp) | exact d_intN (by omega) | exact d_any) .nil) (by simp only [appR]; rw [List.take_zero, addT_nil]) ?_
         intro u hu ih20
         have hal := addT_len p (q[k]?.getD default) (combN p w.toNat rows q k) ((rows[k]?.getD default).take u)
         refine au 5 ?_
         refine run_cond rfl (fun h21 => ?_) (fun h21 => ?_)
         ·
          have hx1 := hrk.2 _ (getD_mem (xs := (rows[k]?.getD default)) (k := u) (by omega))
          have hx2 := hca _ (getD_mem (xs := (combN p w.toNat rows q k)) (k := u) (by omega))
          unfold hasP at hx1 hx2
          have hx3 := addT_get p (q[k]?.getD default) (combN p w.toNat rows q k) ((rows[k]?.getD default).take u) u (by rw [List.length_take]; omega)
          have hmm := mul_bd (a := (q[k]?.getD default)) (b := (rows[k]?.getD default)[u]?.getD default) (A := 65521) (B := 65521) (by omega) (by omega) (by omega) (by omega)
          refine au 11 ?_
          refine dr_start _ (.none) [⟨[(15, none)], [], none⟩,
              ⟨[(18, none)], [], none⟩,
              ⟨[(15, none)], [], none⟩,
              ⟨[(18, none)], [], none⟩,
              ⟨[(80, some (2, false)), (81, some (3, false))], [2, 3], none⟩,
              ⟨[(82, some (4, false))], [2, 3, 4], some (0, 0, false)⟩,
              ⟨[(1, none)], [], none⟩,
              ⟨[(16, none)], [], none⟩,
              ⟨[(84, some (6, false)), (85, some (7, false))], [6, 7], none⟩,
              ⟨[(86, some (8, false))], [6, 7, 8], none⟩,
              ⟨[(19, none)], [], none⟩,
              ⟨[(87, some (9, false)), (88, some (10, false))], [6, 7, 8, 9, 10], none⟩,
              ⟨[(83, some (5, false)), (89, some (11, false))], [2, 3, 4, 5, 6, 7, 8, 9, 10, 11], none⟩,
              ⟨[(4, none)], [], none⟩,
              ⟨[(91, some (13, false))], [13], none⟩,
              ⟨[(90, some (12, false)), (92, some (14, false))], [2, 3, 4, 5, 6, 7, 8, 9, 10, 11, 12, 13, 14], none⟩,
              ⟨[(78, some (0, false)), (79, some (1, false))], [0, 1, 2, 3, 4, 5, 6, 7, 8, 9, 10, 11, 12, 13, 14, 15], none⟩,
              ⟨[(94, some (16, false)), (93, some (15, false))], [0, 1, 2, 3, 4, 5, 6, 7, 8, 9, 10, 11, 12, 13, 14, 15, 16], some (0, 0, true)⟩] [_] _ rfl rfl ?_
          refine da 17 ?_
          refine dq_write0 rfl (fun s => .op rfl (.op rfl (.nil))) rfl rfl (fun s hs => loc_storeRow1 _ rfl rfl rfl (by first | omega | assumption)) (by exact .nil) ?_
          refine dq_end (rs := [_]) () rfl (fun _ => rfl) (.nil) rfl (fun _ => rfl) (fun _ _ => ?_)
          dsimp only [outG, outM, List.map, List.set, id]
          refine au 5 ?_
          exact run_againF ih20 (u + 1) (by omega) (by omega) (.cons rfl (by first | exact fun _ _ h => h | exact d_int (by omega) | exact d_int (by simp) | exact d_intN (by omega) | exact d_any) .nil) (.cons rfl (fun _ _ x => x) (.cons rfl (fun _ _ x => x) (.cons rfl (fun _ _ x => x) (.cons rfl (fun _ _ x => x) (.cons rfl (fun _ _ x => x) (.cons rfl (fun _ _ x => x) (.cons rfl (fun _ _ x => x) (.cons rfl (fun _ _ x => x) (.cons rfl (fun _ _ x => x) (.nil)))))))))) (by simp only [appR]; rw [addT_take p (q[k]?.getD default) (combN p w.toNat rows q k) (rows[k]?.getD default) u (by omega) (by omega), Int.add_emod_emod, hx3])
         ·
          refine au 6 ?_
          exact run_againF ih17 (k + 1) (by omega) (by omega) (.cons rfl (by first | exact fun _ _ h => h | exact d_int (by omega) | exact d_int (by simp) | exact d_intN (by omega) | exact d_any) .nil) (.cons rfl (fun _ _ x => x) (.cons rfl (fun _ _ x => x) (.cons rfl (fun _ _ x => x) (.cons rfl (fun _ _ x => x) (.cons rfl (fun _ _ x => x) (.nil)))))) (by simp only [appR]; rw [List.take_of_length_le (by omega)]; rfl)
        ·
         refine au 2 ?_
         refine run_freezeRow (s := 15) rfl (.here) ?_
         refine au 5 ?_
         refine run_ret2P Tryz.func157 rfl rfl rfl ?_
         exact d_tup2 (d_toInts (by rw [show rows.length = k by omega]) (fun _ _ h => h)) (fun _ _ h => h)
theorem answer16_spec (p w : Int) (rows : List (List Int)) (q : List Int) (hp : okP p) (hw : 0 ≤ w ∧ w ≤ 64) (hq : q.length = rows.length) (hr : ∀ r ∈ rows, (r.length : Int) = w ∧ allP p r) (hqa : allP p q) : SpecP Tryz.prog 120 [dAgg [dInt .i64 p], dInt .i64 w, dRows rows, dInts q] (dTup [dInts (combN p w.toNat rows q rows.length), dInt .i64 0]) := by
 refine specP_of_body Tryz.func120 rfl rfl (fun I M => ?_)
 refine au 12 ?_
 refine run_op (loc_call (combine_spec p w rows q hp hw hq hr hqa) rfl) rfl ?_
 refine au 5 ?_
 refine run_ret2P Tryz.func120 rfl rfl rfl ?_
 exact fun _ _ h => h
theorem answer23_spec (p w : Int) (rows : List (List Int)) (q : List Int) (hp : okP p) (hw : 0 ≤ w ∧ w ≤ 64) (hq : q.length = rows.length) (hr : ∀ r ∈ rows, (r.length : Int) = w ∧ allP p r) (hqa : allP p q) : SpecP Tryz.prog 67 [dAgg [dInt .i64 p], dInt .i64 w, dRows rows, dInts q] (dTup [dInts (combN p w.toNat rows q rows.length), dInt .i64 0]) := by
 refine specP_of_body Tryz.func67 rfl rfl (fun I M => ?_)
 refine au 12 ?_
 refine run_op (loc_call (answer16_spec p w rows q hp hw hq hr hqa) rfl) rfl ?_
 refine au 5 ?_
 refine run_ret2P Tryz.func67 rfl rfl rfl ?_
 exact fun _ _ h => h
end Go.Q

namespace Go.Q
open Go.Proofs
open Classical
theorem rpow_spec (p a : Int) (n : Nat) (h : 2 ≤ p ∧ p ≤ 65521) (ha : 0 ≤ a ∧ a ≤ 65521) (hn : n ≤ 65521) : SpecP Tryz.prog 156 [dAgg [dInt .i64 p], dInt .i64 a, dInt .i64 (n : Nat)] (dInt .i64 (powM p a n)) := by
  refine specP_of_body Tryz.func156 rfl rfl (fun I M => ?_)
  refine au 14 ?_
  refine run_loopC (σ := Int × Int × Nat) (ks := [3]) (.cons rfl (.nil)) (fun s => [(1, dInt .i64 s.2.1), (2, dInt .i64 (s.2.2 : Nat)), (7, dInt .i64 s.1)]) (fun s => (0 ≤ s.1 ∧ s.1 < p) ∧ (0 ≤ s.2.1 ∧ s.2.1 ≤ 65521) ∧ s.2.2 ≤ 65521 ∧ s.1 * s.2.1 ^ s.2.2 % p = powM p a n) (fun s => s.2.2) ((1, a, n)) (⟨⟨by omega, by simp only; omega⟩, ha, hn, by rw [Int.one_mul]; rfl⟩) (.cons rfl (by first | exact fun _ _ h => h | exact d_int (by omega) | exact d_int (by simp) | exact d_intN (by omega) | exact d_any) (.cons rfl (by first | exact fun _ _ h => h | exact d_int (by omega) | exact d_int (by simp) | exact d_intN (by omega) | exact d_any) (.cons rfl (d_int (Int.emod_eq_of_lt (by omega) (by omega))) .nil))) ?_
  rintro s ⟨hx, hb, hm, he⟩ ih1
  have hbb := mod_bd (s.2.1 * s.2.1) (show 0 < p by omega)
  have hxb := mod_bd (s.1 * s.2.1) (show 0 < p by omega)
  have hm1 := mul_bd (a := s.1) (b := s.2.1) (A := 65521) (B := 65521) (by omega) (by omega) (by omega) (by omega)
  have hm2 := mul_bd (a := s.2.1) (b := s.2.1) (A := 65521) (B := 65521) (by omega) (by omega) (by omega) (by omega)
  refine au 6 ?_
  refine run_cond rfl (fun h2 => ?_) (fun h2 => ?_)
  ·
   refine au 7 ?_
   refine run_op (loc_and1 rfl rfl (by first | omega | assumption)) rfl ?_
   refine au 2 ?_
   refine run_joinC (σ := Int) (ks := [1, 2, 3]) (.cons rfl (.cons rfl (.cons rfl (.nil)))) (fun y => [(7, dInt .i64 y)]) (fun y => (0 ≤ y ∧ y < p) ∧ y * (s.2.1 * s.2.1 % p) ^ (s.2.2 / 2) % p = powM p a n) (fun j3 => ?_) ?_
   ·
    refine run_cond rfl (fun h4 => ?_) (fun h4 => ?_)
    ·
     refine au 9 ?_
     exact run_atC j3 (s.1 * s.2.1 % p) (⟨hxb, by rw [pow_step1 p s.1 s.2.1 s.2.2 (by omega), he]⟩) (.cons rfl (by first | exact fun _ _ h => h | exact d_int (by omega) | exact d_int (by simp) | exact d_intN (by omega) | exact d_any) .nil) (.cons rfl (fun _ _ x => x) (.cons rfl (fun _ _ x => x) (.cons rfl (fun _ _ x => x) (.nil))))
    ·
     refine au 1 ?_
     exact run_atC j3 (s.1) (⟨hx, by rw [pow_step0 p s.1 s.2.1 s.2.2 (by omega), he]⟩) (.cons rfl (by first | exact fun _ _ h => h | exact d_int (by omega) | exact d_int (by simp) | exact d_intN (by omega) | exact d_any) .nil) (.cons rfl (fun _ _ x => x) (.cons rfl (fun _ _ x => x) (.cons rfl (fun _ _ x => x) (.nil))))
   rintro y ⟨hy, hye⟩
   refine au 12 ?_
   refine run_op (loc_shrN (c := 1) (q := 2) rfl rfl rfl (by decide) (by first | omega | assumption) (by decide)) rfl ?_
   refine au 2 ?_
   exact run_againC ih1 ((y, s.2.1 * s.2.1 % p, s.2.2 / 2)) (⟨hy, by simp only; omega, by simp only; omega, hye⟩) (by simp only; omega) (.cons rfl (by first | exact fun _ _ h => h | exact d_int (by omega) | exact d_int (by simp) | exact d_intN (by omega) | exact d_any) (.cons rfl (by first | exact fun _ _ h => h | exact d_int (by omega) | exact d_int (by simp) | exact d_intN (by omega) | exact d_any) (.cons rfl (by first | exact fun _ _ h => h | exact d_int (by omega) | exact d_int (by simp) | exact d_intN (by omega) | exact d_any) .nil))) (.cons rfl (fun _ _ x => x) (.nil))
  ·
   refine au 6 ?_
   refine run_retP Tryz.func156 rfl rfl ?_
   exact d_int (by rw [← he, show s.2.2 = 0 by omega, Int.pow_zero, Int.mul_one, Int.emod_eq_of_lt hx.1 hx.2])
theorem rcodc_spec (p s d g : Int) (h : codE p s d g = 0) : SpecP Tryz.prog 154 [dAgg [dInt .i64 p], dAgg [dInt .i64 s, dInt .i64 d, dInt .i64 g]] (dInt .i64 0) := by
  have hz := codE_zero h
  have hz1 := hz.1.1
  have hz2 := hz.1.2.1
  refine specP_of_body Tryz.func154 rfl rfl (fun I M => ?_)
  refine au 10 ?_
  refine run_op (loc_call (rcheck3_spec _) rfl) rfl ?_
  refine au 7 ?_
  refine run_cond rfl (fun h1 => ?_) (fun h1 => ?_)
  · exfalso; exact h1 (errP_zero.2 hz.1)
  ·
   refine au 63 ?_
   refine run_cond rfl (fun h2 => ?_) (fun h2 => ?_)
   · exfalso; have h5 := h2; omega
   ·
    refine au 5 ?_
    refine run_retP Tryz.func154 rfl rfl ?_
    exact d_int rfl
theorem rgroups_spec (s d g : Int) (n : Nat) (hg : 1 ≤ g ∧ g ≤ 10) (hn : n ≤ 1024) : SpecP Tryz.prog 155 [dAgg [dInt .i64 s, dInt .i64 d, dInt .i64 g], dInt .i64 (n : Nat)] (dTup [dInt .i64 (grpN n g.toNat : Nat), dInt .i64 0]) := by
  refine specP_of_body Tryz.func155 rfl rfl (fun I M => ?_)
  refine au 23 ?_
  refine run_cond rfl (fun h1 => ?_) (fun h1 => ?_)
  · exfalso; omega
  ·
   refine au 2 ?_
   have hdb : 0 ≤ (n : Int) / g ∧ (n : Int) / g ≤ n := ⟨Int.ediv_nonneg (by omega) (by omega), Int.ediv_le_self _ (by omega)⟩
   have hmd := mod_bd (n : Int) (show 0 < g by omega)
   refine au 16 ?_
   refine run_joinC (σ := Int) (ks := []) (.nil) (fun y => [(6, dInt .i64 y)]) (fun y => y = (grpN n g.toNat : Nat)) (fun j2 => ?_) ?_
   ·
    refine run_cond rfl (fun h3 => ?_) (fun h3 => ?_)
    ·
     have h5 := h3
     refine au 5 ?_
     exact run_atC j2 ((n : Int) / g + 1) (grp_quo1 hg.1 h5) (.cons rfl (by first | exact fun _ _ h => h | exact d_int (by omega) | exact d_int (by simp) | exact d_intN (by omega) | exact d_any) .nil) (.nil)
    ·
     have h5 := h3
     refine au 1 ?_
     exact run_atC j2 ((n : Int) / g) (grp_quo0 hg.1 h5) (.cons rfl (by first | exact fun _ _ h => h | exact d_int (by omega) | exact d_int (by simp) | exact d_intN (by omega) | exact d_any) .nil) (.nil)
   rintro y rfl
   refine au 6 ?_
   refine run_ret2P Tryz.func155 rfl rfl rfl ?_
   exact fun _ _ h => h
theorem rhold18_spec (p s d g w : Int) (rows : List (List Int)) (j : Int) (hc : codE p s d g = 0) (hj : 1 ≤ j ∧ j ≤ s) (hw : 0 ≤ w ∧ w ≤ 64) (hn : rows.length ≤ 1024) (hr : ∀ r ∈ rows, (r.length : Int) = w ∧ allP p r) : SpecP Tryz.prog 118 [dAgg [dInt .i64 p], dAgg [dInt .i64 s, dInt .i64 d, dInt .i64 g], dInt .i64 w, dRows rows, dInt .i64 j] (dTup [dRows (holdG p s d g w rows j), dInt .i64 0]) := by
  obtain ⟨hp, hs, hsp, hd, hg, hgd⟩ := codE_zero hc
  have hpb := hp.1
  have hpb2 := hp.2.1
  have hE : holdE p s d g w rows j = 0 := by
    unfold holdE
    rw [if_neg (Classical.not_not.2 hc), if_neg (by omega), if_neg (by omega)]
    refine firstErr_none fun r h => ?_
    unfold rowErr
    rw [if_neg (by have := (hr r h).1; omega), if_neg (Classical.not_not.2 (hr r h).2)]
  refine specP_of_body Tryz.func118 rfl rfl (fun I M => ?_)
  refine au 12 ?_
  refine run_op (loc_call (rcodc_spec _ _ _ _ hc) rfl) rfl ?_
  refine au 7 ?_
  refine run_cond rfl (fun h1 => ?_) (fun h1 => ?_)
  · exfalso; exact h1 rfl
  ·
   refine au 14 ?_
   refine run_cond rfl (fun h2 => ?_) (fun h2 => ?_)
   · exfalso; omega
   ·
    refine au 18 ?_
    refine run_cond rfl (fun h3 => ?_) (fun h3 => ?_)
    · exfalso; omega
    ·
     refine au 5 ?_
     first | refine runL_fact (s := 49) rfl (fun _ _ h => dSl_len h) (fun hlen4 => ?_) | skip
     refine au 4 ?_
     refine run_loopC (σ := Nat) (ks := [2, 3, 4, 5, 6, 49, 50]) (.cons rfl (.cons rfl (.cons rfl (.cons rfl (.cons rfl (.cons rfl (.cons rfl (.nil)))))))) (fun i => [(51, dInt .i64 (i : Nat))]) (fun i => i ≤ rows.length) (fun i => rows.length - i) (0) ((by omega)) (.cons rfl (by first | exact fun _ _ h => h | exact d_int (by omega) | exact d_int (by simp) | exact d_intN (by omega) | exact d_any) .nil) ?_
     intro i hi ih5
     refine au 5 ?_
     refine run_cond rfl (fun h6 => ?_) (fun h6 => ?_)
     ·
      have hri := hr _ (getD_mem (xs := rows) (k := i) (by omega))
      have hri1 := hri.1
      refine au 13 ?_
      first | refine runL_fact (s := 55) rfl (fun _ _ h => dSl_len h) (fun hlen7 => ?_) | skip
      refine au 4 ?_
      refine run_cond rfl (fun h8 => ?_) (fun h8 => ?_)
      · exfalso; omega
      ·
       refine au 5 ?_
       refine run_op (loc_call (in3_spec _ _) rfl) rfl ?_
       refine au 2 ?_
       refine run_cond rfl (fun h9 => ?_) (fun h9 => ?_)
       · exfalso; exact h9 ⟨hp, hri.2⟩
       ·
        refine au 6 ?_
        exact run_againC ih5 (i + 1) (by omega) (by omega) (.cons rfl (by first | exact fun _ _ h => h | exact d_int (by omega) | exact d_int (by simp) | exact d_intN (by omega) | exact d_any) .nil) (.cons rfl (fun _ _ x => x) (.cons rfl (fun _ _ x => x) (.cons rfl (fun _ _ x => x) (.cons rfl (fun _ _ x => x) (.cons rfl (fun _ _ x => x) (.cons rfl (fun _ _ x => x) (.cons rfl (fun _ _ x => x) (.nil))))))))
     ·
      refine au 5 ?_
      first | refine runL_fact (s := 66) rfl (fun _ _ h => dSl_len h) (fun hlen10 => ?_) | skip
      refine au 1 ?_
      refine run_op (loc_call (rgroups_spec _ _ _ _ ⟨by omega, by omega⟩ hn) rfl) rfl ?_
      refine au 16 ?_
      refine run_rowNil 44 1 fR ?_
      refine run_loopF (σ := Value × Nat) (ks := [2, 3, 4, 5, 6, 15]) (.cons rfl (.cons rfl (.cons rfl (.cons rfl (.cons rfl (.cons rfl (.nil))))))) (fun q => [(17, dVal q.1), (18, dInt .i64 (q.2 : Nat))]) (fun q => [rRow q.1 44 1 fR (((grpL rows g.toNat).take q.2).map fun x => heldG p j w.toNat x.2)]) (fun q => q.2 ≤ grpN rows.length g.toNat) (fun q => grpN rows.length g.toNat - q.2) ((.slice none 0 0, 0)) (Nat.zero_le _) (.cons rfl (by first | exact fun _ _ h => h | exact d_int (by omega) | exact d_int (by simp) | exact d_intN (by omega) | exact d_any) (.cons rfl (by first | exact fun _ _ h => h | exact d_int (by omega) | exact d_int (by simp) | exact d_intN (by omega) | exact d_any) .nil)) (rfl) ?_
      intro q hq ih11
      have hml : (((grpL rows g.toNat).take q.2).map fun x => heldG p j w.toNat x.2).length = q.2 := by rw [List.length_map, List.length_take, grpL_len]; omega
      refine au 7 ?_
      refine run_cond rfl (fun h12 => ?_) (fun h12 => ?_)
      ·
       have hlt : q.2 * g.toNat < rows.length := (grpN_lt (by omega)).1 (by omega)
       have hig : ((q.2 * g.toNat : Nat) : Int) = (q.2 : Int) * g := by rw [Int.natCast_mul, show ((g.toNat : Nat) : Int) = g by omega]
       have hq3 : q.2 < 1024 := by have := Nat.le_mul_of_pos_right q.2 (show 0 < g.toNat by omega); omega
       have hi2 : (q.2 + 1) * g.toNat = q.2 * g.toNat + g.toNat := by rw [Nat.add_mul, Nat.one_mul]
       have hgl : ((rows.take (min ((q.2 + 1) * g.toNat) rows.length)).drop (q.2 * g.toNat)).length = min ((q.2 + 1) * g.toNat) rows.length - q.2 * g.toNat := by rw [List.length_drop, List.length_take]; omega
       refine au 6 ?_
       refine run_new (loc_makeSlice rfl rfl (by first | omega | assumption) (by first | omega | assumption) _ _ rfl (by simp)) rfl (fun b77 _ => ?_)
       refine au 8 ?_
       refine run_loopF (σ := Nat) (ks := [2, 3, 4, 5, 6, 15, 17, 18, 19]) (.cons rfl (.cons rfl (.cons rfl (.cons rfl (.cons rfl (.cons rfl (.cons rfl (.cons rfl (.cons rfl (.nil)))))))))) (fun k => [(20, dInt .i64 (k : Nat))]) (fun k => [rRow (.slice (some ⟨b77, 0, none⟩) w.toNat w.toNat) 3 1 fI (heldN p j w.toNat ((rows.take (min ((q.2 + 1) * g.toNat) rows.length)).drop (q.2 * g.toNat)) k)]) (fun k => k ≤ ((rows.take (min ((q.2 + 1) * g.toNat) rows.length)).drop (q.2 * g.toNat)).length) (fun k => ((rows.take (min ((q.2 + 1) * g.toNat) rows.length)).drop (q.2 * g.toNat)).length - k) (0) (Nat.zero_le _) (.cons rfl (by first | exact fun _ _ h => h | exact d_int (by omega) | exact d_int (by simp) | exact d_intN (by omega) | exact d_any) .nil) (rfl) ?_
       intro k hk ih13
       obtain ⟨hcl, hca⟩ := heldN_ok hpb j w.toNat ((rows.take (min ((q.2 + 1) * g.toNat) rows.length)).drop (q.2 * g.toNat)) k
       refine au 2 ?_
       have hmb := mul_bd (a := (q.2 : Int)) (b := g) (A := 1024) (B := 10) (by omega) (by have := Nat.le_mul_of_pos_right q.2 (show 0 < g.toNat by omega); omega) (by omega) (by omega)
       refine au 18 ?_
       refine run_cond rfl (fun h14 => ?_) (fun h14 => ?_)
       ·
        have hkl : k < ((rows.take (min ((q.2 + 1) * g.toNat) rows.length)).drop (q.2 * g.toNat)).length := by omega
        have hgk : rows[((q.2 : Int) * g + (k : Int)).toNat]?.getD default = (((rows.take (min ((q.2 + 1) * g.toNat) rows.length)).drop (q.2 * g.toNat))[k]?.getD default) := by rw [List.getElem?_drop, List.getElem?_take, if_pos (by omega)]; congr 2; omega
        have hrk := hr (rows[((q.2 : Int) * g + (k : Int)).toNat]?.getD default) (getD_mem (by omega))
        rw [hgk] at hrk
        have hrk1 := hrk.1
        have hpw : 0 ≤ powM p j k ∧ powM p j k < p := mod_bd _ (by omega)
        refine au 8 ?_
        refine run_op (loc_call (rpow_spec _ _ _ ⟨by omega, by omega⟩ ⟨by omega, by omega⟩ (by omega)) rfl) rfl ?_
        refine au 13 ?_
        first | refine runL_fact (s := 107) rfl (fun _ _ h => dSl_len h) (fun hlen15 => ?_) | skip
        refine au 3 ?_
        rw [hgk]
        refine au 1 ?_
        refine run_loopF (σ := Nat) (ks := [2, 3, 4, 5, 6, 15, 17, 18, 19, 20, 21, 107, 108]) (.cons rfl (.cons rfl (.cons rfl (.cons rfl (.cons rfl (.cons rfl (.cons rfl (.cons rfl (.cons rfl (.cons rfl (.cons rfl (.cons rfl (.cons rfl (.nil)))))))))))))) (fun u => [(109, dInt .i64 (u : Nat))]) (fun u => [rRow (.slice (some ⟨b77, 0, none⟩) w.toNat w.toNat) 3 1 fI (addT p (powM p j k) (heldN p j w.toNat ((rows.take (min ((q.2 + 1) * g.toNat) rows.length)).drop (q.2 * g.toNat)) k) ((((rows.take (min ((q.2 + 1) * g.toNat) rows.length)).drop (q.2 * g.toNat))[k]?.getD default).take u))]) (fun u => u ≤ (((rows.take (min ((q.2 + 1) * g.toNat) rows.length)).drop (q.2 * g.toNat))[k]?.getD default).length) (fun u => (((rows.take (min ((q.2 + 1) * g.toNat) rows.length)).drop (q.2 * g.toNat))[k]?.getD default).length - u) (0) (Nat.zero_le _) (.cons rfl (by first | exact fun _ _ h => h | exact d_int (by omega) | exact d_int (by simp) | exact d_intN (by omega) | exact d_any) .nil) (by simp only [appR]; rw [List.take_zero, addT_nil]) ?_
        intro u hu ih16
        have hal := addT_len p (powM p j k) (heldN p j w.toNat ((rows.take (min ((q.2 + 1) * g.toNat) rows.length)).drop (q.2 * g.toNat)) k) ((((rows.take (min ((q.2 + 1) * g.toNat) rows.length)).drop (q.2 * g.toNat))[k]?.getD default).take u)
        refine au 5 ?_
        refine run_cond rfl (fun h17 => ?_) (fun h17 => ?_)
        ·
         have hx1 := hrk.2 _ (getD_mem (xs := (((rows.take (min ((q.2 + 1) * g.toNat) rows.length)).drop (q.2 * g.toNat))[k]?.getD default)) (k := u) (by omega))
         have hx2 := hca _ (getD_mem (xs := (heldN p j w.toNat ((rows.take (min ((q.2 + 1) * g.toNat) rows.length)).drop (q.2 * g.toNat)) k)) (k := u) (by omega))
         unfold hasP at hx1 hx2
         have hx3 := addT_get p (powM p j k) (heldN p j w.toNat ((rows.take (min ((q.2 + 1) * g.toNat) rows.length)).drop (q.2 * g.toNat)) k) ((((rows.take (min ((q.2 + 1) * g.toNat) rows.length)).drop (q.2 * g.toNat))[k]?.getD default).take u) u (by rw [List.length_take]; omega)
         have hmm := mul_bd (a := (powM p j k)) (b := (((rows.take (min ((q.2 + 1) * g.toNat) rows.length)).drop (q.2 * g.toNat))[k]?.getD default)[u]?.getD default) (A := 65521) (B := 65521) (by omega) (by omega) (by omega) (by omega)
         refine au 11 ?_
         refine dr_start _ (.none) [⟨[(19, none)], [], none⟩,
             ⟨[(22, none)], [], none⟩,
             ⟨[(19, none)], [], none⟩,
             ⟨[(22, none)], [], none⟩,
             ⟨[(116, some (2, false)), (117, some (3, false))], [2, 3], none⟩,
             ⟨[(118, some (4, false))], [2, 3, 4], some (0, 0, false)⟩,
             ⟨[(21, none)], [], none⟩,
             ⟨[(23, none)], [], none⟩,
             ⟨[(120, some (6, false)), (121, some (7, false))], [6, 7], none⟩,
             ⟨[(119, some (5, false)), (122, some (8, false))], [2, 3, 4, 5, 6, 7, 8], none⟩,
             ⟨[(5, none)], [], none⟩,
             ⟨[(124, some (10, false))], [10], none⟩,
             ⟨[(123, some (9, false)), (125, some (11, false))], [2, 3, 4, 5, 6, 7, 8, 9, 10, 11], none⟩,
             ⟨[(114, some (0, false)), (115, some (1, false))], [0, 1, 2, 3, 4, 5, 6, 7, 8, 9, 10, 11, 12], none⟩,
             ⟨[(127, some (13, false)), (126, some (12, false))], [0, 1, 2, 3, 4, 5, 6, 7, 8, 9, 10, 11, 12, 13], some (0, 0, true)⟩] [_, _] _ rfl rfl ?_
         refine da 14 ?_
         refine dq_write0 rfl (fun s => .op rfl (.op rfl (.nil))) rfl rfl (fun s hs => loc_storeRow1 _ rfl rfl rfl (by first | omega | assumption)) (by exact .nil) ?_
         refine dq_end (rs := [_, _]) () rfl (fun _ => rfl) (.nil) rfl (fun _ => rfl) (fun _ _ => ?_)
         dsimp only [outG, outM, List.map, List.set, id]
         refine au 5 ?_
         exact run_againF ih16 (u + 1) (by omega) (by omega) (.cons rfl (by first | exact fun _ _ h => h | exact d_int (by omega) | exact d_int (by simp) | exact d_intN (by omega) | exact d_any) .nil) (.cons rfl (fun _ _ x => x) (.cons rfl (fun _ _ x => x) (.cons rfl (fun _ _ x => x) (.cons rfl (fun _ _ x => x) (.cons rfl (fun _ _ x => x) (.cons rfl (fun _ _ x => x) (.cons rfl (fun _ _ x => x) (.cons rfl (fun _ _ x => x) (.cons rfl (fun _ _ x => x) (.cons rfl (fun _ _ x => x) (.cons rfl (fun _ _ x => x) (.cons rfl (fun _ _ x => x) (.cons rfl (fun _ _ x => x) (.nil)))))))))))))) (by simp only [appR]; rw [addT_take p (powM p j k) (heldN p j w.toNat ((rows.take (min ((q.2 + 1) * g.toNat) rows.length)).drop (q.2 * g.toNat)) k) (((rows.take (min ((q.2 + 1) * g.toNat) rows.length)).drop (q.2 * g.toNat))[k]?.getD default) u (by omega) (by omega), Int.add_emod_emod, hx3])
        ·
         refine au 7 ?_
         exact run_againF ih13 (k + 1) (by omega) (by omega) (.cons rfl (by first | exact fun _ _ h => h | exact d_int (by omega) | exact d_int (by simp) | exact d_intN (by omega) | exact d_any) .nil) (.cons rfl (fun _ _ x => x) (.cons rfl (fun _ _ x => x) (.cons rfl (fun _ _ x => x) (.cons rfl (fun _ _ x => x) (.cons rfl (fun _ _ x => x) (.cons rfl (fun _ _ x => x) (.cons rfl (fun _ _ x => x) (.cons rfl (fun _ _ x => x) (.cons rfl (fun _ _ x => x) (.nil)))))))))) (by simp only [appR]; rw [List.take_of_length_le (l := (((rows.take (min ((q.2 + 1) * g.toNat) rows.length)).drop (q.2 * g.toNat))[k]?.getD default)) (by omega), heldN_snoc])
       ·
        refine au 1 ?_
        refine run_freezeRow (s := 19) rfl (.here) ?_
        refine au 3 ?_
        refine run_op (loc_buildSlice rfl rfl (.one rfl (.nil)) rfl rfl) rfl ?_
        refine run_append1 rfl (.here) rfl (by rfl) (by rfl) (by first | omega | (simp [lenMax]; omega) | (simp [lenMax]; done) | assumption) (by first | omega | (simp [lenMax]; omega) | (simp [lenMax]; done) | assumption) rfl (fun v18 => ?_)
        refine au 8 ?_
        exact run_againF ih11 ((v18, q.2 + 1)) (by simp only; omega) (by simp only; omega) (.cons rfl (by first | exact fun _ _ h => h | exact d_int (by omega) | exact d_int (by simp) | exact d_intN (by omega) | exact d_any) (.cons rfl (by first | exact fun _ _ h => h | exact d_int (by omega) | exact d_int (by simp) | exact d_intN (by omega) | exact d_any) .nil)) (.cons rfl (fun _ _ x => x) (.cons rfl (fun _ _ x => x) (.cons rfl (fun _ _ x => x) (.cons rfl (fun _ _ x => x) (.cons rfl (fun _ _ x => x) (.cons rfl (fun _ _ x => x) (.nil))))))) (by simp only [appR]; rw [List.take_add_one, grpL_get (by omega) hlt, List.map_append, show k = ((rows.take (min ((q.2 + 1) * g.toNat) rows.length)).drop (q.2 * g.toNat)).length by omega]; rfl)
      ·
       refine au 2 ?_
       refine run_freezeRow (s := 17) rfl (.here) ?_
       refine au 5 ?_
       refine run_ret2P Tryz.func118 rfl rfl rfl ?_
       exact d_tup2 (d_toRows (by unfold holdG; rw [if_pos hE, List.take_of_length_le (by rw [grpL_len]; omega)]) (fun _ _ h => h)) (fun _ _ h => h)
end Go.Q

namespace Go.Q
open Go.Proofs
open Classical
theorem sto30_spec (s : Schm) : SpecP Tryz.prog 119 [dSchm s] (dAgg [dInt .i64 s.servers, dInt .i64 s.degree, dInt .i64 s.group]) := by
 refine specP_of_body Tryz.func119 rfl rfl (fun I M => ?_)
 refine au 3 ?_
 refine run_new (loc_allocOwn (by simp)) rfl (fun b1 _ => ?_)
 refine au 12 ?_
 refine run_retGP Tryz.func119 rfl (.cellN rfl (.here) (by rfl) (.nil)) ?_ (fun _ _ h => inv_tail (h))
 exact fun _ _ h => h
theorem rhold23_spec (s : Schm) (t : Tab) (j : Int) (ht : checkT t = 0) (hv : validS s t.p) (hn1 : 1 ≤ t.rows.length) (hj : 1 ≤ j ∧ j ≤ s.servers) : SpecP Tryz.prog 65 [dSchm s, dTab t, dInt .i64 j] (dTup [dRows (hldL s t j), dInt .i64 0]) := by
  have hct := checkT_ok ht
  have hsh := hv.1
  have hctw := hct.2.2.1
  have hctn := hct.2.2.2.1
  have heq : hldL s t j = if s.kind = 3 then holdG t.p s.servers s.degree s.group t.width t.rows j else t.rows := by unfold hldL; rw [if_neg (hld_no ht hv hj)]
  refine specP_of_body Tryz.func65 rfl rfl (fun I M => ?_)
  refine au 11 ?_
  refine run_op (loc_call (rtcheck_spec _) rfl) rfl ?_
  refine au 7 ?_
  refine run_cond rfl (fun h1 => ?_) (fun h1 => ?_)
  · exfalso; exact h1 ht
  ·
   refine au 7 ?_
   refine run_op (loc_call (rvalid_spec _ _) rfl) rfl ?_
   refine au 2 ?_
   refine run_cond rfl (fun h2 => ?_) (fun h2 => ?_)
   · exfalso; exact h2 hv
   ·
    refine au 14 ?_
    refine run_cond rfl (fun h3 => ?_) (fun h3 => ?_)
    · exfalso; omega
    ·
     refine au 8 ?_
     refine run_cond rfl (fun h4 => ?_) (fun h4 => ?_)
     ·
      have c3 := h4
      have hcd : codE t.p s.servers s.degree s.group = 0 := codE_ok hv.2.1 (by unfold shapeS at hsh; omega) (hv.2.2.resolve_left (by omega)) (by unfold shapeS at hsh; omega) (by unfold shapeS at hsh; omega) (by unfold shapeS at hsh; omega)
      refine au 1 ?_
      refine dr_start _ (.none) [⟨[(4, none)], [], none⟩,
          ⟨[(32, some (0, false))], [0], none⟩,
          ⟨[(3, none)], [], none⟩,
          ⟨[(34, some (2, false))], [2], none⟩,
          ⟨[(4, none)], [], none⟩,
          ⟨[(36, some (4, false))], [4], none⟩,
          ⟨[(4, none)], [], none⟩,
          ⟨[(38, some (6, false))], [6], none⟩,
          ⟨[(2, none)], [], none⟩,
          ⟨[(33, some (1, false)), (35, some (3, false)), (37, some (5, false)), (39, some (7, false)), (40, some (8, false))], [0, 1, 2, 3, 4, 5, 6, 7, 8], none⟩,
          ⟨[(41, some (9, false))], [0, 1, 2, 3, 4, 5, 6, 7, 8, 9], none⟩,
          ⟨[(41, some (9, false))], [0, 1, 2, 3, 4, 5, 6, 7, 8, 9], none⟩,
          ⟨[(42, some (10, false))], [0, 1, 2, 3, 4, 5, 6, 7, 8, 9, 10, 11], none⟩,
          ⟨[(43, some (11, false))], [0, 1, 2, 3, 4, 5, 6, 7, 8, 9, 10, 11, 12], none⟩] [] _ rfl rfl ?_
      refine da 3 ?_
      refine dq_pure rfl (fun s => .op rfl (.nil)) (fun s hs _ => loc_call (sto30_spec _) rfl) (by exact .nil) ?_
      refine da 5 ?_
      refine dq_pure rfl (fun s => .op rfl (.op rfl (.op rfl (.op rfl (.op rfl (.nil)))))) (fun s hs _ => loc_call (rhold18_spec _ _ _ _ _ _ _ hcd hj (by omega) (by omega) hct.2.2.2.2) rfl) (by exact .nil) ?_
      refine da 4 ?_
      refine dq_end (rs := []) () rfl (fun _ => rfl) (.nil) rfl (fun _ => rfl) (fun _ _ => ?_)
      dsimp only [outG, outM, List.map, List.set, id]
      refine run_ret2P Tryz.func65 rfl rfl rfl ?_
      exact d_tup2 (d_toRows (by rw [heq, if_pos c3]) (fun _ _ h => h)) (fun _ _ h => h)
     ·
      have c3 := h4
      refine au 11 ?_
      refine run_rowNil 44 1 fR ?_
      refine run_loopF (σ := Value × Nat) (ks := [4]) (.cons rfl (.nil)) (fun q => [(9, dVal q.1), (10, dInt .i64 (q.2 : Nat))]) (fun q => [rRow q.1 44 1 fR (t.rows.take q.2)]) (fun q => q.2 ≤ t.rows.length) (fun q => t.rows.length - q.2) ((.slice none 0 0, 0)) (Nat.zero_le _) (.cons rfl (by first | exact fun _ _ h => h | exact d_int (by omega) | exact d_int (by simp) | exact d_intN (by omega) | exact d_any) (.cons rfl (by first | exact fun _ _ h => h | exact d_int (by omega) | exact d_int (by simp) | exact d_intN (by omega) | exact d_any) .nil)) (rfl) ?_
      intro q hq ih5
      have hql : (t.rows.take q.2).length = q.2 := by rw [List.length_take]; omega
      refine au 6 ?_
      first | refine runL_fact (s := 46) rfl (fun _ _ h => dSl_len h) (fun hlen6 => ?_) | skip
      refine au 3 ?_
      refine run_cond rfl (fun h7 => ?_) (fun h7 => ?_)
      ·
       have hrl := (hct.2.2.2.2 _ (getD_mem (xs := t.rows) (k := q.2) (by omega))).1
       refine au 5 ?_
       refine run_new (loc_build0 fI) rfl (fun b8 _ => ?_)
       refine au 5 ?_
       refine run_upd (LocM.frz (loc_append rfl rfl rfl (by first | omega | (simp [lenMax]; omega) | (simp [lenMax]; done) | assumption) (by first | omega | (simp [lenMax]; omega) | (simp [lenMax]; done) | assumption)) rfl) rfl (.here) (fun v9 hv9 => ?_)
       refine run_op (loc_buildSlice rfl rfl (.one rfl (.nil)) rfl rfl) rfl ?_
       refine run_append1 (e0 := (t.rows[q.2]?.getD default)) rfl (.there (.here)) rfl (by rfl) (by rfl) (by first | omega | (simp [lenMax]; omega) | (simp [lenMax]; done) | assumption) (by first | omega | (simp [lenMax]; omega) | (simp [lenMax]; done) | assumption) rfl (fun v10 => ?_)
       refine au 8 ?_
       refine run_drop (.cons _ (.refl _)) ?_
       exact run_againF ih5 ((v10, q.2 + 1)) (by simp only; omega) (by simp only; omega) (.cons rfl (by first | exact fun _ _ h => h | exact d_int (by omega) | exact d_int (by simp) | exact d_intN (by omega) | exact d_any) (.cons rfl (by first | exact fun _ _ h => h | exact d_int (by omega) | exact d_int (by simp) | exact d_intN (by omega) | exact d_any) .nil)) (.cons rfl (fun _ _ x => x) (.nil)) (by simp only [appR]; rw [take_snocR (by omega)]; try rfl)
      ·
       refine au 2 ?_
       refine run_freezeRow (s := 9) rfl (.here) ?_
       refine au 5 ?_
       refine run_ret2P Tryz.func65 rfl rfl rfl ?_
       exact d_tup2 (d_toRows (by rw [heq, if_neg c3, List.take_of_length_le (by omega)]) (fun _ _ h => h)) (fun _ _ h => h)
end Go.Q

namespace Go.Q
def valZ : List Int → Int → Int
 | [], _ => 0
 | c :: cs, x => c + x * valZ cs x
theorem valP_Z (p : Int) : ∀ (cs : List Int) (x : Int), valP p cs x = valZ cs x % p
 | [], x => by simp [valP, valZ]
 | c :: cs, x => by
  unfold valP valZ
  rw [valP_Z p cs x, Int.emod_add_emod, fm_mod_add]
where
 fm_mod_add {a b c p : Int} : (a % p * b + c) % p = (c + b * a) % p := by
  rw [Int.add_comm, ← Int.add_emod_emod, Int.mul_comm, Int.mul_emod, Int.emod_emod, ← Int.mul_emod, Int.add_emod_emod]
end Go.Q

namespace Go.Q
def coef (a : List Int) (i : Nat) : Int := a[i]?.getD 0
def addZ : List Int → List Int → List Int
 | [], b => b
 | a :: asL, [] => a :: asL
 | a :: asL, b :: bs => (a + b) :: addZ asL bs
def sclZ (c : Int) (b : List Int) : List Int := b.map (c * ·)
def mulZ : List Int → List Int → List Int
 | [], _ => []
 | a :: asL, b => addZ (sclZ a b) (0 :: mulZ asL b)
def trimmed (a : List Int) : Prop := a = [] ∨ coef a (a.length - 1) ≠ 0
structure DivOk (p : Int) (a b q r : List Int) : Prop where
 q_has : ∀ x ∈ q, hasP p x
 r_has : ∀ x ∈ r, hasP p x
 q_trim : trimmed q
 r_trim : trimmed r
 r_len : r.length < b.length
 eq : ∀ i, p ∣ coef a i - (coef (mulZ q b) i + coef r i)
end Go.Q

namespace Go.Q
open Classical

theorem valZ_shift (x : Int) (b : List Int) : ∀ m : Nat, valZ (List.replicate m 0 ++ b) x = x ^ m * valZ b x
 | 0 => by simp
 | m + 1 => by
  rw [List.replicate_succ, List.cons_append, valZ, valZ_shift x b m, Int.pow_succ]; grind
end Go.Q

namespace Go.Q
open Classical
theorem valP_step {p x c : Int} {cs : List Int} : valP p (c :: cs) x = (valP p cs x * x + c) % p := by
 rw [valP, Int.emod_add_emod]
noncomputable def listsE (p : Int) (ls : List (List Int)) : Int := if ¬ okP p then 9 else if ∃ l ∈ ls, ¬ allP p l then 9 else if ∃ l ∈ ls, 512 < l.length then 4 else 0
theorem sub_mod {p l a : Int} : (l + p - a) % p = (l + (p - 1) * a % p) % p := by
 rw [Int.add_emod_emod, show l + (p - 1) * a = l + p - a + p * (a - 1) by grind, Int.add_mul_emod_self_left]
theorem add2_mod {p u a S q : Int} : ((u + a * S % p) % p + a * q % p) % p = (u + a * ((S + 1 * q % p) % p) % p) % p := by
 have e : a * ((S + 1 * q % p) % p) % p = (a * S + a * q) % p := by
  rw [fe_mod, Int.mul_emod, Int.add_emod_emod, ← Int.mul_emod, Int.one_mul, Int.mul_add]
 rw [Int.emod_add_emod, e, Int.add_emod_emod, Int.add_emod_emod, show u + a * S % p + a * q = a * S % p + (u + a * q) by omega, Int.emod_add_emod]
 congr 1; omega
theorem snocInd {α : Type} {P : List α → Prop} (h0 : P []) (hs : ∀ l x, P l → P (l ++ [x])) (l : List α) : P l := by
 have H : ∀ l : List α, P l.reverse := by
  intro l
  induction l with
  | nil => exact h0
  | cons x l ih => rw [List.reverse_cons]; exact hs _ x ih
 have := H l.reverse
 rwa [List.reverse_reverse] at this
theorem fold_last {p : Int} (hp : 2 ≤ p) {n : Nat} {u : List Int} (hu : u.length = n) : ∀ (qs : List (List Int)), (∀ q ∈ qs, q.length = n) → qs.foldl (fun a q => addT p (p - 1) a q) u = addT p (p - 1) u (sumL p n qs) ∨ qs = [] := by
 intro qs
 induction qs using snocInd with
 | h0 => intro _; exact .inr rfl
 | hs qs q ih =>
  intro hq
  left
  have hS := sumL_ok hp (n := n) (ls := qs) (a := List.replicate n 0) (by simp) (rep0_has hp n)
  have hql : q.length = n := hq q (by simp)
  have hsum : sumL p n (qs ++ [q]) = addT p 1 (sumL p n qs) q := by unfold sumL; rw [List.foldl_append]; rfl
  have key : ∀ w : List Int, w.length = n → (∀ j, j < n → w[j]?.getD default = (u[j]?.getD default + (p - 1) * ((sumL p n qs)[j]?.getD default) % p) % p) → addT p (p - 1) w q = addT p (p - 1) u (addT p 1 (sumL p n qs) q) := by
   intro w hw hj
   refine list_extD (by rw [addT_len, addT_len]; omega) fun j hjl => ?_
   rw [addT_len] at hjl
   have hsl : (sumL p n qs).length = n := hS.1
   rw [addT_at p (p - 1) w q j hjl (by omega), addT_at p (p - 1) u _ j (by omega) (by rw [addT_len]; omega), addT_at p 1 _ q j (by omega) (by omega), hj j (by omega)]
   exact add2_mod
  rw [List.foldl_append, hsum]
  show addT p (p - 1) (qs.foldl (fun a q => addT p (p - 1) a q) u) q = _
  rcases ih (fun q' h => hq q' (by simp [h])) with h | h
  ·rw [h]
   refine key _ (by rw [addT_len]; exact hu) fun j hj => ?_
   rw [addT_at p (p - 1) u _ j (by omega) (by rw [show (sumL p n qs).length = n from hS.1]; exact hj)]
  ·subst h
   -- the first list
   refine list_extD (by rw [addT_len, addT_len]; rfl) fun j hjl => ?_
   rw [addT_len] at hjl
   have hjn : j < n := by rw [← hu]; exact hjl
   have hz : (List.replicate n (0 : Int))[j]?.getD default = 0 := by rw [List.getElem?_replicate, if_pos hjn]; rfl
   show (addT p (p - 1) u q)[j]?.getD default = (addT p (p - 1) u (addT p 1 (List.replicate n 0) q))[j]?.getD default
   rw [addT_at p (p - 1) u q j hjl (by omega), addT_at p (p - 1) u _ j hjl (by rw [addT_len, List.length_replicate]; exact hjn), addT_at p 1 _ q j (by rw [List.length_replicate]; exact hjn) (by omega), hz]
   rw [Int.zero_add, Int.one_mul, Int.emod_emod, fe_mod]
def lastR (p index rows : Int) (qs : List (List Int)) : List Int := qs.foldl (fun a q => addT p (p - 1) a q) (unitL rows.toNat index.toNat)
theorem lastR_eq {p index rows : Int} (hp : 2 ≤ p) {qs : List (List Int)} (hq : ∀ q ∈ qs, q.length = rows.toNat) (hne : qs ≠ []) : lastR p index rows qs = pLast p index rows qs := by
 unfold lastR pLast
 exact (fold_last hp (unitL_len _ _) qs hq).resolve_right hne
theorem lastR_ok {p index rows : Int} (hp : 2 ≤ p) : ∀ (qs : List (List Int)), (lastR p index rows qs).length = rows.toNat ∧ ∀ x ∈ lastR p index rows qs, hasP p x := by
 intro qs
 unfold lastR
 have : ∀ (qs : List (List Int)) (u : List Int), u.length = rows.toNat → (∀ x ∈ u, hasP p x) → (qs.foldl (fun a q => addT p (p - 1) a q) u).length = rows.toNat ∧ ∀ x ∈ qs.foldl (fun a q => addT p (p - 1) a q) u, hasP p x := by
  intro qs
  induction qs with
  | nil => intro u h1 h2; exact ⟨h1, h2⟩
  | cons q qs ih => intro u h1 h2; exact ih _ (by rw [addT_len]; exact h1) (addT_has (by omega) h2)
 exact this qs _ (unitL_len _ _) (unitL_has hp)
theorem lastR_snoc (p index rows : Int) (qs : List (List Int)) (q : List Int) : lastR p index rows (qs ++ [q]) = addT p (p - 1) (lastR p index rows qs) q := by
 unfold lastR; rw [List.foldl_append]; rfl
def colP (f : Nat → Nat → Int) (s k i : Nat) : List (List Int) := (List.range s).map fun j => (List.range (if j < k then i + 1 else i)).map (f j)
theorem colP_0 (f : Nat → Nat → Int) (s : Nat) : colP f s 0 0 = List.replicate s [] := by
 unfold colP
 refine List.ext_getElem (by simp) fun i h1 h2 => ?_
 simp
theorem colP_next (f : Nat → Nat → Int) (s i : Nat) : colP f s s i = colP f s 0 (i + 1) := by
 unfold colP
 refine List.map_congr_left fun j hj => ?_
 rw [if_pos (List.mem_range.1 hj), if_neg (by omega)]
theorem colP_get {f : Nat → Nat → Int} {s k i : Nat} (h : k < s) : (colP f s k i)[k]?.getD default = (List.range i).map (f k) := by
 unfold colP
 rw [List.getElem?_map, List.getElem?_range h]
 simp
theorem colP_set {f : Nat → Nat → Int} {s k i : Nat} (h : k < s) : (colP f s k i).set k ((List.range i).map (f k) ++ [f k i]) = colP f s (k + 1) i := by
 unfold colP
 refine List.ext_getElem (by simp) fun j h1 h2 => ?_
 rw [List.getElem_set]
 simp only [List.length_set, List.length_map, List.length_range] at h1
 split
 ·rename_i e; subst e
  simp only [List.getElem_map, List.getElem_range]
  rw [if_pos (by omega), List.range_succ, List.map_append]; rfl
 ·rename_i e
  simp only [List.getElem_map, List.getElem_range]
  by_cases hjk : j < k
  ·rw [if_pos hjk, if_pos (by omega)]
  ·rw [if_neg hjk, if_neg (by omega)]
def drB (t : Tape) (n : Int) : List Int := (pBase t).take n.toNat
theorem drB_eq {t : Tape} {p n : Int} (h : drawE t p n = 0) : drawL t p n = drB t n := by unfold drawL drB pBase; rw [if_pos h]
theorem slice_chunk {b : List Int} {d n k : Nat} (h : k < n) : ((b.take (n * d)).take ((k + 1) * d)).drop (k * d) = (b.drop (k * d)).take d := by
 have h1 : (k + 1) * d ≤ n * d := Nat.mul_le_mul_right _ (by omega)
 rw [List.take_take, Nat.min_eq_left h1, List.drop_take, Nat.add_mul, Nat.one_mul, Nat.add_sub_cancel_left]
theorem chunk_int {t : Tape} {d n : Int} {k : Nat} (hd : 0 ≤ d) (hn : (k : Int) < n) : ((drB t (n * d)).take (((k : Int) + 1) * d).toNat).drop ((k : Int) * d).toNat = ((pBase t).drop (k * d.toNat)).take d.toNat := by
 have e1 : (n * d).toNat = n.toNat * d.toNat := by
  have e : n * d = ((n.toNat * d.toNat : Nat) : Int) := by rw [Int.natCast_mul, show ((n.toNat : Nat) : Int) = n by omega, show ((d.toNat : Nat) : Int) = d by omega]
  rw [e]; rfl
 have e2 : (((k : Int) + 1) * d).toNat = (k + 1) * d.toNat := by
  have e : ((k : Int) + 1) * d = (((k + 1) * d.toNat : Nat) : Int) := by rw [Int.natCast_mul, show ((d.toNat : Nat) : Int) = d by omega, Int.natCast_add]; rfl
  rw [e]; rfl
 have e3 : ((k : Int) * d).toNat = k * d.toNat := by
  have e : (k : Int) * d = ((k * d.toNat : Nat) : Int) := by rw [Int.natCast_mul, show ((d.toNat : Nat) : Int) = d by omega]
  rw [e]; rfl
 unfold drB
 rw [e1, e2, e3, slice_chunk (by omega)]
theorem val_group {p j : Int} {g : Nat} {l : List Int} : valP p (List.replicate g 0 ++ l) j = powM p j g * valP p l j % p := by
 rw [valP_Z, valZ_shift, valP_Z]
 unfold powM
 rw [← Int.mul_emod]
theorem val_group1 {p j : Int} {g : Nat} (hg : 1 ≤ g) {l : List Int} : valP p ((List.replicate g 0).set 0 1 ++ l) j = (powM p j g * valP p l j % p + 1) % p := by
 obtain ⟨m, rfl⟩ : ∃ m, g = m + 1 := ⟨g - 1, by omega⟩
 rw [← val_group, valP_Z, valP_Z, Int.emod_add_emod]
 congr 1
 rw [List.replicate_succ, List.set_cons_zero, List.cons_append, List.cons_append, valZ, valZ]; omega
end Go.Q

namespace Go.Q
open Go.Proofs
open Classical
theorem rval02_spec (t : Tape) : SpecP Tryz.prog 190 [dTape t] (dB (okTape t)) := by
 refine specP_of_body Tryz.func190 rfl rfl (fun I M => ?_)
 refine au 9 ?_
 first | refine runL_fact (s := 4) rfl (fun _ _ h => dSl_len h) (fun hlen1 => ?_) | skip
 refine au 19 ?_
 refine run_retP Tryz.func190 rfl rfl ?_
 exact d_B (by unfold okTape; constructor <;> (intro h; omega))
theorem rcopy02_spec (t : Tape) (h : okTape t) : SpecP Tryz.prog 191 [dTape t] (dTape t) := by
 have hok := h
 unfold okTape at hok
 refine specP_of_body Tryz.func191 rfl rfl (fun I M => ?_)
 refine au 2 ?_
 refine run_new (loc_boxOwnN rfl) rfl (fun b1 _ => ?_)
 refine run_new (loc_allocOwn (by simp)) rfl (fun b2 _ => ?_)
 refine au 5 ?_
 refine run_op (LocM.frz0 (loc_appendNil rfl rfl rfl (by first | omega | (simp [lenMax]; omega) | (simp [lenMax]; done) | assumption) (by first | omega | (simp [lenMax]; omega) | (simp [lenMax]; done) | assumption))) rfl ?_
 refine au 8 ?_
 refine run_retGP Tryz.func191 rfl (.cellN rfl (.here) (by rfl) (.nil)) ?_ (fun _ _ h => inv_tail (inv_tail (h)))
 exact fun _ _ h => h
theorem rdraws_spec (t : Tape) (n c : Int) : SpecP Tryz.prog 187 [dTape t, dInt .i64 n, dInt .i64 c] (dTup [dTape (drawT t n c), dInts (drawL t n c), dInt .i64 (drawE t n c)]) := by
  refine specP_of_body Tryz.func187 rfl rfl (fun I M => ?_)
  refine au 2 ?_
  refine run_new (loc_boxOwnN rfl) rfl (fun b3 _ => ?_)
  refine run_new (loc_allocOwn (by simp)) rfl (fun b1 _ => ?_)
  refine au 7 ?_
  refine run_op (loc_call (rval02_spec _) rfl) rfl ?_
  refine au 2 ?_
  refine run_cond rfl (fun h2 => ?_) (fun h2 => ?_)
  ·
   have c1 := h2
   refine au 7 ?_
   have hE : drawE t n c = 2 := by unfold drawE; rw [if_pos c1]
   refine run_retGP Tryz.func187 rfl (.cellN rfl (.here) (by rfl) (.tmp rfl (.tmp rfl (.nil)))) ?_ (fun _ _ h => inv_tail (inv_tail (h)))
   exact d_tup3 (d_toTape (by unfold drawT; rw [if_neg (by rw [hE]; omega)]) (d_aggU (.cons d_nil (.cons (d_int rfl) .nil)))) (d_toInts (by unfold drawL; rw [if_neg (by rw [hE]; omega)]) d_nil) (d_int hE.symm)
  ·
   have c1 : okTape t := Classical.not_not.1 h2
   refine au 17 ?_
   refine run_cond rfl (fun h3 => ?_) (fun h3 => ?_)
   ·
    have c2 : ¬ (1 ≤ n ∧ n ≤ 2147483647) ∨ c < 0 := by have := h3; omega
    refine au 7 ?_
    have hE : drawE t n c = 1 := by unfold drawE; rw [if_neg (Classical.not_not.2 c1), if_pos c2]
    refine run_retGP Tryz.func187 rfl (.cellN rfl (.here) (by rfl) (.tmp rfl (.tmp rfl (.nil)))) ?_ (fun _ _ h => inv_tail (inv_tail (h)))
    exact d_tup3 (d_toTape (by unfold drawT; rw [if_neg (by rw [hE]; omega)]) (d_aggU (.cons d_nil (.cons (d_int rfl) .nil)))) (d_toInts (by unfold drawL; rw [if_neg (by rw [hE]; omega)]) d_nil) (d_int hE.symm)
   ·
    have c2 : ¬ (¬ (1 ≤ n ∧ n ≤ 2147483647) ∨ c < 0) := by have := h3; omega
    refine au 2 ?_
    have hok := c1
    unfold okTape at hok
    refine au 2 ?_
    refine run_op (loc_call (rcopy02_spec _ c1) rfl) rfl ?_
    refine au 12 ?_
    refine run_rowNil 3 1 fI ?_
    refine run_cellsUp (kk := 1) (b := b3) (dInt .i64 t.at') (dInt .i64 ((t.at'.toNat + 0 : Nat) : Int)) (.there (.there (.here))) rfl (d_int (by omega)) ?_
    refine run_front (.here) ?_
    refine run_front (.there (.there (.here))) ?_
    refine run_loopF (σ := Value × Nat) (ks := [1, 2, 3, 6]) (.cons rfl (.cons rfl (.cons rfl (.cons rfl (.nil))))) (fun s => [(9, dVal s.1), (10, dInt .i64 (s.2 : Nat))]) (fun s => [rCells b3 122 [dInts t.numbers, dInt .i64 ((t.at'.toNat + s.2 : Nat) : Int)], rRow s.1 3 1 fI ((t.numbers.drop t.at'.toNat).take s.2)]) (fun s => s.2 ≤ c.toNat ∧ t.at'.toNat + s.2 ≤ t.numbers.length ∧ ∀ j, j < s.2 → hasP n (t.numbers[t.at'.toNat + j]?.getD default)) (fun s => c.toNat - s.2) ((.slice none 0 0, 0)) (⟨Nat.zero_le _, by omega, fun j hj => by simp only at hj; omega⟩) (.cons rfl (by first | exact fun _ _ h => h | exact d_int (by omega) | exact d_int (by simp) | exact d_intN (by omega) | exact d_any) (.cons rfl (by first | exact fun _ _ h => h | exact d_int (by omega) | exact d_int (by simp) | exact d_intN (by omega) | exact d_any) .nil)) (rfl) ?_
    rintro s ⟨hA, hB, hC⟩ ih4
    have htl : ((t.numbers.drop t.at'.toNat).take s.2).length = s.2 := by rw [List.length_take, List.length_drop]; omega
    have hg : ∀ j, (t.numbers.drop t.at'.toNat)[j]? = t.numbers[t.at'.toNat + j]? := fun j => List.getElem?_drop
    refine au 7 ?_
    refine run_cond rfl (fun h5 => ?_) (fun h5 => ?_)
    ·
     refine au 10 ?_
     first | refine runL_fact (s := 37) rfl (fun _ _ h => dSl_len h) (fun hlen6 => ?_) | skip
     refine au 3 ?_
     refine run_cond rfl (fun h7 => ?_) (fun h7 => ?_)
     ·
      refine au 7 ?_
      have hE : drawE t n c = 3 := by unfold drawE; rw [if_neg (Classical.not_not.2 c1), if_neg c2, stepE_short (fun x hx => by obtain ⟨j, hj⟩ := List.getElem?_of_mem hx; have h5 := (List.getElem?_eq_some_iff.1 hj).1; rw [List.length_drop] at h5; have := hC j (by omega); rw [← hg, hj] at this; exact this) (by rw [List.length_drop]; omega)]
      refine run_retGP Tryz.func187 rfl (.cellN rfl (.there (.there (.here))) (by rfl) (.tmp rfl (.tmp rfl (.nil)))) ?_ (fun _ _ h => inv_tail (inv_tail (inv_tail (h))))
      exact d_tup3 (d_toTape (by unfold drawT; rw [if_neg (by rw [hE]; omega)]) (d_aggU (.cons d_nil (.cons (d_int rfl) .nil)))) (d_toInts (by unfold drawL; rw [if_neg (by rw [hE]; omega)]) d_nil) (d_int hE.symm)
     ·
      refine au 23 ?_
      refine run_cond rfl (fun h8 => ?_) (fun h8 => ?_)
      ·
       have hx : ¬ hasP n (t.numbers[t.at'.toNat + s.2]?.getD default) := by have := h8; unfold hasP; omega
       refine au 7 ?_
       have hE : drawE t n c = 8 := by unfold drawE; rw [if_neg (Classical.not_not.2 c1), if_neg c2, stepE_bad (i := s.2) (by rw [List.length_drop]; omega) (by omega) (fun j hj => by rw [hg]; exact hC j hj) (by rw [hg]; exact hx)]
       refine run_retGP Tryz.func187 rfl (.cellN rfl (.there (.there (.here))) (by rfl) (.tmp rfl (.tmp rfl (.nil)))) ?_ (fun _ _ h => inv_tail (inv_tail (inv_tail (h))))
       exact d_tup3 (d_toTape (by unfold drawT; rw [if_neg (by rw [hE]; omega)]) (d_aggU (.cons d_nil (.cons (d_int rfl) .nil)))) (d_toInts (by unfold drawL; rw [if_neg (by rw [hE]; omega)]) d_nil) (d_int hE.symm)
      ·
       have hx : hasP n (t.numbers[t.at'.toNat + s.2]?.getD default) := by have := h8; unfold hasP; omega
       refine au 12 ?_
       refine run_op (loc_buildSlice rfl rfl (.one rfl (.nil)) rfl rfl) rfl ?_
       refine run_append1 rfl (.there (.here)) rfl (by rfl) (by rfl) (by first | omega | (simp [lenMax]; omega) | (simp [lenMax]; done) | assumption) (by first | omega | (simp [lenMax]; omega) | (simp [lenMax]; done) | assumption) rfl (fun v9 => ?_)
       refine au 8 ?_
       exact run_againF ih4 ((v9, s.2 + 1)) (⟨by simp only; omega, by simp only; omega, fun j hj => by simp only at hj; by_cases e : j = s.2; (· subst e; exact hx); (· exact hC j (by omega))⟩) (by simp only; omega) (.cons rfl (by first | exact fun _ _ h => h | exact d_int (by omega) | exact d_int (by simp) | exact d_intN (by omega) | exact d_any) (.cons rfl (by first | exact fun _ _ h => h | exact d_int (by omega) | exact d_int (by simp) | exact d_intN (by omega) | exact d_any) .nil)) (.cons rfl (fun _ _ x => x) (.cons rfl (fun _ _ x => x) (.cons rfl (fun _ _ x => x) (.cons rfl (fun _ _ x => x) (.nil))))) (by simp only [appR]; rw [take_snoc2 (xs := t.numbers.drop t.at'.toNat) (by rw [List.length_drop]; omega), hg]; rfl)
    ·
     refine au 2 ?_
     refine run_freezeRow (s := 9) rfl (.there (.here)) ?_
     refine au 7 ?_
     have hE : drawE t n c = 0 := by unfold drawE; rw [if_neg (Classical.not_not.2 c1), if_neg c2, show c.toNat = s.2 by omega, stepE_ok (by rw [List.length_drop]; omega) (fun j hj => by rw [hg]; exact hC j hj)]
     refine run_retGP Tryz.func187 rfl (.cellN rfl (.there (.here)) (by rfl) (.tmp rfl (.tmp rfl (.nil)))) ?_ (fun _ _ h => inv_tail (inv_tail (h)))
     exact d_tup3 (d_toTape (t' := ⟨t.numbers, ((t.at'.toNat + s.2 : Nat) : Int)⟩) (by unfold drawT; rw [if_pos hE]; congr 1; omega) (fun _ _ h => h)) (d_eq (by unfold drawL; rw [if_pos hE, show c.toNat = s.2 by omega])) (d_int hE.symm)
theorem rvalue05_spec (p : Int) (cs : List Int) (x : Int) (h : 2 ≤ p ∧ p ≤ 65521) (hx : 0 ≤ x ∧ x ≤ 65521) (hc : ∀ c ∈ cs, hasP p c) : SpecP Tryz.prog 193 [dAgg [dInt .i64 p], dInts cs, dInt .i64 x] (dInt .i64 (valP p cs x)) := by
  refine specP_of_body Tryz.func193 rfl rfl (fun I M => ?_)
  refine au 13 ?_
  first | refine runL_fact (s := 9) rfl (fun _ _ h => dSl_len h) (fun hlen1 => ?_) | skip
  refine au 5 ?_
  refine run_loopC (σ := Nat) (ks := [1, 2, 3]) (.cons rfl (.cons rfl (.cons rfl (.nil)))) (fun k => [(7, dInt .i64 (valP p (cs.drop (cs.length - k)) x)), (8, dInt .i64 ((cs.length : Int) - 1 - k))]) (fun k => k ≤ cs.length) (fun k => cs.length - k) (0) (Nat.zero_le _) (.cons rfl (d_int (by rw [Nat.sub_zero, List.drop_length]; rfl)) (.cons rfl (d_int (by omega)) .nil)) ?_
  intro k hk ih2
  have hv := valP_bd (x := x) (show 0 < p by omega) (cs.drop (cs.length - k))
  have hm := mul_bd (a := valP p (cs.drop (cs.length - k)) x) (b := x) (A := 65521) (B := 65521) (by omega) (by omega) (by omega) (by omega)
  refine au 6 ?_
  refine run_cond rfl (fun h3 => ?_) (fun h3 => ?_)
  ·
   have hk1 : k < cs.length := by have := h3; omega
   have hi : ((cs.length : Int) - 1 - k).toNat = cs.length - 1 - k := by omega
   have he := hc (cs[((cs.length : Int) - 1 - k).toNat]?.getD default) (getD_mem (by omega))
   unfold hasP at he
   refine au 3 ?_
   refine dr_start _ (.none) [⟨[(7, none)], [], none⟩,
       ⟨[(2, none)], [], none⟩,
       ⟨[(16, some (0, false)), (17, some (1, false))], [0, 1], none⟩,
       ⟨[(1, none)], [], none⟩,
       ⟨[(8, none)], [], none⟩,
       ⟨[(19, some (3, false)), (20, some (4, false))], [3, 4], none⟩,
       ⟨[(21, some (5, false))], [3, 4, 5], none⟩,
       ⟨[(18, some (2, false)), (22, some (6, false))], [0, 1, 2, 3, 4, 5, 6], none⟩,
       ⟨[(3, none)], [], none⟩,
       ⟨[(24, some (8, false))], [8], none⟩,
       ⟨[(23, some (7, false)), (25, some (9, false))], [0, 1, 2, 3, 4, 5, 6, 7, 8, 9], none⟩,
       ⟨[(26, some (10, false))], [0, 1, 2, 3, 4, 5, 6, 7, 8, 9, 10], none⟩] [] _ rfl rfl ?_
   refine da 12 ?_
   refine dq_end (rs := []) () rfl (fun _ => rfl) (.nil) rfl (fun _ => rfl) (fun _ _ => ?_)
   dsimp only [outG, outM, List.map, List.set, id]
   refine au 6 ?_
   exact run_againC ih2 (k + 1) (by omega) (by omega) (.cons rfl (d_int (by rw [← valP_step, hi, ← drop_back hk1])) (.cons rfl (d_int (by omega)) .nil)) (.cons rfl (fun _ _ x => x) (.cons rfl (fun _ _ x => x) (.cons rfl (fun _ _ x => x) (.nil))))
  ·
   refine au 6 ?_
   refine run_retP Tryz.func193 rfl rfl ?_
   exact d_int (by rw [show cs.length - k = 0 by omega, List.drop_zero])
theorem rlists05_spec (p : Int) (ls : List (List Int)) : SpecP Tryz.prog 192 [dAgg [dInt .i64 p], dRows ls] (dInt .i64 (listsE p ls)) := by
  refine specP_of_body Tryz.func192 rfl rfl (fun I M => ?_)
  refine au 9 ?_
  refine run_op (loc_call (rcheck3_spec _) rfl) rfl ?_
  refine au 7 ?_
  refine run_cond rfl (fun h1 => ?_) (fun h1 => ?_)
  ·
   have c1 : ¬ okP p := fun h => h1 (errP_zero.2 h)
   refine au 5 ?_
   refine run_retP Tryz.func192 rfl rfl ?_
   exact d_int (by unfold listsE errP; rw [if_pos c1, if_neg c1])
  ·
   have c1 : okP p := errP_zero.1 (Classical.not_not.1 h1)
   refine au 5 ?_
   first | refine runL_fact (s := 15) rfl (fun _ _ h => dSl_len h) (fun hlen2 => ?_) | skip
   refine au 4 ?_
   refine run_loopC (σ := Nat) (ks := [1, 2, 15, 16]) (.cons rfl (.cons rfl (.cons rfl (.cons rfl (.nil))))) (fun k => [(17, dInt .i64 (k : Nat))]) (fun k => k ≤ ls.length ∧ (∀ j, j < k → allP p (ls[j]?.getD default))) (fun k => ls.length - k) (0) (⟨by omega, fun j hj => by omega⟩) (.cons rfl (by first | exact fun _ _ h => h | exact d_int (by omega) | exact d_int (by simp) | exact d_intN (by omega) | exact d_any) .nil) ?_
   rintro k ⟨hk, hbk⟩ ih3
   refine au 5 ?_
   refine run_cond rfl (fun h4 => ?_) (fun h4 => ?_)
   ·
    refine au 13 ?_
    refine run_op (loc_call (in3_spec _ _) rfl) rfl ?_
    refine au 2 ?_
    refine run_cond rfl (fun h5 => ?_) (fun h5 => ?_)
    ·
     have r9 : ¬ allP p (ls[k]?.getD default) := fun h => h5 ⟨c1, h⟩
     refine au 4 ?_
     refine run_retP Tryz.func192 rfl rfl ?_
     exact d_int (by unfold listsE; rw [if_neg (Classical.not_not.2 c1), if_pos ⟨_, getD_mem (by omega), r9⟩])
    ·
     have r9 : allP p (ls[k]?.getD default) := (Classical.not_not.1 h5).2
     refine au 6 ?_
     exact run_againC ih3 (k + 1) (⟨by omega, fun j hj => by by_cases e : j = k; (· subst e; exact r9); (· exact hbk j (by omega))⟩) (by omega) (.cons rfl (by first | exact fun _ _ h => h | exact d_int (by omega) | exact d_int (by simp) | exact d_intN (by omega) | exact d_any) .nil) (.cons rfl (fun _ _ x => x) (.cons rfl (fun _ _ x => x) (.cons rfl (fun _ _ x => x) (.cons rfl (fun _ _ x => x) (.nil)))))
   ·
    refine au 3 ?_
    have hno : ¬ ∃ l ∈ ls, ¬ allP p l := fun ⟨l, hl, h9⟩ => by obtain ⟨i, hi, rfl⟩ := List.mem_iff_getElem.1 hl; have := hbk i (by omega); exact h9 (by simpa [hi] using this)
    refine au 2 ?_
    first | refine runL_fact (s := 26) rfl (fun _ _ h => dSl_len h) (fun hlen6 => ?_) | skip
    refine au 4 ?_
    refine run_loopC (σ := Nat) (ks := [26, 27]) (.cons rfl (.cons rfl (.nil))) (fun k => [(28, dInt .i64 (k : Nat))]) (fun k => k ≤ ls.length ∧ (∀ j, j < k → (ls[j]?.getD default).length ≤ 512)) (fun k => ls.length - k) (0) (⟨by omega, fun j hj => by omega⟩) (.cons rfl (by first | exact fun _ _ h => h | exact d_int (by omega) | exact d_int (by simp) | exact d_intN (by omega) | exact d_any) .nil) ?_
    rintro k ⟨hk, hbk⟩ ih7
    refine au 5 ?_
    refine run_cond rfl (fun h8 => ?_) (fun h8 => ?_)
    ·
     refine au 12 ?_
     first | refine runL_fact (s := 32) rfl (fun _ _ h => dSl_len h) (fun hlen9 => ?_) | skip
     refine au 3 ?_
     refine run_cond rfl (fun h10 => ?_) (fun h10 => ?_)
     ·
      refine au 4 ?_
      refine run_retP Tryz.func192 rfl rfl ?_
      exact d_int (by unfold listsE; rw [if_neg (Classical.not_not.2 c1), if_neg hno, if_pos ⟨_, getD_mem (k := k) (by omega), by omega⟩])
     ·
      refine au 6 ?_
      exact run_againC ih7 (k + 1) (⟨by omega, fun j hj => by by_cases e : j = k; (· subst e; omega); (· exact hbk j (by omega))⟩) (by omega) (.cons rfl (by first | exact fun _ _ h => h | exact d_int (by omega) | exact d_int (by simp) | exact d_intN (by omega) | exact d_any) .nil) (.cons rfl (fun _ _ x => x) (.cons rfl (fun _ _ x => x) (.nil)))
    ·
     refine au 5 ?_
     refine run_retP Tryz.func192 rfl rfl ?_
     exact d_int (by unfold listsE; rw [if_neg (Classical.not_not.2 c1), if_neg hno, if_neg (fun ⟨l, hl, h9⟩ => by obtain ⟨i, hi, rfl⟩ := List.mem_iff_getElem.1 hl; have := hbk i (by omega); simp [hi] at this; omega)])
theorem rValue05_spec (p : Int) (cs : List Int) (x : Int) (h : okP p) (hx : hasP p x) (hc : ∀ c ∈ cs, hasP p c) (hl : cs.length ≤ 512) : SpecP Tryz.prog 189 [dAgg [dInt .i64 p], dInts cs, dInt .i64 x] (dTup [dInt .i64 (valP p cs x), dInt .i64 0]) := by
  have hp1 := h.1
  have hp2 := h.2.1
  have hz : listsE p [cs] = 0 := by unfold listsE; rw [if_neg (Classical.not_not.2 h), if_neg (by simp only [List.mem_singleton, exists_eq_left, Classical.not_not]; exact hc), if_neg (by simp only [List.mem_singleton, exists_eq_left]; omega)]
  refine specP_of_body Tryz.func189 rfl rfl (fun I M => ?_)
  refine au 11 ?_
  refine run_op (LocP.imp (loc_buildSlice rfl rfl (.one rfl .nil) rfl rfl) (d_sl (ys := [x]) (h := fI) rfl)) rfl ?_
  refine run_op (loc_call (in3_spec _ [x]) rfl) rfl ?_
  refine au 2 ?_
  refine run_cond rfl (fun h1 => ?_) (fun h1 => ?_)
  · exfalso; exact h1 ⟨h, fun y hy => by rw [List.mem_singleton.1 hy]; exact hx⟩
  ·
   refine au 6 ?_
   refine run_op (LocP.imp (loc_buildSlice rfl rfl (.one rfl .nil) rfl rfl) (d_sl (ys := [cs]) (h := fun x => [dInts x]) rfl)) rfl ?_
   refine run_op (loc_call (rlists05_spec _ [cs]) rfl) rfl ?_
   refine au 7 ?_
   refine run_cond rfl (fun h2 => ?_) (fun h2 => ?_)
   · exfalso; exact h2 hz
   ·
    refine au 6 ?_
    refine run_op (loc_call (rvalue05_spec _ _ _ (by omega) (by unfold hasP at hx; omega) hc) rfl) rfl ?_
    refine au 3 ?_
    refine run_ret2P Tryz.func189 rfl rfl rfl ?_
    exact fun _ _ h => h
theorem rsplit_spec (p secret most count : Int) (t : Tape) : SpecP Tryz.prog 188 [dAgg [dInt .i64 p], dInt .i64 secret, dInt .i64 most, dInt .i64 count, dTape t] (dTup [dSl 2 cSh (splitL p secret most count t), dTape (splitT p secret most count t), dInt .i64 (splitE p secret most count t)]) := by
  refine specP_of_body Tryz.func188 rfl rfl (fun I M => ?_)
  refine au 3 ?_
  refine run_new (loc_boxOwnN rfl) rfl (fun b1 _ => ?_)
  refine au 1 ?_
  refine run_new (loc_allocOwn (by simp)) rfl (fun b2 _ => ?_)
  refine au 7 ?_
  refine run_op (LocP.imp (loc_buildSlice rfl rfl (.one rfl .nil) rfl rfl) (d_sl (ys := [secret]) (h := fI) rfl)) rfl ?_
  refine run_op (loc_call (in3_spec _ [secret]) rfl) rfl ?_
  refine au 2 ?_
  refine run_cond rfl (fun h3 => ?_) (fun h3 => ?_)
  ·
   have c1 : ¬ okP p ∨ ¬ hasP p secret := by by_cases h1 : okP p; (· exact .inr fun h2 => h3 ⟨h1, fun y hy => by rw [List.mem_singleton.1 hy]; exact h2⟩); (· exact .inl h1)
   refine au 7 ?_
   have hE : splitE p secret most count t = 9 := by unfold splitE; rw [if_pos c1]
   refine run_retGP Tryz.func188 rfl (.tmp rfl (.cellN rfl (.here) (by rfl) (.tmp rfl (.nil)))) ?_ (fun _ _ h => inv_tail (inv_tail (h)))
   exact d_tup3 (d_toShares (by unfold splitL; rw [if_neg (by rw [hE]; omega)]) d_nil) (d_toTape (by unfold splitT; rw [if_neg (by rw [hE]; omega)]) (d_aggU (.cons d_nil (.cons (d_int rfl) .nil)))) (d_int hE.symm)
  ·
   have c1 : okP p ∧ hasP p secret := ⟨(Classical.not_not.1 h3).1, (Classical.not_not.1 h3).2 _ (by simp)⟩
   have c1n : ¬ (¬ okP p ∨ ¬ hasP p secret) := fun h => h.elim (fun h => h c1.1) (fun h => h c1.2)
   refine au 3 ?_
   have hp := c1.1
   have hpb := hp.1
   have hpb2 := hp.2.1
   refine au 27 ?_
   refine run_cond rfl (fun h4 => ?_) (fun h4 => ?_)
   ·
    have c2 : ¬ (0 ≤ most ∧ most ≤ 9) ∨ count < 1 ∨ count ≥ p ∨ count > 512 := by have := h4; omega
    refine au 7 ?_
    have hE : splitE p secret most count t = 1 := by unfold splitE; rw [if_neg c1n, if_pos c2]
    refine run_retGP Tryz.func188 rfl (.tmp rfl (.cellN rfl (.here) (by rfl) (.tmp rfl (.nil)))) ?_ (fun _ _ h => inv_tail (inv_tail (h)))
    exact d_tup3 (d_toShares (by unfold splitL; rw [if_neg (by rw [hE]; omega)]) d_nil) (d_toTape (by unfold splitT; rw [if_neg (by rw [hE]; omega)]) (d_aggU (.cons d_nil (.cons (d_int rfl) .nil)))) (d_int hE.symm)
   ·
    have c2 : ¬ (¬ (0 ≤ most ∧ most ≤ 9) ∨ count < 1 ∨ count ≥ p ∨ count > 512) := by have := h4; omega
    refine au 7 ?_
    refine run_op (loc_call (rdraws_spec _ _ _) rfl) rfl ?_
    refine au 8 ?_
    have hE : splitE p secret most count t = drawE t p most := by unfold splitE; rw [if_neg c1n, if_neg c2]
    refine au 6 ?_
    refine run_cond rfl (fun h5 => ?_) (fun h5 => ?_)
    ·
     have c3 := h5
     refine au 8 ?_
     refine run_retGP Tryz.func188 rfl (.tmp rfl (.cellN rfl (.here) (by rfl) (.tmp rfl (.nil)))) ?_ (fun _ _ h => inv_tail (inv_tail (h)))
     exact d_tup3 (d_toShares (by unfold splitL; rw [if_neg (by rw [hE]; exact c3)]) d_nil) (d_toTape (by unfold splitT; rw [if_neg (by rw [hE]; exact c3)]) (d_aggU (.cons d_nil (.cons (d_int rfl) .nil)))) (d_int hE.symm)
    ·
     have c3 := Classical.not_not.1 h5
     refine au 2 ?_
     have hdz := drawE_zero c3
     have hdl := hdz.2.2.2.2.1
     have hcs : ∀ c ∈ [secret] ++ drawL t p most, hasP p c := by intro c hc; rcases List.mem_append.1 hc with hc | hc; (· rw [List.mem_singleton.1 hc]; exact c1.2); (· exact hdz.2.2.2.2.2 c hc)
     refine au 2 ?_
     refine run_new (loc_buildOwn (f' := fI) (xs := [secret]) rfl rfl (.one rfl (.nil)) rfl rfl rfl) rfl (fun b6 _ => ?_)
     refine au 1 ?_
     refine run_upd (LocM.frz (loc_append rfl rfl rfl (by first | omega | (simp [lenMax]; omega) | (simp [lenMax]; done) | assumption) (by first | omega | (simp [lenMax]; omega) | (simp [lenMax]; done) | assumption)) rfl) rfl (.here) (fun v7 hv7 => ?_)
     refine au 12 ?_
     refine run_rowNil 237 2 cSh ?_
     refine run_loopF (σ := Value × Nat) (ks := [3, 5, 9, 11, 15]) (.cons rfl (.cons rfl (.cons rfl (.cons rfl (.cons rfl (.nil)))))) (fun s => [(16, dVal s.1), (17, dInt .i64 ((s.2 : Nat) + 1 : Int))]) (fun s => [rRow s.1 237 2 cSh (sharesL p ([secret] ++ drawL t p most) (ptsL s.2))]) (fun s => s.2 ≤ count.toNat) (fun s => count.toNat - s.2) ((.slice none 0 0, 0)) (Nat.zero_le _) (.cons rfl (by first | exact fun _ _ h => h | exact d_int (by omega) | exact d_int (by simp) | exact d_intN (by omega) | exact d_any) (.cons rfl (d_int rfl) .nil)) (rfl) ?_
     intro s hs ih8
     have hsl : (sharesL p ([secret] ++ drawL t p most) (ptsL s.2)).length = s.2 := by unfold sharesL; rw [List.length_map, ptsL_len]
     have hsm : (sharesL p ([secret] ++ drawL t p most) (ptsL s.2)).length + 1 ≤ lenMax := by rw [hsl]; unfold lenMax; omega
     refine au 7 ?_
     refine run_cond rfl (fun h9 => ?_) (fun h9 => ?_)
     ·
      refine au 8 ?_
      refine run_op (loc_call (rValue05_spec _ _ _ hp (by unfold hasP; omega) hcs (by simp only [List.length_append, List.length_singleton]; omega)) rfl) rfl ?_
      refine au 11 ?_
      refine run_op (loc_buildSlice rfl rfl (.agg rfl (.nil)) rfl rfl) rfl ?_
      refine run_append1 (e0 := ((s.2 : Int) + 1, valP p ([secret] ++ drawL t p most) ((s.2 : Int) + 1))) rfl (.here) rfl (by rfl) (by rfl) (by first | omega | (simp [lenMax]; omega) | (simp [lenMax]; done) | assumption) (by first | omega | (simp [lenMax]; omega) | (simp [lenMax]; done) | assumption) rfl (fun v10 => ?_)
      refine au 8 ?_
      exact run_againF ih8 ((v10, s.2 + 1)) (by simp only; omega) (by simp only; omega) (.cons rfl (by first | exact fun _ _ h => h | exact d_int (by omega) | exact d_int (by simp) | exact d_intN (by omega) | exact d_any) (.cons rfl (d_int (by omega)) .nil)) (.cons rfl (fun _ _ x => x) (.cons rfl (fun _ _ x => x) (.cons rfl (fun _ _ x => x) (.cons rfl (fun _ _ x => x) (.cons rfl (fun _ _ x => x) (.nil)))))) (by simp only [appR]; unfold sharesL; rw [ptsL_snoc, List.map_append]; rfl)
     ·
      refine au 2 ?_
      refine run_freezeRow (s := 16) rfl (.here) ?_
      refine dr_start _ (.none) [⟨[(16, none)], [], none⟩,
          ⟨[(9, none)], [], some (2, 0, false)⟩,
          ⟨[(83, some (0, false))], [0], none⟩,
          ⟨[(11, none), (84, some (1, false))], [0, 1, 2], some (1, 0, true)⟩,
          ⟨[], [0, 1, 2, 3], none⟩] [_, _, _] _ rfl rfl ?_
      refine da 3 ?_
      refine dq_write0 rfl (fun s => .g rfl (.op rfl (.nil))) rfl rfl (fun s hs => loc_storeN (ho := (by show OneAll [_, _]; infer_instance)) rfl rfl rfl) (by exact .nil) ?_
      refine da 1 ?_
      refine dq_end (rs := [_, _, _]) () rfl (fun _ => rfl) (.nil) rfl (fun _ => rfl) (fun _ _ => ?_)
      dsimp only [outG, outM, List.map, List.set, id]
      refine run_retGP Tryz.func188 rfl (.tmp rfl (.cellN rfl (.there (.here)) (by rfl) (.tmp rfl (.nil)))) ?_ (fun _ _ h => inv_tail (inv_tail (inv_tail (h))))
      exact d_tup3 (d_eq (by unfold splitL; rw [if_pos (hE.trans c3), show s.2 = count.toNat by omega])) (d_toTape (by unfold splitT; rw [if_pos (hE.trans c3)]) (fun _ _ h => h)) (d_int (hE.trans c3).symm)
end Go.Q

namespace Go.Q
open Go.Proofs
open Classical
theorem rparq_spec (p rows s index : Int) (t : Tape) : SpecP Tryz.prog 184 [dAgg [dInt .i64 p], dInt .i64 rows, dInt .i64 s, dInt .i64 index, dTape t] (dTup [dRows (pqL p rows s index t), dTape (pqT p rows s index t), dInt .i64 (pqE p rows s index t)]) := by
  refine specP_of_body Tryz.func184 rfl rfl (fun I M => ?_)
  refine au 3 ?_
  refine run_new (loc_boxOwnN rfl) rfl (fun b1 _ => ?_)
  refine au 1 ?_
  refine run_new (loc_allocOwn (by simp)) rfl (fun b2 _ => ?_)
  refine au 8 ?_
  refine run_op (loc_call (rlim16_spec _ _ _) rfl) rfl ?_
  refine au 11 ?_
  refine run_cond rfl (fun h3 => ?_) (fun h3 => ?_)
  ·
   have c1 := h3
   refine au 8 ?_
   have hE : pqE p rows s index t = parE p rows s := by unfold pqE; rw [if_pos c1]
   refine run_retGP Tryz.func184 rfl (.tmp rfl (.cellN rfl (.here) (by rfl) (.tmp rfl (.nil)))) ?_ (fun _ _ h => inv_tail (inv_tail (h)))
   exact d_tup3 (d_toRows (by unfold pqL; rw [if_neg (by rw [hE]; first | omega | assumption)]) d_nil) (d_toTape (by unfold pqT; rw [if_neg (by rw [hE]; first | omega | assumption)]) (d_aggU (.cons d_nil (.cons (d_int rfl) .nil)))) (d_int hE.symm)
  ·
   have c1 := Classical.not_not.1 h3
   refine au 13 ?_
   refine run_cond rfl (fun h4 => ?_) (fun h4 => ?_)
   ·
    have c2 := h4
    refine au 7 ?_
    have hE : pqE p rows s index t = 6 := by unfold pqE; rw [if_neg (Classical.not_not.2 c1), if_pos (by omega)]
    refine run_retGP Tryz.func184 rfl (.tmp rfl (.cellN rfl (.here) (by rfl) (.tmp rfl (.nil)))) ?_ (fun _ _ h => inv_tail (inv_tail (h)))
    exact d_tup3 (d_toRows (by unfold pqL; rw [if_neg (by rw [hE]; first | omega | assumption)]) d_nil) (d_toTape (by unfold pqT; rw [if_neg (by rw [hE]; first | omega | assumption)]) (d_aggU (.cons d_nil (.cons (d_int rfl) .nil)))) (d_int hE.symm)
   ·
    have c2 := h4
    refine au 2 ?_
    obtain ⟨hp, hs, hr⟩ := parE_zero c1
    have hpb := hp.1
    have hpb2 := hp.2.1
    have hm := mul_bd (a := rows) (b := s - 1) (A := 1024) (B := 9) (by omega) (by omega) (by omega) (by omega)
    refine au 8 ?_
    refine run_op (loc_call (rdraws_spec _ _ _) rfl) rfl ?_
    refine au 8 ?_
    have hE : pqE p rows s index t = drawE t p (rows * (s - 1)) := by unfold pqE; rw [if_neg (Classical.not_not.2 c1), if_neg (by omega)]
    refine au 6 ?_
    refine run_cond rfl (fun h5 => ?_) (fun h5 => ?_)
    ·
     have c3 := h5
     refine au 8 ?_
     skip
     refine run_retGP Tryz.func184 rfl (.tmp rfl (.cellN rfl (.here) (by rfl) (.tmp rfl (.nil)))) ?_ (fun _ _ h => inv_tail (inv_tail (h)))
     exact d_tup3 (d_toRows (by unfold pqL; rw [if_neg (by rw [hE]; first | omega | assumption)]) d_nil) (d_toTape (by unfold pqT; rw [if_neg (by rw [hE]; first | omega | assumption)]) (d_aggU (.cons d_nil (.cons (d_int rfl) .nil)))) (d_int hE.symm)
    ·
     have c3 := Classical.not_not.1 h5
     refine au 2 ?_
     have hrl : (List.replicate rows.toNat (0 : Int)).length = rows.toNat := List.length_replicate
     replace hE := hE.trans c3
     have hdl := (drawE_zero c3).2.2.2.2.1
     have hall := pQs_all (k := (s - 1).toNat) hr.1 (show drawE t p (rows * ((s - 1).toNat : Nat)) = 0 by rw [show (((s - 1).toNat : Nat) : Int) = s - 1 by omega]; exact c3)
     refine au 2 ?_
     refine run_new (loc_makeSlice rfl rfl (by first | omega | assumption) (by first | omega | assumption) _ _ rfl (by simp)) rfl (fun b17 _ => ?_)
     refine au 7 ?_
     refine run_storeRow1 rfl (.here) rfl (by rfl) (by first | omega | assumption) ?_
     refine au 11 ?_
     refine run_rowNil 44 1 fR ?_
     refine run_loopF (σ := Value × Nat) (ks := [1, 2, 5, 9, 11, 15, 17]) (.cons rfl (.cons rfl (.cons rfl (.cons rfl (.cons rfl (.cons rfl (.cons rfl (.nil)))))))) (fun q => [(18, dVal q.1), (19, dInt .i64 (q.2 : Nat))]) (fun q => [rRow q.1 44 1 fR (pQs (pBase t) rows.toNat q.2), rRow (.slice (some ⟨b17, 0, none⟩) rows.toNat rows.toNat) 3 1 fI (lastR p index rows (pQs (pBase t) rows.toNat q.2))]) (fun q => q.2 ≤ (s - 1).toNat) (fun q => (s - 1).toNat - q.2) ((.slice none 0 0, 0)) (Nat.zero_le _) (.cons rfl (by first | exact fun _ _ h => h | exact d_int (by omega) | exact d_int (by simp) | exact d_intN (by omega) | exact d_any) (.cons rfl (by first | exact fun _ _ h => h | exact d_int (by omega) | exact d_int (by simp) | exact d_intN (by omega) | exact d_any) .nil)) (rfl) ?_
     intro q hq ih6
     have hql := pQs_len (pBase t) rows.toNat q.2
     have hLo := lastR_ok (p := p) (index := index) (rows := rows) hpb (pQs (pBase t) rows.toNat q.2)
     refine au 8 ?_
     refine run_cond rfl (fun h7 => ?_) (fun h7 => ?_)
     ·
      have hqs : (q.2 : Int) < s - 1 := by have := h7; omega
      refine au 4 ?_
      have hm1 := mul_bd (a := (q.2 : Int)) (b := rows) (A := 9) (B := 1024) (by omega) (by omega) (by omega) (by omega)
      have hm2 : ((q.2 : Int) + 1) * rows = (q.2 : Int) * rows + rows := by rw [Int.add_mul, Int.one_mul]
      have hm3 : ((q.2 : Int) + 1) * rows ≤ (s - 1) * rows := Int.mul_le_mul_of_nonneg_right (by omega) (by omega)
      have hm4 : (s - 1) * rows = rows * (s - 1) := Int.mul_comm _ _
      have hQ := hall (((pBase t).drop (q.2 * rows.toNat)).take rows.toNat) (List.mem_map.2 ⟨q.2, List.mem_range.2 (by omega), rfl⟩)
      have hQl := hQ.1
      have hck : ((drawL t p (rows * (s - 1))).take (((q.2 : Int) + 1) * rows).toNat).drop ((q.2 : Int) * rows).toNat = (((pBase t).drop (q.2 * rows.toNat)).take rows.toNat) := by rw [drB_eq c3, ← hm4]; exact chunk_int (by omega) hqs
      refine au 9 ?_
      refine run_op (loc_slice rfl rfl rfl (by first | omega | assumption)) rfl ?_
      refine run_op (LocM.frz0 (loc_appendNil rfl rfl rfl (by first | omega | (simp [lenMax]; omega) | (simp [lenMax]; done) | assumption) (by first | omega | (simp [lenMax]; omega) | (simp [lenMax]; done) | assumption))) rfl ?_
      refine au 2 ?_
      rw [hck]
      refine au 4 ?_
      first | refine runL_fact (s := 79) rfl (fun _ _ h => dSl_len h) (fun hlen8 => ?_) | skip
      refine au 4 ?_
      refine run_front (.there (.here)) ?_
      refine run_loopF (σ := Nat) (ks := [1, 2, 5, 9, 11, 15, 17, 18, 19, 20, 79, 80]) (.cons rfl (.cons rfl (.cons rfl (.cons rfl (.cons rfl (.cons rfl (.cons rfl (.cons rfl (.cons rfl (.cons rfl (.cons rfl (.cons rfl (.nil))))))))))))) (fun k => [(81, dInt .i64 (k : Nat))]) (fun k => [rRow (.slice (some ⟨b17, 0, none⟩) rows.toNat rows.toNat) 3 1 fI (addT p (p - 1) (lastR p index rows (pQs (pBase t) rows.toNat q.2)) ((((pBase t).drop (q.2 * rows.toNat)).take rows.toNat).take k))]) (fun k => k ≤ rows.toNat) (fun k => rows.toNat - k) (0) (Nat.zero_le _) (.cons rfl (by first | exact fun _ _ h => h | exact d_int (by omega) | exact d_int (by simp) | exact d_intN (by omega) | exact d_any) .nil) ((by simp only [appR]; rw [show List.take 0 (((pBase t).drop (q.2 * rows.toNat)).take rows.toNat) = [] from rfl, addT_nil])) ?_
      intro k hk ih9
      have hal := addT_len p (p - 1) (lastR p index rows (pQs (pBase t) rows.toNat q.2)) ((((pBase t).drop (q.2 * rows.toNat)).take rows.toNat).take k)
      refine au 5 ?_
      refine run_cond rfl (fun h10 => ?_) (fun h10 => ?_)
      ·
       refine au 11 ?_
       have h2 := hLo.2 ((lastR p index rows (pQs (pBase t) rows.toNat q.2))[k]?.getD default) (getD_mem (by omega))
       have h3 := hQ.2 ((((pBase t).drop (q.2 * rows.toNat)).take rows.toNat)[k]?.getD default) (getD_mem (by omega))
       unfold hasP at h2 h3
       have h9 := addT_get p (p - 1) (lastR p index rows (pQs (pBase t) rows.toNat q.2)) ((((pBase t).drop (q.2 * rows.toNat)).take rows.toNat).take k) k (by rw [List.length_take]; omega)
       refine dr_start _ (.none) [⟨[(17, none)], [], none⟩,
           ⟨[(21, none)], [], none⟩,
           ⟨[(17, none)], [], none⟩,
           ⟨[(21, none)], [], none⟩,
           ⟨[(88, some (2, false)), (89, some (3, false))], [2, 3], none⟩,
           ⟨[(90, some (4, false))], [2, 3, 4], some (0, 0, false)⟩,
           ⟨[(5, none)], [], none⟩,
           ⟨[(92, some (6, false))], [6], none⟩,
           ⟨[(91, some (5, false)), (93, some (7, false))], [2, 3, 4, 5, 6, 7], none⟩,
           ⟨[(22, none)], [], none⟩,
           ⟨[(94, some (8, false)), (95, some (9, false))], [2, 3, 4, 5, 6, 7, 8, 9], none⟩,
           ⟨[(5, none)], [], none⟩,
           ⟨[(97, some (11, false))], [11], none⟩,
           ⟨[(96, some (10, false)), (98, some (12, false))], [2, 3, 4, 5, 6, 7, 8, 9, 10, 11, 12], none⟩,
           ⟨[(86, some (0, false)), (87, some (1, false))], [0, 1, 2, 3, 4, 5, 6, 7, 8, 9, 10, 11, 12, 13], none⟩,
           ⟨[(100, some (14, false)), (99, some (13, false))], [0, 1, 2, 3, 4, 5, 6, 7, 8, 9, 10, 11, 12, 13, 14], some (0, 0, true)⟩] [_, _, _, _] _ rfl rfl ?_
       refine da 15 ?_
       refine dq_write0 rfl (fun s => .op rfl (.op rfl (.nil))) rfl rfl (fun s hs => loc_storeRow1 _ rfl rfl rfl (by first | omega | assumption)) (by exact .nil) ?_
       refine dq_end (rs := [_, _, _, _]) () rfl (fun _ => rfl) (.nil) rfl (fun _ => rfl) (fun _ _ => ?_)
       dsimp only [outG, outM, List.map, List.set, id]
       refine au 5 ?_
       exact run_againF ih9 (k + 1) (by omega) (by omega) (.cons rfl (by first | exact fun _ _ h => h | exact d_int (by omega) | exact d_int (by simp) | exact d_intN (by omega) | exact d_any) .nil) (.cons rfl (fun _ _ x => x) (.cons rfl (fun _ _ x => x) (.cons rfl (fun _ _ x => x) (.cons rfl (fun _ _ x => x) (.cons rfl (fun _ _ x => x) (.cons rfl (fun _ _ x => x) (.cons rfl (fun _ _ x => x) (.cons rfl (fun _ _ x => x) (.cons rfl (fun _ _ x => x) (.cons rfl (fun _ _ x => x) (.cons rfl (fun _ _ x => x) (.cons rfl (fun _ _ x => x) (.nil))))))))))))) (by simp only [appR]; rw [addT_take p (p - 1) _ _ k (by omega) (by omega), ← sub_mod, ← h9])
      ·
       refine au 4 ?_
       refine run_op (loc_buildSlice rfl rfl (.one rfl (.nil)) rfl rfl) rfl ?_
       refine run_append1 rfl (.there (.here)) rfl (by rfl) (by rfl) (by first | omega | (simp [lenMax]; omega) | (simp [lenMax]; done) | assumption) (by first | omega | (simp [lenMax]; omega) | (simp [lenMax]; done) | assumption) rfl (fun v11 => ?_)
       refine au 8 ?_
       refine run_front (.here) ?_
       refine run_front (.there (.here)) ?_
       exact run_againF ih6 ((v11, q.2 + 1)) (by simp only; omega) (by simp only; omega) (.cons rfl (by first | exact fun _ _ h => h | exact d_int (by omega) | exact d_int (by simp) | exact d_intN (by omega) | exact d_any) (.cons rfl (by first | exact fun _ _ h => h | exact d_int (by omega) | exact d_int (by simp) | exact d_intN (by omega) | exact d_any) .nil)) (.cons rfl (fun _ _ x => x) (.cons rfl (fun _ _ x => x) (.cons rfl (fun _ _ x => x) (.cons rfl (fun _ _ x => x) (.cons rfl (fun _ _ x => x) (.cons rfl (fun _ _ x => x) (.cons rfl (fun _ _ x => x) (.nil)))))))) (by simp only [appR]; rw [pQs_snoc, lastR_snoc, show k = rows.toNat by omega, List.take_of_length_le (l := (((pBase t).drop (q.2 * rows.toNat)).take rows.toNat)) (by omega)])
     ·
      have hqs : (s - 1).toNat = q.2 := by have := h7; omega
      refine au 2 ?_
      refine run_freezeRow (s := 17) rfl (.there (.here)) ?_
      refine dr_start _ (.none) [⟨[(18, none)], [], none⟩,
          ⟨[(17, none)], [], none⟩,
          ⟨[(107, some (1, false))], [1], none⟩,
          ⟨[(106, some (0, false)), (108, some (2, false))], [0, 1, 2], some (0, 0, true)⟩,
          ⟨[(9, none)], [], some (2, 0, false)⟩,
          ⟨[(109, some (3, false))], [0, 1, 2, 3], none⟩,
          ⟨[(11, none), (110, some (4, false))], [0, 1, 2, 3, 4, 5], some (1, 0, true)⟩,
          ⟨[], [0, 1, 2, 3, 4, 5, 6], none⟩] [_, _, _] _ rfl rfl ?_
      refine da 2 ?_
      refine dq_pure rfl (fun s => .op rfl (.nil)) (fun s hs _ => loc_buildSlice rfl rfl (.one rfl (.nil)) rfl rfl) (by exact .nil) ?_
      refine dq_write rfl (fun s => .op rfl (.op rfl (.nil))) rfl rfl (fun s hs => LocM.frz (loc_append1 (lastR p index rows (pQs (pBase t) rows.toNat q.2)) rfl rfl rfl rfl (by first | omega | (simp [lenMax]; omega) | (simp [lenMax]; done) | assumption) (by first | omega | (simp [lenMax]; omega) | (simp [lenMax]; done) | assumption)) rfl) (by exact .nil) ?_
      refine da 2 ?_
      refine dq_write0 rfl (fun s => .g rfl (.op rfl (.nil))) rfl rfl (fun s hs => loc_storeN (ho := (by show OneAll [_, _]; infer_instance)) rfl rfl rfl) (by exact .nil) ?_
      refine da 1 ?_
      refine dq_end (rs := [_, _, _]) () rfl (fun _ => rfl) (.nil) rfl (fun _ => rfl) (fun _ _ => ?_)
      dsimp only [outG, outM, List.map, List.set, id]
      refine run_retGP Tryz.func184 rfl (.tmp rfl (.cellN rfl (.there (.here)) (by rfl) (.tmp rfl (.nil)))) ?_ (fun _ _ h => inv_tail (inv_tail (inv_tail (h))))
      exact d_tup3 (d_toRows (t' := pQs (pBase t) rows.toNat q.2 ++ [(lastR p index rows (pQs (pBase t) rows.toNat q.2))]) (by unfold pqL; rw [if_pos hE, hqs, lastR_eq hpb (fun l h => (hall l (hqs ▸ h)).1) (by intro h0; rw [h0] at hql; simp at hql; omega)]) (fun _ _ h => h)) (d_toTape (by unfold pqT; rw [if_pos hE]) (fun _ _ h => h)) (d_int hE.symm)
end Go.Q
