/- Contracts of what dice make. -/
import Derived.Test.YtgaalfgmgmpnbaaGreatQDice
import Derived.Test.YtgaalfgmgmpnbaaGreatQDraws
set_option linter.unusedVariables false
set_option linter.unusedSimpArgs false
namespace Go.Q
open Go.Proofs
open Classical
theorem spec_some {P : Program} {f : FuncId} {Ds : List D} {Min : List Res} {σ : Type} {φ : σ → Prop} {d : σ → D} {Mout : σ → List Res} {d0 : D} {M0 : List Res} (h : Spec P f Ds Min (σ := Unit) (fun _ => True) (fun _ => d0) (fun _ => M0)) (s : σ) (hφ : φ s) (hd : d0 = d s := by rfl) (hM : M0 = Mout s := by rfl) : Spec P f Ds Min φ d Mout := by
 subst hd hM
 intro I F w vs hv hi
 refine (h I F w vs hv hi).mono ?_
 rintro e w' ⟨v, rfl, _, _, J, h1, h2, h3⟩
 exact ⟨v, rfl, s, hφ, J, h1, h2, h3⟩
theorem dfield_spec (b : Nat) (d : Dc) (h : okDc d) : Spec Tryz.prog 36 [dVal (ptr b 0)] [rDc b d] (σ := Int × Dc) (fun s => dieP s.1 ∧ okDc s.2) (fun s => dAgg [dInt .i64 s.1]) (fun s => [rDc b s.2]) := by
 refine spec_of_body Tryz.func36 rfl rfl (fun I F => ?_)
 refine au 1 ?_
 have hv0 := Dc.val_lt (d := d) (n := 4) (by omega)
 have hw0 := Dc.val_nonneg (d := d) (n := 4) (by omega)
 refine au 1 ?_
 refine run_new (loc_allocOwn (by simp)) rfl (fun b1 _ => ?_)
 refine au 3 ?_
 refine run_op (loc_buildSlice rfl rfl (.one rfl (.one rfl (.one rfl (.one rfl (.nil))))) rfl rfl) rfl ?_
 refine au 1 ?_
 refine run_callM rfl (.there (.here)) (pick_spec b _ _ (by assumption) (by omega)) rfl (fun s2 hs2 => ?_)
 refine runL_recast (s := 3) rfl (d_sl (ys := [7, 11, 13, 257]) (h := fI) rfl) ?_
 first | refine run_op (loc_index rfl rfl (by first | omega | assumption | (simp; omega))) rfl ?_ | refine run_op (loc_indexI rfl rfl (by first | omega | assumption | (simp; omega))) rfl ?_
 refine au 4 ?_
 refine run_retG ((([7, 11, 13, 257] : List Int)[(d.val 4).toNat]?.getD default, d.next)) Tryz.func36 rfl (.cellN rfl (.here) (by rfl) (.nil)) ?_ (⟨die_get ⟨hw0, hv0⟩, Dc.next_ok h⟩) (fun _ _ h => h.sub (.cons _ (.cons_cons _ (.refl _))))
 exact fun _ _ h => h
theorem dschemeD_spec (b : Nat) (d : Dc) (h : okDc d) : Spec Tryz.prog 34 [dVal (ptr b 0)] [rDc b d] (σ := Unit) (fun _ => True) (fun _ => dSchm (schV d)) (fun _ => [rDc b (schD d)]) := by
  refine spec_of_body Tryz.func34 rfl rfl (fun I F => ?_)
  refine au 2 ?_
  refine run_new (loc_allocOwn (by simp)) rfl (fun b1 _ => ?_)
  refine au 2 ?_
  have hv0 := Dc.val_lt (d := d) (n := 4) (by omega)
  have hw0 := Dc.val_nonneg (d := d) (n := 4) (by omega)
  have h1 := Dc.next_ok h
  have h2 := Dc.next_ok h1
  have h3 := Dc.next_ok h2
  have hif : okDc (@ite _ (¬ 3 + d.val 4 < 4) (Classical.propDecidable _) d.next.next.next d.next.next) := schI_ok h
  have hv1 := Dc.val_lt (d := d.next) (n := 3) (by omega)
  have hw1 := Dc.val_nonneg (d := d.next) (n := 3) (by omega)
  have hv2 := Dc.val_lt (d := d.next.next) (n := 2) (by omega)
  have hw2 := Dc.val_nonneg (d := d.next.next) (n := 2) (by omega)
  have hvi := Dc.val_lt (d := @ite _ (¬ 3 + d.val 4 < 4) (Classical.propDecidable _) d.next.next.next d.next.next) (n := 2) (by omega)
  have hwi := Dc.val_nonneg (d := @ite _ (¬ 3 + d.val 4 < 4) (Classical.propDecidable _) d.next.next.next d.next.next) (n := 2) (by omega)
  refine au 2 ?_
  refine run_callM rfl (.there (.here)) (pick_spec b _ _ (by assumption) (by omega)) rfl (fun s2 hs2 => ?_)
  first | refine run_op (loc_add rfl rfl (by first | omega | assumption | (simp; omega))) rfl ?_ | refine run_op (loc_addW rfl rfl) rfl ?_
  refine au 6 ?_
  refine run_callM rfl (.there (.here)) (pick_spec b _ _ (by assumption) (by omega)) rfl (fun s3 hs3 => ?_)
  refine au 7 ?_
  refine run_cond rfl (fun h4 => ?_) (fun h4 => ?_)
  ·
   have k1 := h4
   refine au 6 ?_
   refine run_retG (()) Tryz.func34 rfl (.cellN rfl (.here) (by rfl) (.nil)) ?_ (trivial) (fun I w h => by rw [show schD d = _ by unfold schD; rw [if_pos k1]]; exact (fun _ _ h => h.sub (.cons _ (.cons_cons _ (.refl _)))) I w h)
   exact d_eq (by unfold schV; rw [if_pos k1] <;> rfl)
  ·
   have k1 := h4
   refine au 5 ?_
   refine run_cond rfl (fun h5 => ?_) (fun h5 => ?_)
   ·
    have k2 := h5
    refine au 4 ?_
    refine run_callM rfl (.there (.here)) (pick_spec b _ _ (by assumption) (by omega)) rfl (fun s6 hs6 => ?_)
    first | refine run_op (loc_add rfl rfl (by first | omega | assumption | (simp; omega))) rfl ?_ | refine run_op (loc_addW rfl rfl) rfl ?_
    refine au 3 ?_
    refine run_retG (()) Tryz.func34 rfl (.cellN rfl (.here) (by rfl) (.nil)) ?_ (trivial) (fun I w h => by rw [show schD d = _ by unfold schD; rw [if_neg k1, if_pos k2]]; exact (fun _ _ h => h.sub (.cons _ (.cons_cons _ (.refl _)))) I w h)
    exact d_eq (by unfold schV; rw [if_neg k1, if_pos k2] <;> rfl)
   ·
    have k2 := h5
    refine au 9 ?_
    refine run_gopM (rDc b) rfl rfl gdI.ok (fun hg => loc_callM (pick_spec b _ _ (by assumption) (by omega)) rfl) rfl (.there (.here)) ?_
    refine au 4 ?_
    refine run_cond rfl (fun h7 => ?_) (fun h7 => ?_)
    ·
     have k3 := h7
     refine au 4 ?_
     refine run_callM rfl (.there (.here)) (pick_spec b _ _ (by assumption) (by omega)) rfl (fun s8 hs8 => ?_)
     first | refine run_op (loc_add rfl rfl (by first | omega | assumption | (simp; omega))) rfl ?_ | refine run_op (loc_addW rfl rfl) rfl ?_
     refine au 3 ?_
     refine run_retG (()) Tryz.func34 rfl (.cellN rfl (.here) (by rfl) (.nil)) ?_ (trivial) (fun I w h => by rw [show schD d = _ by unfold schD; rw [if_neg k1, if_neg k2, if_pos k3]]; exact (fun _ _ h => h.sub (.cons _ (.cons_cons _ (.refl _)))) I w h)
     exact d_eq (by unfold schV; rw [if_neg k1, if_neg k2, if_pos k3] <;> rfl)
    ·
     have k3 := h7
     refine au 7 ?_
     refine run_retG (()) Tryz.func34 rfl (.cellN rfl (.here) (by rfl) (.nil)) ?_ (trivial) (fun I w h => by rw [show schD d = _ by unfold schD; rw [if_neg k1, if_neg k2, if_neg k3]]; exact (fun _ _ h => h.sub (.cons _ (.cons_cons _ (.refl _)))) I w h)
     exact d_eq (by unfold schV; rw [if_neg k1, if_neg k2, if_neg k3] <;> rfl)
theorem dscheme_spec (b : Nat) (d : Dc) (h : okDc d) : Spec Tryz.prog 34 [dVal (ptr b 0)] [rDc b d] (σ := Schm × Dc) (fun s => dieS s.1 ∧ okDc s.2) (fun s => dSchm s.1) (fun s => [rDc b s.2]) :=
 spec_some (dschemeD_spec b d h) (schV d, schD d) ⟨schV_die d, schD_ok h⟩
theorem delements_spec (b : Nat) (d : Dc) (h : okDc d) (p n : Int) (hp : 2 ≤ p ∧ p ≤ 65521) (hn : n ≤ 100000) : Spec Tryz.prog 48 [dVal (ptr b 0), dAgg [dInt .i64 p], dInt .i64 n] [rDc b d] (σ := List Int × Dc) (fun s => (s.1.length = n.toNat ∧ ∀ x ∈ s.1, hasP p x) ∧ okDc s.2) (fun s => dInts s.1) (fun s => [rDc b s.2]) := by
  refine spec_of_body Tryz.func48 rfl rfl (fun I F => ?_)
  refine au 15 ?_
  refine run_rowNil 3 1 fI ?_
  refine run_loopF (σ := Value × List Int × Dc) (ks := [0, 2, 4]) (.cons rfl (.cons rfl (.cons rfl (.nil)))) (fun q => [(7, dVal q.1), (8, dInt .i64 (q.2.1.length : Nat))]) (fun q => [rRow q.1 3 1 fI q.2.1, rDc b q.2.2]) (fun q => q.2.1.length ≤ n.toNat ∧ (∀ x ∈ q.2.1, hasP p x) ∧ okDc q.2.2) (fun q => n.toNat - q.2.1.length) ((.slice none 0 0, [], d)) (⟨Nat.zero_le _, fun x hx => (by cases hx), h⟩) (.cons rfl (by first | exact fun _ _ h => h | exact d_int (by omega) | exact d_int (by simp) | exact d_intN (by omega) | exact d_any) (.cons rfl (d_int rfl) .nil)) (rfl) ?_
  rintro q ⟨hl, hall, hok⟩ ih1
  have hok1 := Dc.next_ok hok
  have hv0 := Dc.val_lt (d := q.2.2) (n := 256) (by omega)
  have hw0 := Dc.val_nonneg (d := q.2.2) (n := 256) (by omega)
  have hv1 := Dc.val_lt (d := q.2.2.next) (n := 2) (by omega)
  have hw1 := Dc.val_nonneg (d := q.2.2.next) (n := 2) (by omega)
  have hxb := mod_bd (q.2.2.val 256 + q.2.2.next.val 2 * 128) (show 0 < p by omega)
  refine au 7 ?_
  refine run_cond rfl (fun h2 => ?_) (fun h2 => ?_)
  ·
   refine au 3 ?_
   refine dr_start _ (.one (σ := Value) 11 (fun _ => True)) [⟨[(7, none)], [], none⟩,
       ⟨[(0, none)], [], none⟩,
       ⟨[(15, some (1, false))], [1], some (1, 0, true)⟩,
       ⟨[(0, none)], [], none⟩,
       ⟨[(17, some (3, false))], [1, 2, 3], some (1, 1, true)⟩,
       ⟨[(18, some (4, false))], [1, 2, 3, 4], none⟩,
       ⟨[(16, some (2, false)), (19, some (5, false))], [1, 2, 3, 4, 5], none⟩,
       ⟨[(4, none)], [], none⟩,
       ⟨[(21, some (7, false))], [7], none⟩,
       ⟨[(20, some (6, false)), (22, some (8, false))], [1, 2, 3, 4, 5, 6, 7, 8], none⟩,
       ⟨[(23, some (9, false))], [1, 2, 3, 4, 5, 6, 7, 8, 9], none⟩,
       ⟨[(14, some (0, false)), (24, some (10, false))], [0, 1, 2, 3, 4, 5, 6, 7, 8, 9, 10], some (0, 0, true)⟩,
       ⟨[(25, some (11, false))], [0, 1, 2, 3, 4, 5, 6, 7, 8, 9, 10, 11], none⟩] [_, _] _ rfl rfl ?_
   refine da 2 ?_
   refine dq_write rfl (fun s => .op rfl (.nil)) rfl rfl (fun s hs => loc_callM (pick_spec b _ _ (by assumption) (by omega)) rfl) (by exact .cons (.inr fun _ _ _ => ⟨rfl, rfl⟩) (.nil)) ?_
   refine da 1 ?_
   refine dq_write rfl (fun s => .op rfl (.nil)) rfl rfl (fun s hs => loc_callM (pick_spec b _ _ (by assumption) (by omega)) rfl) (by exact .cons (.inr fun _ _ _ => ⟨rfl, rfl⟩) (.nil)) ?_
   first | refine dq_pure rfl (fun s => .op rfl (.nil)) (fun s hs _ => loc_mul rfl rfl (by first | omega | assumption | (simp; omega))) (by exact .cons (.inr fun _ _ _ => rfl) (.nil)) ?_ | refine dq_pure rfl (fun s => .op rfl (.nil)) (fun s hs _ => loc_mulW rfl rfl) (by exact .cons (.inr fun _ _ _ => rfl) (.nil)) ?_
   first | refine dq_pure rfl (fun s => .op rfl (.op rfl (.nil))) (fun s hs _ => loc_add rfl rfl (by first | omega | assumption | (simp; omega))) (by exact .cons (.inr fun _ _ _ => rfl) (.nil)) ?_ | refine dq_pure rfl (fun s => .op rfl (.op rfl (.nil))) (fun s hs _ => loc_addW rfl rfl) (by exact .cons (.inr fun _ _ _ => rfl) (.nil)) ?_
   refine da 2 ?_
   first | refine dq_pure rfl (fun s => .op rfl (.op rfl (.nil))) (fun s hs _ => loc_rem rfl rfl (by first | omega | assumption | (simp; omega))) (by exact .cons (.inr fun _ _ _ => rfl) (.nil)) ?_ | refine dq_pure rfl (fun s => .op rfl (.op rfl (.nil))) (fun s hs _ => loc_remW rfl rfl (by first | omega | assumption | (simp; omega))) (by exact .cons (.inr fun _ _ _ => rfl) (.nil)) ?_
   refine dq_pure rfl (fun s => .op rfl (.nil)) (fun s hs _ => loc_buildSlice rfl rfl (.one rfl (.nil)) rfl rfl) (by exact .cons (.inr fun _ _ _ => rfl) (.nil)) ?_
   refine dq_choose id (fun _ t => t) rfl (fun _ _ => ⟨rfl, id, trivial⟩) (fun s => .op rfl (.op rfl (.nil))) rfl rfl (fun s hs => loc_append1 _ rfl rfl rfl rfl (by first | omega | (simp [lenMax]; omega) | (simp [lenMax]; done) | assumption) (by first | omega | (simp [lenMax]; omega) | (simp [lenMax]; done) | assumption)) (by exact .cons (.inl rfl) (.nil)) (fun _ _ => rfl) ?_
   refine da 1 ?_
   refine dq_end (rs := [_, _]) (.bool true) rfl (fun _ => rfl) (.cons rfl (.nil)) rfl (fun _ => rfl) (fun v3 _ => ?_)
   dsimp only [outG, outM, List.map, List.set, id]
   refine au 3 ?_
   first | refine run_op (loc_add rfl rfl (by first | omega | assumption | (simp; omega))) rfl ?_ | refine run_op (loc_addW rfl rfl) rfl ?_
   refine au 2 ?_
   exact run_againF ih1 ((v3, q.2.1 ++ [(q.2.2.val 256 + q.2.2.next.val 2 * 128) % p], q.2.2.next.next)) (⟨by simp only [List.length_append, List.length_singleton]; omega, fun x hx => by rcases List.mem_append.1 hx with hx | hx; (· exact hall x hx); (· rw [List.mem_singleton.1 hx]; exact hxb), Dc.next_ok hok1⟩) (by simp only [List.length_append, List.length_singleton]; omega) (.cons rfl (by first | exact fun _ _ h => h | exact d_int (by omega) | exact d_int (by simp) | exact d_intN (by omega) | exact d_any) (.cons rfl (d_int (by simp only [List.length_append, List.length_singleton]; omega)) .nil)) (.cons rfl (fun _ _ x => x) (.cons rfl (fun _ _ x => x) (.cons rfl (fun _ _ x => x) (.nil)))) (rfl)
  ·
   refine au 2 ?_
   refine run_freezeRow (s := 7) rfl (.here) ?_
   refine au 4 ?_
   refine run_ret (q.2) Tryz.func48 rfl rfl ?_ (⟨⟨by omega, hall⟩, hok⟩) (fun _ _ h => h.sub (.cons_cons _ (.refl _)))
   exact fun _ _ h => h
theorem drows_spec (b : Nat) (d : Dc) (h : okDc d) (p n w : Int) (hp : 2 ≤ p ∧ p ≤ 65521) (hn : n ≤ 100000) (hw : w ≤ 100000) : Spec Tryz.prog 78 [dVal (ptr b 0), dAgg [dInt .i64 p], dInt .i64 n, dInt .i64 w] [rDc b d] (σ := List (List Int) × Dc) (fun s => (s.1.length = n.toNat ∧ ∀ r ∈ s.1, r.length = w.toNat ∧ ∀ x ∈ r, hasP p x) ∧ okDc s.2) (fun s => dRows s.1) (fun s => [rDc b s.2]) := by
  refine spec_of_body Tryz.func78 rfl rfl (fun I F => ?_)
  refine au 15 ?_
  refine run_rowNil 44 1 fR ?_
  refine run_loopF (σ := Value × List (List Int) × Dc) (ks := [0, 2, 3, 5]) (.cons rfl (.cons rfl (.cons rfl (.cons rfl (.nil))))) (fun q => [(9, dVal q.1), (10, dInt .i64 (q.2.1.length : Nat))]) (fun q => [rRow q.1 44 1 fR q.2.1, rDc b q.2.2]) (fun q => q.2.1.length ≤ n.toNat ∧ (∀ r ∈ q.2.1, r.length = w.toNat ∧ ∀ x ∈ r, hasP p x) ∧ okDc q.2.2) (fun q => n.toNat - q.2.1.length) ((.slice none 0 0, [], d)) (⟨Nat.zero_le _, fun x hx => (by cases hx), h⟩) (.cons rfl (by first | exact fun _ _ h => h | exact d_int (by omega) | exact d_int (by simp) | exact d_intN (by omega) | exact d_any) (.cons rfl (d_int rfl) .nil)) (rfl) ?_
  rintro q ⟨hl, hall, hok⟩ ih1
  refine au 7 ?_
  refine run_cond rfl (fun h2 => ?_) (fun h2 => ?_)
  ·
   refine au 8 ?_
   refine run_callM rfl (.there (.here)) (delements_spec b _ (by assumption) p w hp hw) rfl (fun x20 hx20 => ?_)
   refine run_op (loc_buildSlice rfl rfl (.one rfl (.nil)) rfl rfl) rfl ?_
   refine run_append1 rfl (.here) rfl (by rfl) (by rfl) (by first | omega | (simp [lenMax]; omega) | (simp [lenMax]; done) | assumption) (by first | omega | (simp [lenMax]; omega) | (simp [lenMax]; done) | assumption) rfl (fun v3 => ?_)
   refine au 5 ?_
   first | refine run_op (loc_add rfl rfl (by first | omega | assumption | (simp; omega))) rfl ?_ | refine run_op (loc_addW rfl rfl) rfl ?_
   refine au 2 ?_
   exact run_againF ih1 ((v3, q.2.1 ++ [x20.1], x20.2)) (⟨by simp only [List.length_append, List.length_singleton]; omega, fun x hx => by rcases List.mem_append.1 hx with hx | hx; (· exact hall x hx); (· rw [List.mem_singleton.1 hx]; exact hx20.1), hx20.2⟩) (by simp only [List.length_append, List.length_singleton]; omega) (.cons rfl (by first | exact fun _ _ h => h | exact d_int (by omega) | exact d_int (by simp) | exact d_intN (by omega) | exact d_any) (.cons rfl (d_int (by simp only [List.length_append, List.length_singleton]; omega)) .nil)) (.cons rfl (fun _ _ x => x) (.cons rfl (fun _ _ x => x) (.cons rfl (fun _ _ x => x) (.cons rfl (fun _ _ x => x) (.nil))))) (rfl)
  ·
   refine au 2 ?_
   refine run_freezeRow (s := 9) rfl (.here) ?_
   refine au 4 ?_
   refine run_ret (q.2) Tryz.func78 rfl rfl ?_ (⟨⟨by omega, hall⟩, hok⟩) (fun _ _ h => h.sub (.cons_cons _ (.refl _)))
   exact fun _ _ h => h
theorem dtable_spec (b : Nat) (d : Dc) (h : okDc d) (p : Int) (hp : dieP p) : Spec Tryz.prog 35 [dVal (ptr b 0), dAgg [dInt .i64 p]] [rDc b d] (σ := Tab × Dc) (fun s => dieT p s.1 ∧ okDc s.2) (fun s => dTab s.1) (fun s => [rDc b s.2]) := by
 refine spec_of_body Tryz.func35 rfl rfl (fun I F => ?_)
 refine au 3 ?_
 refine run_new (loc_allocOwn (by simp)) rfl (fun b1 _ => ?_)
 refine au 2 ?_
 have hpb := (dieP_ok hp).2
 have h1 := Dc.next_ok h
 have h2 := Dc.next_ok h1
 have h3 := Dc.next_ok h2
 have hv0 := Dc.val_lt (d := d) (n := 3) (by omega)
 have hw0 := Dc.val_nonneg (d := d) (n := 3) (by omega)
 have hv1 := Dc.val_lt (d := d.next) (n := 3) (by omega)
 have hw1 := Dc.val_nonneg (d := d.next) (n := 3) (by omega)
 have hv2 := Dc.val_lt (d := d.next.next) (n := 5) (by omega)
 have hw2 := Dc.val_nonneg (d := d.next.next) (n := 5) (by omega)
 refine au 2 ?_
 refine run_callM rfl (.there (.here)) (pick_spec b _ _ (by assumption) (by omega)) rfl (fun s2 hs2 => ?_)
 first | refine run_op (loc_add rfl rfl (by first | omega | assumption | (simp; omega))) rfl ?_ | refine run_op (loc_addW rfl rfl) rfl ?_
 refine au 3 ?_
 refine dr_start _ (.one (σ := List (List Int) × Dc) 11 (fun s => (s.1.length = (1 + d.next.next.val 5).toNat ∧ ∀ r ∈ s.1, r.length = (1 + d.val 3).toNat ∧ ∀ x ∈ r, hasP p x) ∧ okDc s.2)) [⟨[(0, none)], [], none⟩,
   ⟨[(9, some (0, false))], [0], some (1, 0, true)⟩,
   ⟨[(10, some (1, false))], [0, 1], none⟩,
   ⟨[(3, none)], [], none⟩,
   ⟨[(5, none)], [], none⟩,
   ⟨[(0, none)], [], none⟩,
   ⟨[(3, none)], [], none⟩,
   ⟨[(0, none)], [], none⟩,
   ⟨[(16, some (7, false))], [0, 1, 7], some (1, 1, true)⟩,
   ⟨[(17, some (8, false))], [0, 1, 7, 8], none⟩,
   ⟨[(5, none)], [], none⟩,
   ⟨[(14, some (5, false)), (15, some (6, false)), (18, some (9, false)), (19, some (10, false))], [0, 1, 5, 6, 7, 8, 9, 10], some (1, 2, true)⟩,
   ⟨[(11, some (2, false)), (12, some (3, false)), (13, some (4, false)), (20, some (11, false))], [0, 1, 2, 3, 4, 5, 6, 7, 8, 9, 10, 11], none⟩,
   ⟨[(4, none), (21, some (12, false))], [0, 1, 2, 3, 4, 5, 6, 7, 8, 9, 10, 11, 12], some (0, 0, true)⟩] [_, _] _ rfl rfl ?_
 refine da 1 ?_
 refine dq_write rfl (fun s => .op rfl (.nil)) rfl rfl (fun s hs => loc_callM (pick_spec b _ _ (by assumption) (by omega)) rfl) (by exact .cons (.inr fun _ _ _ => ⟨rfl, rfl⟩) (.nil)) ?_
 first | refine dq_pure rfl (fun s => .op rfl (.nil)) (fun s hs _ => loc_add rfl rfl (by first | omega | assumption | (simp; omega))) (by exact .cons (.inr fun _ _ _ => rfl) (.nil)) ?_ | refine dq_pure rfl (fun s => .op rfl (.nil)) (fun s hs _ => loc_addW rfl rfl) (by exact .cons (.inr fun _ _ _ => rfl) (.nil)) ?_
 refine da 5 ?_
 refine dq_write rfl (fun s => .op rfl (.nil)) rfl rfl (fun s hs => loc_callM (pick_spec b _ _ (by assumption) (by omega)) rfl) (by exact .cons (.inr fun _ _ _ => ⟨rfl, rfl⟩) (.nil)) ?_
 first | refine dq_pure rfl (fun s => .op rfl (.nil)) (fun s hs _ => loc_add rfl rfl (by first | omega | assumption | (simp; omega))) (by exact .cons (.inr fun _ _ _ => rfl) (.nil)) ?_ | refine dq_pure rfl (fun s => .op rfl (.nil)) (fun s hs _ => loc_addW rfl rfl) (by exact .cons (.inr fun _ _ _ => rfl) (.nil)) ?_
 refine da 1 ?_
 refine dq_choose id (fun _ t => t) rfl (fun _ _ => ⟨rfl, id, trivial⟩) (fun s => .op rfl (.op rfl (.op rfl (.op rfl (.nil))))) rfl rfl (fun s hs => loc_callM (drows_spec b _ (by assumption) p _ _ ⟨by omega, by omega⟩ (by omega) (by omega)) rfl) (by exact .cons (.inl rfl) (.nil)) (fun _ _ => rfl) ?_
 refine da 1 ?_
 refine dq_write0 rfl (fun s => .g rfl (.op rfl (.nil))) rfl rfl (fun s hs => loc_storeN (ho := (by show OneAll [_, _, _, _]; infer_instance)) rfl rfl rfl) (by exact .cons (.inl rfl) (.nil)) ?_
 refine dq_end (rs := [_, _]) ([], d) rfl (fun _ => rfl) (.cons rfl (.nil)) rfl (fun _ => rfl) (fun r9 h9 => ?_)
 obtain hr9 := Ch.one_good h9
 dsimp only [outG, outM, List.map, List.set, id]
 refine run_retG ((⟨1 + d.next.val 3, p, 1 + d.val 3, r9.1⟩, r9.2)) Tryz.func35 rfl (.cellN rfl (.here) (by rfl) (.nil)) ?_ (⟨dieT_of hp (by omega) (by omega) (by omega) hr9.1, hr9.2⟩) (fun _ _ h => h.sub (.cons _ (.cons_cons _ (.refl _))))
 exact fun _ _ h => h
theorem dtape_spec (b : Nat) (d : Dc) (h : okDc d) (ls : List Int) (hl : ls.length ≤ 100000) (hlo : ∀ l ∈ ls, 1 ≤ l) : Spec Tryz.prog 82 [dVal (ptr b 0), dInts ls] [rDc b d] (σ := Tape × Dc) (fun s => dieTp ls s.1 ∧ okDc s.2) (fun s => dTape s.1) (fun s => [rDc b s.2]) := by
  refine spec_of_body Tryz.func82 rfl rfl (fun I F => ?_)
  refine au 2 ?_
  refine run_new (loc_allocOwn (by simp)) rfl (fun b4 _ => ?_)
  refine au 3 ?_
  refine run_new (loc_allocOwn (by simp)) rfl (fun b5 _ => ?_)
  refine au 7 ?_
  refine run_rowNil 3 1 fI ?_
  refine run_cellsUp (kk := 0) (b := b5) (dVal (.slice none 0 0)) (dSlV (.slice none 0 0)) (.there (.here)) rfl (fun J u h => ⟨h, _, _, _, h⟩) ?_
  refine run_front (.there (.there (.there (.here)))) ?_
  refine run_front (.there (.here)) ?_
  refine run_front (.there (.there (.here))) ?_
  refine run_loopF (σ := Value × List Int × Dc) (ks := [0, 1, 4, 5]) (.cons rfl (.cons rfl (.cons rfl (.cons rfl (.nil))))) (fun q => [(6, dInt .i64 (q.2.1.length : Nat))]) (fun q => [rCells b5 122 [dSlV q.1, dInt .i64 0], rRow q.1 3 1 fI q.2.1, rDc b q.2.2]) (fun q => q.2.1.length ≤ ls.length ∧ (∀ j, j < q.2.1.length → 0 ≤ q.2.1[j]?.getD default ∧ q.2.1[j]?.getD default < ls[j]?.getD default) ∧ okDc q.2.2) (fun q => ls.length - q.2.1.length) ((.slice none 0 0, [], d)) (⟨Nat.zero_le _, fun j hj => by simp at hj, h⟩) (.cons rfl (d_int rfl) .nil) (rfl) ?_
  rintro q ⟨hql, hall, hok⟩ ih1
  have hok1 := Dc.next_ok hok
  have hv0 := Dc.val_lt (d := q.2.2) (n := 256) (by omega)
  have hw0 := Dc.val_nonneg (d := q.2.2) (n := 256) (by omega)
  have hv1 := Dc.val_lt (d := q.2.2.next) (n := 5) (by omega)
  have hw1 := Dc.val_nonneg (d := q.2.2.next) (n := 5) (by omega)
  have hmm := mul_bd (a := 7 * (q.2.1.length : Int)) (b := q.2.2.next.val 5) (A := 700000) (B := 5) (by omega) (by omega) (by omega) (by omega)
  refine au 5 ?_
  first | refine runL_fact (s := 8) rfl (fun _ _ h => dSl_len h) (fun hlen2 => ?_) | skip
  refine au 3 ?_
  refine run_cond rfl (fun h3 => ?_) (fun h3 => ?_)
  ·
   have hl1 := hlo (ls[q.2.1.length]?.getD default) (getD_mem (by omega))
   have hxb := mod_bd (q.2.2.val 256 + 7 * (q.2.1.length : Int) * q.2.2.next.val 5) (show 0 < ls[q.2.1.length]?.getD default by omega)
   refine au 3 ?_
   refine dr_start _ (.one (σ := Value) 16 (fun _ => True)) [⟨[(5, none)], [], none⟩,
       ⟨[(13, some (0, false))], [0], some (0, 0, false)⟩,
       ⟨[(0, none)], [], none⟩,
       ⟨[(15, some (2, false))], [2], some (2, 0, true)⟩,
       ⟨[(6, none)], [], none⟩,
       ⟨[(17, some (4, false))], [4], none⟩,
       ⟨[(0, none)], [], none⟩,
       ⟨[(19, some (6, false))], [2, 3, 6], some (2, 1, true)⟩,
       ⟨[(18, some (5, false)), (20, some (7, false))], [2, 3, 4, 5, 6, 7], none⟩,
       ⟨[(16, some (3, false)), (21, some (8, false))], [2, 3, 4, 5, 6, 7, 8], none⟩,
       ⟨[(1, none)], [], none⟩,
       ⟨[(6, none)], [], none⟩,
       ⟨[(23, some (10, false)), (24, some (11, false))], [10, 11], none⟩,
       ⟨[(25, some (12, false))], [10, 11, 12], none⟩,
       ⟨[(22, some (9, false)), (26, some (13, false))], [2, 3, 4, 5, 6, 7, 8, 9, 10, 11, 12, 13], none⟩,
       ⟨[(27, some (14, false))], [2, 3, 4, 5, 6, 7, 8, 9, 10, 11, 12, 13, 14], none⟩,
       ⟨[(14, some (1, false)), (28, some (15, false))], [0, 1, 2, 3, 4, 5, 6, 7, 8, 9, 10, 11, 12, 13, 14, 15], some (1, 0, true)⟩,
       ⟨[(5, none)], [0, 1, 2, 3, 4, 5, 6, 7, 8, 9, 10, 11, 12, 13, 14, 15, 16], none⟩,
       ⟨[(30, some (17, false)), (29, some (16, false))], [0, 1, 2, 3, 4, 5, 6, 7, 8, 9, 10, 11, 12, 13, 14, 15, 16, 17], some (0, 0, true)⟩] [_, _, _, _] _ rfl rfl ?_
   refine da 1 ?_
   first | refine dq_read rfl (fun s => .op rfl (.nil)) rfl rfl (fun s hs _ hm => LocP.upV (loc_loadOwn1 rfl hm (by rfl))) (by exact .cons (.inr fun _ _ _ => rfl) (.nil)) ?_ | refine dq_read rfl (fun s => .op rfl (.nil)) rfl rfl (fun s hs _ hm => loc_loadOwn1 rfl hm (by rfl)) (by exact .cons (.inr fun _ _ _ => rfl) (.nil)) ?_
   refine da 1 ?_
   refine dq_write rfl (fun s => .op rfl (.nil)) rfl rfl (fun s hs => loc_callM (pick_spec b _ _ (by assumption) (by omega)) rfl) (by exact .cons (.inr fun _ _ _ => ⟨rfl, rfl⟩) (.nil)) ?_
   refine da 1 ?_
   first | refine dq_pure rfl (fun s => .op rfl (.nil)) (fun s hs _ => loc_mul rfl rfl (by first | omega | assumption | (simp; omega))) (by exact .cons (.inr fun _ _ _ => rfl) (.nil)) ?_ | refine dq_pure rfl (fun s => .op rfl (.nil)) (fun s hs _ => loc_mulW rfl rfl) (by exact .cons (.inr fun _ _ _ => rfl) (.nil)) ?_
   refine da 1 ?_
   refine dq_write rfl (fun s => .op rfl (.nil)) rfl rfl (fun s hs => loc_callM (pick_spec b _ _ (by assumption) (by omega)) rfl) (by exact .cons (.inr fun _ _ _ => ⟨rfl, rfl⟩) (.nil)) ?_
   first | refine dq_pure rfl (fun s => .op rfl (.op rfl (.nil))) (fun s hs _ => loc_mul rfl rfl (by first | omega | assumption | (simp; omega))) (by exact .cons (.inr fun _ _ _ => rfl) (.nil)) ?_ | refine dq_pure rfl (fun s => .op rfl (.op rfl (.nil))) (fun s hs _ => loc_mulW rfl rfl) (by exact .cons (.inr fun _ _ _ => rfl) (.nil)) ?_
   first | refine dq_pure rfl (fun s => .op rfl (.op rfl (.nil))) (fun s hs _ => loc_add rfl rfl (by first | omega | assumption | (simp; omega))) (by exact .cons (.inr fun _ _ _ => rfl) (.nil)) ?_ | refine dq_pure rfl (fun s => .op rfl (.op rfl (.nil))) (fun s hs _ => loc_addW rfl rfl) (by exact .cons (.inr fun _ _ _ => rfl) (.nil)) ?_
   refine da 2 ?_
   first | refine dq_pure rfl (fun s => .op rfl (.op rfl (.nil))) (fun s hs _ => loc_index rfl rfl (by first | omega | assumption | (simp; omega))) (by exact .cons (.inr fun _ _ _ => rfl) (.nil)) ?_ | refine dq_pure rfl (fun s => .op rfl (.op rfl (.nil))) (fun s hs _ => loc_indexI rfl rfl (by first | omega | assumption | (simp; omega))) (by exact .cons (.inr fun _ _ _ => rfl) (.nil)) ?_
   refine da 1 ?_
   first | refine dq_pure rfl (fun s => .op rfl (.op rfl (.nil))) (fun s hs _ => loc_rem rfl rfl (by first | omega | assumption | (simp; omega))) (by exact .cons (.inr fun _ _ _ => rfl) (.nil)) ?_ | refine dq_pure rfl (fun s => .op rfl (.op rfl (.nil))) (fun s hs _ => loc_remW rfl rfl (by first | omega | assumption | (simp; omega))) (by exact .cons (.inr fun _ _ _ => rfl) (.nil)) ?_
   refine dq_pure rfl (fun s => .op rfl (.nil)) (fun s hs _ => loc_buildSlice rfl rfl (.one rfl (.nil)) rfl rfl) (by exact .cons (.inr fun _ _ _ => rfl) (.nil)) ?_
   refine dq_choose id (fun _ t => t) rfl (fun _ _ => ⟨rfl, id, trivial⟩) (fun s => .op rfl (.op rfl (.nil))) rfl rfl (fun s hs => LocM.rowV (loc_append1 _ rfl rfl rfl rfl (by first | omega | (simp [lenMax]; omega) | (simp [lenMax]; done) | assumption) (by first | omega | (simp [lenMax]; omega) | (simp [lenMax]; done) | assumption))) (by exact .cons (.inl rfl) (.nil)) (fun _ _ => rfl) ?_
   refine da 1 ?_
   refine dq_write0 rfl (fun s => .op rfl (.op rfl (.nil))) rfl rfl (fun s hs => loc_store1 rfl rfl rfl) (by exact .cons (.inl rfl) (.nil)) ?_
   refine dq_end (rs := [_, _, _, _]) (.bool true) rfl (fun _ => rfl) (.cons rfl (.nil)) rfl (fun _ => rfl) (fun v9 _ => ?_)
   dsimp only [outG, outM, List.map, List.set, id]
   refine au 3 ?_
   first | refine run_op (loc_add rfl rfl (by first | omega | assumption | (simp; omega))) rfl ?_ | refine run_op (loc_addW rfl rfl) rfl ?_
   refine au 2 ?_
   exact run_againF ih1 ((v9, q.2.1 ++ [(q.2.2.val 256 + 7 * (q.2.1.length : Int) * q.2.2.next.val 5) % (ls[q.2.1.length]?.getD default)], q.2.2.next.next)) (⟨by simp only [List.length_append, List.length_singleton]; omega, snoc_all hall hxb, Dc.next_ok hok1⟩) (by simp only [List.length_append, List.length_singleton]; omega) (.cons rfl (d_int (by simp only [List.length_append, List.length_singleton]; omega)) .nil) (.cons rfl (fun _ _ x => x) (.cons rfl (fun _ _ x => x) (.cons rfl (fun _ _ x => x) (.cons rfl (fun _ _ x => x) (.nil))))) (rfl)
  ·
   refine au 2 ?_
   first | refine run_freezeRowCellV (kk := 0) (.there (.here)) (.here) rfl ?_ | refine run_freezeRowCell (kk := 0) (.there (.here)) (.here) rfl ?_
   refine au 4 ?_
   refine run_retG ((⟨q.2.1, 0⟩, q.2.2)) Tryz.func82 rfl (.cellN rfl (.there (.there (.here))) (by rfl) (.nil)) ?_ (⟨⟨rfl, by simp only; omega, fun j hj => hall j (by omega)⟩, hok⟩) (fun _ _ h => h.sub (.cons _ (.cons_cons _ (.cons _ (.refl _)))))
   exact fun _ _ h => h
theorem dwish_spec (b : Nat) (d : Dc) (h : okDc d) (n : Int) (hn : 0 ≤ n ∧ n ≤ 100000) : Spec Tryz.prog 79 [dVal (ptr b 0), dInt .i64 n] [rDc b d] (σ := List Int × Dc) (fun s => dieW n s.1 ∧ okDc s.2) (fun s => dInts s.1) (fun s => [rDc b s.2]) := by
  refine spec_of_body Tryz.func79 rfl rfl (fun I F => ?_)
  refine au 10 ?_
  have hv0 := Dc.val_lt (d := d) (n := 3) (by omega)
  have hw0 := Dc.val_nonneg (d := d) (n := 3) (by omega)
  refine au 2 ?_
  refine run_callM rfl (.here) (pick_spec b _ _ (by assumption) (by omega)) rfl (fun s1 hs1 => ?_)
  first | refine run_op (loc_add rfl rfl (by first | omega | assumption | (simp; omega))) rfl ?_ | refine run_op (loc_addW rfl rfl) rfl ?_
  refine au 3 ?_
  refine run_rowNil 3 1 fI ?_
  refine run_loopF (σ := Value × List Int × Dc) (ks := [0, 1]) (.cons rfl (.cons rfl (.nil))) (fun q => [(5, dVal q.1), (6, dInt .i64 (1 + d.val 3 - q.2.1.length))]) (fun q => [rRow q.1 3 1 fI q.2.1, rDc b q.2.2]) (fun q => (q.2.1.length : Int) ≤ 1 + d.val 3 ∧ (∀ x ∈ q.2.1, -1 ≤ x ∧ x < n) ∧ okDc q.2.2) (fun q => 3 - q.2.1.length) ((.slice none 0 0, [], d.next)) (⟨by simp only [List.length_nil]; omega, fun x hx => (by cases hx), Dc.next_ok h⟩) (.cons rfl (by first | exact fun _ _ h => h | exact d_int (by omega) | exact d_int (by simp) | exact d_intN (by omega) | exact d_any) (.cons rfl (d_int (by simp)) .nil)) (rfl) ?_
  rintro q ⟨hql, hall, hok⟩ ih2
  have hv1 := Dc.val_lt (d := q.2.2) (n := (n + 1)) (by omega)
  have hw1 := Dc.val_nonneg (d := q.2.2) (n := (n + 1)) (by omega)
  refine au 6 ?_
  refine run_cond rfl (fun h3 => ?_) (fun h3 => ?_)
  ·
   refine au 7 ?_
   first | refine run_op (loc_add rfl rfl (by first | omega | assumption | (simp; omega))) rfl ?_ | refine run_op (loc_addW rfl rfl) rfl ?_
   refine run_callM rfl (.there (.here)) (pick_spec b _ _ (by assumption) (by omega)) rfl (fun s4 hs4 => ?_)
   first | refine run_op (loc_sub rfl rfl (by first | omega | assumption | (simp; omega))) rfl ?_ | refine run_op (loc_subW rfl rfl) rfl ?_
   refine run_op (loc_buildSlice rfl rfl (.one rfl (.nil)) rfl rfl) rfl ?_
   refine run_append1 rfl (.here) rfl (by rfl) (by rfl) (by first | omega | (simp [lenMax]; omega) | (simp [lenMax]; done) | assumption) (by first | omega | (simp [lenMax]; omega) | (simp [lenMax]; done) | assumption) rfl (fun v5 => ?_)
   refine au 5 ?_
   first | refine run_op (loc_sub rfl rfl (by first | omega | assumption | (simp; omega))) rfl ?_ | refine run_op (loc_subW rfl rfl) rfl ?_
   refine au 2 ?_
   exact run_againF ih2 ((v5, q.2.1 ++ [q.2.2.val (n + 1) - 1], q.2.2.next)) (⟨by simp only [List.length_append, List.length_singleton]; omega, fun x hx => by rcases List.mem_append.1 hx with hx | hx; (· exact hall x hx); (· rw [List.mem_singleton.1 hx]; omega), Dc.next_ok hok⟩) (by simp only [List.length_append, List.length_singleton]; omega) (.cons rfl (by first | exact fun _ _ h => h | exact d_int (by omega) | exact d_int (by simp) | exact d_intN (by omega) | exact d_any) (.cons rfl (d_int (by simp only [List.length_append, List.length_singleton]; omega)) .nil)) (.cons rfl (fun _ _ x => x) (.cons rfl (fun _ _ x => x) (.nil))) (rfl)
  ·
   refine au 2 ?_
   refine run_freezeRow (s := 5) rfl (.here) ?_
   refine au 4 ?_
   refine run_ret (q.2) Tryz.func79 rfl rfl ?_ (⟨⟨⟨by omega, by omega⟩, hall⟩, hok⟩) (fun _ _ h => h.sub (.cons_cons _ (.refl _)))
   exact fun _ _ h => h
end Go.Q

namespace Go.Q
open Go.Proofs
open Classical
instance (h : Hd) : One (dInt .i64 h.number) := inferInstance
theorem rmod_spec (x : Int) : SpecP Tryz.prog 158 [dInt .i64 x] (dInt .i64 (modD x)) := by
 have hb := tmod_bd x 2147483647 (by omega)
 refine specP_of_body Tryz.func158 rfl rfl (fun I M => ?_)
 refine au 12 ?_
 refine run_retP Tryz.func158 rfl rfl ?_
 exact d_int (mod_twice x 2147483647 (by omega))
theorem rrow_spec (xs : List Int) : SpecP Tryz.prog 122 [dInts xs] (dInt .i64 (rowD xs)) := by
  refine specP_of_body Tryz.func122 rfl rfl (fun I M => ?_)
  refine au 12 ?_
  first | refine runL_fact (s := 6) rfl (fun _ _ h => dSl_len h) (fun hlen1 => ?_) | skip
  refine au 4 ?_
  refine run_loopC (σ := Nat) (ks := [6, 7]) (.cons rfl (.cons rfl (.nil))) (fun k => [(3, dInt .i64 (rowD (xs.take k))), (8, dInt .i64 (k : Nat))]) (fun k => k ≤ xs.length) (fun k => xs.length - k) (0) (Nat.zero_le _) (.cons rfl (by first | exact fun _ _ h => h | exact d_int (by omega) | exact d_int (by simp) | exact d_intN (by omega) | exact d_any) (.cons rfl (by first | exact fun _ _ h => h | exact d_int (by omega) | exact d_int (by simp) | exact d_intN (by omega) | exact d_any) .nil)) ?_
  intro k hk ih2
  have hb := rowD_bd (xs.take k)
  have hm := modD_bd (xs[k]?.getD default)
  refine au 5 ?_
  refine run_cond rfl (fun h3 => ?_) (fun h3 => ?_)
  ·
   refine au 13 ?_
   refine run_op (loc_call (rmod_spec _) rfl) rfl ?_
   refine au 10 ?_
   exact run_againC ih2 (k + 1) (by omega) (by omega) (.cons rfl (d_int (by unfold rowD; rw [foldl_take _ _ _ _ (by omega)]; rfl)) (.cons rfl (by first | exact fun _ _ h => h | exact d_int (by omega) | exact d_int (by simp) | exact d_intN (by omega) | exact d_any) .nil)) (.cons rfl (fun _ _ x => x) (.cons rfl (fun _ _ x => x) (.nil)))
  ·
   refine au 6 ?_
   refine run_retP Tryz.func122 rfl rfl ?_
   exact d_int (by rw [List.take_of_length_le (by omega)])
theorem rnode_spec (a b : Int) : SpecP Tryz.prog 180 [dInt .i64 a, dInt .i64 b] (dInt .i64 (nodeD a b)) := by
 have h1 := modD_bd a
 have h2 := modD_bd b
 refine specP_of_body Tryz.func180 rfl rfl (fun I M => ?_)
 refine au 7 ?_
 refine run_op (loc_call (rmod_spec _) rfl) rfl ?_
 refine au 2 ?_
 refine run_op (loc_call (rmod_spec _) rfl) rfl ?_
 refine au 5 ?_
 refine run_retP Tryz.func180 rfl rfl ?_
 exact fun _ _ h => h
theorem list_spec (xs : List Int) : SpecP Tryz.prog 151 [dInts xs] (dInt .i64 (listErr xs)) := by
  refine specP_of_body Tryz.func151 rfl rfl (fun I M => ?_)
  refine au 8 ?_
  first | refine runL_fact (s := 5) rfl (fun _ _ h => dSl_len h) (fun hlen1 => ?_) | skip
  refine au 3 ?_
  refine run_cond rfl (fun h2 => ?_) (fun h2 => ?_)
  ·
   refine au 4 ?_
   refine run_retP Tryz.func151 rfl rfl ?_
   exact d_int (by unfold listErr; rw [if_pos (by omega)])
  ·
   refine au 5 ?_
   first | refine runL_fact (s := 8) rfl (fun _ _ h => dSl_len h) (fun hlen3 => ?_) | skip
   refine au 4 ?_
   refine run_loopC (σ := Nat) (ks := [8, 9]) (.cons rfl (.cons rfl (.nil))) (fun k => [(10, dInt .i64 (k : Nat))]) (fun k => k ≤ xs.length ∧ (∀ j, j < k → goodD (xs[j]?.getD default))) (fun k => xs.length - k) (0) (⟨by omega, fun j hj => by omega⟩) (.cons rfl (by first | exact fun _ _ h => h | exact d_int (by omega) | exact d_int (by simp) | exact d_intN (by omega) | exact d_any) .nil) ?_
   rintro k ⟨hk, hbk⟩ ih4
   refine au 5 ?_
   refine run_cond rfl (fun h5 => ?_) (fun h5 => ?_)
   ·
    refine au 19 ?_
    refine run_cond rfl (fun h6 => ?_) (fun h6 => ?_)
    ·
     have hg : ¬ goodD (xs[k]?.getD default) := by unfold goodD; omega
     refine au 4 ?_
     refine run_retP Tryz.func151 rfl rfl ?_
     exact d_int (by unfold listErr; rw [if_neg (by omega), firstErr_at (i := k) (by omega) (fun j hj => if_pos (hbk j hj)) (by rw [if_neg hg]; omega), if_neg hg])
    ·
     have hg : goodD (xs[k]?.getD default) := by unfold goodD; omega
     refine au 6 ?_
     exact run_againC ih4 (k + 1) (⟨by omega, fun j hj => by by_cases e : j = k; (· subst e; exact hg); (· exact hbk j (by omega))⟩) (by omega) (.cons rfl (by first | exact fun _ _ h => h | exact d_int (by omega) | exact d_int (by simp) | exact d_intN (by omega) | exact d_any) .nil) (.cons rfl (fun _ _ x => x) (.cons rfl (fun _ _ x => x) (.nil)))
   ·
    refine au 5 ?_
    refine run_retP Tryz.func151 rfl rfl ?_
    exact d_int (by unfold listErr; rw [if_neg (by omega), firstErr_none' (fun j hj => if_pos (hbk j (by omega)))])
theorem up_spec (xs : List Int) : SpecP Tryz.prog 152 [dInts xs] (dInts (upD xs)) := by
  refine specP_of_body Tryz.func152 rfl rfl (fun I M => ?_)
  refine au 14 ?_
  refine run_rowNil 3 1 fI ?_
  refine run_loopF (σ := Value × Nat) (ks := [0]) (.cons rfl (.nil)) (fun s => [(3, dVal s.1), (4, dInt .i64 (2 * s.2 : Nat))]) (fun s => [rRow s.1 3 1 fI (upD (xs.take (2 * s.2)))]) (fun s => 2 * s.2 ≤ xs.length + 1) (fun s => xs.length - 2 * s.2) ((.slice none 0 0, 0)) (Nat.zero_le _) (.cons rfl (by first | exact fun _ _ h => h | exact d_int (by omega) | exact d_int (by simp) | exact d_intN (by omega) | exact d_any) (.cons rfl (by first | exact fun _ _ h => h | exact d_int (by omega) | exact d_int (by simp) | exact d_intN (by omega) | exact d_any) .nil)) (rfl) ?_
  intro s hk ih1
  have hul := upD_length (xs.take (2 * s.2))
  rw [List.length_take] at hul
  refine au 5 ?_
  first | refine runL_fact (s := 6) rfl (fun _ _ h => dSl_len h) (fun hlen2 => ?_) | skip
  refine au 3 ?_
  refine run_cond rfl (fun h3 => ?_) (fun h3 => ?_)
  ·
   refine au 8 ?_
   first | refine runL_fact (s := 13) rfl (fun _ _ h => dSl_len h) (fun hlen4 => ?_) | skip
   refine au 3 ?_
   refine run_cond rfl (fun h5 => ?_) (fun h5 => ?_)
   ·
    refine dr_start _ (.one (σ := Value) 12 (fun _ => True)) [⟨[(3, none)], [], none⟩,
        ⟨[(0, none)], [], none⟩,
        ⟨[(4, none)], [], none⟩,
        ⟨[(17, some (1, false)), (18, some (2, false))], [1, 2], none⟩,
        ⟨[(19, some (3, false))], [1, 2, 3], none⟩,
        ⟨[(0, none)], [], none⟩,
        ⟨[(4, none)], [], none⟩,
        ⟨[(22, some (6, false))], [6], none⟩,
        ⟨[(21, some (5, false)), (23, some (7, false))], [5, 6, 7], none⟩,
        ⟨[(24, some (8, false))], [5, 6, 7, 8], none⟩,
        ⟨[(20, some (4, false)), (25, some (9, false))], [1, 2, 3, 4, 5, 6, 7, 8, 9], none⟩,
        ⟨[(26, some (10, false))], [1, 2, 3, 4, 5, 6, 7, 8, 9, 10], none⟩,
        ⟨[(16, some (0, false)), (27, some (11, false))], [0, 1, 2, 3, 4, 5, 6, 7, 8, 9, 10, 11], some (0, 0, true)⟩,
        ⟨[(28, some (12, false))], [0, 1, 2, 3, 4, 5, 6, 7, 8, 9, 10, 11, 12], none⟩] [_] _ rfl rfl ?_
    refine da 10 ?_
    refine dq_pure rfl (fun s => .op rfl (.op rfl (.nil))) (fun s hs _ => loc_call (rnode_spec _ _) rfl) (by exact .cons (.inr fun _ _ _ => rfl) (.nil)) ?_
    refine dq_pure rfl (fun s => .op rfl (.nil)) (fun s hs _ => loc_buildSlice rfl rfl (.one rfl (.nil)) rfl rfl) (by exact .cons (.inr fun _ _ _ => rfl) (.nil)) ?_
    refine dq_choose id (fun _ t => t) rfl (fun _ _ => ⟨rfl, id, trivial⟩) (fun s => .op rfl (.op rfl (.nil))) rfl rfl (fun s hs => loc_append1 _ rfl rfl rfl rfl (by first | omega | (simp [lenMax]; omega) | (simp [lenMax]; done) | assumption) (by first | omega | (simp [lenMax]; omega) | (simp [lenMax]; done) | assumption)) (by exact .cons (.inl rfl) (.nil)) (fun _ _ => rfl) ?_
    refine da 1 ?_
    refine dq_end (rs := [_]) (.bool true) rfl (fun _ => rfl) (.cons rfl (.nil)) rfl (fun _ => rfl) (fun v6 _ => ?_)
    dsimp only [outG, outM, List.map, List.set, id]
    refine au 6 ?_
    exact run_againF ih1 ((v6, s.2 + 1)) (by simp only; omega) (by simp only; omega) (.cons rfl (by first | exact fun _ _ h => h | exact d_int (by omega) | exact d_int (by simp) | exact d_intN (by omega) | exact d_any) (.cons rfl (d_int (by show ((2 * s.2 : Nat) : Int) + 2 = ((2 * (s.2 + 1) : Nat) : Int); omega)) .nil)) (.cons rfl (fun _ _ x => x) (.nil)) (by simp only [appR]; rw [upD_take_two xs s.2 (by omega), show ((2 * s.2 : Nat) + 1 : Int).toNat = 2 * s.2 + 1 by omega])
   ·
    refine au 6 ?_
    refine run_op (loc_buildSlice rfl rfl (.one rfl (.nil)) rfl rfl) rfl ?_
    refine run_append1 rfl (.here) rfl (by rfl) (by rfl) (by first | omega | (simp [lenMax]; omega) | (simp [lenMax]; done) | assumption) (by first | omega | (simp [lenMax]; omega) | (simp [lenMax]; done) | assumption) rfl (fun v7 => ?_)
    refine au 8 ?_
    exact run_againF ih1 ((v7, s.2 + 1)) (by simp only; omega) (by simp only; omega) (.cons rfl (by first | exact fun _ _ h => h | exact d_int (by omega) | exact d_int (by simp) | exact d_intN (by omega) | exact d_any) (.cons rfl (d_int (by show ((2 * s.2 : Nat) : Int) + 2 = ((2 * (s.2 + 1) : Nat) : Int); omega)) .nil)) (.cons rfl (fun _ _ x => x) (.nil)) (by simp only [appR]; rw [List.take_of_length_le (l := xs) (i := 2 * (s.2 + 1)) (by omega), upD_take_last xs s.2 (by omega)])
  ·
   refine au 2 ?_
   refine run_freezeRow (s := 3) rfl (.here) ?_
   refine au 4 ?_
   refine run_retP Tryz.func152 rfl rfl ?_
   exact d_eq (by rw [List.take_of_length_le (by omega)])
theorem rroot_spec (xs : List Int) : SpecP Tryz.prog 115 [dInts xs] (dTup [dInt .i64 (rootR xs), dInt .i64 (listErr xs)]) := by
  refine specP_of_body Tryz.func115 rfl rfl (fun I M => ?_)
  refine au 9 ?_
  refine run_op (loc_call (list_spec _) rfl) rfl ?_
  refine au 7 ?_
  refine run_cond rfl (fun h1 => ?_) (fun h1 => ?_)
  ·
   refine au 6 ?_
   refine run_ret2P Tryz.func115 rfl rfl rfl ?_
   exact d_tup2 (d_int (by unfold rootR; rw [if_neg (by assumption)])) (d_int rfl)
  ·
   refine au 5 ?_
   first | refine runL_fact (s := 10) rfl (fun _ _ h => dSl_len h) (fun hlen2 => ?_) | skip
   refine au 3 ?_
   refine run_cond rfl (fun h3 => ?_) (fun h3 => ?_)
   ·
    refine au 5 ?_
    refine run_ret2P Tryz.func115 rfl rfl rfl ?_
    exact d_tup2 (d_int (by unfold rootR; rw [if_pos (by omega), show xs = [] from List.eq_nil_of_length_eq_zero (by omega)]; rfl)) (d_int (by omega))
   ·
    refine au 3 ?_
    refine run_loopC (σ := List Int) (ks := []) (.nil) (fun ys => [(0, dInts ys)]) (fun ys => 0 < ys.length ∧ rootD ys = rootD xs) (fun ys => ys.length) (xs) (⟨by omega, rfl⟩) (.cons rfl (by first | exact fun _ _ h => h | exact d_int (by omega) | exact d_int (by simp) | exact d_intN (by omega) | exact d_any) .nil) ?_
    rintro ys ⟨hy, hr⟩ ih4
    refine au 4 ?_
    first | refine runL_fact (s := 13) rfl (fun _ _ h => dSl_len h) (fun hlen5 => ?_) | skip
    refine au 3 ?_
    refine run_cond rfl (fun h6 => ?_) (fun h6 => ?_)
    ·
     refine au 4 ?_
     refine run_op (loc_call (up_spec _) rfl) rfl ?_
     refine au 3 ?_
     exact run_againC ih4 (upD ys) (⟨by rw [upD_length]; omega, by rw [← rootD_up ys (by omega), hr]⟩) (by rw [upD_length]; omega) (.cons rfl (by first | exact fun _ _ h => h | exact d_int (by omega) | exact d_int (by simp) | exact d_intN (by omega) | exact d_any) .nil) (.nil)
    ·
     refine au 9 ?_
     refine run_ret2P Tryz.func115 rfl rfl rfl ?_
     exact d_tup2 (d_int (by unfold rootR; rw [if_pos (by omega), ← hr]; match ys, (show ys.length = 1 by omega) with | [y], _ => rfl)) (d_int (by omega))
theorem in3_spec (p : Int) (xs : List Int) : SpecP Tryz.prog 153 [dAgg [dInt .i64 p], dInts xs] (dB (okP p ∧ allP p xs)) := by
  refine specP_of_body Tryz.func153 rfl rfl (fun I M => ?_)
  refine au 9 ?_
  refine run_op (loc_call (rcheck3_spec _) rfl) rfl ?_
  refine au 2 ?_
  refine run_cond rfl (fun h1 => ?_) (fun h1 => ?_)
  ·
   have c1 : ¬ okP p := fun h => h1 (errP_zero.2 h)
   refine au 4 ?_
   refine run_retP Tryz.func153 rfl rfl ?_
   exact d_B ⟨False.elim, fun h => c1 h.1⟩
  ·
   have c1 : okP p := errP_zero.1 (Classical.not_not.1 h1)
   refine au 5 ?_
   first | refine runL_fact (s := 10) rfl (fun _ _ h => dSl_len h) (fun hlen2 => ?_) | skip
   refine au 4 ?_
   refine run_loopC (σ := Nat) (ks := [2, 10, 11]) (.cons rfl (.cons rfl (.cons rfl (.nil)))) (fun k => [(12, dInt .i64 (k : Nat))]) (fun k => k ≤ xs.length ∧ (∀ j, j < k → hasP p (xs[j]?.getD default))) (fun k => xs.length - k) (0) (⟨by omega, fun j hj => by omega⟩) (.cons rfl (by first | exact fun _ _ h => h | exact d_int (by omega) | exact d_int (by simp) | exact d_intN (by omega) | exact d_any) .nil) ?_
   rintro k ⟨hk, hbk⟩ ih3
   refine au 5 ?_
   refine run_cond rfl (fun h4 => ?_) (fun h4 => ?_)
   ·
    refine au 21 ?_
    refine run_cond rfl (fun h5 => ?_) (fun h5 => ?_)
    ·
     have hg : ¬ hasP p (xs[k]?.getD default) := by unfold hasP; omega
     refine au 4 ?_
     refine run_retP Tryz.func153 rfl rfl ?_
     exact d_B ⟨False.elim, fun h => hg (h.2 _ (getD_mem (by omega)))⟩
    ·
     have hg : hasP p (xs[k]?.getD default) := by unfold hasP; omega
     refine au 6 ?_
     exact run_againC ih3 (k + 1) (⟨by omega, fun j hj => by by_cases e : j = k; (· subst e; exact hg); (· exact hbk j (by omega))⟩) (by omega) (.cons rfl (by first | exact fun _ _ h => h | exact d_int (by omega) | exact d_int (by simp) | exact d_intN (by omega) | exact d_any) .nil) (.cons rfl (fun _ _ x => x) (.cons rfl (fun _ _ x => x) (.cons rfl (fun _ _ x => x) (.nil))))
   ·
    refine au 5 ?_
    refine run_retP Tryz.func153 rfl rfl ?_
    exact d_B ⟨fun _ => ⟨c1, fun x hx => by obtain ⟨i, hi, rfl⟩ := List.mem_iff_getElem.1 hx; have := hbk i (by omega); simpa [hi] using this⟩, fun _ => trivial⟩
theorem rtcheck_spec (t : Tab) : SpecP Tryz.prog 117 [dTab t] (dInt .i64 (checkT t)) := by
  refine specP_of_body Tryz.func117 rfl rfl (fun I M => ?_)
  refine au 18 ?_
  refine run_cond rfl (fun h1 => ?_) (fun h1 => ?_)
  ·
   have c1 := h1
   refine au 4 ?_
   refine run_retP Tryz.func117 rfl rfl ?_
   exact d_int (by unfold checkT; rw [if_pos c1])
  ·
   have c1 := h1
   refine au 6 ?_
   refine run_op (loc_call (rcheck3_spec _) rfl) rfl ?_
   refine au 7 ?_
   refine run_cond rfl (fun h2 => ?_) (fun h2 => ?_)
   ·
    have c2 : ¬ okP t.p := fun h => h2 (errP_zero.2 h)
    refine au 5 ?_
    refine run_retP Tryz.func117 rfl rfl ?_
    exact d_int (by unfold checkT; rw [if_neg c1, if_pos c2]; unfold errP; rw [if_neg c2])
   ·
    have c2 : okP t.p := errP_zero.1 (Classical.not_not.1 h2)
    refine au 14 ?_
    refine run_cond rfl (fun h3 => ?_) (fun h3 => ?_)
    ·
     have c3 := h3
     refine au 4 ?_
     refine run_retP Tryz.func117 rfl rfl ?_
     exact d_int (by unfold checkT; rw [if_neg c1, if_neg (Classical.not_not.2 c2), if_pos c3])
    ·
     have c3 := h3
     refine au 6 ?_
     first | refine runL_fact (s := 29) rfl (fun _ _ h => dSl_len h) (fun hlen4 => ?_) | skip
     refine au 3 ?_
     refine run_cond rfl (fun h5 => ?_) (fun h5 => ?_)
     ·
      have c4 := h5
      refine au 4 ?_
      refine run_retP Tryz.func117 rfl rfl ?_
      exact d_int (by unfold checkT; rw [if_neg c1, if_neg (Classical.not_not.2 c2), if_neg c3, if_pos (by omega)])
     ·
      have c4 := h5
      refine au 6 ?_
      first | refine runL_fact (s := 33) rfl (fun _ _ h => dSl_len h) (fun hlen6 => ?_) | skip
      refine au 4 ?_
      refine run_loopC (σ := Nat) (ks := [1, 33, 34]) (.cons rfl (.cons rfl (.cons rfl (.nil)))) (fun k => [(35, dInt .i64 (k : Nat))]) (fun k => k ≤ t.rows.length ∧ (∀ j, j < k → rowErr t.p t.width (t.rows[j]?.getD default) = 0)) (fun k => t.rows.length - k) (0) (⟨by omega, fun j hj => by omega⟩) (.cons rfl (by first | exact fun _ _ h => h | exact d_int (by omega) | exact d_int (by simp) | exact d_intN (by omega) | exact d_any) .nil) ?_
      rintro k ⟨hk, hbk⟩ ih7
      refine au 5 ?_
      refine run_cond rfl (fun h8 => ?_) (fun h8 => ?_)
      ·
       refine au 13 ?_
       first | refine runL_fact (s := 39) rfl (fun _ _ h => dSl_len h) (fun hlen9 => ?_) | skip
       refine au 5 ?_
       refine run_cond rfl (fun h10 => ?_) (fun h10 => ?_)
       ·
        refine au 4 ?_
        refine run_retP Tryz.func117 rfl rfl ?_
        exact d_int (by unfold checkT; rw [if_neg c1, if_neg (Classical.not_not.2 c2), if_neg c3, if_neg (by omega), firstErr_at (i := k) (by omega) hbk (by rw [show rowErr t.p t.width (t.rows[k]?.getD default) = 2 by unfold rowErr; rw [if_pos (by omega)]]; omega), show rowErr t.p t.width (t.rows[k]?.getD default) = 2 by unfold rowErr; rw [if_pos (by omega)]])
       ·
        refine au 6 ?_
        refine run_op (loc_call (in3_spec _ _) rfl) rfl ?_
        refine au 2 ?_
        refine run_cond rfl (fun h11 => ?_) (fun h11 => ?_)
        ·
         have r9 : ¬ allP t.p (t.rows[k]?.getD default) := fun h => h11 ⟨c2, h⟩
         refine au 4 ?_
         refine run_retP Tryz.func117 rfl rfl ?_
         exact d_int (by unfold checkT; rw [if_neg c1, if_neg (Classical.not_not.2 c2), if_neg c3, if_neg (by omega), firstErr_at (i := k) (by omega) hbk (by rw [show rowErr t.p t.width (t.rows[k]?.getD default) = 9 by unfold rowErr; rw [if_neg (by omega), if_pos r9]]; omega), show rowErr t.p t.width (t.rows[k]?.getD default) = 9 by unfold rowErr; rw [if_neg (by omega), if_pos r9]])
        ·
         have r9 : allP t.p (t.rows[k]?.getD default) := (Classical.not_not.1 h11).2
         refine au 6 ?_
         exact run_againC ih7 (k + 1) (⟨by omega, fun j hj => by by_cases e : j = k; (· subst e; unfold rowErr; rw [if_neg (by omega), if_neg (Classical.not_not.2 r9)]); (· exact hbk j (by omega))⟩) (by omega) (.cons rfl (by first | exact fun _ _ h => h | exact d_int (by omega) | exact d_int (by simp) | exact d_intN (by omega) | exact d_any) .nil) (.cons rfl (fun _ _ x => x) (.cons rfl (fun _ _ x => x) (.cons rfl (fun _ _ x => x) (.nil))))
      ·
       refine au 5 ?_
       refine run_retP Tryz.func117 rfl rfl ?_
       exact d_int (by unfold checkT; rw [if_neg c1, if_neg (Classical.not_not.2 c2), if_neg c3, if_neg (by omega), firstErr_none' (fun j hj => hbk j (by omega))])
theorem rdigests_spec (t : Tab) : SpecP Tryz.prog 114 [dTab t] (dTup [dInts (digs t), dInt .i64 (checkT t)]) := by
  refine specP_of_body Tryz.func114 rfl rfl (fun I M => ?_)
  refine au 10 ?_
  refine run_op (loc_call (rtcheck_spec _) rfl) rfl ?_
  refine au 7 ?_
  refine run_cond rfl (fun h1 => ?_) (fun h1 => ?_)
  ·
   have c1 := h1
   refine au 6 ?_
   refine run_ret2P Tryz.func114 rfl rfl rfl ?_
   exact d_tup2 (d_toInts (by unfold digs; rw [if_neg c1]) d_nil) (d_int rfl)
  ·
   have c1 := Classical.not_not.1 h1
   have ct := checkT_ok c1
   refine au 10 ?_
   first | refine runL_fact (s := 14) rfl (fun _ _ h => dSl_len h) (fun hlen2 => ?_) | skip
   refine au 4 ?_
   refine run_rowNil 3 1 fI ?_
   refine run_loopF (σ := Value × Nat) (ks := [14, 15]) (.cons rfl (.cons rfl (.nil))) (fun s => [(5, dVal s.1), (16, dInt .i64 (s.2 : Nat))]) (fun s => [rRow s.1 3 1 fI ((t.rows.take s.2).map rowD)]) (fun s => s.2 ≤ t.rows.length) (fun s => t.rows.length - s.2) ((.slice none 0 0, 0)) (Nat.zero_le _) (.cons rfl (by first | exact fun _ _ h => h | exact d_int (by omega) | exact d_int (by simp) | exact d_intN (by omega) | exact d_any) (.cons rfl (by first | exact fun _ _ h => h | exact d_int (by omega) | exact d_int (by simp) | exact d_intN (by omega) | exact d_any) .nil)) (rfl) ?_
   intro s hk ih3
   have hl : ((t.rows.take s.2).map rowD).length ≤ 1024 := by simp; omega
   refine au 5 ?_
   refine run_cond rfl (fun h4 => ?_) (fun h4 => ?_)
   ·
    refine au 12 ?_
    refine run_op (loc_call (rrow_spec _) rfl) rfl ?_
    refine run_op (loc_buildSlice rfl rfl (.one rfl (.nil)) rfl rfl) rfl ?_
    refine run_append1 rfl (.here) rfl (by rfl) (by rfl) (by first | omega | (simp [lenMax]; omega) | (simp [lenMax]; done) | assumption) (by first | omega | (simp [lenMax]; omega) | (simp [lenMax]; done) | assumption) rfl (fun v5 => ?_)
    refine au 7 ?_
    exact run_againF ih3 ((v5, s.2 + 1)) (by simp only; omega) (by simp only; omega) (.cons rfl (by first | exact fun _ _ h => h | exact d_int (by omega) | exact d_int (by simp) | exact d_intN (by omega) | exact d_any) (.cons rfl (by first | exact fun _ _ h => h | exact d_int (by omega) | exact d_int (by simp) | exact d_intN (by omega) | exact d_any) .nil)) (.cons rfl (fun _ _ x => x) (.cons rfl (fun _ _ x => x) (.nil))) (by simp only [appR]; rw [List.take_add_one, show t.rows[s.2]? = some (t.rows[s.2]?.getD default) by rw [List.getElem?_eq_getElem (by omega)]; rfl]; simp)
   ·
    refine au 2 ?_
    refine run_freezeRow (s := 5) rfl (.here) ?_
    refine au 5 ?_
    refine run_ret2P Tryz.func114 rfl rfl rfl ?_
    exact d_tup2 (d_toInts (by unfold digs; rw [if_pos c1]) (d_toInts (by rw [List.take_of_length_le (by omega)]) (fun _ _ h => h))) (d_int c1.symm)
theorem rootR_digs {t : Tab} (h : checkT t = 0) : listErr (digs t) = 0 ∧ rootR (digs t) = rootD (t.rows.map rowD) := by
 have h1 : digs t = t.rows.map rowD := by unfold digs; rw [if_pos h]
 have h2 := listErr_digs t.rows (checkT_ok h).2.2.2.1
 rw [h1]
 exact ⟨h2, by unfold rootR; rw [if_pos h2]⟩
theorem rhead_spec (t : Tab) : SpecP Tryz.prog 62 [dTab t] (dTup [dHd (headT t), dInt .i64 (checkT t)]) := by
  refine specP_of_body Tryz.func62 rfl rfl (fun I M => ?_)
  refine au 3 ?_
  refine run_new (loc_allocOwn (by simp)) rfl (fun b1 _ => ?_)
  refine au 5 ?_
  refine run_op (loc_call (rdigests_spec _) rfl) rfl ?_
  refine au 12 ?_
  refine run_cond rfl (fun h2 => ?_) (fun h2 => ?_)
  ·
   have c1 := h2
   refine au 7 ?_
   refine run_retGP Tryz.func62 rfl (.cellN rfl (.here) (by rfl) (.tmp rfl (.nil))) ?_ (fun _ _ h => inv_tail (h))
   exact d_tup2 (d_eq (by unfold headT; rw [if_neg c1]; rfl)) (fun _ _ h => h)
  ·
   have c1 := h2
   refine au 4 ?_
   refine run_op (loc_call (rroot_spec _) rfl) rfl ?_
   refine au 15 ?_
   first | refine runL_fact (s := 28) rfl (fun _ _ h => dSl_len h) (fun hlen3 => ?_) | skip
   refine au 8 ?_
   refine run_retGP Tryz.func62 rfl (.cellN rfl (.here) (by rfl) (.tmp rfl (.nil))) ?_ (fun _ _ h => inv_tail (h))
   exact d_tup2 (d_eq (by unfold headT; rw [if_pos (Classical.not_not.1 c1), ← (rootR_digs (Classical.not_not.1 c1)).2]; rfl)) (d_int (Classical.not_not.1 c1).symm)
end Go.Q

namespace Go.Q
open Classical
def okW (n : Int) (rows : List Int) : Prop := (1 ≤ n ∧ n ≤ 1024) ∧ (1 ≤ (rows.length : Int) ∧ (rows.length : Int) ≤ 16) ∧ ∀ r ∈ rows, -1 ≤ r ∧ r ≤ n - 1
noncomputable def wlimE (s : Schm) (p n k : Int) : Int := if ¬ validS s p then 40 else if ¬ (1 ≤ k ∧ k ≤ 16) ∨ ¬ (1 ≤ n ∧ n ≤ 1024) then 41 else 0
noncomputable def wlimL (s : Schm) (p n k : Int) : List Int := if wlimE s p n k = 0 then reps k.toNat (limL s p n) else []
noncomputable def qsE (s : Schm) (p n : Int) : List Int → Tape → Int
 | [], _ => 0
 | r :: rs, t => if qryE s p n (max r 0) t = 0 then qsE s p n rs (qryT s p n (max r 0) t) else qryE s p n (max r 0) t
noncomputable def qsT (s : Schm) (p n : Int) : List Int → Tape → Tape
 | [], t => t
 | r :: rs, t => qsT s p n rs (qryT s p n (max r 0) t)
noncomputable def qsL (s : Schm) (p n : Int) : List Int → Tape → List (List (List Int))
 | [], _ => []
 | r :: rs, t => qryL s p n (max r 0) t :: qsL s p n rs (qryT s p n (max r 0) t)
theorem qsT_app (s : Schm) (p n : Int) : ∀ (ws us : List Int) (t : Tape), qsT s p n (ws ++ us) t = qsT s p n us (qsT s p n ws t)
 | [], us, t => rfl
 | a :: ws, us, t => qsT_app s p n ws us _
theorem qsL_app (s : Schm) (p n : Int) : ∀ (ws us : List Int) (t : Tape), qsL s p n (ws ++ us) t = qsL s p n ws t ++ qsL s p n us (qsT s p n ws t)
 | [], us, t => rfl
 | a :: ws, us, t => by
  show _ :: qsL s p n (ws ++ us) _ = (_ :: qsL s p n ws _) ++ _
  rw [qsL_app s p n ws us]; rfl
theorem qsE_app (s : Schm) (p n : Int) : ∀ (ws us : List Int) (t : Tape), qsE s p n ws t = 0 → qsE s p n (ws ++ us) t = qsE s p n us (qsT s p n ws t)
 | [], us, t, _ => rfl
 | a :: ws, us, t, h => by
  unfold qsE at h
  show (if qryE s p n (max a 0) t = 0 then qsE s p n (ws ++ us) _ else _) = _
  by_cases h0 : qryE s p n (max a 0) t = 0
  ·rw [if_pos h0] at h ⊢; exact qsE_app s p n ws us _ h
  ·rw [if_neg h0] at h; exact absurd h h0
theorem qsL_len (s : Schm) (p n : Int) : ∀ (ws : List Int) (t : Tape), (qsL s p n ws t).length = ws.length
 | [], t => rfl
 | a :: ws, t => by simp [qsL, qsL_len s p n ws]
theorem getD_drop1 {ws : List Int} {k : Nat} (h : k < ws.length) : ws = ws.take k ++ (ws[k]?.getD default :: ws.drop (k + 1)) := by
 conv => lhs; rw [← List.take_append_drop k ws]
 rw [List.drop_eq_getElem_cons h]; simp [h]
theorem qs_step {s : Schm} {p n : Int} {ws : List Int} {t : Tape} {k : Nat} (h : k < ws.length) (h0 : qsE s p n (ws.take k) t = 0) (h1 : qryE s p n (max (ws[k]?.getD default) 0) (qsT s p n (ws.take k) t) = 0) :
  qsE s p n (ws.take (k + 1)) t = 0 ∧ qsT s p n (ws.take (k + 1)) t = qryT s p n (max (ws[k]?.getD default) 0) (qsT s p n (ws.take k) t) ∧ qsL s p n (ws.take (k + 1)) t = qsL s p n (ws.take k) t ++ [qryL s p n (max (ws[k]?.getD default) 0) (qsT s p n (ws.take k) t)] := by
 have e : ws.take (k + 1) = ws.take k ++ [ws[k]?.getD default] := by rw [List.take_add_one]; simp [h]
 refine ⟨?_, ?_, ?_⟩
 ·rw [e, qsE_app s p n _ _ _ h0]; unfold qsE; rw [if_pos h1]; rfl
 ·rw [e, qsT_app]; rfl
 ·rw [e, qsL_app]; rfl
theorem qs_stop {s : Schm} {p n : Int} {ws : List Int} {t : Tape} {k : Nat} (h : k < ws.length) (h0 : qsE s p n (ws.take k) t = 0) (h1 : qryE s p n (max (ws[k]?.getD default) 0) (qsT s p n (ws.take k) t) ≠ 0) :
  qsE s p n ws t = qryE s p n (max (ws[k]?.getD default) 0) (qsT s p n (ws.take k) t) := by
 conv => lhs; rw [getD_drop1 h]
 rw [qsE_app s p n _ _ _ h0]; unfold qsE; rw [if_neg h1]
noncomputable def wqE (s : Schm) (p n : Int) (rows : List Int) (t : Tape) : Int := if ¬ validS s p then 40 else if ¬ okW n rows then 41 else qsE s p n rows t
noncomputable def wqL (s : Schm) (p n : Int) (rows : List Int) (t : Tape) : List (List (List Int)) := if wqE s p n rows t = 0 then qsL s p n rows t else []
noncomputable def wqT (s : Schm) (p n : Int) (rows : List Int) (t : Tape) : Tape := if wqE s p n rows t = 0 then qsT s p n rows t else ⟨[], 0⟩

theorem reps_rep {α : Type} (x : α) (m : Nat) : ∀ c, reps c (List.replicate m x) = List.replicate (c * m) x
 | 0 => by simp [reps]
 | c + 1 => by rw [reps, reps_rep x m c, List.replicate_append_replicate]; congr 1; rw [Nat.add_mul]; omega
theorem limN_die {s : Schm} {n : Int} (hs : dieS s) (hn : 1 ≤ n ∧ n ≤ 5) : 0 ≤ limN s n ∧ limN s n ≤ 30 := by
 obtain ⟨h1, h2⟩ := hs
 have hb := shape_bd h1
 have hk := shape_kind h1
 have hs := h1
 unfold shapeS at hs
 unfold limN
 split
 ·have := mul_bd (a := n) (b := s.servers - 1) (A := 5) (B := 6) (by omega) (by omega) (by omega) (by omega); omega
 ·split
  ·have := mul_bd (a := n) (b := s.degree) (A := 5) (B := 6) (by omega) (by omega) (by omega) (by omega); omega
  ·have hg : 1 ≤ s.group := by omega
   have h3 : 1 ≤ (n + s.group - 1) / s.group := (Int.le_ediv_iff_mul_le (by omega)).2 (by omega)
   have h4 : (n + s.group - 1) / s.group ≤ n := by
    have h5 : (n + s.group - 1) / s.group < n + 1 := (Int.ediv_lt_iff_lt_mul (by omega)).2 (by
     have h6 : 0 ≤ n * (s.group - 1) := Int.mul_nonneg (by omega) (by omega)
     rw [Int.mul_sub] at h6; rw [Int.add_mul]; omega)
    omega
   have := mul_bd (a := (n + s.group - 1) / s.group) (b := s.degree) (A := 5) (B := 6) (by omega) (by omega) (by omega) (by omega); omega
theorem wlim_ok {s : Schm} {p n k : Int} (hv : validS s p) (hn : 1 ≤ n ∧ n ≤ 1024) (hk : 1 ≤ k ∧ k ≤ 16) : wlimE s p n k = 0 ∧ wlimL s p n k = List.replicate (k * limN s n).toNat p := by
 have e : wlimE s p n k = 0 := by unfold wlimE; rw [if_neg (Classical.not_not.2 hv), if_neg (by omega)]
 refine ⟨e, ?_⟩
 unfold wlimL
 rw [if_pos e, (lim_ok hv hn).2, reps_rep]
 congr 1
 rw [Int.toNat_mul (by omega) (limN_bd hv hn).1]
theorem qs_ok {s : Schm} {p n : Int} (hv : validS s p) (hn : 1 ≤ n ∧ n ≤ 1024) : ∀ {rows : List Int} {t : Tape}, okTape t → (∀ r ∈ rows, -1 ≤ r ∧ r < n) → drawE t p ((rows.length : Nat) * limN s n) = 0 →
  qsE s p n rows t = 0 ∧ (qsT s p n rows t).numbers = t.numbers ∧ (qsT s p n rows t).at' = t.at' + (rows.length : Nat) * limN s n ∧ ∀ q ∈ qsL s p n rows t, (q.length : Int) = s.servers ∧ ∀ x ∈ q, (x.length : Int) = unitsS s n
 | [], t, hk, _, _ => ⟨rfl, rfl, by simp [qsT], fun q hq => by cases hq⟩
 | r :: rs, t, hk, hr, hd => by
  have hr0 := hr r (List.mem_cons_self ..)
  have hl := (limN_bd hv hn).1
  have hq := qry_ok (s := s) (p := p) (n := n) (i := max r 0) (t := t) hv hn (by omega)
  have h0 : 0 ≤ ((rs.length : Nat) : Int) * limN s n := Int.mul_nonneg (by omega) hl
  have e1 : (((r :: rs).length : Nat) : Int) * limN s n = limN s n + (rs.length : Nat) * limN s n := by rw [List.length_cons, Int.natCast_add, Int.add_mul, Int.add_comm]; simp
  have hda : drawE t p (limN s n) = 0 := by
   by_cases h : drawE t p (limN s n) = 0
   ·exact h
   ·rw [e1, drawE_stop hl h0 h] at hd; exact absurd hd h
  have hq0 := hq.1.trans hda
  obtain ⟨hqT, hqL, hqA⟩ := hq.2 hda
  obtain ⟨e2, e3⟩ := drawT_ok hda
  rw [e1, drawE_sum hl h0 hda] at hd
  have ih := qs_ok hv hn (rows := rs) (t := qryT s p n (max r 0) t) (by rw [hqT]; exact e3) (fun x hx => hr x (List.mem_cons_of_mem _ hx)) (by rw [hqT]; exact hd)
  refine ⟨?_, ?_, ?_, ?_⟩
  ·unfold qsE; rw [if_pos hq0]; exact ih.1
  ·show (qsT s p n rs _).numbers = _
   rw [ih.2.1, hqT, e2]
  ·show (qsT s p n rs _).at' = _
   rw [ih.2.2.1, hqT, e2, e1]; simp only; omega
  ·intro q hm
   rcases List.mem_cons.1 hm with rfl | hm
   ·exact ⟨hqL, hqA⟩
   ·exact ih.2.2.2 q hm
theorem die_wish {s : Schm} {p n : Int} {rows : List Int} (hs : dieS s) (hp : dieP p) (hn : 1 ≤ n ∧ n ≤ 5) (hr : ∀ r ∈ rows, -1 ≤ r ∧ r < n) (hl : 1 ≤ (rows.length : Int) ∧ (rows.length : Int) ≤ 3) {k : Int} (hk : k = (rows.length : Nat)) {t : Tape} (ht : dieTp (wlimL s p n k) t) :
  okW n rows ∧ drawE t p ((rows.length : Nat) * limN s n) = 0 ∧ okTape t ∧ t.at' = 0 := by
 subst hk
 have hv := die_valid hs hp
 have hb := limN_die hs hn
 have hw := wlim_ok (k := (rows.length : Nat)) hv (by omega : 1 ≤ n ∧ n ≤ 1024) (by omega)
 rw [hw.2] at ht
 have hm := mul_bd (a := (rows.length : Nat)) (b := limN s n) (A := 3) (B := 30) (by omega) (by omega) (by omega) (by omega)
 have h2 := die_draw (dieP_ok hp).1 (by omega) ht
 rw [show ((((rows.length : Nat) * limN s n).toNat : Nat) : Int) = (rows.length : Nat) * limN s n by omega] at h2
 exact ⟨⟨by omega, by omega, fun r h => by have := hr r h; omega⟩, h2.2, h2.1, ht.1⟩
theorem wq_ok {s : Schm} {p n : Int} {rows : List Int} {t : Tape} (hv : validS s p) (hw : okW n rows) (hk : okTape t) (hd : drawE t p ((rows.length : Nat) * limN s n) = 0) :
  wqE s p n rows t = 0 ∧ wqL s p n rows t = qsL s p n rows t ∧ wqT s p n rows t = qsT s p n rows t := by
 have h := qs_ok hv hw.1 (rows := rows) hk (fun r hr => by have := hw.2.2 r hr; omega) hd
 have e : wqE s p n rows t = 0 := by unfold wqE; rw [if_neg (Classical.not_not.2 hv), if_neg (Classical.not_not.2 hw)]; exact h.1
 exact ⟨e, by unfold wqL; rw [if_pos e], by unfold wqT; rw [if_pos e]⟩
end Go.Q

namespace Go.Q
open Go.Proofs
open Classical
theorem rplan_spec (p s d : Int) : SpecP Tryz.prog 183 [dAgg [dInt .i64 p], dAgg [dInt .i64 s, dInt .i64 d]] (dInt .i64 (planE p s d)) := by
  refine specP_of_body Tryz.func183 rfl rfl (fun I M => ?_)
  refine au 10 ?_
  refine run_op (loc_call (rcheck3_spec _) rfl) rfl ?_
  refine au 7 ?_
  refine run_cond rfl (fun h1 => ?_) (fun h1 => ?_)
  ·
   have c1 : ¬ okP p := fun h => h1 (errP_zero.2 h)
   refine au 5 ?_
   refine run_retP Tryz.func183 rfl rfl ?_
   exact d_int (by unfold planE errP; rw [if_neg c1, if_pos c1])
  ·
   have c1 : okP p := errP_zero.1 (Classical.not_not.1 h1)
   refine au 37 ?_
   refine run_cond rfl (fun h2 => ?_) (fun h2 => ?_)
   ·
    have c2 := h2
    refine au 4 ?_
    refine run_retP Tryz.func183 rfl rfl ?_
    exact d_int (by unfold planE; rw [if_neg (Classical.not_not.2 c1), if_pos (by omega)])
   ·
    have c2 := h2
    refine au 5 ?_
    refine run_retP Tryz.func183 rfl rfl ?_
    exact d_int (by unfold planE; rw [if_neg (Classical.not_not.2 c1), if_neg (by omega)])
theorem rcod_spec (p s d g : Int) : SpecP Tryz.prog 154 [dAgg [dInt .i64 p], dAgg [dInt .i64 s, dInt .i64 d, dInt .i64 g]] (dInt .i64 (codE p s d g)) := by
  refine specP_of_body Tryz.func154 rfl rfl (fun I M => ?_)
  refine au 10 ?_
  refine run_op (loc_call (rcheck3_spec _) rfl) rfl ?_
  refine au 7 ?_
  refine run_cond rfl (fun h1 => ?_) (fun h1 => ?_)
  ·
   have c1 : ¬ okP p := fun h => h1 (errP_zero.2 h)
   refine au 5 ?_
   refine run_retP Tryz.func154 rfl rfl ?_
   exact d_int (by unfold codE errP; rw [if_neg c1, if_pos c1])
  ·
   have c1 : okP p := errP_zero.1 (Classical.not_not.1 h1)
   refine au 63 ?_
   refine run_cond rfl (fun h2 => ?_) (fun h2 => ?_)
   ·
    have c2 := h2
    refine au 4 ?_
    refine run_retP Tryz.func154 rfl rfl ?_
    exact d_int (by unfold codE; rw [if_neg (Classical.not_not.2 c1), if_pos (by omega)])
   ·
    have c2 := h2
    refine au 5 ?_
    refine run_retP Tryz.func154 rfl rfl ?_
    exact d_int (by unfold codE; rw [if_neg (Classical.not_not.2 c1), if_neg (by omega)])
theorem rlim16_spec (p n s : Int) : SpecP Tryz.prog 162 [dAgg [dInt .i64 p], dInt .i64 n, dInt .i64 s] (dTup [dInts (limsP p n s), dInt .i64 (parE p n s)]) := by
  refine specP_of_body Tryz.func162 rfl rfl (fun I M => ?_)
  refine au 10 ?_
  refine run_op (loc_call (rcheck3_spec _) rfl) rfl ?_
  refine au 7 ?_
  refine run_cond rfl (fun h1 => ?_) (fun h1 => ?_)
  ·
   have c1 : ¬ okP p := fun h => h1 (errP_zero.2 h)
   refine au 6 ?_
   have hE : parE p n s = 9 := by unfold parE; rw [if_pos c1]
   refine run_ret2P Tryz.func162 rfl rfl rfl ?_
   exact d_tup2 (d_toInts (by unfold limsP; rw [if_neg (by rw [hE]; omega)]) d_nil) (d_int (hE.trans (show (9 : Int) = errP p by unfold errP; rw [if_neg c1])).symm)
  ·
   have c1 : okP p := errP_zero.1 (Classical.not_not.1 h1)
   refine au 22 ?_
   refine run_cond rfl (fun h2 => ?_) (fun h2 => ?_)
   ·
    have c2 := h2
    refine au 5 ?_
    have hE : parE p n s = 1 := by unfold parE; rw [if_neg (Classical.not_not.2 c1), if_pos (by omega)]
    refine run_ret2P Tryz.func162 rfl rfl rfl ?_
    exact d_tup2 (d_toInts (by unfold limsP; rw [if_neg (by rw [hE]; omega)]) d_nil) (d_int hE.symm)
   ·
    have c2 := h2
    refine au 7 ?_
    have hE : parE p n s = 0 := by unfold parE; rw [if_neg (Classical.not_not.2 c1), if_neg (by omega)]
    have hmb := mul_bd (a := n) (b := s - 1) (A := 1024) (B := 10) (by omega) (by omega) (by omega) (by omega)
    refine au 8 ?_
    refine run_rowNil 3 1 fI ?_
    refine run_loopF (σ := Value × Nat) (ks := [3, 32]) (.cons rfl (.cons rfl (.nil))) (fun q => [(9, dVal q.1), (33, dInt .i64 (q.2 : Nat))]) (fun q => [rRow q.1 3 1 fI (List.replicate q.2 p)]) (fun q => q.2 ≤ (n * (s - 1)).toNat) (fun q => (n * (s - 1)).toNat - q.2) ((.slice none 0 0, 0)) (Nat.zero_le _) (.cons rfl (by first | exact fun _ _ h => h | exact d_int (by omega) | exact d_int (by simp) | exact d_intN (by omega) | exact d_any) (.cons rfl (by first | exact fun _ _ h => h | exact d_int (by omega) | exact d_int (by simp) | exact d_intN (by omega) | exact d_any) .nil)) (rfl) ?_
    intro q hq ih3
    have hql : (List.replicate q.2 p).length = q.2 := List.length_replicate
    refine au 5 ?_
    refine run_cond rfl (fun h4 => ?_) (fun h4 => ?_)
    ·
     refine au 7 ?_
     refine run_op (loc_buildSlice rfl rfl (.one rfl (.nil)) rfl rfl) rfl ?_
     refine run_append1 rfl (.here) rfl (by rfl) (by rfl) (by first | omega | (simp [lenMax]; omega) | (simp [lenMax]; done) | assumption) (by first | omega | (simp [lenMax]; omega) | (simp [lenMax]; done) | assumption) rfl (fun v5 => ?_)
     refine au 7 ?_
     exact run_againF ih3 ((v5, q.2 + 1)) (by simp only; omega) (by simp only; omega) (.cons rfl (by first | exact fun _ _ h => h | exact d_int (by omega) | exact d_int (by simp) | exact d_intN (by omega) | exact d_any) (.cons rfl (by first | exact fun _ _ h => h | exact d_int (by omega) | exact d_int (by simp) | exact d_intN (by omega) | exact d_any) .nil)) (.cons rfl (fun _ _ x => x) (.cons rfl (fun _ _ x => x) (.nil))) (by simp only [appR]; rw [List.replicate_succ'] )
    ·
     refine au 2 ?_
     refine run_freezeRow (s := 9) rfl (.here) ?_
     refine au 5 ?_
     refine run_ret2P Tryz.func162 rfl rfl rfl ?_
     exact d_tup2 (d_toInts (by unfold limsP; rw [if_pos hE, show (n * (s - 1)).toNat = q.2 by omega]) (fun _ _ h => h)) (d_int hE.symm)
theorem rlim17_spec (p s d n : Int) : SpecP Tryz.prog 163 [dAgg [dInt .i64 p], dAgg [dInt .i64 s, dInt .i64 d], dInt .i64 n] (dTup [dInts (limsC p s d n), dInt .i64 (planRE p s d n)]) := by
  refine specP_of_body Tryz.func163 rfl rfl (fun I M => ?_)
  refine au 12 ?_
  refine run_op (loc_call (rplan_spec _ _ _) rfl) rfl ?_
  refine au 7 ?_
  refine run_cond rfl (fun h1 => ?_) (fun h1 => ?_)
  ·
   have c1 := h1
   refine au 6 ?_
   have hE : planRE p s d n = planE p s d := by unfold planRE; rw [if_neg (fun h => c1 h.1)]
   refine run_ret2P Tryz.func163 rfl rfl rfl ?_
   exact d_tup2 (d_toInts (by unfold limsC; rw [if_neg (by rw [hE]; exact c1)]) d_nil) (d_int (hE.trans rfl).symm)
  ·
   have c1 := Classical.not_not.1 h1
   refine au 12 ?_
   refine run_cond rfl (fun h2 => ?_) (fun h2 => ?_)
   ·
    have c2 := h2
    refine au 5 ?_
    have hE : planRE p s d n = 1 := by unfold planRE; rw [if_pos ⟨c1, by omega⟩]
    refine run_ret2P Tryz.func163 rfl rfl rfl ?_
    exact d_tup2 (d_toInts (by unfold limsC; rw [if_neg (by rw [hE]; omega)]) d_nil) (d_int hE.symm)
   ·
    have c2 := h2
    refine au 7 ?_
    have hE : planRE p s d n = 0 := by unfold planRE; rw [if_neg (by omega)]; exact c1
    have hz := planRE_zero hE
    have hmb := mul_bd (a := n) (b := d) (A := 1024) (B := 10) (by omega) (by omega) (by omega) (by omega)
    refine au 8 ?_
    refine run_rowNil 3 1 fI ?_
    refine run_loopF (σ := Value × Nat) (ks := [3, 25]) (.cons rfl (.cons rfl (.nil))) (fun q => [(9, dVal q.1), (26, dInt .i64 (q.2 : Nat))]) (fun q => [rRow q.1 3 1 fI (List.replicate q.2 p)]) (fun q => q.2 ≤ (n * d).toNat) (fun q => (n * d).toNat - q.2) ((.slice none 0 0, 0)) (Nat.zero_le _) (.cons rfl (by first | exact fun _ _ h => h | exact d_int (by omega) | exact d_int (by simp) | exact d_intN (by omega) | exact d_any) (.cons rfl (by first | exact fun _ _ h => h | exact d_int (by omega) | exact d_int (by simp) | exact d_intN (by omega) | exact d_any) .nil)) (rfl) ?_
    intro q hq ih3
    have hql : (List.replicate q.2 p).length = q.2 := List.length_replicate
    refine au 5 ?_
    refine run_cond rfl (fun h4 => ?_) (fun h4 => ?_)
    ·
     refine au 7 ?_
     refine run_op (loc_buildSlice rfl rfl (.one rfl (.nil)) rfl rfl) rfl ?_
     refine run_append1 rfl (.here) rfl (by rfl) (by rfl) (by first | omega | (simp [lenMax]; omega) | (simp [lenMax]; done) | assumption) (by first | omega | (simp [lenMax]; omega) | (simp [lenMax]; done) | assumption) rfl (fun v5 => ?_)
     refine au 7 ?_
     exact run_againF ih3 ((v5, q.2 + 1)) (by simp only; omega) (by simp only; omega) (.cons rfl (by first | exact fun _ _ h => h | exact d_int (by omega) | exact d_int (by simp) | exact d_intN (by omega) | exact d_any) (.cons rfl (by first | exact fun _ _ h => h | exact d_int (by omega) | exact d_int (by simp) | exact d_intN (by omega) | exact d_any) .nil)) (.cons rfl (fun _ _ x => x) (.cons rfl (fun _ _ x => x) (.nil))) (by simp only [appR]; rw [List.replicate_succ'] )
    ·
     refine au 2 ?_
     refine run_freezeRow (s := 9) rfl (.here) ?_
     refine au 5 ?_
     refine run_ret2P Tryz.func163 rfl rfl rfl ?_
     exact d_tup2 (d_toInts (by unfold limsC; rw [if_pos hE, show (n * d).toNat = q.2 by omega]) (fun _ _ h => h)) (d_int hE.symm)
theorem rlim18_spec (p s d g n : Int) : SpecP Tryz.prog 165 [dAgg [dInt .i64 p], dAgg [dInt .i64 s, dInt .i64 d, dInt .i64 g], dInt .i64 n] (dTup [dInts (limsG p s d g n), dInt .i64 (codRE p s d g n)]) := by
  refine specP_of_body Tryz.func165 rfl rfl (fun I M => ?_)
  refine au 12 ?_
  refine run_op (loc_call (rcod_spec _ _ _ _) rfl) rfl ?_
  refine au 7 ?_
  refine run_cond rfl (fun h1 => ?_) (fun h1 => ?_)
  ·
   have c1 := h1
   refine au 6 ?_
   have hE : codRE p s d g n = codE p s d g := by unfold codRE; rw [if_neg (fun h => c1 h.1)]
   refine run_ret2P Tryz.func165 rfl rfl rfl ?_
   exact d_tup2 (d_toInts (by unfold limsG; rw [if_neg (by rw [hE]; exact c1)]) d_nil) (d_int (hE.trans rfl).symm)
  ·
   have c1 := Classical.not_not.1 h1
   refine au 12 ?_
   refine run_cond rfl (fun h2 => ?_) (fun h2 => ?_)
   ·
    have c2 := h2
    refine au 5 ?_
    have hE : codRE p s d g n = 1 := by unfold codRE; rw [if_pos ⟨c1, by omega⟩]
    refine run_ret2P Tryz.func165 rfl rfl rfl ?_
    exact d_tup2 (d_toInts (by unfold limsG; rw [if_neg (by rw [hE]; omega)]) d_nil) (d_int hE.symm)
   ·
    have c2 := h2
    refine au 7 ?_
    have hE : codRE p s d g n = 0 := by unfold codRE; rw [if_neg (by omega)]; exact c1
    have hz := codE_zero c1
    have hmb := mul_bd (a := n) (b := d) (A := 1024) (B := 10) (by omega) (by omega) (by omega) (by omega)
    refine au 8 ?_
    refine run_rowNil 3 1 fI ?_
    refine run_loopF (σ := Value × Nat) (ks := [3, 25]) (.cons rfl (.cons rfl (.nil))) (fun q => [(9, dVal q.1), (26, dInt .i64 (q.2 : Nat))]) (fun q => [rRow q.1 3 1 fI (List.replicate q.2 p)]) (fun q => q.2 ≤ (n * d).toNat) (fun q => (n * d).toNat - q.2) ((.slice none 0 0, 0)) (Nat.zero_le _) (.cons rfl (by first | exact fun _ _ h => h | exact d_int (by omega) | exact d_int (by simp) | exact d_intN (by omega) | exact d_any) (.cons rfl (by first | exact fun _ _ h => h | exact d_int (by omega) | exact d_int (by simp) | exact d_intN (by omega) | exact d_any) .nil)) (rfl) ?_
    intro q hq ih3
    have hql : (List.replicate q.2 p).length = q.2 := List.length_replicate
    refine au 5 ?_
    refine run_cond rfl (fun h4 => ?_) (fun h4 => ?_)
    ·
     refine au 7 ?_
     refine run_op (loc_buildSlice rfl rfl (.one rfl (.nil)) rfl rfl) rfl ?_
     refine run_append1 rfl (.here) rfl (by rfl) (by rfl) (by first | omega | (simp [lenMax]; omega) | (simp [lenMax]; done) | assumption) (by first | omega | (simp [lenMax]; omega) | (simp [lenMax]; done) | assumption) rfl (fun v5 => ?_)
     refine au 7 ?_
     exact run_againF ih3 ((v5, q.2 + 1)) (by simp only; omega) (by simp only; omega) (.cons rfl (by first | exact fun _ _ h => h | exact d_int (by omega) | exact d_int (by simp) | exact d_intN (by omega) | exact d_any) (.cons rfl (by first | exact fun _ _ h => h | exact d_int (by omega) | exact d_int (by simp) | exact d_intN (by omega) | exact d_any) .nil)) (.cons rfl (fun _ _ x => x) (.cons rfl (fun _ _ x => x) (.nil))) (by simp only [appR]; rw [List.replicate_succ'] )
    ·
     refine au 2 ?_
     refine run_freezeRow (s := 9) rfl (.here) ?_
     refine au 5 ?_
     refine run_ret2P Tryz.func165 rfl rfl rfl ?_
     exact d_tup2 (d_toInts (by unfold limsG; rw [if_pos hE, show (n * d).toNat = q.2 by omega]) (fun _ _ h => h)) (d_int hE.symm)
theorem plan23_spec (s : Schm) : SpecP Tryz.prog 164 [dSchm s] (dAgg [dInt .i64 s.servers, dInt .i64 s.degree]) := by
 refine specP_of_body Tryz.func164 rfl rfl (fun I M => ?_)
 refine au 3 ?_
 refine run_new (loc_allocOwn (by simp)) rfl (fun b1 _ => ?_)
 refine au 10 ?_
 refine run_retGP Tryz.func164 rfl (.cellN rfl (.here) (by rfl) (.nil)) ?_ (fun _ _ h => inv_tail (h))
 exact fun _ _ h => h
theorem sto23_spec (s : Schm) : SpecP Tryz.prog 119 [dSchm s] (dAgg [dInt .i64 s.servers, dInt .i64 s.degree, dInt .i64 s.group]) := by
 refine specP_of_body Tryz.func119 rfl rfl (fun I M => ?_)
 refine au 3 ?_
 refine run_new (loc_allocOwn (by simp)) rfl (fun b1 _ => ?_)
 refine au 12 ?_
 refine run_retGP Tryz.func119 rfl (.cellN rfl (.here) (by rfl) (.nil)) ?_ (fun _ _ h => inv_tail (h))
 exact fun _ _ h => h
theorem rlim23_spec (s : Schm) (p n : Int) : SpecP Tryz.prog 126 [dSchm s, dAgg [dInt .i64 p], dInt .i64 n] (dTup [dInts (limL s p n), dInt .i64 (limE s p n)]) := by
  refine specP_of_body Tryz.func126 rfl rfl (fun I M => ?_)
  refine au 12 ?_
  refine run_op (loc_call (rvalid_spec _ _) rfl) rfl ?_
  refine au 2 ?_
  refine run_cond rfl (fun h1 => ?_) (fun h1 => ?_)
  ·
   have c1 := h1
   have hlk : lookE s p n = 40 := by unfold lookE; rw [if_pos c1]
   refine au 5 ?_
   refine run_ret2P Tryz.func126 rfl rfl rfl ?_
   exact d_tup2 (d_toInts (by unfold limL; rw [if_pos (by omega)]) d_nil) (d_int (by unfold limE; rw [if_pos (by omega), hlk]))
  ·
   have c1 := Classical.not_not.1 h1
   have hbd := shape_bd c1.1
   refine au 12 ?_
   refine run_cond rfl (fun h2 => ?_) (fun h2 => ?_)
   ·
    have c2 := h2
    have hlk : lookE s p n = 1 := by unfold lookE; rw [if_neg (Classical.not_not.2 c1), if_pos (by omega)]
    refine au 5 ?_
    refine run_ret2P Tryz.func126 rfl rfl rfl ?_
    exact d_tup2 (d_toInts (by unfold limL; rw [if_pos (by omega)]) d_nil) (d_int (by unfold limE; rw [if_pos (by omega), hlk]))
   ·
    have c2 := h2
    have hlk : lookE s p n = 0 := lookE_ok c1 (by omega)
    refine au 13 ?_
    refine run_cond rfl (fun h3 => ?_) (fun h3 => ?_)
    ·
     have c3 := h3
     refine au 6 ?_
     refine run_op (loc_call (rlim16_spec _ _ _) rfl) rfl ?_
     refine au 5 ?_
     refine run_ret2P Tryz.func126 rfl rfl rfl ?_
     exact d_tup2 (d_toInts (by unfold limL; rw [if_neg (Classical.not_not.2 hlk), if_pos c3]) (fun _ _ h => h)) (d_int (by unfold limE; rw [if_neg (Classical.not_not.2 hlk), if_pos c3]))
    ·
     have c3 := h3
     refine au 5 ?_
     refine run_cond rfl (fun h4 => ?_) (fun h4 => ?_)
     ·
      have c4 := h4
      refine au 1 ?_
      refine dr_start _ (.none) [⟨[(4, none)], [], none⟩,
          ⟨[(3, none)], [], none⟩,
          ⟨[(32, some (1, false))], [1], none⟩,
          ⟨[(2, none)], [], none⟩,
          ⟨[(31, some (0, false)), (33, some (2, false)), (34, some (3, false))], [0, 1, 2, 3], none⟩,
          ⟨[(35, some (4, false))], [0, 1, 2, 3, 4], none⟩,
          ⟨[(35, some (4, false))], [0, 1, 2, 3, 4], none⟩,
          ⟨[(36, some (5, false))], [0, 1, 2, 3, 4, 5, 6], none⟩,
          ⟨[(37, some (6, false))], [0, 1, 2, 3, 4, 5, 6, 7], none⟩] [] _ rfl rfl ?_
      refine da 2 ?_
      refine dq_pure rfl (fun s => .op rfl (.nil)) (fun s hs _ => loc_call (plan23_spec _) rfl) (by exact .nil) ?_
      refine da 1 ?_
      refine dq_pure rfl (fun s => .op rfl (.op rfl (.op rfl (.nil)))) (fun s hs _ => loc_call (rlim17_spec _ _ _ _) rfl) (by exact .nil) ?_
      refine da 4 ?_
      refine dq_end (rs := []) () rfl (fun _ => rfl) (.nil) rfl (fun _ => rfl) (fun _ _ => ?_)
      dsimp only [outG, outM, List.map, List.set, id]
      refine run_ret2P Tryz.func126 rfl rfl rfl ?_
      exact d_tup2 (d_toInts (by unfold limL; rw [if_neg (Classical.not_not.2 hlk), if_neg c3, if_pos c4]) (fun _ _ h => h)) (d_int (by unfold limE; rw [if_neg (Classical.not_not.2 hlk), if_neg c3, if_pos c4]))
     ·
      have c4 := h4
      refine au 3 ?_
      have hk3 := shape_kind c1.1
      have hun := units_ok (n := n) c1.1 (by omega)
      rw [if_pos (by omega)] at hun
      refine dr_start _ (.none) [⟨[(4, none)], [], none⟩,
          ⟨[(3, none)], [], none⟩,
          ⟨[(39, some (1, false))], [1], none⟩,
          ⟨[(3, none)], [], none⟩,
          ⟨[(2, none)], [], none⟩,
          ⟨[(41, some (3, false)), (42, some (4, false))], [1, 2, 3, 4], none⟩,
          ⟨[(38, some (0, false)), (40, some (2, false)), (43, some (5, false))], [0, 1, 2, 3, 4, 5], none⟩,
          ⟨[(44, some (6, false))], [0, 1, 2, 3, 4, 5, 6], none⟩,
          ⟨[(44, some (6, false))], [0, 1, 2, 3, 4, 5, 6], none⟩,
          ⟨[(45, some (7, false))], [0, 1, 2, 3, 4, 5, 6, 7, 8], none⟩,
          ⟨[(46, some (8, false))], [0, 1, 2, 3, 4, 5, 6, 7, 8, 9], none⟩] [] _ rfl rfl ?_
      refine da 2 ?_
      refine dq_pure rfl (fun s => .op rfl (.nil)) (fun s hs _ => loc_call (sto23_spec _) rfl) (by exact .nil) ?_
      refine da 2 ?_
      refine dq_pure rfl (fun s => .op rfl (.op rfl (.nil))) (fun s hs _ => loc_call (runits_spec _ _) rfl) (by exact .nil) ?_
      refine dq_pure rfl (fun s => .op rfl (.op rfl (.op rfl (.nil)))) (fun s hs _ => loc_call (rlim18_spec _ _ _ _ _) rfl) (by exact .nil) ?_
      refine da 4 ?_
      refine dq_end (rs := []) () rfl (fun _ => rfl) (.nil) rfl (fun _ => rfl) (fun _ _ => ?_)
      dsimp only [outG, outM, List.map, List.set, id]
      refine run_ret2P Tryz.func126 rfl rfl rfl ?_
      exact d_tup2 (d_toInts (by unfold limL; rw [if_neg (Classical.not_not.2 hlk), if_neg c3, if_neg c4, ← hun]) (fun _ _ h => h)) (d_int (by unfold limE; rw [if_neg (Classical.not_not.2 hlk), if_neg c3, if_neg c4, ← hun]))
theorem rwlim_spec (s : Schm) (p n k : Int) : SpecP Tryz.prog 80 [dSchm s, dAgg [dInt .i64 p], dInt .i64 n, dInt .i64 k] (dTup [dInts (wlimL s p n k), dInt .i64 (wlimE s p n k)]) := by
  refine specP_of_body Tryz.func80 rfl rfl (fun I M => ?_)
  refine au 12 ?_
  refine run_op (loc_call (rvalid_spec _ _) rfl) rfl ?_
  refine au 2 ?_
  refine run_cond rfl (fun h1 => ?_) (fun h1 => ?_)
  ·
   have c1 := h1
   refine au 5 ?_
   refine run_ret2P Tryz.func80 rfl rfl rfl ?_
   exact d_tup2 (d_toInts (by unfold wlimL wlimE; rw [if_pos c1, if_neg (by omega)]) d_nil) (d_int (by unfold wlimE; rw [if_pos c1]))
  ·
   have c1 := Classical.not_not.1 h1
   refine au 22 ?_
   refine run_cond rfl (fun h2 => ?_) (fun h2 => ?_)
   ·
    have c2 := h2
    refine au 5 ?_
    refine run_ret2P Tryz.func80 rfl rfl rfl ?_
    exact d_tup2 (d_toInts (by unfold wlimL wlimE; rw [if_neg (Classical.not_not.2 c1), if_pos (show ¬ (1 ≤ k ∧ k ≤ 16) ∨ ¬ (1 ≤ n ∧ n ≤ 1024) by omega), if_neg (by omega)]) d_nil) (d_int (by unfold wlimE; rw [if_neg (Classical.not_not.2 c1), if_pos (show ¬ (1 ≤ k ∧ k ≤ 16) ∨ ¬ (1 ≤ n ∧ n ≤ 1024) by omega)]))
   ·
    have c2 := h2
    refine au 11 ?_
    refine run_rowNil 3 1 fI ?_
    have hn : 1 ≤ n ∧ n ≤ 1024 := by omega
    have hwe : wlimE s p n k = 0 := by unfold wlimE; rw [if_neg (Classical.not_not.2 c1), if_neg (by omega)]
    have hlm := lim_ok c1 hn
    have hlb := limN_bd c1 hn
    have hll : (limL s p n).length ≤ 10240 := by rw [hlm.2, List.length_replicate]; omega
    refine run_loopF (σ := Value × Nat) (ks := [2, 3, 4, 5]) (.cons rfl (.cons rfl (.cons rfl (.cons rfl (.nil))))) (fun q => [(10, dVal q.1), (11, dInt .i64 (q.2 : Nat))]) (fun q => [rRow q.1 3 1 fI (reps q.2 (limL s p n))]) (fun q => q.2 ≤ k.toNat) (fun q => k.toNat - q.2) ((.slice none 0 0, 0)) (Nat.zero_le _) (.cons rfl (by first | exact fun _ _ h => h | exact d_int (by omega) | exact d_int (by simp) | exact d_intN (by omega) | exact d_any) (.cons rfl (by first | exact fun _ _ h => h | exact d_int (by omega) | exact d_int (by simp) | exact d_intN (by omega) | exact d_any) .nil)) (rfl) ?_
    intro q hq ih3
    have hrl := reps_len (limL s p n) q.2
    have hmm := Nat.mul_le_mul (show q.2 ≤ 16 by omega) hll
    refine au 7 ?_
    refine run_cond rfl (fun h4 => ?_) (fun h4 => ?_)
    ·
     refine au 8 ?_
     refine run_op (loc_call (rlim23_spec _ _ _) rfl) rfl ?_
     refine au 12 ?_
     refine run_cond rfl (fun h5 => ?_) (fun h5 => ?_)
     · exfalso; exact h5 hlm.1
     ·
      refine au 4 ?_
      refine run_append rfl (.here) rfl (by rfl) (by first | omega | (simp [lenMax]; omega) | (simp [lenMax]; done) | assumption) (by first | omega | (simp [lenMax]; omega) | (simp [lenMax]; done) | assumption) rfl (fun v6 => ?_)
      refine au 8 ?_
      exact run_againF ih3 ((v6, q.2 + 1)) (by simp only; omega) (by simp only; omega) (.cons rfl (by first | exact fun _ _ h => h | exact d_int (by omega) | exact d_int (by simp) | exact d_intN (by omega) | exact d_any) (.cons rfl (by first | exact fun _ _ h => h | exact d_int (by omega) | exact d_int (by simp) | exact d_intN (by omega) | exact d_any) .nil)) (.cons rfl (fun _ _ x => x) (.cons rfl (fun _ _ x => x) (.cons rfl (fun _ _ x => x) (.cons rfl (fun _ _ x => x) (.nil))))) (by simp only [appR]; rw [reps_snoc])
    ·
     refine au 2 ?_
     refine run_freezeRow (s := 10) rfl (.here) ?_
     refine au 5 ?_
     refine run_ret2P Tryz.func80 rfl rfl rfl ?_
     exact d_tup2 (d_toInts (by unfold wlimL; rw [if_pos hwe, show k.toNat = q.2 by omega]) (fun _ _ h => h)) (d_int hwe.symm)
end Go.Q
