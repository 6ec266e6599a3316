/- Contracts of what dice make. -/
import Derived.Test.YtmofkofgpeibiaaGreatQScope
import Derived.Test.YtmofkofgpeibiaaGreatQDice
import Derived.Test.YtmofkofgpeibiaaGreatQRes
import Derived.Test.YtmofkofgpeibiaaGreatQOwn3
import Derived.ProofKit
import Derived.SizedLaws
import Derived.Deep.Matrix
import Derived.Lib.SmallJoins
set_option linter.unusedVariables false
set_option linter.unusedSimpArgs false
namespace Go.Q
open Go.Proofs
open Classical
theorem spec_some {P : Program} {f : FuncId} {Ds : List D} {Min : List Res} {σ : Type} {φ : σ → Prop} {d : σ → D} {Mout : σ → List Res} {d0 : D} {M0 : List Res} (h : Spec P f Ds Min (σ := Unit) (fun _ => True) (fun _ => d0) (fun _ => M0)) (s : σ) (hφ : φ s) (hd : d0 = d s := by rfl) (hM : M0 = Mout s := by rfl) : Spec P f Ds Min φ d Mout := by
 subst hd hM
 intro I F w vs hv hi
 refine (h I F w vs hv hi).mono ?_
 rintro e w' ⟨v, rfl, _, _, J, h1, h2, h3⟩
 exact ⟨v, rfl, s, hφ, J, h1, h2, h3⟩
theorem dfield_spec (b : Nat) (d : Dc) (h : okDc d) : Spec Tryz.prog 7 [dVal (ptr b 0)] [rDc b d] (σ := Int × Dc) (fun s => dieP s.1 ∧ okDc s.2) (fun s => dAgg [dInt .i64 s.1]) (fun s => [rDc b s.2]) := by
 refine spec_of_body Tryz.func7 rfl rfl (fun I F => ?_)
 refine au 1 ?_
 have hv0 := Dc.val_lt (d := d) (n := 4) (by omega)
 have hw0 := Dc.val_nonneg (d := d) (n := 4) (by omega)
 refine au 1 ?_
 refine run_new (loc_allocOwn (by simp)) rfl (fun b1 _ => ?_)
 refine au 3 ?_
 refine run_op (loc_buildSlice rfl rfl (.one rfl (.one rfl (.one rfl (.one rfl (.nil))))) rfl rfl) rfl ?_
 refine au 1 ?_
 refine run_callM rfl (.there (.here)) (pick_spec b _ _ (by assumption) (by omega)) rfl (fun s2 hs2 => ?_)
 refine runL_recast (s := 3) rfl (d_sl (ys := [7, 11, 13, 257]) (h := fI) rfl) ?_
 first | refine run_op (loc_index rfl rfl (by first | omega | assumption | (simp; omega))) rfl ?_ | refine run_op (loc_indexI rfl rfl (by first | omega | assumption | (simp; omega))) rfl ?_
 refine au 4 ?_
 refine run_retG ((([7, 11, 13, 257] : List Int)[(d.val 4).toNat]?.getD default, d.next)) Tryz.func7 rfl (.cellN rfl (.here) (by rfl) (.nil)) ?_ (⟨die_get ⟨hw0, hv0⟩, Dc.next_ok h⟩) (fun _ _ h => h.sub (.cons _ (.cons_cons _ (.refl _))))
 exact fun _ _ h => h
theorem dschemeD_spec (b : Nat) (d : Dc) (h : okDc d) : Spec Tryz.prog 6 [dVal (ptr b 0)] [rDc b d] (σ := Unit) (fun _ => True) (fun _ => dSchm (schV d)) (fun _ => [rDc b (schD d)]) := by
  refine spec_of_body Tryz.func6 rfl rfl (fun I F => ?_)
  refine au 2 ?_
  refine run_new (loc_allocOwn (by simp)) rfl (fun b1 _ => ?_)
  refine au 2 ?_
  have hv0 := Dc.val_lt (d := d) (n := 4) (by omega)
  have hw0 := Dc.val_nonneg (d := d) (n := 4) (by omega)
  have h1 := Dc.next_ok h
  have h2 := Dc.next_ok h1
  have h3 := Dc.next_ok h2
  have hif : okDc (@ite _ (¬ 3 + d.val 4 < 4) (Classical.propDecidable _) d.next.next.next d.next.next) := schI_ok h
  have hv1 := Dc.val_lt (d := d.next) (n := 3) (by omega)
  have hw1 := Dc.val_nonneg (d := d.next) (n := 3) (by omega)
  have hv2 := Dc.val_lt (d := d.next.next) (n := 2) (by omega)
  have hw2 := Dc.val_nonneg (d := d.next.next) (n := 2) (by omega)
  have hvi := Dc.val_lt (d := @ite _ (¬ 3 + d.val 4 < 4) (Classical.propDecidable _) d.next.next.next d.next.next) (n := 2) (by omega)
  have hwi := Dc.val_nonneg (d := @ite _ (¬ 3 + d.val 4 < 4) (Classical.propDecidable _) d.next.next.next d.next.next) (n := 2) (by omega)
  refine au 2 ?_
  refine run_callM rfl (.there (.here)) (pick_spec b _ _ (by assumption) (by omega)) rfl (fun s2 hs2 => ?_)
  first | refine run_op (loc_add rfl rfl (by first | omega | assumption | (simp; omega))) rfl ?_ | refine run_op (loc_addW rfl rfl) rfl ?_
  refine au 6 ?_
  refine run_callM rfl (.there (.here)) (pick_spec b _ _ (by assumption) (by omega)) rfl (fun s3 hs3 => ?_)
  refine au 7 ?_
  refine run_cond rfl (fun h4 => ?_) (fun h4 => ?_)
  ·
   have k1 := h4
   refine au 6 ?_
   refine run_retG (()) Tryz.func6 rfl (.cellN rfl (.here) (by rfl) (.nil)) ?_ (trivial) (fun I w h => by rw [show schD d = _ by unfold schD; rw [if_pos k1]]; exact (fun _ _ h => h.sub (.cons _ (.cons_cons _ (.refl _)))) I w h)
   exact d_eq (by unfold schV; rw [if_pos k1] <;> rfl)
  ·
   have k1 := h4
   refine au 5 ?_
   refine run_cond rfl (fun h5 => ?_) (fun h5 => ?_)
   ·
    have k2 := h5
    refine au 4 ?_
    refine run_callM rfl (.there (.here)) (pick_spec b _ _ (by assumption) (by omega)) rfl (fun s6 hs6 => ?_)
    first | refine run_op (loc_add rfl rfl (by first | omega | assumption | (simp; omega))) rfl ?_ | refine run_op (loc_addW rfl rfl) rfl ?_
    refine au 3 ?_
    refine run_retG (()) Tryz.func6 rfl (.cellN rfl (.here) (by rfl) (.nil)) ?_ (trivial) (fun I w h => by rw [show schD d = _ by unfold schD; rw [if_neg k1, if_pos k2]]; exact (fun _ _ h => h.sub (.cons _ (.cons_cons _ (.refl _)))) I w h)
    exact d_eq (by unfold schV; rw [if_neg k1, if_pos k2] <;> rfl)
   ·
    have k2 := h5
    refine au 9 ?_
    refine run_gopM (rDc b) rfl rfl gdI.ok (fun hg => loc_callM (pick_spec b _ _ (by assumption) (by omega)) rfl) rfl (.there (.here)) ?_
    refine au 4 ?_
    refine run_cond rfl (fun h7 => ?_) (fun h7 => ?_)
    ·
     have k3 := h7
     refine au 4 ?_
     refine run_callM rfl (.there (.here)) (pick_spec b _ _ (by assumption) (by omega)) rfl (fun s8 hs8 => ?_)
     first | refine run_op (loc_add rfl rfl (by first | omega | assumption | (simp; omega))) rfl ?_ | refine run_op (loc_addW rfl rfl) rfl ?_
     refine au 3 ?_
     refine run_retG (()) Tryz.func6 rfl (.cellN rfl (.here) (by rfl) (.nil)) ?_ (trivial) (fun I w h => by rw [show schD d = _ by unfold schD; rw [if_neg k1, if_neg k2, if_pos k3]]; exact (fun _ _ h => h.sub (.cons _ (.cons_cons _ (.refl _)))) I w h)
     exact d_eq (by unfold schV; rw [if_neg k1, if_neg k2, if_pos k3] <;> rfl)
    ·
     have k3 := h7
     refine au 7 ?_
     refine run_retG (()) Tryz.func6 rfl (.cellN rfl (.here) (by rfl) (.nil)) ?_ (trivial) (fun I w h => by rw [show schD d = _ by unfold schD; rw [if_neg k1, if_neg k2, if_neg k3]]; exact (fun _ _ h => h.sub (.cons _ (.cons_cons _ (.refl _)))) I w h)
     exact d_eq (by unfold schV; rw [if_neg k1, if_neg k2, if_neg k3] <;> rfl)
theorem dscheme_spec (b : Nat) (d : Dc) (h : okDc d) : Spec Tryz.prog 6 [dVal (ptr b 0)] [rDc b d] (σ := Schm × Dc) (fun s => dieS s.1 ∧ okDc s.2) (fun s => dSchm s.1) (fun s => [rDc b s.2]) :=
 spec_some (dschemeD_spec b d h) (schV d, schD d) ⟨schV_die d, schD_ok h⟩
theorem dtape_spec (b : Nat) (d : Dc) (h : okDc d) (ls : List Int) (hl : ls.length ≤ 100000) (hlo : ∀ l ∈ ls, 1 ≤ l) : Spec Tryz.prog 15 [dVal (ptr b 0), dInts ls] [rDc b d] (σ := Tape × Dc) (fun s => dieTp ls s.1 ∧ okDc s.2) (fun s => dTape s.1) (fun s => [rDc b s.2]) := by
  refine spec_of_body Tryz.func15 rfl rfl (fun I F => ?_)
  refine au 2 ?_
  refine run_new (loc_allocOwn (by simp)) rfl (fun b4 _ => ?_)
  refine au 3 ?_
  refine run_new (loc_allocOwn (by simp)) rfl (fun b5 _ => ?_)
  refine au 7 ?_
  refine run_rowNil 3 1 fI ?_
  refine run_cellsUp (kk := 0) (b := b5) (dVal (.slice none 0 0)) (dSlV (.slice none 0 0)) (.there (.here)) rfl (fun J u h => ⟨h, _, _, _, h⟩) ?_
  refine run_front (.there (.there (.there (.here)))) ?_
  refine run_front (.there (.here)) ?_
  refine run_front (.there (.there (.here))) ?_
  refine run_loopF (σ := Value × List Int × Dc) (ks := [0, 1, 4, 5]) (.cons rfl (.cons rfl (.cons rfl (.cons rfl (.nil))))) (fun q => [(6, dInt .i64 (q.2.1.length : Nat))]) (fun q => [rCells b5 50 [dSlV q.1, dInt .i64 0], rRow q.1 3 1 fI q.2.1, rDc b q.2.2]) (fun q => q.2.1.length ≤ ls.length ∧ (∀ j, j < q.2.1.length → 0 ≤ q.2.1[j]?.getD default ∧ q.2.1[j]?.getD default < ls[j]?.getD default) ∧ okDc q.2.2) (fun q => ls.length - q.2.1.length) ((.slice none 0 0, [], d)) (⟨Nat.zero_le _, fun j hj => by simp at hj, h⟩) (.cons rfl (d_int rfl) .nil) (rfl) ?_
  rintro q ⟨hql, hall, hok⟩ ih1
  have hok1 := Dc.next_ok hok
  have hv0 := Dc.val_lt (d := q.2.2) (n := 256) (by omega)
  have hw0 := Dc.val_nonneg (d := q.2.2) (n := 256) (by omega)
  have hv1 := Dc.val_lt (d := q.2.2.next) (n := 5) (by omega)
  have hw1 := Dc.val_nonneg (d := q.2.2.next) (n := 5) (by omega)
  have hmm := mul_bd (a := 7 * (q.2.1.length : Int)) (b := q.2.2.next.val 5) (A := 700000) (B := 5) (by omega) (by omega) (by omega) (by omega)
  refine au 5 ?_
  first | refine runL_fact (s := 8) rfl (fun _ _ h => dSl_len h) (fun hlen2 => ?_) | skip
  refine au 3 ?_
  refine run_cond rfl (fun h3 => ?_) (fun h3 => ?_)
  ·
   have hl1 := hlo (ls[q.2.1.length]?.getD default) (getD_mem (by omega))
   have hxb := mod_bd (q.2.2.val 256 + 7 * (q.2.1.length : Int) * q.2.2.next.val 5) (show 0 < ls[q.2.1.length]?.getD default by omega)
   refine au 3 ?_
   refine dr_start _ (.one (σ := Value) 16 (fun _ => True)) [⟨[(5, none)], [], none⟩,
       ⟨[(13, some (0, false))], [0], some (0, 0, false)⟩,
       ⟨[(0, none)], [], none⟩,
       ⟨[(15, some (2, false))], [2], some (2, 0, true)⟩,
       ⟨[(6, none)], [], none⟩,
       ⟨[(17, some (4, false))], [4], none⟩,
       ⟨[(0, none)], [], none⟩,
       ⟨[(19, some (6, false))], [2, 3, 6], some (2, 1, true)⟩,
       ⟨[(18, some (5, false)), (20, some (7, false))], [2, 3, 4, 5, 6, 7], none⟩,
       ⟨[(16, some (3, false)), (21, some (8, false))], [2, 3, 4, 5, 6, 7, 8], none⟩,
       ⟨[(1, none)], [], none⟩,
       ⟨[(6, none)], [], none⟩,
       ⟨[(23, some (10, false)), (24, some (11, false))], [10, 11], none⟩,
       ⟨[(25, some (12, false))], [10, 11, 12], none⟩,
       ⟨[(22, some (9, false)), (26, some (13, false))], [2, 3, 4, 5, 6, 7, 8, 9, 10, 11, 12, 13], none⟩,
       ⟨[(27, some (14, false))], [2, 3, 4, 5, 6, 7, 8, 9, 10, 11, 12, 13, 14], none⟩,
       ⟨[(14, some (1, false)), (28, some (15, false))], [0, 1, 2, 3, 4, 5, 6, 7, 8, 9, 10, 11, 12, 13, 14, 15], some (1, 0, true)⟩,
       ⟨[(5, none)], [0, 1, 2, 3, 4, 5, 6, 7, 8, 9, 10, 11, 12, 13, 14, 15, 16], none⟩,
       ⟨[(30, some (17, false)), (29, some (16, false))], [0, 1, 2, 3, 4, 5, 6, 7, 8, 9, 10, 11, 12, 13, 14, 15, 16, 17], some (0, 0, true)⟩] [_, _, _, _] _ rfl rfl ?_
   refine da 1 ?_
   first | refine dq_read rfl (fun s => .op rfl (.nil)) rfl rfl (fun s hs _ hm => LocP.upV (loc_loadOwn1 rfl hm (by rfl))) (by exact .cons (.inr fun _ _ _ => rfl) (.nil)) ?_ | refine dq_read rfl (fun s => .op rfl (.nil)) rfl rfl (fun s hs _ hm => loc_loadOwn1 rfl hm (by rfl)) (by exact .cons (.inr fun _ _ _ => rfl) (.nil)) ?_
   refine da 1 ?_
   refine dq_write rfl (fun s => .op rfl (.nil)) rfl rfl (fun s hs => loc_callM (pick_spec b _ _ (by assumption) (by omega)) rfl) (by exact .cons (.inr fun _ _ _ => ⟨rfl, rfl⟩) (.nil)) ?_
   refine da 1 ?_
   first | refine dq_pure rfl (fun s => .op rfl (.nil)) (fun s hs _ => loc_mul rfl rfl (by first | omega | assumption | (simp; omega))) (by exact .cons (.inr fun _ _ _ => rfl) (.nil)) ?_ | refine dq_pure rfl (fun s => .op rfl (.nil)) (fun s hs _ => loc_mulW rfl rfl) (by exact .cons (.inr fun _ _ _ => rfl) (.nil)) ?_
   refine da 1 ?_
   refine dq_write rfl (fun s => .op rfl (.nil)) rfl rfl (fun s hs => loc_callM (pick_spec b _ _ (by assumption) (by omega)) rfl) (by exact .cons (.inr fun _ _ _ => ⟨rfl, rfl⟩) (.nil)) ?_
   first | refine dq_pure rfl (fun s => .op rfl (.op rfl (.nil))) (fun s hs _ => loc_mul rfl rfl (by first | omega | assumption | (simp; omega))) (by exact .cons (.inr fun _ _ _ => rfl) (.nil)) ?_ | refine dq_pure rfl (fun s => .op rfl (.op rfl (.nil))) (fun s hs _ => loc_mulW rfl rfl) (by exact .cons (.inr fun _ _ _ => rfl) (.nil)) ?_
   first | refine dq_pure rfl (fun s => .op rfl (.op rfl (.nil))) (fun s hs _ => loc_add rfl rfl (by first | omega | assumption | (simp; omega))) (by exact .cons (.inr fun _ _ _ => rfl) (.nil)) ?_ | refine dq_pure rfl (fun s => .op rfl (.op rfl (.nil))) (fun s hs _ => loc_addW rfl rfl) (by exact .cons (.inr fun _ _ _ => rfl) (.nil)) ?_
   refine da 2 ?_
   first | refine dq_pure rfl (fun s => .op rfl (.op rfl (.nil))) (fun s hs _ => loc_index rfl rfl (by first | omega | assumption | (simp; omega))) (by exact .cons (.inr fun _ _ _ => rfl) (.nil)) ?_ | refine dq_pure rfl (fun s => .op rfl (.op rfl (.nil))) (fun s hs _ => loc_indexI rfl rfl (by first | omega | assumption | (simp; omega))) (by exact .cons (.inr fun _ _ _ => rfl) (.nil)) ?_
   refine da 1 ?_
   first | refine dq_pure rfl (fun s => .op rfl (.op rfl (.nil))) (fun s hs _ => loc_rem rfl rfl (by first | omega | assumption | (simp; omega))) (by exact .cons (.inr fun _ _ _ => rfl) (.nil)) ?_ | refine dq_pure rfl (fun s => .op rfl (.op rfl (.nil))) (fun s hs _ => loc_remW rfl rfl (by first | omega | assumption | (simp; omega))) (by exact .cons (.inr fun _ _ _ => rfl) (.nil)) ?_
   refine dq_pure rfl (fun s => .op rfl (.nil)) (fun s hs _ => loc_buildSlice rfl rfl (.one rfl (.nil)) rfl rfl) (by exact .cons (.inr fun _ _ _ => rfl) (.nil)) ?_
   refine dq_choose id (fun _ t => t) rfl (fun _ _ => ⟨rfl, id, trivial⟩) (fun s => .op rfl (.op rfl (.nil))) rfl rfl (fun s hs => LocM.rowV (loc_append1 _ rfl rfl rfl rfl (by first | omega | (simp [lenMax]; omega) | (simp [lenMax]; done) | assumption) (by first | omega | (simp [lenMax]; omega) | (simp [lenMax]; done) | assumption))) (by exact .cons (.inl rfl) (.nil)) (fun _ _ => rfl) ?_
   refine da 1 ?_
   refine dq_write0 rfl (fun s => .op rfl (.op rfl (.nil))) rfl rfl (fun s hs => loc_store1 rfl rfl rfl) (by exact .cons (.inl rfl) (.nil)) ?_
   refine dq_end (rs := [_, _, _, _]) (.bool true) rfl (fun _ => rfl) (.cons rfl (.nil)) rfl (fun _ => rfl) (fun v9 _ => ?_)
   dsimp only [outG, outM, List.map, List.set, id]
   refine au 3 ?_
   first | refine run_op (loc_add rfl rfl (by first | omega | assumption | (simp; omega))) rfl ?_ | refine run_op (loc_addW rfl rfl) rfl ?_
   refine au 2 ?_
   exact run_againF ih1 ((v9, q.2.1 ++ [(q.2.2.val 256 + 7 * (q.2.1.length : Int) * q.2.2.next.val 5) % (ls[q.2.1.length]?.getD default)], q.2.2.next.next)) (⟨by simp only [List.length_append, List.length_singleton]; omega, snoc_all hall hxb, Dc.next_ok hok1⟩) (by simp only [List.length_append, List.length_singleton]; omega) (.cons rfl (d_int (by simp only [List.length_append, List.length_singleton]; omega)) .nil) (.cons rfl (fun _ _ x => x) (.cons rfl (fun _ _ x => x) (.cons rfl (fun _ _ x => x) (.cons rfl (fun _ _ x => x) (.nil))))) (rfl)
  ·
   refine au 2 ?_
   first | refine run_freezeRowCellV (kk := 0) (.there (.here)) (.here) rfl ?_ | refine run_freezeRowCell (kk := 0) (.there (.here)) (.here) rfl ?_
   refine au 4 ?_
   refine run_retG ((⟨q.2.1, 0⟩, q.2.2)) Tryz.func15 rfl (.cellN rfl (.there (.there (.here))) (by rfl) (.nil)) ?_ (⟨⟨rfl, by simp only; omega, fun j hj => hall j (by omega)⟩, hok⟩) (fun _ _ h => h.sub (.cons _ (.cons_cons _ (.cons _ (.refl _)))))
   exact fun _ _ h => h
end Go.Q

namespace Go.Q
open Go.Proofs
open Classical
theorem dhashing_spec (b : Nat) (d : Dc) (h : okDc d) : Spec Tryz.prog 8 [dVal (ptr b 0)] [rDc b d] (σ := Hsh × Dc) (fun s => okH s.1 ∧ (2 ≤ s.1.m ∧ s.1.m ≤ 6) ∧ okDc s.2) (fun s => dHsh s.1) (fun s => [rDc b s.2]) := by
  refine spec_of_body Tryz.func8 rfl rfl (fun I F => ?_)
  refine au 2 ?_
  refine run_new (loc_allocOwn (by simp)) rfl (fun b1 _ => ?_)
  refine au 2 ?_
  have h1 := Dc.next_ok h
  have h2 := Dc.next_ok h1
  have hv0 := Dc.val_lt (d := d) (n := 5) (by omega)
  have hw0 := Dc.val_nonneg (d := d) (n := 5) (by omega)
  have hv1 := Dc.val_lt (d := d.next) (n := 3) (by omega)
  have hw1 := Dc.val_nonneg (d := d.next) (n := 3) (by omega)
  refine au 2 ?_
  refine run_callM rfl (.there (.here)) (pick_spec b _ _ (by assumption) (by omega)) rfl (fun s2 hs2 => ?_)
  first | refine run_op (loc_add rfl rfl (by first | omega | assumption | (simp; omega))) rfl ?_ | refine run_op (loc_addW rfl rfl) rfl ?_
  refine au 1 ?_
  refine run_new (loc_allocOwn (by simp)) rfl (fun b3 _ => ?_)
  refine au 6 ?_
  refine run_callM rfl (.there (.there (.here))) (pick_spec b _ _ (by assumption) (by omega)) rfl (fun s3 hs3 => ?_)
  first | refine run_op (loc_add rfl rfl (by first | omega | assumption | (simp; omega))) rfl ?_ | refine run_op (loc_addW rfl rfl) rfl ?_
  refine au 3 ?_
  refine run_cellsUp (kk := 1) (b := b3) (dVal (.slice none 0 0)) (dSlV (.slice none 0 0)) (.here) rfl (fun J u h => ⟨h, _, _, _, h⟩) ?_
  refine run_rowNil 60 2 cSh ?_
  refine run_front (.there (.there (.there (.here)))) ?_
  refine run_front (.there (.here)) ?_
  refine run_front (.there (.there (.here))) ?_
  refine run_loopF (σ := Value × List (Int × Int) × Dc) (ks := [0, 2, 3]) (.cons rfl (.cons rfl (.cons rfl (.nil)))) (fun q => [(4, dInt .i64 (1 + d.next.val 3 - (q.2.1.length : Nat)))]) (fun q => [rCells b3 34 [dInt .i64 (2 + d.val 5), dSlV q.1], rRow q.1 60 2 cSh q.2.1, rDc b q.2.2]) (fun q => (q.2.1.length : Int) ≤ 1 + d.next.val 3 ∧ (∀ x ∈ q.2.1, okSh x) ∧ okDc q.2.2) (fun q => (1 + d.next.val 3).toNat - q.2.1.length) ((.slice none 0 0, [], d.next.next)) (⟨by simp; omega, fun x hx => (by cases hx), h2⟩) (.cons rfl (d_int (by simp)) .nil) (rfl) ?_
  rintro q ⟨hl, hall, hok⟩ ih4
  have hok1 := Dc.next_ok hok
  have hv8 := Dc.val_lt (d := q.2.2) (n := 50) (by omega)
  have hw8 := Dc.val_nonneg (d := q.2.2) (n := 50) (by omega)
  have hv9 := Dc.val_lt (d := q.2.2.next) (n := 50) (by omega)
  have hw9 := Dc.val_nonneg (d := q.2.2.next) (n := 50) (by omega)
  refine au 6 ?_
  refine run_cond rfl (fun h5 => ?_) (fun h5 => ?_)
  ·
   refine au 3 ?_
   refine dr_start _ (.one (σ := Value) 9 (fun _ => True)) [⟨[(3, none)], [], none⟩,
       ⟨[(16, some (0, false))], [0], some (0, 0, false)⟩,
       ⟨[(0, none)], [], none⟩,
       ⟨[(18, some (2, false))], [2], some (2, 0, true)⟩,
       ⟨[(19, some (3, false))], [2, 3], none⟩,
       ⟨[(0, none)], [], none⟩,
       ⟨[(21, some (5, false))], [2, 3, 5], some (2, 1, true)⟩,
       ⟨[(20, some (4, false)), (22, some (6, false))], [2, 3, 4, 5, 6], none⟩,
       ⟨[(23, some (7, false))], [2, 3, 4, 5, 6, 7], none⟩,
       ⟨[(17, some (1, false)), (24, some (8, false))], [0, 1, 2, 3, 4, 5, 6, 7, 8], some (1, 0, true)⟩,
       ⟨[(3, none)], [0, 1, 2, 3, 4, 5, 6, 7, 8, 9], none⟩,
       ⟨[(26, some (10, false)), (25, some (9, false))], [0, 1, 2, 3, 4, 5, 6, 7, 8, 9, 10], some (0, 0, true)⟩] [_, _, _, _] _ rfl rfl ?_
   refine da 1 ?_
   first | refine dq_read rfl (fun s => .op rfl (.nil)) rfl rfl (fun s hs _ hm => LocP.upV (loc_loadOwn1 rfl hm (by rfl))) (by exact .cons (.inr fun _ _ _ => rfl) (.nil)) ?_ | refine dq_read rfl (fun s => .op rfl (.nil)) rfl rfl (fun s hs _ hm => loc_loadOwn1 rfl hm (by rfl)) (by exact .cons (.inr fun _ _ _ => rfl) (.nil)) ?_
   refine da 1 ?_
   refine dq_write rfl (fun s => .op rfl (.nil)) rfl rfl (fun s hs => loc_callM (pick_spec b _ _ (by assumption) (by omega)) rfl) (by exact .cons (.inr fun _ _ _ => ⟨rfl, rfl⟩) (.nil)) ?_
   first | refine dq_pure rfl (fun s => .op rfl (.nil)) (fun s hs _ => loc_add rfl rfl (by first | omega | assumption | (simp; omega))) (by exact .cons (.inr fun _ _ _ => rfl) (.nil)) ?_ | refine dq_pure rfl (fun s => .op rfl (.nil)) (fun s hs _ => loc_addW rfl rfl) (by exact .cons (.inr fun _ _ _ => rfl) (.nil)) ?_
   refine da 1 ?_
   refine dq_write rfl (fun s => .op rfl (.nil)) rfl rfl (fun s hs => loc_callM (pick_spec b _ _ (by assumption) (by omega)) rfl) (by exact .cons (.inr fun _ _ _ => ⟨rfl, rfl⟩) (.nil)) ?_
   refine da 1 ?_
   refine dq_pure rfl (fun s => .op rfl (.nil)) (fun s hs _ => loc_buildSlice rfl rfl (.agg rfl (.nil)) rfl rfl) (by exact .cons (.inr fun _ _ _ => rfl) (.nil)) ?_
   refine dq_choose id (fun _ t => t) rfl (fun _ _ => ⟨rfl, id, trivial⟩) (fun s => .op rfl (.op rfl (.nil))) rfl rfl (fun s hs => LocM.rowV (loc_append1 (1 + q.2.2.val 50, q.2.2.next.val 50) rfl rfl rfl rfl (by first | omega | (simp [lenMax]; omega) | (simp [lenMax]; done) | assumption) (by first | omega | (simp [lenMax]; omega) | (simp [lenMax]; done) | assumption))) (by exact .cons (.inl rfl) (.nil)) (fun _ _ => rfl) ?_
   refine da 1 ?_
   refine dq_write0 rfl (fun s => .op rfl (.op rfl (.nil))) rfl rfl (fun s hs => loc_store1 rfl rfl rfl) (by exact .cons (.inl rfl) (.nil)) ?_
   refine dq_end (rs := [_, _, _, _]) (.bool true) rfl (fun _ => rfl) (.cons rfl (.nil)) rfl (fun _ => rfl) (fun v9 _ => ?_)
   dsimp only [outG, outM, List.map, List.set, id]
   refine au 3 ?_
   first | refine run_op (loc_sub rfl rfl (by first | omega | assumption | (simp; omega))) rfl ?_ | refine run_op (loc_subW rfl rfl) rfl ?_
   refine au 2 ?_
   exact run_againF ih4 ((v9, q.2.1 ++ [(1 + q.2.2.val 50, q.2.2.next.val 50)], q.2.2.next.next)) (⟨by simp only [List.length_append, List.length_singleton]; omega, fun x hx => by rcases List.mem_append.1 hx with hx | hx; (· exact hall x hx); (· rw [List.mem_singleton.1 hx]; exact ⟨⟨by simp only; omega, by simp only; omega⟩, by simp only; omega, by simp only; omega⟩), Dc.next_ok hok1⟩) (by simp only [List.length_append, List.length_singleton]; omega) (.cons rfl (d_int (by simp only [List.length_append, List.length_singleton]; omega)) .nil) (.cons rfl (fun _ _ x => x) (.cons rfl (fun _ _ x => x) (.cons rfl (fun _ _ x => x) (.nil)))) (rfl)
  ·
   refine au 2 ?_
   first | refine run_freezeRowCellV (kk := 1) (.there (.here)) (.here) rfl ?_ | refine run_freezeRowCell (kk := 1) (.there (.here)) (.here) rfl ?_
   refine au 4 ?_
   refine run_retG ((⟨2 + d.val 5, q.2.1⟩, q.2.2)) Tryz.func8 rfl (.cellN rfl (.there (.there (.here))) (by rfl) (.nil)) ?_ (⟨⟨⟨by simp only; omega, by simp only; omega⟩, ⟨by simp only; omega, by simp only; omega⟩, hall⟩, ⟨by simp only; omega, by simp only; omega⟩, hok⟩) (fun _ _ h => h.sub (.cons _ (.cons_cons _ (.cons _ (.refl _)))))
   exact fun _ _ h => h
theorem drows34_spec (b : Nat) (d : Dc) (h : okDc d) (n : Int) (hn : 1 ≤ n) : Spec Tryz.prog 11 [dVal (ptr b 0), dInt .i64 n] [rDc b d] (σ := List Int × Dc) (fun s => ((1 ≤ s.1.length ∧ s.1.length ≤ 3) ∧ ∀ r ∈ s.1, 0 ≤ r ∧ r < n) ∧ okDc s.2) (fun s => dInts s.1) (fun s => [rDc b s.2]) := by
  refine spec_of_body Tryz.func11 rfl rfl (fun I F => ?_)
  refine au 10 ?_
  have h1 := Dc.next_ok h
  have hv0 := Dc.val_lt (d := d) (n := 3) (by omega)
  have hw0 := Dc.val_nonneg (d := d) (n := 3) (by omega)
  refine au 2 ?_
  refine run_callM rfl (.here) (pick_spec b _ _ (by assumption) (by omega)) rfl (fun s1 hs1 => ?_)
  first | refine run_op (loc_add rfl rfl (by first | omega | assumption | (simp; omega))) rfl ?_ | refine run_op (loc_addW rfl rfl) rfl ?_
  refine au 3 ?_
  refine run_rowNil 3 1 fI ?_
  refine run_loopF (σ := Value × List Int × Dc) (ks := [0, 1]) (.cons rfl (.cons rfl (.nil))) (fun q => [(5, dVal q.1), (6, dInt .i64 (1 + d.val 3 - (q.2.1.length : Nat)))]) (fun q => [rRow q.1 3 1 fI q.2.1, rDc b q.2.2]) (fun q => (q.2.1.length : Int) ≤ 1 + d.val 3 ∧ (∀ x ∈ q.2.1, 0 ≤ x ∧ x < n) ∧ okDc q.2.2) (fun q => (1 + d.val 3).toNat - q.2.1.length) ((.slice none 0 0, [], d.next)) (⟨by simp; omega, fun x hx => (by cases hx), h1⟩) (.cons rfl (by first | exact fun _ _ h => h | exact d_int (by omega) | exact d_int (by simp) | exact d_intN (by omega) | exact d_any) (.cons rfl (d_int (by simp)) .nil)) (rfl) ?_
  rintro q ⟨hl, hall, hok⟩ ih2
  have hv8 := Dc.val_lt (d := q.2.2) (n := n) (by omega)
  have hw8 := Dc.val_nonneg (d := q.2.2) (n := n) (by omega)
  refine au 6 ?_
  refine run_cond rfl (fun h3 => ?_) (fun h3 => ?_)
  ·
   refine au 7 ?_
   refine run_callM rfl (.there (.here)) (pick_spec b _ _ (by assumption) (by omega)) rfl (fun s4 hs4 => ?_)
   refine run_op (loc_buildSlice rfl rfl (.one rfl (.nil)) rfl rfl) rfl ?_
   refine run_append1 rfl (.here) rfl (by rfl) (by rfl) (by first | omega | (simp [lenMax]; omega) | (simp [lenMax]; done) | assumption) (by first | omega | (simp [lenMax]; omega) | (simp [lenMax]; done) | assumption) rfl (fun v5 => ?_)
   refine au 5 ?_
   first | refine run_op (loc_sub rfl rfl (by first | omega | assumption | (simp; omega))) rfl ?_ | refine run_op (loc_subW rfl rfl) rfl ?_
   refine au 2 ?_
   exact run_againF ih2 ((v5, q.2.1 ++ [q.2.2.val n], q.2.2.next)) (⟨by simp only [List.length_append, List.length_singleton]; omega, fun x hx => by rcases List.mem_append.1 hx with hx | hx; (· exact hall x hx); (· rw [List.mem_singleton.1 hx]; omega), Dc.next_ok hok⟩) (by simp only [List.length_append, List.length_singleton]; omega) (.cons rfl (by first | exact fun _ _ h => h | exact d_int (by omega) | exact d_int (by simp) | exact d_intN (by omega) | exact d_any) (.cons rfl (d_int (by simp only [List.length_append, List.length_singleton]; omega)) .nil)) (.cons rfl (fun _ _ x => x) (.cons rfl (fun _ _ x => x) (.nil))) (rfl)
  ·
   refine au 2 ?_
   refine run_freezeRow (s := 5) rfl (.here) ?_
   refine au 4 ?_
   refine run_ret (q.2) Tryz.func11 rfl rfl ?_ (⟨⟨⟨by omega, by omega⟩, hall⟩, hok⟩) (fun _ _ h => h.sub (.cons_cons _ (.refl _)))
   exact fun _ _ h => h
end Go.Q

namespace Go.Q
def egH : Hsh := ⟨3, [(1, 0), (5, 1)]⟩
theorem egH_ok : okH egH := ⟨⟨by decide, by decide⟩, ⟨by decide, by decide⟩, fun p hp => by
 simp only [egH, List.mem_cons, List.not_mem_nil, or_false] at hp
 rcases hp with rfl | rfl <;> exact ⟨⟨by decide, by decide⟩, by decide, by decide⟩⟩
theorem eg_asg : asgE egH [2, 0] = 0 := by decide
theorem eg_lay : layF egH 4 = [[0, 1, 3], [0, 1, 3], [2]] := by decide
theorem eg_rows : ∀ r ∈ [2, 0], 0 ≤ r ∧ r < ((4 : Nat) : Int) := by decide
theorem eg_ok : BatOk (planB egH 4 [2, 0]) := plan_ok egH_ok (by omega) eg_rows (by decide) eg_asg
theorem eg_bk : (planB egH 4 [2, 0]).bk = [[0, 1, 3], [0, 1, 3], [2]] := by unfold planB; rw [if_pos eg_asg]; exact eg_lay
def egS : Schm := ⟨1, 2, 0, 0⟩
theorem egS_ok : validS egS 7 := by
 refine ⟨?_, okP_7, ?_⟩
 ·unfold shapeS egS; simp
 ·unfold egS; simp
theorem eg_lim : (limT egS 7 (askL (planB egH 4 [2, 0]))).length = 7 := by
 unfold askL
 rw [eg_bk]
 have e : ∀ n, 1 ≤ n ∧ n ≤ 1024 → limL egS 7 n = List.replicate n.toNat 7 := fun n hn => by
  rw [(lim_ok egS_ok hn).2]
  unfold limN egS
  simp
 simp only [askT, limT, List.length_cons, List.length_nil]
 simp [e]
def lenSum (ls : List (List Int)) : Int := ls.foldr (fun l n => (l.length : Int) + n) 0
theorem lenSum_app (a b : List (List Int)) : lenSum (a ++ b) = lenSum a + lenSum b := by
 induction a with
 | nil => simp [lenSum]
 | cons l a ih => unfold lenSum at ih ⊢; rw [List.cons_append, List.foldr_cons, List.foldr_cons, ih]; omega
theorem lenSum_next {ls : List (List Int)} {k : Nat} (h : k < ls.length) : lenSum (ls.take (k + 1)) = lenSum (ls.take k) + ((ls[k]?.getD default).length : Int) := by
 rw [List.take_add_one, List.getElem?_eq_getElem h, lenSum_app]
 simp [lenSum]
theorem eg_sum : lenSum (planB egH 4 [2, 0]).bk = 7 := by rw [eg_bk]; decide
theorem eg_len : (planB egH 4 [2, 0]).bk.length = 3 := by rw [eg_bk]; rfl
theorem eg_part : ∀ k, k < (planB egH 4 [2, 0]).bk.length → 0 ≤ lenSum ((planB egH 4 [2, 0]).bk.take k) ∧ lenSum ((planB egH 4 [2, 0]).bk.take k) ≤ 7 ∧ (((planB egH 4 [2, 0]).bk[k]?.getD default).length : Int) ≤ 3 := by
 rw [eg_bk]; decide
end Go.Q

namespace Go.Q
open Go.Proofs
open Classical
theorem hashing34_spec  : SpecP Tryz.prog 17 [] (dHsh egH) := by
 refine specP_of_body Tryz.func17 rfl rfl (fun I M => ?_)
 refine au 2 ?_
 refine run_new (loc_allocOwn (by simp)) rfl (fun b1 _ => ?_)
 refine au 5 ?_
 refine run_op (loc_buildSlice rfl rfl (.agg rfl (.agg rfl (.nil))) rfl rfl) rfl ?_
 refine runL_recast (s := 3) rfl (d_sl (ys := [((1 : Int), (0 : Int)), (5, 1)]) (h := cSh) rfl) ?_
 refine au 3 ?_
 refine run_retGP Tryz.func17 rfl (.cellN rfl (.here) (by rfl) (.nil)) ?_ (fun _ _ h => inv_tail (h))
 exact fun _ _ h => h
theorem sane34_spec  : SpecP Tryz.prog 4 [] (dB True) := by
  refine specP_of_body Tryz.func4 rfl rfl (fun I M => ?_)
  refine au 6 ?_
  refine run_op (loc_call (hashing34_spec) rfl) rfl ?_
  refine run_op (loc_buildSlice rfl rfl (.one rfl (.one rfl (.nil))) rfl rfl) rfl ?_
  refine runL_recast (s := 12) rfl (d_sl (ys := [2, 0]) (h := fI) rfl) ?_
  refine run_op (loc_call (plan_spec egH egH_ok 4 ⟨by omega, by omega⟩ [2, 0] eg_rows (by decide)) rfl) rfl ?_
  refine au 3 ?_
  refine run_new (loc_allocOwn (by simp)) rfl (fun b1 _ => ?_)
  refine au 7 ?_
  refine run_new (loc_allocOwn (by simp)) rfl (fun b2 _ => ?_)
  refine run_new (loc_allocOwn (by simp)) rfl (fun b3 _ => ?_)
  refine au 8 ?_
  refine run_op (loc_call (blimits_spec egS 7 egS_ok _ eg_ok) rfl) rfl ?_
  refine au 12 ?_
  have hbl := eg_len
  refine au 3 ?_
  first | refine runL_fact (s := 26) rfl (fun _ _ h => dSl_len h) (fun hlen4 => ?_) | skip
  refine au 4 ?_
  refine run_loopC (σ := Nat) (ks := [1, 2, 5, 6, 26, 27]) (.cons rfl (.cons rfl (.cons rfl (.cons rfl (.cons rfl (.cons rfl (.nil))))))) (fun k => [(7, dInt .i64 (lenSum ((planB egH 4 [2, 0]).bk.take k))), (28, dInt .i64 (k : Nat))]) (fun k => k ≤ (planB egH 4 [2, 0]).bk.length) (fun k => (planB egH 4 [2, 0]).bk.length - k) (0) (Nat.zero_le _) (.cons rfl (by first | exact fun _ _ h => h | exact d_int (by omega) | exact d_int (by simp) | exact d_intN (by omega) | exact d_any) (.cons rfl (by first | exact fun _ _ h => h | exact d_int (by omega) | exact d_int (by simp) | exact d_intN (by omega) | exact d_any) .nil)) ?_
  intro k hk ih5
  refine au 5 ?_
  refine run_cond rfl (fun h6 => ?_) (fun h6 => ?_)
  ·
   have hp := eg_part k (by omega)
   refine au 12 ?_
   first | refine runL_fact (s := 33) rfl (fun _ _ h => dSl_len h) (fun hlen7 => ?_) | skip
   refine au 9 ?_
   exact run_againC ih5 (k + 1) (by omega) (by omega) (.cons rfl (d_int (lenSum_next (by omega)).symm) (.cons rfl (by first | exact fun _ _ h => h | exact d_int (by omega) | exact d_int (by simp) | exact d_intN (by omega) | exact d_any) .nil)) (.cons rfl (fun _ _ x => x) (.cons rfl (fun _ _ x => x) (.cons rfl (fun _ _ x => x) (.cons rfl (fun _ _ x => x) (.cons rfl (fun _ _ x => x) (.cons rfl (fun _ _ x => x) (.nil)))))))
  ·
   refine au 26 ?_
   refine run_gop rfl rfl gdI.ok (fun hg => loc_call (bvalid_spec _ eg_ok) rfl) rfl ?_
   refine au 9 ?_
   have hs : lenSum ((planB egH 4 [2, 0]).bk.take k) = 7 := by rw [List.take_of_length_le (by omega)]; exact eg_sum
   refine run_drop (.cons _ (.cons _ (.cons _ (.refl _)))) ?_
   refine run_retP Tryz.func4 rfl rfl ?_
   exact d_B ⟨fun _ => trivial, fun _ => ⟨⟨⟨⟨⟨eg_asg, by rw [eg_len]; rfl⟩, rfl⟩, by rw [eg_lim, hs]; rfl⟩, trivial⟩, by rw [hs]; omega⟩⟩
end Go.Q

namespace Go.Q
structure PlanF (h : Hsh) (n : Nat) (rows : List Int) (B : Bat) : Prop where
 ok : BatOk B
 put : ∀ i : Nat, i < B.it.length → 0 ≤ B.it[i]?.getD default → B.it[i]?.getD default < (rows.length : Int) ∧ (0 ≤ B.pr[i]?.getD default ∧ B.pr[i]?.getD default < ((B.bk[i]?.getD default).length : Int)) ∧ (B.bk[i]?.getD default)[(B.pr[i]?.getD default).toNat]?.getD default = rows[(B.it[i]?.getD default).toNat]?.getD default
 low : ∀ i : Nat, i < B.it.length → ¬ 0 ≤ B.it[i]?.getD default → B.it[i]?.getD default = -1
 one : ∀ j : Nat, j < rows.length → B.it.count (j : Int) = 1
 home : ∀ r : Nat, r < n → ∀ b ∈ homesI h (r : Nat), (0 ≤ b ∧ b < (B.bk.length : Int)) ∧ ((r : Nat) : Int) ∈ B.bk[b.toNat]?.getD default
end Go.Q

namespace Go.Q
open Classical
noncomputable def dN (s : Schm) (bk : List (List Int)) : Nat → Int
 | 0 => 0
 | k + 1 => dN s bk k + if 0 < (bk[k]?.getD default).length then limN s (bk[k]?.getD default).length else 0
noncomputable def bqT (s : Schm) (p : Int) (b : Bat) (t : Tape) : Nat → Tape
 | 0 => t
 | k + 1 => if 0 < (b.bk[k]?.getD default).length then qryT s p (b.bk[k]?.getD default).length (b.pr[k]?.getD default) (bqT s p b t k) else bqT s p b t k
noncomputable def bqQ (s : Schm) (p : Int) (b : Bat) (t : Tape) (k : Nat) : List (List Int) := if 0 < (b.bk[k]?.getD default).length then qryL s p (b.bk[k]?.getD default).length (b.pr[k]?.getD default) (bqT s p b t k) else []
noncomputable def bqL (s : Schm) (p : Int) (b : Bat) (t : Tape) (k : Nat) : List (List (List Int)) := (List.range k).map (bqQ s p b t)
theorem bqL_len (s : Schm) (p : Int) (b : Bat) (t : Tape) (k : Nat) : (bqL s p b t k).length = k := by simp [bqL]
theorem bqL_next (s : Schm) (p : Int) (b : Bat) (t : Tape) (k : Nat) : bqL s p b t (k + 1) = bqL s p b t k ++ [bqQ s p b t k] := by
 unfold bqL; rw [List.range_succ, List.map_append]; rfl
theorem bqL_get {s : Schm} {p : Int} {b : Bat} {t : Tape} {k i : Nat} (h : i < k) : (bqL s p b t k)[i]?.getD default = bqQ s p b t i := by
 unfold bqL; rw [List.getElem?_map, List.getElem?_range h]; rfl
theorem bqT_yes {s : Schm} {p : Int} {b : Bat} {t : Tape} {k : Nat} (h : 0 < (b.bk[k]?.getD default).length) : bqT s p b t (k + 1) = qryT s p (b.bk[k]?.getD default).length (b.pr[k]?.getD default) (bqT s p b t k) := by rw [bqT, if_pos h]
theorem bqT_no {s : Schm} {p : Int} {b : Bat} {t : Tape} {k : Nat} (h : ¬ 0 < (b.bk[k]?.getD default).length) : bqT s p b t (k + 1) = bqT s p b t k := by rw [bqT, if_neg h]
theorem bqQ_yes {s : Schm} {p : Int} {b : Bat} {t : Tape} {k : Nat} (h : 0 < (b.bk[k]?.getD default).length) : bqQ s p b t k = qryL s p (b.bk[k]?.getD default).length (b.pr[k]?.getD default) (bqT s p b t k) := by unfold bqQ; rw [if_pos h]
theorem bqQ_no {s : Schm} {p : Int} {b : Bat} {t : Tape} {k : Nat} (h : ¬ 0 < (b.bk[k]?.getD default).length) : bqQ s p b t k = [] := by unfold bqQ; rw [if_neg h]
theorem bq_skip {s : Schm} {p : Int} {b : Bat} {t : Tape} {k m : Nat} (hk : k < m) (h : ¬ 0 < (b.bk[k]?.getD default).length) : bqL s p b t (k + 1) ++ List.replicate (m - (k + 1)) [] = bqL s p b t k ++ List.replicate (m - k) [] := by
 rw [bqL_next, bqQ_no h, show m - k = (m - (k + 1)) + 1 by omega, List.replicate_succ, List.append_assoc]; rfl
theorem bq_set {s : Schm} {p : Int} {b : Bat} {t : Tape} {k m : Nat} (hk : k < m) (h : 0 < (b.bk[k]?.getD default).length) : bqL s p b t (k + 1) ++ List.replicate (m - (k + 1)) [] = (bqL s p b t k ++ List.replicate (m - k) []).set k (qryL s p (b.bk[k]?.getD default).length (b.pr[k]?.getD default) (bqT s p b t k)) := by
 rw [bqL_next, bqQ_yes h, show m - k = (m - (k + 1)) + 1 by omega, List.replicate_succ, List.set_append_right _ _ (by rw [bqL_len]; exact Nat.le_refl _), bqL_len, Nat.sub_self, List.set_cons_zero, List.append_assoc]; rfl
theorem len_bd {b : Bat} (h : BatOk b) {k : Nat} (hl : 0 < (b.bk[k]?.getD default).length) : 1 ≤ ((b.bk[k]?.getD default).length : Int) ∧ ((b.bk[k]?.getD default).length : Int) ≤ 1024 := by
 by_cases hk : k < b.bk.length
 ·rw [List.getElem?_eq_getElem hk] at hl ⊢
  have := ascB_len (h.asc _ (List.getElem_mem hk))
  simp only [Option.getD_some] at hl ⊢
  omega
 ·rw [List.getElem?_eq_none (by omega)] at hl
  exact absurd hl (by simp [default, instInhabitedList])
theorem dN_step {s : Schm} {p : Int} (hv : validS s p) {b : Bat} (h : BatOk b) (k : Nat) : 0 ≤ dN s b.bk (k + 1) - dN s b.bk k := by
 rw [dN]
 split
 ·rename_i hl
  have := (limN_bd hv (len_bd h hl)).1
  omega
 ·omega
theorem dN_mono {s : Schm} {p : Int} (hv : validS s p) {b : Bat} (h : BatOk b) (k : Nat) : ∀ j, dN s b.bk k ≤ dN s b.bk (k + j)
 | 0 => Int.le_refl _
 | j + 1 => by
  have h1 := dN_mono hv h k j
  have h2 := dN_step hv h (k + j)
  rw [show k + (j + 1) = k + j + 1 by omega]; omega
theorem bq_ok {s : Schm} {p : Int} (hv : validS s p) {b : Bat} (h : BatOk b) {t : Tape} (ht : okTape t) (hd : drawE t p (dN s b.bk b.bk.length) = 0) : ∀ k, k ≤ b.bk.length →
  (bqT s p b t k).numbers = t.numbers ∧ (bqT s p b t k).at' = t.at' + dN s b.bk k ∧ okTape (bqT s p b t k) ∧ drawE (bqT s p b t k) p (dN s b.bk b.bk.length - dN s b.bk k) = 0
 | 0, _ => ⟨rfl, by simp [bqT, dN], ht, by simpa [bqT, dN] using hd⟩
 | k + 1, hk => by
  obtain ⟨h1, h2, h3, h4⟩ := bq_ok hv h ht hd k (by omega)
  by_cases hl : 0 < (b.bk[k]?.getD default).length
  ·have hlb := len_bd h hl
   have hln := (limN_bd hv hlb).1
   have hi := (h.some k (by omega) (by omega)).1
   have hq := qry_ok (t := bqT s p b t k) hv hlb hi
   have hm := dN_mono hv h (k + 1) (b.bk.length - (k + 1))
   rw [show k + 1 + (b.bk.length - (k + 1)) = b.bk.length by omega] at hm
   have e1 : dN s b.bk (k + 1) = dN s b.bk k + limN s (b.bk[k]?.getD default).length := by rw [dN, if_pos hl]
   have e2 : dN s b.bk b.bk.length - dN s b.bk k = limN s (b.bk[k]?.getD default).length + (dN s b.bk b.bk.length - dN s b.bk (k + 1)) := by omega
   have hda : drawE (bqT s p b t k) p (limN s (b.bk[k]?.getD default).length) = 0 := by
    by_cases hx : drawE (bqT s p b t k) p (limN s (b.bk[k]?.getD default).length) = 0
    ·exact hx
    ·rw [e2, drawE_stop hln (by omega) hx] at h4; exact absurd h4 hx
   rw [bqT_yes hl, (hq.2 hda).1]
   obtain ⟨e3, e4⟩ := drawT_ok hda
   rw [e2, drawE_sum hln (by omega) hda] at h4
   refine ⟨by rw [e3]; exact h1, by rw [e3, e1]; simp only; omega, e4, h4⟩
  ·have e1 : dN s b.bk (k + 1) = dN s b.bk k := by rw [dN, if_neg hl, Int.add_zero]
   rw [bqT_no hl, e1]
   exact ⟨h1, h2, h3, h4⟩
theorem bq_draw {s : Schm} {p : Int} (hv : validS s p) {b : Bat} (h : BatOk b) {t : Tape} (ht : okTape t) (hd : drawE t p (dN s b.bk b.bk.length) = 0) {k : Nat} (hk : k < b.bk.length) (hl : 0 < (b.bk[k]?.getD default).length) : drawE (bqT s p b t k) p (limN s (b.bk[k]?.getD default).length) = 0 := by
 obtain ⟨h1, h2, h3, h4⟩ := bq_ok hv h ht hd k (by omega)
 have hlb := len_bd h hl
 have hln := (limN_bd hv hlb).1
 have hm := dN_mono hv h (k + 1) (b.bk.length - (k + 1))
 rw [show k + 1 + (b.bk.length - (k + 1)) = b.bk.length by omega] at hm
 have e1 : dN s b.bk (k + 1) = dN s b.bk k + limN s (b.bk[k]?.getD default).length := by rw [dN, if_pos hl]
 by_cases hx : drawE (bqT s p b t k) p (limN s (b.bk[k]?.getD default).length) = 0
 ·exact hx
 ·rw [show dN s b.bk b.bk.length - dN s b.bk k = limN s (b.bk[k]?.getD default).length + (dN s b.bk b.bk.length - dN s b.bk (k + 1)) by omega, drawE_stop hln (by omega) hx] at h4
  exact absurd h4 hx
theorem bqQ_ok {s : Schm} {p : Int} (hv : validS s p) {b : Bat} (h : BatOk b) {t : Tape} (ht : okTape t) (hd : drawE t p (dN s b.bk b.bk.length) = 0) {k : Nat} (hk : k < b.bk.length) :
  ((bqQ s p b t k).length : Int) = (if 0 < (b.bk[k]?.getD default).length then s.servers else 0) ∧ ∀ q ∈ bqQ s p b t k, (q.length : Int) = unitsS s (b.bk[k]?.getD default).length := by
 by_cases hl : 0 < (b.bk[k]?.getD default).length
 ·have hi := (h.some k hk (by omega)).1
  have hq := (qry_ok (t := bqT s p b t k) hv (len_bd h hl) hi).2 (bq_draw hv h ht hd hk hl)
  rw [bqQ_yes hl, if_pos hl]
  exact hq.2
 ·rw [bqQ_no hl, if_neg hl]
  exact ⟨rfl, fun q hq => by cases hq⟩
theorem lim_dN {s : Schm} {p : Int} (hv : validS s p) {b : Bat} (h : BatOk b) : ∀ k, ((limT s p (askT b.bk b.pr k)).length : Int) = dN s b.bk k
 | 0 => rfl
 | k + 1 => by
  have ih := lim_dN hv h k
  unfold limT at ih ⊢
  rw [askT, dN, List.flatMap_append, List.length_append]
  split
  ·rename_i hl
   have hlb := len_bd h hl
   have h2 := (lim_ok hv hlb).2
   have h3 := limN_bd hv hlb
   simp only [List.flatMap_cons, List.flatMap_nil, List.append_nil]
   rw [h2, List.length_replicate]
   omega
  ·simp only [List.flatMap_nil, List.length_nil]; omega
theorem lim_rep {s : Schm} {p : Int} (hv : validS s p) {b : Bat} (h : BatOk b) : limT s p (askL b) = List.replicate (dN s b.bk b.bk.length).toNat p := by
 have h1 := lim_dN hv h b.bk.length
 refine List.eq_replicate_iff.2 ⟨?_, limT_all hv fun q hq => ask_bd h hq⟩
 unfold askL
 omega
theorem limN_few {s : Schm} {n : Int} (hs : dieS s) (hn : 1 ≤ n ∧ n ≤ 6) : 0 ≤ limN s n ∧ limN s n ≤ 36 := by
 obtain ⟨h1, h2⟩ := hs
 have hb := shape_bd h1
 have hk := shape_kind h1
 have hs := h1
 unfold shapeS at hs
 unfold limN
 split
 ·have := mul_bd (a := n) (b := s.servers - 1) (A := 6) (B := 6) (by omega) (by omega) (by omega) (by omega); omega
 ·split
  ·have := mul_bd (a := n) (b := s.degree) (A := 6) (B := 6) (by omega) (by omega) (by omega) (by omega); omega
  ·have hg : 1 ≤ s.group := by omega
   have h3 : 1 ≤ (n + s.group - 1) / s.group := (Int.le_ediv_iff_mul_le (by omega)).2 (by omega)
   have h4 : (n + s.group - 1) / s.group ≤ n := by
    have h5 : (n + s.group - 1) / s.group < n + 1 := (Int.ediv_lt_iff_lt_mul (by omega)).2 (by
     have h6 : 0 ≤ n * (s.group - 1) := Int.mul_nonneg (by omega) (by omega)
     rw [Int.mul_sub] at h6; rw [Int.add_mul]; omega)
    omega
   have := mul_bd (a := (n + s.group - 1) / s.group) (b := s.degree) (A := 6) (B := 6) (by omega) (by omega) (by omega) (by omega); omega
theorem dN_few {s : Schm} (hs : dieS s) {bk : List (List Int)} (hl : ∀ l ∈ bk, l.length ≤ 6) : ∀ k : Nat, 0 ≤ dN s bk k ∧ dN s bk k ≤ 36 * (k : Int)
 | 0 => by simp [dN]
 | k + 1 => by
  have ih := dN_few hs hl k
  rw [dN]
  split
  ·rename_i h0
   have h6 : (bk[k]?.getD default).length ≤ 6 := by
    by_cases hk : k < bk.length
    ·rw [List.getElem?_eq_getElem hk]; exact hl _ (List.getElem_mem hk)
    ·rw [List.getElem?_eq_none (by omega)]; simp [default, instInhabitedList]
   have := limN_few hs (n := ((bk[k]?.getD default).length : Int)) (by omega)
   omega
  ·omega
theorem plan_bk {h : Hsh} {n : Nat} {rows : List Int} (he : asgE h rows = 0) : (planB h n rows).bk = layF h n := by unfold planB; rw [if_pos he]
theorem lay_few {h : Hsh} {n : Nat} (hn : n ≤ 6) : ∀ l ∈ layF h n, l.length ≤ 6 := fun l hl => by
 have := (layF_ok h n).len (by omega) hl
 omega
theorem lim_same {s : Schm} {p : Int} {a b : Bat} (h : a.bk = b.bk) : limT s p (askL a) = limT s p (askL b) := by
 unfold askL; rw [h]; exact limT_fst _ _ (ask_fst ..)
end Go.Q

namespace Go.Q
open Classical

end Go.Q

namespace Go.Q
open Go.Proofs
open Classical
abbrev fQ (x : List (List Int)) : List D := [dRows x]
abbrev dQs (xs : List (List (List Int))) : D := dSl 1 fQ xs
theorem ints34_spec (xs ys : List Int) : SpecP Tryz.prog 13 [dInts xs, dInts ys] (dB (xs = ys)) := by
  refine specP_of_body Tryz.func13 rfl rfl (fun I M => ?_)
  refine au 8 ?_
  first | refine runL_fact (s := 6) rfl (fun _ _ h => dSl_len h) (fun hlen1 => ?_) | skip
  refine au 2 ?_
  first | refine runL_fact (s := 8) rfl (fun _ _ h => dSl_len h) (fun hlen2 => ?_) | skip
  refine au 3 ?_
  refine run_cond rfl (fun h3 => ?_) (fun h3 => ?_)
  ·
   refine au 4 ?_
   refine run_retP Tryz.func13 rfl rfl ?_
   exact d_B ⟨False.elim, fun h => by subst h; omega⟩
  ·
   refine au 7 ?_
   refine run_loopC (σ := Nat) (ks := [0, 1]) (.cons rfl (.cons rfl (.nil))) (fun k => [(5, dInt .i64 (k : Nat))]) (fun k => k ≤ xs.length ∧ (∀ j, j < k → xs[j]?.getD default = ys[j]?.getD default)) (fun k => xs.length - k) (0) (⟨by omega, fun j hj => by omega⟩) (.cons rfl (by first | exact fun _ _ h => h | exact d_int (by omega) | exact d_int (by simp) | exact d_intN (by omega) | exact d_any) .nil) ?_
   rintro k ⟨hk, hbk⟩ ih4
   refine au 5 ?_
   first | refine runL_fact (s := 12) rfl (fun _ _ h => dSl_len h) (fun hlen5 => ?_) | skip
   refine au 3 ?_
   refine run_cond rfl (fun h6 => ?_) (fun h6 => ?_)
   ·
    refine au 4 ?_
    refine dr_start _ (.none) [⟨[(0, none)], [], none⟩,
        ⟨[(5, none)], [], none⟩,
        ⟨[(17, some (0, false)), (18, some (1, false))], [0, 1], none⟩,
        ⟨[(19, some (2, false))], [0, 1, 2], none⟩,
        ⟨[(1, none)], [], none⟩,
        ⟨[(5, none)], [], none⟩,
        ⟨[(21, some (4, false)), (22, some (5, false))], [4, 5], none⟩,
        ⟨[(23, some (6, false))], [4, 5, 6], none⟩,
        ⟨[(20, some (3, false)), (24, some (7, false))], [0, 1, 2, 3, 4, 5, 6, 7], none⟩] [] _ rfl rfl ?_
    refine da 9 ?_
    refine dq_end (rs := []) () rfl (fun _ => rfl) (.nil) rfl (fun _ => rfl) (fun _ _ => ?_)
    dsimp only [outG, outM, List.map, List.set, id]
    refine run_cond rfl (fun h7 => ?_) (fun h7 => ?_)
    ·
     refine au 4 ?_
     refine run_retP Tryz.func13 rfl rfl ?_
     exact d_B ⟨False.elim, fun h => by subst h; contradiction⟩
    ·
     refine au 7 ?_
     exact run_againC ih4 (k + 1) (⟨by omega, fun j hj => by by_cases e : j = k; (· subst e; exact Classical.not_not.1 (by assumption)); (· exact hbk j (by omega))⟩) (by omega) (.cons rfl (by first | exact fun _ _ h => h | exact d_int (by omega) | exact d_int (by simp) | exact d_intN (by omega) | exact d_any) .nil) (.cons rfl (fun _ _ x => x) (.cons rfl (fun _ _ x => x) (.nil)))
   ·
    refine au 5 ?_
    refine run_retP Tryz.func13 rfl rfl ?_
    exact d_B ⟨fun _ => list_extD (by omega) (fun j hj => hbk j (by omega)), fun _ => trivial⟩
theorem eqRows_spec (xs ys : List (List Int)) : SpecP Tryz.prog 42 [dRows xs, dRows ys, dVal (.func (.func 43) #[] #[])] (dB (xs = ys)) := by
  refine specP_of_body Tryz.func42 rfl rfl (fun I M => ?_)
  refine au 1 ?_
  refine run_recast (s := 2) rfl (val_fun (P := Tryz.prog) (Ds := fun p : List Int × List Int => [dInts p.1, dInts p.2]) (d := fun p => dB (p.1 = p.2)) (fun p => equalI_spec p.1 p.2)) ?_
  refine au 7 ?_
  first | refine runL_fact (s := 10) rfl (fun _ _ h => dSl_len h) (fun hlen1 => ?_) | skip
  refine au 2 ?_
  first | refine runL_fact (s := 12) rfl (fun _ _ h => dSl_len h) (fun hlen2 => ?_) | skip
  refine au 3 ?_
  refine run_cond rfl (fun h3 => ?_) (fun h3 => ?_)
  ·
   refine au 4 ?_
   refine run_retP Tryz.func42 rfl rfl ?_
   exact d_B ⟨False.elim, fun h => by subst h; omega⟩
  ·
   refine au 5 ?_
   first | refine runL_fact (s := 15) rfl (fun _ _ h => dSl_len h) (fun hlen4 => ?_) | skip
   refine au 4 ?_
   refine run_loopC (σ := Nat) (ks := [1, 2, 15, 16]) (.cons rfl (.cons rfl (.cons rfl (.cons rfl (.nil))))) (fun k => [(17, dInt .i64 (k : Nat))]) (fun k => k ≤ xs.length ∧ (∀ j, j < k → xs[j]?.getD default = ys[j]?.getD default)) (fun k => xs.length - k) (0) (⟨by omega, fun j hj => by omega⟩) (.cons rfl (by first | exact fun _ _ h => h | exact d_int (by omega) | exact d_int (by simp) | exact d_intN (by omega) | exact d_any) .nil) ?_
   rintro k ⟨hk, hbk⟩ ih5
   refine au 5 ?_
   refine run_cond rfl (fun h6 => ?_) (fun h6 => ?_)
   ·
    refine au 24 ?_
    refine run_op (loc_callFun (xs[k]?.getD default, ys[k]?.getD default) rfl rfl) rfl ?_
    refine au 2 ?_
    refine run_cond rfl (fun h7 => ?_) (fun h7 => ?_)
    ·
     refine au 4 ?_
     refine run_retP Tryz.func42 rfl rfl ?_
     exact d_B ⟨False.elim, fun h => by subst h; contradiction⟩
    ·
     refine au 6 ?_
     exact run_againC ih5 (k + 1) (⟨by omega, fun j hj => by by_cases e : j = k; (· subst e; exact Classical.not_not.1 (by assumption)); (· exact hbk j (by omega))⟩) (by omega) (.cons rfl (by first | exact fun _ _ h => h | exact d_int (by omega) | exact d_int (by simp) | exact d_intN (by omega) | exact d_any) .nil) (.cons rfl (fun _ _ x => x) (.cons rfl (fun _ _ x => x) (.cons rfl (fun _ _ x => x) (.cons rfl (fun _ _ x => x) (.nil)))))
   ·
    refine au 5 ?_
    refine run_retP Tryz.func42 rfl rfl ?_
    exact d_B ⟨fun _ => list_extD (by omega) (fun j hj => hbk j (by omega)), fun _ => trivial⟩
theorem bsameRows_spec (xs ys : List (List Int)) : SpecP Tryz.prog 28 [dRows xs, dRows ys] (dB (xs = ys)) := by
 refine specP_of_body Tryz.func28 rfl rfl (fun I M => ?_)
 refine au 8 ?_
 refine run_op (loc_call (eqRows_spec _ _) rfl) rfl ?_
 refine au 2 ?_
 refine run_retP Tryz.func28 rfl rfl ?_
 exact fun _ _ h => h
theorem alike_spec (a b : Bat) : SpecP Tryz.prog 14 [dBat a, dBat b] (dB (a.bk = b.bk)) := by
 refine specP_of_body Tryz.func14 rfl rfl (fun I M => ?_)
 refine au 12 ?_
 refine run_op (loc_call (bsameRows_spec _ _) rfl) rfl ?_
 refine au 2 ?_
 refine run_retP Tryz.func14 rfl rfl ?_
 exact fun _ _ h => h
theorem bqueries_spec (s : Schm) (p : Int) (hv : validS s p) (b : Bat) (h : BatOk b) (t : Tape) (ht : okTape t) (hd : drawE t p (dN s b.bk b.bk.length) = 0) : SpecP Tryz.prog 16 [dSchm s, dAgg [dInt .i64 p], dBat b, dTape t] (dTup [dQs (bqL s p b t b.bk.length), dTape (bqT s p b t b.bk.length), dInt .i64 0]) := by
  have hbm := h.most
  have hbp := h.prl
  refine specP_of_body Tryz.func16 rfl rfl (fun I M => ?_)
  refine au 5 ?_
  refine run_new (loc_boxOwnN rfl) rfl (fun b7 _ => ?_)
  refine au 1 ?_
  refine run_new (loc_allocOwn (by simp)) rfl (fun b1 _ => ?_)
  refine au 8 ?_
  refine run_op (loc_call (blook_spec s p hv b h) rfl) rfl ?_
  refine au 7 ?_
  refine run_cond rfl (fun h2 => ?_) (fun h2 => ?_)
  · exfalso; exact h2 rfl
  ·
   refine au 5 ?_
   first | refine runL_fact (s := 27) rfl (fun _ _ h => dSl_len h) (fun hlen3 => ?_) | skip
   refine au 1 ?_
   refine run_new (loc_makeSlice rfl rfl (by first | omega | assumption) (by first | omega | assumption) _ _ rfl (by simp)) rfl (fun b29 _ => ?_)
   refine au 2 ?_
   rw [Int.toNat_natCast]
   refine run_inv (M' := rRow (.slice (some ⟨b29, 0, none⟩) b.bk.length b.bk.length) 37 1 fQ (bqL s p b t 0 ++ List.replicate (b.bk.length - 0) []) :: _) (fun I w h => by have h2 := row_nilR (f' := fun x : List Int => [dInts x]) (n := 1) h; exact h2) ?_
   refine au 5 ?_
   first | refine runL_fact (s := 31) rfl (fun _ _ h => dSl_len h) (fun hlen4 => ?_) | skip
   refine au 4 ?_
   refine run_front (.there (.there (.here))) ?_
   refine run_front (.there (.here)) ?_
   refine run_loopF (σ := Nat) (ks := [4, 5, 6, 7, 9, 12, 31, 32]) (.cons rfl (.cons rfl (.cons rfl (.cons rfl (.cons rfl (.cons rfl (.cons rfl (.cons rfl (.nil))))))))) (fun k => [(33, dInt .i64 (k : Nat))]) (fun k => [rRow (.slice (some ⟨b29, 0, none⟩) b.bk.length b.bk.length) 37 1 fQ (bqL s p b t k ++ List.replicate (b.bk.length - k) []), rCells b7 50 (cTape (bqT s p b t k))]) (fun k => k ≤ b.bk.length) (fun k => b.bk.length - k) (0) ((by omega)) (.cons rfl (by first | exact fun _ _ h => h | exact d_int (by omega) | exact d_int (by simp) | exact d_intN (by omega) | exact d_any) .nil) (rfl) ?_
   intro k hk ih5
   have hrl : (bqL s p b t k ++ List.replicate (b.bk.length - k) []).length = b.bk.length := by rw [List.length_append, List.length_replicate, bqL_len]; omega
   refine au 5 ?_
   refine run_cond rfl (fun h6 => ?_) (fun h6 => ?_)
   ·
    have hkb : k < b.bk.length := by omega
    refine au 15 ?_
    first | refine runL_fact (s := 38) rfl (fun _ _ h => dSl_len h) (fun hlen7 => ?_) | skip
    refine au 3 ?_
    refine run_cond rfl (fun h8 => ?_) (fun h8 => ?_)
    ·
     have hl0 : ¬ 0 < (b.bk[k]?.getD default).length := by omega
     refine au 5 ?_
     exact run_againF ih5 (k + 1) (by omega) (by omega) (.cons rfl (by first | exact fun _ _ h => h | exact d_int (by omega) | exact d_int (by simp) | exact d_intN (by omega) | exact d_any) .nil) (.cons rfl (fun _ _ x => x) (.cons rfl (fun _ _ x => x) (.cons rfl (fun _ _ x => x) (.cons rfl (fun _ _ x => x) (.cons rfl (fun _ _ x => x) (.cons rfl (fun _ _ x => x) (.cons rfl (fun _ _ x => x) (.cons rfl (fun _ _ x => x) (.nil))))))))) (by simp only [appR]; rw [bqT_no hl0, bq_skip hkb hl0])
    ·
     have hl1 : 0 < (b.bk[k]?.getD default).length := by omega
     have hlb := len_bd h hl1
     have hi := (h.some k hkb (by omega)).1
     have hq0 : qryE s p (b.bk[k]?.getD default).length (b.pr[k]?.getD default) (bqT s p b t k) = 0 := (qry_ok hv hlb hi).1.trans (bq_draw hv h ht hd hkb hl1)
     refine au 2 ?_
     refine run_addNone ?_
     refine dr_start _ (.one (σ := Nat) 15 (fun _ => True)) [⟨[(4, none)], [], none⟩,
         ⟨[(5, none)], [], none⟩,
         ⟨[(14, none)], [], none⟩,
         ⟨[(44, some (2, false))], [2], none⟩,
         ⟨[(6, none)], [], none⟩,
         ⟨[(46, some (4, false))], [4], none⟩,
         ⟨[(13, none)], [], none⟩,
         ⟨[(47, some (5, false)), (48, some (6, false))], [4, 5, 6], none⟩,
         ⟨[(49, some (7, false))], [4, 5, 6, 7], none⟩,
         ⟨[(7, none)], [], some (2, 0, false)⟩,
         ⟨[(42, some (0, false)), (43, some (1, false)), (45, some (3, false)), (50, some (8, false)), (51, some (9, false))], [0, 1, 2, 3, 4, 5, 6, 7, 8, 9], none⟩,
         ⟨[(52, some (10, false))], [0, 1, 2, 3, 4, 5, 6, 7, 8, 9, 10], none⟩,
         ⟨[(41, some (11, false))], [0, 1, 2, 3, 4, 5, 6, 7, 8, 9, 10, 11], none⟩,
         ⟨[(41, some (11, false))], [0, 1, 2, 3, 4, 5, 6, 7, 8, 9, 10, 11], none⟩,
         ⟨[(41, some (11, false))], [0, 1, 2, 3, 4, 5, 6, 7, 8, 9, 10, 11], none⟩,
         ⟨[], [], some (0, 0, true)⟩,
         ⟨[(53, some (12, false))], [0, 1, 2, 3, 4, 5, 6, 7, 8, 9, 10, 11, 12, 15], none⟩,
         ⟨[(16, some (15, false)), (54, some (13, false))], [0, 1, 2, 3, 4, 5, 6, 7, 8, 9, 10, 11, 12, 13, 15, 16], some (0, 1, true)⟩,
         ⟨[(55, some (14, false))], [0, 1, 2, 3, 4, 5, 6, 7, 8, 9, 10, 11, 12, 13, 14, 15, 16, 17], none⟩] [_, _, _, _] _ rfl rfl ?_
     refine da 10 ?_
     refine dq_pure rfl (fun s => .op rfl (.op rfl (.op rfl (.op rfl (.op rfl (.nil)))))) (fun s hs _ => loc_call (squeries_spec _ _ _ _ _) rfl) (by exact .cons (.inr fun _ _ _ => rfl) (.nil)) ?_
     refine da 4 ?_
     refine dq_choose id (fun _ t => t) rfl (fun _ _ => ⟨rfl, id, trivial⟩) (fun s => .nil) rfl rfl (fun s hs => locM_new (loc_allocOwn (by simp))) (by exact .cons (.inl rfl) (.nil)) (fun _ _ => rfl) ?_
     refine da 1 ?_
     refine dq_write0 rfl (fun s => .op rfl (.op rfl (.nil))) rfl rfl (fun s hs => loc_storeN (ho := (by show OneAll [_, _]; infer_instance)) rfl rfl rfl) (by exact .cons (.inl rfl) (.nil)) ?_
     refine da 1 ?_
     refine dq_end (rs := [_, _, _, _]) 0 rfl (fun _ => rfl) (.cons rfl (.nil)) rfl (fun _ => rfl) (fun b9 _ => ?_)
     dsimp only [outG, outM, List.map, List.set, id]
     refine au 6 ?_
     refine run_cond rfl (fun h10 => ?_) (fun h10 => ?_)
     · exfalso; exact h10 hq0
     ·
      refine au 1 ?_
      refine dr_start _ (.none) [⟨[(12, none)], [], none⟩,
          ⟨[(13, none)], [], none⟩,
          ⟨[(15, none)], [], none⟩,
          ⟨[(16, none)], [], some (0, 0, false)⟩,
          ⟨[(60, some (0, false)), (61, some (1, false))], [0, 1, 2], none⟩,
          ⟨[(64, some (4, false)), (62, some (2, false))], [0, 1, 2, 4], some (1, 0, true)⟩,
          ⟨[(7, none), (63, some (3, false))], [0, 1, 2, 3, 4, 5], some (2, 0, true)⟩] [_, _, _, _] _ rfl rfl ?_
      refine da 5 ?_
      refine dq_write0 rfl (fun s => .op rfl (.op rfl (.nil))) rfl rfl (fun s hs => loc_storeRow1 _ rfl rfl rfl (by first | omega | assumption)) (by exact .nil) ?_
      refine dq_write0 rfl (fun s => .g rfl (.op rfl (.nil))) rfl rfl (fun s hs => loc_storeN (ho := (by show OneAll [_, _]; infer_instance)) rfl rfl rfl) (by exact .nil) ?_
      refine dq_end (rs := [_, _, _, _]) () rfl (fun _ => rfl) (.nil) rfl (fun _ => rfl) (fun _ _ => ?_)
      dsimp only [outG, outM, List.map, List.set, id]
      refine au 5 ?_
      refine run_drop (.cons _ (.refl _)) ?_
      exact run_againF ih5 (k + 1) (by omega) (by omega) (.cons rfl (by first | exact fun _ _ h => h | exact d_int (by omega) | exact d_int (by simp) | exact d_intN (by omega) | exact d_any) .nil) (.cons rfl (fun _ _ x => x) (.cons rfl (fun _ _ x => x) (.cons rfl (fun _ _ x => x) (.cons rfl (fun _ _ x => x) (.cons rfl (fun _ _ x => x) (.cons rfl (fun _ _ x => x) (.cons rfl (fun _ _ x => x) (.cons rfl (fun _ _ x => x) (.nil))))))))) (by simp only [appR]; rw [bqT_yes hl1, bq_set hkb hl1]; rfl)
   ·
    refine au 2 ?_
    obtain rfl : k = b.bk.length := by omega
    have hk9 : b.bk.length - b.bk.length = 0 := Nat.sub_self _
    refine run_freezeRow (s := 12) rfl (.here) ?_
    refine dr_start _ (.none) [⟨[(12, none)], [], none⟩,
        ⟨[(7, none)], [], some (0, 0, false)⟩,
        ⟨[(66, some (0, false))], [0], none⟩,
        ⟨[(9, none), (67, some (1, false))], [0, 1, 2], some (1, 0, true)⟩,
        ⟨[], [0, 1, 2, 3], none⟩] [_, _] _ rfl rfl ?_
    refine da 3 ?_
    refine dq_write0 rfl (fun s => .g rfl (.op rfl (.nil))) rfl rfl (fun s hs => loc_storeN (ho := (by show OneAll [_, _]; infer_instance)) rfl rfl rfl) (by exact .nil) ?_
    refine da 1 ?_
    refine dq_end (rs := [_, _]) () rfl (fun _ => rfl) (.nil) rfl (fun _ => rfl) (fun _ _ => ?_)
    dsimp only [outG, outM, List.map, List.set, id]
    refine run_retGP Tryz.func16 rfl (.tmp rfl (.cellN rfl (.there (.here)) (by rfl) (.tmp rfl (.nil)))) ?_ (fun _ _ h => inv_tail (inv_tail (h)))
    exact d_tup3 (d_eq (by rw [hk9]; simp)) (fun _ _ h => h) (fun _ _ h => h)
end Go.Q

namespace Go.Q
open Go.Proofs
open Classical
theorem dice_okA {xs : List Int} (h : ∀ x ∈ xs, 0 ≤ x ∧ x ≤ 255) : okDc ⟨xs.take 300, 0⟩ := ⟨fun x hm => h x (List.mem_of_mem_take hm), by simp; omega⟩
theorem batchAlike_spec (xs : List Int) (hx : ∀ x ∈ xs, 0 ≤ x ∧ x ≤ 255) : SpecP Tryz.prog 3 [dBy xs] (dB True) := by
  refine specP_of_body Tryz.func3 rfl rfl (fun I M => ?_)
  refine au 7 ?_
  refine run_op (loc_call (sane34_spec) rfl) rfl ?_
  refine au 2 ?_
  refine run_cond rfl (fun h1 => ?_) (fun h1 => ?_)
  · exfalso; exact h1 trivial
  ·
   refine au 4 ?_
   refine run_callN rfl (dnew_spec _) rfl (fun bd hbd => ?_)
   refine au 5 ?_
   refine run_callM rfl (.here) (dscheme_spec bd _ (dice_okA hx)) rfl (fun sc hsc => ?_)
   refine au 1 ?_
   refine run_callM rfl (.here) (dfield_spec bd _ hsc.2) rfl (fun fd hfd => ?_)
   refine au 1 ?_
   refine run_callM rfl (.here) (dhashing_spec bd _ hfd.2) rfl (fun hg hhg => ?_)
   refine run_new (loc_allocOwn (by simp)) rfl (fun b2 _ => ?_)
   refine run_new (loc_allocOwn (by simp)) rfl (fun b3 _ => ?_)
   refine run_new (loc_allocOwn (by simp)) rfl (fun b4 _ => ?_)
   refine au 4 ?_
   have hgk := hhg
   refine au 1 ?_
   have hv6 := Dc.val_lt (d := hg.2) (n := 6) (by omega)
   have hw6 := Dc.val_nonneg (d := hg.2) (n := 6) (by omega)
   obtain ⟨N, hN⟩ : ∃ N : Nat, (N : Int) = 1 + hg.2.val 6 := ⟨(1 + hg.2.val 6).toNat, by omega⟩
   refine au 2 ?_
   refine run_callM rfl (.there (.there (.there (.here)))) (pick_spec bd _ _ hgk.2.2 (by omega)) rfl (fun s5 hs5 => ?_)
   refine au 3 ?_
   rw [← hN]
   refine au 1 ?_
   refine run_addNone ?_
   refine run_addNone ?_
   refine dr_start _ (.two (τ1 := List Int × Dc) (τ2 := Nat) 4 9 (fun r => ((1 ≤ r.1.length ∧ r.1.length ≤ 3) ∧ ∀ x ∈ r.1, 0 ≤ x ∧ x < (N : Int)) ∧ okDc r.2) (fun _ => True)) [⟨[(6, none)], [], some (2, 0, false)⟩,
       ⟨[(7, none)], [], none⟩,
       ⟨[(3, none)], [], none⟩,
       ⟨[(7, none)], [], none⟩,
       ⟨[(39, some (2, false)), (40, some (3, false))], [2, 3], some (5, 0, true)⟩,
       ⟨[(37, some (0, false)), (38, some (1, false)), (41, some (4, false))], [0, 1, 2, 3, 4], none⟩,
       ⟨[(42, some (5, false))], [0, 1, 2, 3, 4, 5], none⟩,
       ⟨[(36, some (6, false))], [0, 1, 2, 3, 4, 5, 6], none⟩,
       ⟨[(36, some (6, false))], [0, 1, 2, 3, 4, 5, 6], none⟩,
       ⟨[], [], some (0, 0, true)⟩,
       ⟨[(8, some (9, false)), (43, some (7, false))], [0, 1, 2, 3, 4, 5, 6, 7, 9], some (0, 1, true)⟩,
       ⟨[(44, some (8, false))], [0, 1, 2, 3, 4, 5, 6, 7, 8, 9, 10], none⟩] [_, _, _, _, _, _] _ rfl rfl ?_
   refine da 4 ?_
   refine dq_choose Prod.fst (fun s t => (t, s.2)) rfl (fun _ _ => ⟨rfl, id, rfl⟩) (fun s => .op rfl (.op rfl (.nil))) rfl rfl (fun s hs => loc_callM (drows34_spec bd _ (Dc.next_ok hgk.2.2) (N : Int) (by omega)) rfl) (by exact .cons (.inl rfl) (.cons (.inr (.inr fun ⟨a, b⟩ ⟨c, d⟩ h => by have h : c = a := h; subst h; exact rfl)) (.nil))) (fun _ _ => rfl) ?_
   refine dq_pure rfl (fun s => .op rfl (.op rfl (.op rfl (.nil)))) (fun s hs _ => loc_call (plan_spec hg.1 hgk.1 N (by omega) s.1.1 (by have h0 : ((1 ≤ s.1.1.length ∧ s.1.1.length ≤ 3) ∧ ∀ x ∈ s.1.1, 0 ≤ x ∧ x < (N : Int)) ∧ okDc s.1.2 := hs 4 (List.mem_cons_self ..) rfl; exact h0.1.2) (by have h0 : ((1 ≤ s.1.1.length ∧ s.1.1.length ≤ 3) ∧ ∀ x ∈ s.1.1, 0 ≤ x ∧ x < (N : Int)) ∧ okDc s.1.2 := hs 4 (List.mem_cons_self ..) rfl; exact h0.1.1.1)) rfl) (by exact .cons (.inl rfl) (.cons (.inr fun ⟨a, b⟩ ⟨c, d⟩ h => by have h : c = a := h; subst h; exact rfl) (.nil))) ?_
   refine da 3 ?_
   refine dq_choose Prod.snd (fun s t => (s.1, t)) rfl (fun _ _ => ⟨rfl, id, rfl⟩) (fun s => .nil) rfl rfl (fun s hs => locM_new (loc_allocOwn (by simp))) (by exact .cons (.inr (.inr fun ⟨a, b⟩ ⟨c, d⟩ h => by have h : d = b := h; subst h; exact rfl)) (.cons (.inl rfl) (.nil))) (fun _ _ => rfl) ?_
   refine dq_write0 rfl (fun s => .op rfl (.op rfl (.nil))) rfl rfl (fun s hs => loc_storeN (ho := (by show OneAll [_, _, _]; infer_instance)) rfl rfl rfl) (by exact .cons (.inl rfl) (.cons (.inl rfl) (.nil))) ?_
   refine da 1 ?_
   refine dq_end (rs := [_, _, _, _, _, _]) (([], ⟨[], 0⟩), 0) rfl (fun _ => rfl) (.cons rfl (.cons rfl (.nil))) rfl (fun _ => rfl) (fun s9 h9 => ?_)
   obtain ⟨wa, b8⟩ := s9
   obtain ⟨hwa, _⟩ := Ch.two_good rfl h9
   dsimp only [outG, outM, List.map, List.set, id]
   dsimp only at hwa
   refine au 1 ?_
   refine run_addNone ?_
   refine run_addNone ?_
   refine dr_start _ (.two (τ1 := List Int × Dc) (τ2 := Nat) 4 9 (fun r => ((1 ≤ r.1.length ∧ r.1.length ≤ 3) ∧ ∀ x ∈ r.1, 0 ≤ x ∧ x < (N : Int)) ∧ okDc r.2) (fun _ => True)) [⟨[(6, none)], [], some (4, 0, false)⟩,
       ⟨[(7, none)], [], none⟩,
       ⟨[(3, none)], [], none⟩,
       ⟨[(7, none)], [], none⟩,
       ⟨[(48, some (2, false)), (49, some (3, false))], [2, 3], some (7, 0, true)⟩,
       ⟨[(46, some (0, false)), (47, some (1, false)), (50, some (4, false))], [0, 1, 2, 3, 4], none⟩,
       ⟨[(51, some (5, false))], [0, 1, 2, 3, 4, 5], none⟩,
       ⟨[(45, some (6, false))], [0, 1, 2, 3, 4, 5, 6], none⟩,
       ⟨[(45, some (6, false))], [0, 1, 2, 3, 4, 5, 6], none⟩,
       ⟨[], [], some (0, 0, true)⟩,
       ⟨[(10, some (9, false)), (52, some (7, false))], [0, 1, 2, 3, 4, 5, 6, 7, 9], some (0, 1, true)⟩,
       ⟨[(53, some (8, false))], [0, 1, 2, 3, 4, 5, 6, 7, 8, 9, 10], none⟩] [_, _, _, _, _, _, _, _] _ rfl rfl ?_
   refine da 4 ?_
   refine dq_choose Prod.fst (fun s t => (t, s.2)) rfl (fun _ _ => ⟨rfl, id, rfl⟩) (fun s => .op rfl (.op rfl (.nil))) rfl rfl (fun s hs => loc_callM (drows34_spec bd _ hwa.2 (N : Int) (by omega)) rfl) (by exact .cons (.inl rfl) (.cons (.inr (.inr fun ⟨a, b⟩ ⟨c, d⟩ h => by have h : c = a := h; subst h; exact rfl)) (.nil))) (fun _ _ => rfl) ?_
   refine dq_pure rfl (fun s => .op rfl (.op rfl (.op rfl (.nil)))) (fun s hs _ => loc_call (plan_spec hg.1 hgk.1 N (by omega) s.1.1 (by have h0 : ((1 ≤ s.1.1.length ∧ s.1.1.length ≤ 3) ∧ ∀ x ∈ s.1.1, 0 ≤ x ∧ x < (N : Int)) ∧ okDc s.1.2 := hs 4 (List.mem_cons_self ..) rfl; exact h0.1.2) (by have h0 : ((1 ≤ s.1.1.length ∧ s.1.1.length ≤ 3) ∧ ∀ x ∈ s.1.1, 0 ≤ x ∧ x < (N : Int)) ∧ okDc s.1.2 := hs 4 (List.mem_cons_self ..) rfl; exact h0.1.1.1)) rfl) (by exact .cons (.inl rfl) (.cons (.inr fun ⟨a, b⟩ ⟨c, d⟩ h => by have h : c = a := h; subst h; exact rfl) (.nil))) ?_
   refine da 3 ?_
   refine dq_choose Prod.snd (fun s t => (s.1, t)) rfl (fun _ _ => ⟨rfl, id, rfl⟩) (fun s => .nil) rfl rfl (fun s hs => locM_new (loc_allocOwn (by simp))) (by exact .cons (.inr (.inr fun ⟨a, b⟩ ⟨c, d⟩ h => by have h : d = b := h; subst h; exact rfl)) (.cons (.inl rfl) (.nil))) (fun _ _ => rfl) ?_
   refine dq_write0 rfl (fun s => .op rfl (.op rfl (.nil))) rfl rfl (fun s hs => loc_storeN (ho := (by show OneAll [_, _, _]; infer_instance)) rfl rfl rfl) (by exact .cons (.inl rfl) (.cons (.inl rfl) (.nil))) ?_
   refine da 1 ?_
   refine dq_end (rs := [_, _, _, _, _, _, _, _]) (([], ⟨[], 0⟩), 0) rfl (fun _ => rfl) (.cons rfl (.cons rfl (.nil))) rfl (fun _ => rfl) (fun s9 h9 => ?_)
   obtain ⟨wb, b10⟩ := s9
   obtain ⟨hwb, _⟩ := Ch.two_good rfl h9
   dsimp only [outG, outM, List.map, List.set, id]
   dsimp only at hwb
   refine au 11 ?_
   refine run_cond rfl (fun h10 => ?_) (fun h10 => ?_)
   ·
    skip
    refine au 4 ?_
    refine run_drop (.cons _ (.cons _ (.cons _ (.cons _ (.cons _ (.cons _ (.cons _ (.cons _ (.refl _))))))))) ?_
    refine run_retP Tryz.func3 rfl rfl ?_
    exact fun _ _ h => h
   ·
    obtain ⟨ca, cb⟩ : asgE hg.1 wa.1 = 0 ∧ asgE hg.1 wb.1 = 0 := ⟨Classical.not_not.1 fun h => h10 (.inl h), Classical.not_not.1 fun h => h10 (.inr h)⟩
    have hA := plan_ok hgk.1 (n := N) (by omega) hwa.1.2 (by omega) ca
    have hB := plan_ok hgk.1 (n := N) (by omega) hwb.1.2 (by omega) cb
    have hba := plan_bk (n := N) ca
    have hbb := plan_bk (n := N) cb
    have hfew := lay_few (h := hg.1) (n := N) (by omega)
    rw [← hba] at hfew
    generalize planB hg.1 N wa.1 = A at *
    generalize planB hg.1 N wb.1 = B at *
    have hab : A.bk = B.bk := hba.trans hbb.symm
    have hbm := hA.most
    have hv := die_valid hsc.1 hfd.1
    have hdn := dN_few hsc.1 hfew A.bk.length
    have hrep := lim_rep hv hA
    have hpp := (dieP_ok hfd.1).2
    have hll : (limT sc.1 fd.1 (askL A)).length ≤ 100000 := by rw [hrep, List.length_replicate]; omega
    have hlo : ∀ l ∈ limT sc.1 fd.1 (askL A), 1 ≤ l := by intro l hl; rw [hrep] at hl; rw [List.eq_of_mem_replicate hl]; omega
    refine au 6 ?_
    refine run_op (loc_call (blimits_spec sc.1 fd.1 hv A hA) rfl) rfl ?_
    refine au 11 ?_
    refine run_op (loc_call (blimits_spec sc.1 fd.1 hv B hB) rfl) rfl ?_
    refine au 19 ?_
    refine run_gop rfl rfl gdI.ok (fun hg => loc_call (ints34_spec _ _) rfl) rfl ?_
    refine au 6 ?_
    refine run_gop rfl rfl gdI.ok (fun hg => loc_call (alike_spec _ _) rfl) rfl ?_
    refine au 4 ?_
    refine run_cond rfl (fun h11 => ?_) (fun h11 => ?_)
    · exfalso; rcases h11 with ((h | h) | h) | h; (· exact h rfl); (· exact h rfl); (· exact h (lim_same hab)); (· exact h hab)
    ·
     refine au 5 ?_
     refine run_callM rfl (.there (.there (.there (.there (.there (.there (.there (.here)))))))) (dtape_spec bd _ hwb.2 _ hll hlo) rfl (fun tp htp => ?_)
     refine run_new (loc_allocOwn (by simp)) rfl (fun b12 _ => ?_)
     refine au 3 ?_
     have hdt := htp.1
     rw [hrep] at hdt
     obtain ⟨hok, hdr⟩ := die_draw (dieP_ok hfd.1).1 (by omega) hdt
     rw [show (((dN sc.1 A.bk A.bk.length).toNat : Nat) : Int) = dN sc.1 A.bk A.bk.length by omega] at hdr
     have hdrB : drawE tp.1 fd.1 (dN sc.1 B.bk B.bk.length) = 0 := by rw [← hab]; exact hdr
     refine au 5 ?_
     refine run_op (loc_call (bqueries_spec sc.1 fd.1 hv A hA tp.1 hok hdr) rfl) rfl ?_
     refine au 4 ?_
     refine run_new (loc_allocOwn (by simp)) rfl (fun b13 _ => ?_)
     refine au 10 ?_
     refine run_op (loc_call (bqueries_spec sc.1 fd.1 hv B hB tp.1 hok hdrB) rfl) rfl ?_
     refine au 4 ?_
     refine run_new (loc_allocOwn (by simp)) rfl (fun b14 _ => ?_)
     refine au 6 ?_
     have hka := bq_ok hv hA hok hdr A.bk.length (Nat.le_refl _)
     have hkb := bq_ok hv hB hok hdrB B.bk.length (Nat.le_refl _)
     refine au 25 ?_
     refine run_cond rfl (fun h15 => ?_) (fun h15 => ?_)
     · exfalso; rcases h15 with ((h | h) | h) | h; (· exact h rfl); (· exact h rfl); (· exact h (by rw [hka.2.1, hkb.2.1, ← hab])); (· exact h (by rw [bqL_len, bqL_len, hab]))
     ·
      refine au 5 ?_
      first | refine runL_fact (s := 133) rfl (fun _ _ h => dSl_len h) (fun hlen16 => ?_) | skip
      refine au 4 ?_
      refine run_loopC (σ := Nat) (ks := [17, 19, 134]) (.cons rfl (.cons rfl (.cons rfl (.nil)))) (fun k => [(135, dInt .i64 (k : Nat))]) (fun k => k ≤ (bqL sc.1 fd.1 A tp.1 A.bk.length).length) (fun k => (bqL sc.1 fd.1 A tp.1 A.bk.length).length - k) (0) ((by omega)) (.cons rfl (by first | exact fun _ _ h => h | exact d_int (by omega) | exact d_int (by simp) | exact d_intN (by omega) | exact d_any) .nil) ?_
      intro k hk ih17
      refine au 5 ?_
      refine run_cond rfl (fun h18 => ?_) (fun h18 => ?_)
      ·
       have hlA := bqL_len sc.1 fd.1 A tp.1 A.bk.length
       have hlB := bqL_len sc.1 fd.1 B tp.1 B.bk.length
       have hlab : A.bk.length = B.bk.length := by rw [hab]
       have hQa := bqL_get (s := sc.1) (p := fd.1) (b := A) (t := tp.1) (k := A.bk.length) (i := k) (by omega)
       have hQb := bqL_get (s := sc.1) (p := fd.1) (b := B) (t := tp.1) (k := B.bk.length) (i := k) (by omega)
       obtain ⟨hqa1, hqa2⟩ := bqQ_ok hv hA hok hdr (k := k) (by omega)
       obtain ⟨hqb1, hqb2⟩ := bqQ_ok hv hB hok hdrB (k := k) (by omega)
       rw [← hab] at hqb1 hqb2
       rw [← hQa] at hqa1 hqa2
       rw [← hQb] at hqb1 hqb2
       refine au 10 ?_
       refine dr_start _ (.none) [⟨[(17, none)], [], none⟩,
           ⟨[(21, none)], [], none⟩,
           ⟨[(138, some (0, false)), (139, some (1, false))], [0, 1], none⟩,
           ⟨[(140, some (2, false))], [0, 1, 2], none⟩,
           ⟨[(141, some (3, false))], [0, 1, 2, 3], none⟩,
           ⟨[(19, none)], [], none⟩,
           ⟨[(21, none)], [], none⟩,
           ⟨[(143, some (5, false)), (144, some (6, false))], [5, 6], none⟩,
           ⟨[(145, some (7, false))], [5, 6, 7], none⟩,
           ⟨[(146, some (8, false))], [5, 6, 7, 8], none⟩,
           ⟨[(142, some (4, false)), (147, some (9, false))], [0, 1, 2, 3, 4, 5, 6, 7, 8, 9], none⟩] [] _ rfl rfl ?_
       refine da 11 ?_
       refine dq_end (rs := []) () rfl (fun _ => rfl) (.nil) rfl (fun _ => rfl) (fun _ _ => ?_)
       dsimp only [outG, outM, List.map, List.set, id]
       refine run_cond rfl (fun h19 => ?_) (fun h19 => ?_)
       · exfalso; have := h19; omega
       ·
        refine au 7 ?_
        first | refine runL_fact (s := 152) rfl (fun _ _ h => dSl_len h) (fun hlen20 => ?_) | skip
        refine au 4 ?_
        refine run_loopC (σ := Nat) (ks := [17, 19, 21, 134, 135, 153]) (.cons rfl (.cons rfl (.cons rfl (.cons rfl (.cons rfl (.cons rfl (.nil))))))) (fun j => [(154, dInt .i64 (j : Nat))]) (fun j => j ≤ ((bqL sc.1 fd.1 A tp.1 A.bk.length)[k]?.getD default).length) (fun j => ((bqL sc.1 fd.1 A tp.1 A.bk.length)[k]?.getD default).length - j) (0) ((by omega)) (.cons rfl (by first | exact fun _ _ h => h | exact d_int (by omega) | exact d_int (by simp) | exact d_intN (by omega) | exact d_any) .nil) ?_
        intro j hj ih21
        refine au 5 ?_
        refine run_cond rfl (fun h22 => ?_) (fun h22 => ?_)
        ·
         have hja := hqa2 _ (getD_mem (xs := (bqL sc.1 fd.1 A tp.1 A.bk.length)[k]?.getD default) (k := j) (by omega))
         have hjb := hqb2 _ (getD_mem (xs := (bqL sc.1 fd.1 B tp.1 B.bk.length)[k]?.getD default) (k := j) (by omega))
         have hj0 := hqa2 _ (getD_mem (xs := (bqL sc.1 fd.1 A tp.1 A.bk.length)[k]?.getD default) (k := 0) (by omega))
         refine au 9 ?_
         refine dr_start _ (.none) [⟨[(17, none)], [], none⟩,
             ⟨[(21, none)], [], none⟩,
             ⟨[(157, some (0, false)), (158, some (1, false))], [0, 1], none⟩,
             ⟨[(159, some (2, false))], [0, 1, 2], none⟩,
             ⟨[(22, none)], [], none⟩,
             ⟨[(160, some (3, false)), (161, some (4, false))], [0, 1, 2, 3, 4], none⟩,
             ⟨[(162, some (5, false))], [0, 1, 2, 3, 4, 5], none⟩,
             ⟨[(163, some (6, false))], [0, 1, 2, 3, 4, 5, 6], none⟩,
             ⟨[(19, none)], [], none⟩,
             ⟨[(21, none)], [], none⟩,
             ⟨[(165, some (8, false)), (166, some (9, false))], [8, 9], none⟩,
             ⟨[(167, some (10, false))], [8, 9, 10], none⟩,
             ⟨[(22, none)], [], none⟩,
             ⟨[(168, some (11, false)), (169, some (12, false))], [8, 9, 10, 11, 12], none⟩,
             ⟨[(170, some (13, false))], [8, 9, 10, 11, 12, 13], none⟩,
             ⟨[(171, some (14, false))], [8, 9, 10, 11, 12, 13, 14], none⟩,
             ⟨[(164, some (7, false)), (172, some (15, false))], [0, 1, 2, 3, 4, 5, 6, 7, 8, 9, 10, 11, 12, 13, 14, 15], none⟩,
             ⟨[(173, some (16, false))], [0, 1, 2, 3, 4, 5, 6, 7, 8, 9, 10, 11, 12, 13, 14, 15, 16], none⟩,
             ⟨[(17, none)], [0, 1, 2, 3, 4, 5, 6, 7, 8, 9, 10, 11, 12, 13, 14, 15, 16, 17], none⟩,
             ⟨[(21, none)], [0, 1, 2, 3, 4, 5, 6, 7, 8, 9, 10, 11, 12, 13, 14, 15, 16, 17], none⟩,
             ⟨[(175, some (18, true)), (176, some (19, true))], [0, 1, 2, 3, 4, 5, 6, 7, 8, 9, 10, 11, 12, 13, 14, 15, 16, 17, 18, 19], none⟩,
             ⟨[(177, some (20, true))], [0, 1, 2, 3, 4, 5, 6, 7, 8, 9, 10, 11, 12, 13, 14, 15, 16, 17, 18, 19, 20], none⟩,
             ⟨[(22, none)], [0, 1, 2, 3, 4, 5, 6, 7, 8, 9, 10, 11, 12, 13, 14, 15, 16, 17], none⟩,
             ⟨[(178, some (21, true)), (179, some (22, true))], [0, 1, 2, 3, 4, 5, 6, 7, 8, 9, 10, 11, 12, 13, 14, 15, 16, 17, 18, 19, 20, 21, 22], none⟩,
             ⟨[(180, some (23, true))], [0, 1, 2, 3, 4, 5, 6, 7, 8, 9, 10, 11, 12, 13, 14, 15, 16, 17, 18, 19, 20, 21, 22, 23], none⟩,
             ⟨[(181, some (24, true))], [0, 1, 2, 3, 4, 5, 6, 7, 8, 9, 10, 11, 12, 13, 14, 15, 16, 17, 18, 19, 20, 21, 22, 23, 24], none⟩,
             ⟨[(17, none)], [0, 1, 2, 3, 4, 5, 6, 7, 8, 9, 10, 11, 12, 13, 14, 15, 16, 17], none⟩,
             ⟨[(21, none)], [0, 1, 2, 3, 4, 5, 6, 7, 8, 9, 10, 11, 12, 13, 14, 15, 16, 17], none⟩,
             ⟨[(183, some (26, true)), (184, some (27, true))], [0, 1, 2, 3, 4, 5, 6, 7, 8, 9, 10, 11, 12, 13, 14, 15, 16, 17, 26, 27], none⟩,
             ⟨[(185, some (28, true))], [0, 1, 2, 3, 4, 5, 6, 7, 8, 9, 10, 11, 12, 13, 14, 15, 16, 17, 26, 27, 28], none⟩,
             ⟨[(186, some (29, true))], [0, 1, 2, 3, 4, 5, 6, 7, 8, 9, 10, 11, 12, 13, 14, 15, 16, 17, 26, 27, 28, 29], none⟩,
             ⟨[(187, some (30, true))], [0, 1, 2, 3, 4, 5, 6, 7, 8, 9, 10, 11, 12, 13, 14, 15, 16, 17, 26, 27, 28, 29, 30], none⟩,
             ⟨[(188, some (31, true))], [0, 1, 2, 3, 4, 5, 6, 7, 8, 9, 10, 11, 12, 13, 14, 15, 16, 17, 26, 27, 28, 29, 30, 31], none⟩,
             ⟨[(182, some (25, true)), (189, some (32, true))], [0, 1, 2, 3, 4, 5, 6, 7, 8, 9, 10, 11, 12, 13, 14, 15, 16, 17, 18, 19, 20, 21, 22, 23, 24, 25, 26, 27, 28, 29, 30, 31, 32], none⟩,
             ⟨[(174, some (17, false)), (190, some (33, false))], [0, 1, 2, 3, 4, 5, 6, 7, 8, 9, 10, 11, 12, 13, 14, 15, 16, 17, 18, 19, 20, 21, 22, 23, 24, 25, 26, 27, 28, 29, 30, 31, 32, 33], none⟩] [] _ rfl rfl ?_
         refine da 35 ?_
         refine dq_end (rs := []) () rfl (fun _ => rfl) (.nil) rfl (fun _ => rfl) (fun _ _ => ?_)
         dsimp only [outG, outM, List.map, List.set, id]
         refine run_cond rfl (fun h23 => ?_) (fun h23 => ?_)
         · exfalso; have := h23; simp only [Int.toNat_zero] at this; omega
         ·
          refine au 6 ?_
          exact run_againC ih21 (j + 1) (by omega) (by omega) (.cons rfl (by first | exact fun _ _ h => h | exact d_int (by omega) | exact d_int (by simp) | exact d_intN (by omega) | exact d_any) .nil) (.cons rfl (fun _ _ x => x) (.cons rfl (fun _ _ x => x) (.cons rfl (fun _ _ x => x) (.cons rfl (fun _ _ x => x) (.cons rfl (fun _ _ x => x) (.cons rfl (fun _ _ x => x) (.nil)))))))
        ·
         refine au 6 ?_
         exact run_againC ih17 (k + 1) (by omega) (by omega) (.cons rfl (by first | exact fun _ _ h => h | exact d_int (by omega) | exact d_int (by simp) | exact d_intN (by omega) | exact d_any) .nil) (.cons rfl (fun _ _ x => x) (.cons rfl (fun _ _ x => x) (.cons rfl (fun _ _ x => x) (.nil))))
      ·
       refine au 5 ?_
       refine run_drop (.cons _ (.cons _ (.cons _ (.cons _ (.cons _ (.cons _ (.cons _ (.cons _ (.cons _ (.cons _ (.cons _ (.refl _)))))))))))) ?_
       refine run_retP Tryz.func3 rfl rfl ?_
       exact fun _ _ h => h
end Go.Q

namespace Go.Q
open Go.ChangeShapes Go.WideShapes Go.RowKit
def immOf (w : World) : Imm := ⟨fun b => w.heap[b]?, w.os, w.tape, w.output⟩
theorem inv_of (w : World) : Inv (immOf w) [] w := ⟨rfl, rfl, rfl, fun _ _ h => h, fun r hr => (by cases hr), List.nodup_nil⟩
theorem below_of {W w' : World} {J : Imm} (hle : (immOf W).le J) (hi : Inv J [] w') : Below W.heap.size W w' := by
 have hblk : ∀ k, k < W.heap.size → w'.heap[k]? = W.heap[k]? := fun k hk => by
  have h1 : W.heap[k]? = some W.heap[k] := by simp [hk]
  rw [h1]
  exact hi.imm k _ (hle.blk k _ h1)
 refine ⟨hi.os.trans hle.os, hi.tape.trans hle.tape, hi.output.trans hle.output, ?_, hblk⟩
 by_cases h : W.heap.size ≤ w'.heap.size
 ·exact h
 ·have h1 := hblk w'.heap.size (by omega)
  have h2 : w'.heap[w'.heap.size]? = none := by simp
  rw [h2] at h1
  have h3 : W.heap[w'.heap.size]? = some W.heap[w'.heap.size] := by simp [show w'.heap.size < W.heap.size by omega]
  rw [h3] at h1
  cases h1
section
variable {H : Type} {enc : TypeId × Value → H} {P : Program}
theorem post_same {f : Func} {s : ChangeSpec} {apart fresh handsOn again : Bool} {W W' : World} {args : Array Value} {v : Value} {ds gs : List (DataW H)} {before pa pv : List MemPlace}
  (hW : DataW.Whole enc P f.params.toList s.vars apart W args.toList ds gs before)
  (hres : ∀ (b : Nat) (sp : Nat → Bool) (hd : Bool), DataW.TrodAll enc P W' b sp hd f.resultTypes.toList (v.resultList f.resultTypes.size) (s.fn H (ds ++ gs)).results [])
  (hargs : ∀ sp : Nat → Bool, (∀ p ∈ before, sp p.block = true) → DataW.TrodAll enc P W' 0 sp true f.params.toList args.toList (s.fn H (ds ++ gs)).args pa)
  (hvars : ∀ sp : Nat → Bool, (∀ p ∈ before, sp p.block = true) → DataW.TrodVars enc P W' sp s.vars (s.fn H (ds ++ gs)).vars pv)
  (hps : before = pa ++ pv) (hk : W.keptBut W' (· ∈ before)) (hfz : ∀ a : Addr, a.block < W.heap.size → W'.frozen? a = W.frozen? a)
  (hok : ∀ (j : Nat) (t : TypeId) (r : Value), f.resultTypes[j]? = some t → (v.resultList f.resultTypes.size)[j]? = some r → Value.okWide P W' .any 0 t r) :
  s.post enc P f apart fresh handsOn again W args v W' := by
 have hold : ∀ p ∈ before, (fun b => decide (b < W.heap.size)) p.block = true := fun p hp => by simpa using hW.lt p hp
 have hlt := hW.lt
 refine ⟨ds, gs, before, [], pa, pv, hW, hres _ _ _, hargs _ hold, hvars _ hold, World.keptBut_mono (fun p hp => ⟨hp, ?_⟩) hk, fun _ => ?_⟩
 ·rw [hps, List.mem_append] at hp
  exact Or.inr hp
 ·obtain ⟨_, _, _, _, _, hz, hn⟩ := hW
  refine ⟨hok, _, _, ([] ++ pa) ++ pv, ⟨[] ++ pa, pv, trodAll_append (hargs _ (fun _ _ => rfl)) (hres _ _ _), hvars _ (fun _ _ => rfl), rfl, ?_, ?_⟩, ?_⟩
  ·intro b off hp
   have hm : MemPlace.cell b off ∈ before := by rw [hps]; simpa using hp
   rw [hfz _ (hlt _ hm)]
   exact hz b off hm
  ·intro ha
   have := hn ha
   rw [hps] at this
   simpa using this
  ·intro p hp _
   rw [hps]
   simpa using hp
theorem trodAll_stay (hl : laidOutB P = true) {W W' : World} {sp : Nat → Bool} : ∀ {ts : List TypeId} {vs : List Value} {ds : List (DataW H)} {ps : List MemPlace}, (∀ t ∈ ts, P.readableRec t = true ∧ t < P.types.size) →
  DataW.TrodAll enc P W 0 (fun _ => true) true ts vs ds ps → (∀ p ∈ ps, W.sameAt W' p) → (∀ p ∈ ps, sp p.block = true) → DataW.TrodAll enc P W' 0 sp true ts vs ds ps
 | [], _, _, _, _, h, _, _ => by
  obtain ⟨rfl, rfl, rfl⟩ := trodAll_nil h
  exact rfl
 | t :: ts, _, _, _, hr, h, hs, hp => by
  obtain ⟨v, vs, d, ds, p, q, rfl, rfl, rfl, h1, h2⟩ := trodAll_cons h
  have hrt := hr t (List.mem_cons_self ..)
  exact ⟨p, q, WideElems.Trod_stays hl hrt.1 hrt.2 h1 (fun x hx => hs x (List.mem_append_left _ hx)) (fun x hx => hp x (List.mem_append_left _ hx)),
   trodAll_stay hl (fun x hx => hr x (List.mem_cons_of_mem _ hx)) h2 (fun x hx => hs x (List.mem_append_right _ hx)) (fun x hx => hp x (List.mem_append_right _ hx)), rfl⟩
theorem law_calls {f : FuncId} {fn : Func} {s : ChangeSpec} {apart fresh handsOn again : Bool} {W : World} {args : Array Value} {ds gs : List (DataW H)} {before : List MemPlace} {tb : TypeId} {Ds : List D}
  (hl : laidOutB P = true) (hread : ∀ t ∈ fn.params.toList, P.readableRec t = true ∧ t < P.types.size) (hres : fn.resultTypes = #[tb]) (htb : P.underlying tb = some .bool) (hvars : s.vars = [])
  (hW : DataW.Whole enc P fn.params.toList s.vars apart W args.toList ds gs before) (hr : (s.fn H ds).results = [.lit (.bool true)]) (ha : (s.fn H ds).args = ds) (hv : (s.fn H ds).vars = [])
  (hsp : SpecP P f Ds (dB True)) (hrel : relL Ds (immOf W) args.toList) :
  Calls P f args W fun e W' => ∃ v, e = .returned v ∧ s.post enc P fn apart fresh handsOn again W args v W' := by
 have h := hsp (immOf W) [] W args.toList hrel (inv_of W)
 rw [Array.toArray_toList] at h
 refine h.mono ?_
 rintro e W' ⟨v, rfl, J, hle, ⟨b, rfl, hb⟩, hi⟩
 have hbt : b = true := hb.2 trivial
 subst hbt
 have hB := below_of hle hi
 have hlt := hW.lt
 have hW' := hW
 obtain ⟨p, q, hA, hV, rfl, hfz, hnd⟩ := hW'
 rw [hvars] at hV
 obtain ⟨rfl, rfl⟩ := trodVars_none hV
 rw [List.append_nil] at hlt
 refine ⟨_, rfl, post_same (pa := p) (pv := []) hW (fun b sp hd => ?_) (fun sp hs => ?_) (fun sp hs => ?_) rfl (hB.frame _) (fun a ha => hB.frozen ha) (ok_one hres rfl (okWide_bool_mk htb true))⟩
 ·rw [List.append_nil, hr, hres]
  exact trodAll_mk1 (shut_bool htb true)
 ·rw [List.append_nil, ha]
  exact trodAll_stay hl hread hA (fun x hx => hB.same (hlt x hx)) (fun x hx => hs x (by simpa using hx))
 ·rw [List.append_nil, hv, hvars]
  exact rfl

theorem wf_u8 {n : Int} (h : (Lit.int .u8 n).wf = true) : 0 ≤ n ∧ n ≤ 255 := by
 have h1 : IntKind.u8.min ≤ n ∧ n ≤ IntKind.u8.max := by simpa [Lit.wf] using h
 exact h1
theorem at_of_cell {w : World} {a : Addr} {v : Value} {d : D} (h : w.cell? a = some v) (hd : d.rel (immOf w) v) : (immOf w).at a [d] := by
 unfold World.cell? at h
 split at h
 ·rename_i cs T fz hb
  split at h
  ·cases h
  ·rename_i hs
   refine ⟨by simpa using hs, cs, T, fz, hb, ?_⟩
   have h1 : cs.toList[a.off]? = some v := by simpa using h
   have h2 : (cs.toList.drop a.off).take 1 = [v] := by
    rw [List.take_one, List.head?_drop, h1]; rfl
   show relL [d] _ ((cs.toList.drop a.off).take 1)
   rw [h2]
   exact ⟨hd, trivial⟩
 ·cases h
variable {W : World}
end
end Go.Q

namespace Go.Q
open Go.ChangeShapes Go.WideShapes Go.RowKit Go.Joins
section
variable {H : Type} {enc : TypeId × Value → H} {P : Program} {W : World}
theorem weights_all {e : TypeId} {l : List (DataW H)} {d : DataW H} (hd : d ∈ l) {n : Nat} (hn : n ∈ d.weights P e) : n ∈ DataW.weightsAll P e l := by
 induction l with
 | nil => cases hd
 | cons x l ih =>
  rw [DataW.weightsAll]
  rcases List.mem_cons.1 hd with rfl | hd
  ·exact List.mem_append_left _ hn
  ·exact List.mem_append_right _ (ih hd)
structure TabTy (P : Program) (t e q : TypeId) (f0 f1 f2 f3 g : Field) : Prop where
 s : P.underlying t = some (.struct #[f0, f1, f2, f3])
 c : P.cellsOf t = 4
 i0 : P.underlying f0.type = some (.int .i64) ∧ f0.offset = 0 ∧ P.cellsOf f0.type = 1
 i1 : P.underlying f1.type = some (.struct #[g]) ∧ f1.offset = 1 ∧ P.cellsOf f1.type = 1
 i2 : P.underlying f2.type = some (.int .i64) ∧ f2.offset = 2 ∧ P.cellsOf f2.type = 1
 i3 : P.underlying f3.type = some (.slice e) ∧ f3.offset = 3 ∧ P.cellsOf f3.type = 1
 ig : P.underlying g.type = some (.int .i64) ∧ g.offset = 0 ∧ P.cellsOf g.type = 1
 he : P.underlying e = some (.slice q)
 hq : P.underlying q = some (.int .i64)
 ce : P.cellsOf e = 1
 cq : P.cellsOf q = 1
 be : P.bytesOf e = 24
 bq : P.bytesOf q = 8
end
end Go.Q
