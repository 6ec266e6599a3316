/- Contracts of what dice make of changes, queries and servers. -/
import Derived.Test.YtgaalfgmgmpnbaaGreatQDraw3
set_option linter.unusedVariables false
set_option linter.unusedSimpArgs false
namespace Go.Q
open Go.Proofs
open Classical
def nextT (t b : Tab) : Prop := b.p = t.p ∧ b.width = t.width ∧ (t.number < b.number ∧ b.number ≤ t.number + 2) ∧ (1 ≤ b.rows.length ∧ b.rows.length ≤ t.rows.length + 1) ∧ ∀ r ∈ b.rows, (r.length : Int) = t.width ∧ allP t.p r
theorem delementsM_spec (b : Nat) (d : Dc) (h : okDc d) (p n : Int) (hp : 2 ≤ p ∧ p ≤ 65521) (hn : n ≤ 100000) : Spec Tryz.prog 48 [dVal (ptr b 0), dAgg [dInt .i64 p], dInt .i64 n] [rDc b d] (σ := (Value × List Int) × Dc) (fun s => (s.1.2.length = n.toNat ∧ ∀ x ∈ s.1.2, hasP p x) ∧ okDc s.2) (fun s => dSlV s.1.1) (fun s => [rRow s.1.1 3 1 fI s.1.2, rDc b s.2]) := by
  refine spec_of_body Tryz.func48 rfl rfl (fun I F => ?_)
  refine run_seq ?_
  refine run_region ?_
  refine run_op (loc_boxN rfl) rfl ?_
  refine run_op (loc_assign rfl) rfl ?_
  refine run_nil ?_
  refine run_seq ?_
  refine run_region ?_
  refine run_op (loc_assign rfl) rfl ?_
  refine run_nil ?_
  refine run_seq ?_
  refine run_seq ?_
  refine run_region ?_
  refine run_op (loc_assign rfl) rfl ?_
  refine run_nil ?_
  refine run_block ?_
  refine run_rowNil 3 1 fI ?_
  refine run_loopF (σ := Value × List Int × Dc) (ks := [0, 2, 4]) (.cons rfl (.cons rfl (.cons rfl (.nil)))) (fun q => [(7, dVal q.1), (8, dInt .i64 (q.2.1.length : Nat))]) (fun q => [rRow q.1 3 1 fI q.2.1, rDc b q.2.2]) (fun q => q.2.1.length ≤ n.toNat ∧ (∀ x ∈ q.2.1, hasP p x) ∧ okDc q.2.2) (fun q => n.toNat - q.2.1.length) ((.slice none 0 0, [], d)) (⟨Nat.zero_le _, fun x hx => (by cases hx), h⟩) (.cons rfl (by first | exact fun _ _ h => h | exact d_int (by omega) | exact d_int (by simp) | exact d_intN (by omega) | exact d_any) (.cons rfl (d_int rfl) .nil)) (rfl) ?_
  rintro q ⟨hl, hall, hok⟩ ih1
  have hok1 := Dc.next_ok hok
  have hv0 := Dc.val_lt (d := q.2.2) (n := 256) (by omega)
  have hw0 := Dc.val_nonneg (d := q.2.2) (n := 256) (by omega)
  have hv1 := Dc.val_lt (d := q.2.2.next) (n := 2) (by omega)
  have hw1 := Dc.val_nonneg (d := q.2.2.next) (n := 2) (by omega)
  have hxb := mod_bd (q.2.2.val 256 + q.2.2.next.val 2 * 128) (show 0 < p by omega)
  refine run_seq ?_
  refine run_seq ?_
  refine run_region ?_
  refine run_op (loc_move rfl) rfl ?_
  refine run_op (loc_move rfl) rfl ?_
  refine run_op (loc_lss rfl rfl) rfl ?_
  refine run_nil ?_
  refine run_cond rfl (fun h2 => ?_) (fun h2 => ?_)
  ·
   refine run_skip ?_
   refine run_seq ?_
   refine run_block ?_
   refine dr_start _ (.one (σ := Value) 11 (fun _ => True)) [⟨[(7, none)], [], none⟩,
       ⟨[(0, none)], [], none⟩,
       ⟨[(15, some (1, false))], [1], some (1, 0, true)⟩,
       ⟨[(0, none)], [], none⟩,
       ⟨[(17, some (3, false))], [1, 2, 3], some (1, 1, true)⟩,
       ⟨[(18, some (4, false))], [1, 2, 3, 4], none⟩,
       ⟨[(16, some (2, false)), (19, some (5, false))], [1, 2, 3, 4, 5], none⟩,
       ⟨[(4, none)], [], none⟩,
       ⟨[(21, some (7, false))], [7], none⟩,
       ⟨[(20, some (6, false)), (22, some (8, false))], [1, 2, 3, 4, 5, 6, 7, 8], none⟩,
       ⟨[(23, some (9, false))], [1, 2, 3, 4, 5, 6, 7, 8, 9], none⟩,
       ⟨[(14, some (0, false)), (24, some (10, false))], [0, 1, 2, 3, 4, 5, 6, 7, 8, 9, 10], some (0, 0, true)⟩,
       ⟨[(25, some (11, false))], [0, 1, 2, 3, 4, 5, 6, 7, 8, 9, 10, 11], none⟩] [_, _] _ rfl rfl ?_
   refine dq_pure rfl (fun s => .g rfl (.nil)) (fun s hs _ => loc_move rfl) (by exact .cons (.inr fun _ _ _ => rfl) (.nil)) ?_
   refine dq_pure rfl (fun s => .g rfl (.nil)) (fun s hs _ => loc_move rfl) (by exact .cons (.inr fun _ _ _ => rfl) (.nil)) ?_
   refine dq_write rfl (fun s => .op rfl (.nil)) rfl rfl (fun s hs => loc_callM (pick_spec b _ _ (by assumption) (by omega)) rfl) (by exact .cons (.inr fun _ _ _ => ⟨rfl, rfl⟩) (.nil)) ?_
   refine dq_pure rfl (fun s => .g rfl (.nil)) (fun s hs _ => loc_move rfl) (by exact .cons (.inr fun _ _ _ => rfl) (.nil)) ?_
   refine dq_write rfl (fun s => .op rfl (.nil)) rfl rfl (fun s hs => loc_callM (pick_spec b _ _ (by assumption) (by omega)) rfl) (by exact .cons (.inr fun _ _ _ => ⟨rfl, rfl⟩) (.nil)) ?_
   first | refine dq_pure rfl (fun s => .op rfl (.nil)) (fun s hs _ => loc_mul rfl rfl (by first | omega | assumption | (simp; omega))) (by exact .cons (.inr fun _ _ _ => rfl) (.nil)) ?_ | refine dq_pure rfl (fun s => .op rfl (.nil)) (fun s hs _ => loc_mulW rfl rfl) (by exact .cons (.inr fun _ _ _ => rfl) (.nil)) ?_
   first | refine dq_pure rfl (fun s => .op rfl (.op rfl (.nil))) (fun s hs _ => loc_add rfl rfl (by first | omega | assumption | (simp; omega))) (by exact .cons (.inr fun _ _ _ => rfl) (.nil)) ?_ | refine dq_pure rfl (fun s => .op rfl (.op rfl (.nil))) (fun s hs _ => loc_addW rfl rfl) (by exact .cons (.inr fun _ _ _ => rfl) (.nil)) ?_
   refine dq_pure rfl (fun s => .g rfl (.nil)) (fun s hs _ => loc_fieldAddr rfl) (by exact .cons (.inr fun _ _ _ => rfl) (.nil)) ?_
   refine dq_pure rfl (fun s => .op rfl (.nil)) (fun s hs _ => loc_load1 rfl) (by exact .cons (.inr fun _ _ _ => rfl) (.nil)) ?_
   first | refine dq_pure rfl (fun s => .op rfl (.op rfl (.nil))) (fun s hs _ => loc_rem rfl rfl (by first | omega | assumption | (simp; omega))) (by exact .cons (.inr fun _ _ _ => rfl) (.nil)) ?_ | refine dq_pure rfl (fun s => .op rfl (.op rfl (.nil))) (fun s hs _ => loc_remW rfl rfl (by first | omega | assumption | (simp; omega))) (by exact .cons (.inr fun _ _ _ => rfl) (.nil)) ?_
   refine dq_pure rfl (fun s => .op rfl (.nil)) (fun s hs _ => loc_buildSlice rfl rfl (.one rfl (.nil)) rfl rfl) (by exact .cons (.inr fun _ _ _ => rfl) (.nil)) ?_
   refine dq_choose id (fun _ t => t) rfl (fun _ _ => ⟨rfl, id, trivial⟩) (fun s => .op rfl (.op rfl (.nil))) rfl rfl (fun s hs => loc_append1 _ rfl rfl rfl rfl (by first | omega | (simp [lenMax]; omega) | (simp [lenMax]; done) | assumption) (by first | omega | (simp [lenMax]; omega) | (simp [lenMax]; done) | assumption)) (by exact .cons (.inl rfl) (.nil)) (fun _ _ => rfl) ?_
   refine dq_pure rfl (fun s => .op rfl (.nil)) (fun s hs _ => loc_assign rfl) (by exact .cons (.inl rfl) (.nil)) ?_
   refine dq_end (rs := [_, _]) (.bool true) rfl (fun _ => rfl) (.cons rfl (.nil)) rfl (fun _ => rfl) (fun v3 _ => ?_)
   dsimp only [outG, outM, List.map, List.set, id]
   refine run_inBlock ?_
   refine run_region ?_
   refine run_op (loc_move rfl) rfl ?_
   first | refine run_op (loc_add rfl rfl (by first | omega | assumption | (simp; omega))) rfl ?_ | refine run_op (loc_addW rfl rfl) rfl ?_
   refine run_op (loc_assign rfl) rfl ?_
   refine run_nil ?_
   exact run_againF ih1 ((v3, q.2.1 ++ [(q.2.2.val 256 + q.2.2.next.val 2 * 128) % p], q.2.2.next.next)) (⟨by simp only [List.length_append, List.length_singleton]; omega, fun x hx => by rcases List.mem_append.1 hx with hx | hx; (· exact hall x hx); (· rw [List.mem_singleton.1 hx]; exact hxb), Dc.next_ok hok1⟩) (by simp only [List.length_append, List.length_singleton]; omega) (.cons rfl (by first | exact fun _ _ h => h | exact d_int (by omega) | exact d_int (by simp) | exact d_intN (by omega) | exact d_any) (.cons rfl (d_int (by simp only [List.length_append, List.length_singleton]; omega)) .nil)) (.cons rfl (fun _ _ x => x) (.cons rfl (fun _ _ x => x) (.cons rfl (fun _ _ x => x) (.nil)))) (rfl)
  ·
   refine run_exit rfl ?_
   refine run_seq ?_
   refine run_rowV (s := 7) rfl (.here) ?_
   refine run_region ?_
   refine run_op (loc_move rfl) rfl ?_
   refine run_op (loc_assign rfl) rfl ?_
   refine run_nil ?_
   refine run_ret (((q.1, q.2.1), q.2.2)) Tryz.func48 rfl rfl ?_ (⟨⟨by simp only; omega, hall⟩, hok⟩) (fun _ _ h => h.sub (.cons_cons _ (.cons_cons _ (.refl _))))
   exact fun _ _ h => h
theorem dchange_spec (b : Nat) (d : Dc) (h : okDc d) (t : Tab) (ht : checkT t = 0) (hr : 1 ≤ t.rows.length) (hn : t.number ≤ 1000000) : Spec Tryz.prog 91 [dVal (ptr b 0), dTab t] [rDc b d] (σ := Tab × Dc) (fun r => nextT t r.1 ∧ okDc r.2) (fun r => dChg (btwC t r.1)) (fun s => [rDc b s.2]) := by
  refine spec_of_body Tryz.func91 rfl rfl (fun I F => ?_)
  refine run_seq ?_
  refine run_region ?_
  refine run_op (loc_boxN rfl) rfl ?_
  refine run_new (loc_allocOwn (by simp)) rfl (fun b1 _ => ?_)
  refine run_nil ?_
  refine run_seq ?_
  have hct := checkT_ok ht
  have hpp := hct.2.1
  have hp1 := hpp.1
  have hp2 := hpp.2.1
  have htw := hct.2.2.1
  have htl := hct.2.2.2.1
  have htn := hct.1.1
  have hv0 := Dc.val_lt (d := d) (n := 2) (by omega)
  have hw0 := Dc.val_nonneg (d := d) (n := 2) (by omega)
  refine run_addNone ?_
  refine dr_start _ (.one (σ := Nat) 11 (fun _ => True)) [⟨[(3, none)], [], none⟩,
      ⟨[(9, some (0, false))], [0], none⟩,
      ⟨[(10, some (1, false))], [0, 1], none⟩,
      ⟨[(0, none)], [], none⟩,
      ⟨[(12, some (3, false))], [3], some (2, 0, true)⟩,
      ⟨[(11, some (2, false)), (13, some (4, false))], [0, 1, 2, 3, 4], none⟩,
      ⟨[(3, none)], [], none⟩,
      ⟨[(15, some (6, false))], [6], none⟩,
      ⟨[(3, none)], [], none⟩,
      ⟨[(17, some (8, false))], [8], none⟩,
      ⟨[(14, some (5, false)), (16, some (7, false)), (18, some (9, false))], [0, 1, 2, 3, 4, 5, 6, 7, 8, 9], none⟩,
      ⟨[], [], some (0, 0, true)⟩,
      ⟨[(5, some (11, false)), (19, some (10, false))], [0, 1, 2, 3, 4, 5, 6, 7, 8, 9, 10, 11], some (0, 1, true)⟩] [_, _, _] _ rfl rfl ?_
  refine dq_pure rfl (fun s => .g rfl (.nil)) (fun s hs _ => loc_fieldAddr rfl) (by exact .cons (.inr fun _ _ _ => rfl) (.nil)) ?_
  refine dq_pure rfl (fun s => .op rfl (.nil)) (fun s hs _ => loc_load1 rfl) (by exact .cons (.inr fun _ _ _ => rfl) (.nil)) ?_
  first | refine dq_pure rfl (fun s => .op rfl (.nil)) (fun s hs _ => loc_add rfl rfl (by first | omega | assumption | (simp; omega))) (by exact .cons (.inr fun _ _ _ => rfl) (.nil)) ?_ | refine dq_pure rfl (fun s => .op rfl (.nil)) (fun s hs _ => loc_addW rfl rfl) (by exact .cons (.inr fun _ _ _ => rfl) (.nil)) ?_
  refine dq_pure rfl (fun s => .g rfl (.nil)) (fun s hs _ => loc_move rfl) (by exact .cons (.inr fun _ _ _ => rfl) (.nil)) ?_
  refine dq_write rfl (fun s => .op rfl (.nil)) rfl rfl (fun s hs => loc_callM (pick_spec b _ _ (by assumption) (by omega)) rfl) (by exact .cons (.inr fun _ _ _ => ⟨rfl, rfl⟩) (.nil)) ?_
  first | refine dq_pure rfl (fun s => .op rfl (.op rfl (.nil))) (fun s hs _ => loc_add rfl rfl (by first | omega | assumption | (simp; omega))) (by exact .cons (.inr fun _ _ _ => rfl) (.nil)) ?_ | refine dq_pure rfl (fun s => .op rfl (.op rfl (.nil))) (fun s hs _ => loc_addW rfl rfl) (by exact .cons (.inr fun _ _ _ => rfl) (.nil)) ?_
  refine dq_pure rfl (fun s => .g rfl (.nil)) (fun s hs _ => loc_fieldAddr rfl) (by exact .cons (.inr fun _ _ _ => rfl) (.nil)) ?_
  refine dq_pure rfl (fun s => .op rfl (.nil)) (fun s hs _ => loc_loadN rfl rfl) (by exact .cons (.inr fun _ _ _ => rfl) (.nil)) ?_
  refine dq_pure rfl (fun s => .g rfl (.nil)) (fun s hs _ => loc_fieldAddr rfl) (by exact .cons (.inr fun _ _ _ => rfl) (.nil)) ?_
  refine dq_pure rfl (fun s => .op rfl (.nil)) (fun s hs _ => loc_load1 rfl) (by exact .cons (.inr fun _ _ _ => rfl) (.nil)) ?_
  refine dq_pure rfl (fun s => .op rfl (.op rfl (.op rfl (.nil)))) (fun s hs _ => loc_build (.one rfl rfl rfl (.agg rfl rfl rfl rfl (.one rfl rfl rfl (.nil))))) (by exact .cons (.inr fun _ _ _ => rfl) (.nil)) ?_
  refine dq_choose id (fun _ t => t) rfl (fun _ _ => ⟨rfl, id, trivial⟩) (fun s => .nil) rfl rfl (fun s hs => locM_new (loc_allocOwn (by simp))) (by exact .cons (.inl rfl) (.nil)) (fun _ _ => rfl) ?_
  refine dq_write0 rfl (fun s => .op rfl (.op rfl (.nil))) rfl rfl (fun s hs => loc_storeN (ho := (by show OneAll [_, _, _, _]; infer_instance)) rfl rfl rfl) (by exact .cons (.inl rfl) (.nil)) ?_
  refine dq_end (rs := [_, _, _]) 0 rfl (fun _ => rfl) (.cons rfl (.nil)) rfl (fun _ => rfl) (fun b5 _ => ?_)
  dsimp only [outG, outM, List.map, List.set, id]
  refine run_seq ?_
  refine run_seq ?_
  refine run_region ?_
  refine run_op (loc_assign rfl) rfl ?_
  refine run_nil ?_
  refine run_block ?_
  refine run_rowNil 44 1 fR ?_
  refine run_cellsUp (kk := 3) (b := b5) (dVal (.slice none 0 0)) (dSlV (.slice none 0 0)) (.there (.here)) rfl (fun J u h => ⟨h, _, _, _, h⟩) ?_
  refine run_front (.there (.there (.there (.here)))) ?_
  refine run_front (.there (.here)) ?_
  refine run_front (.there (.there (.here))) ?_
  refine run_loopF (σ := Value × List (List Int) × Dc) (ks := [0, 3, 4, 5]) (.cons rfl (.cons rfl (.cons rfl (.cons rfl (.nil))))) (fun q => [(6, dInt .i64 (q.2.1.length : Nat))]) (fun q => [rCells b5 32 [dInt .i64 (t.number + 1 + d.val 2), dInt .i64 t.p, dInt .i64 t.width, dSlV q.1], rRow q.1 44 1 fR q.2.1, rDc b q.2.2]) (fun q => q.2.1.length ≤ t.rows.length ∧ (∀ r ∈ q.2.1, (r.length : Int) = t.width ∧ allP t.p r) ∧ okDc q.2.2) (fun q => t.rows.length - q.2.1.length) ((.slice none 0 0, [], d.next)) (⟨Nat.zero_le _, fun r hr => (by cases hr), Dc.next_ok h⟩) (.cons rfl (d_int rfl) .nil) (rfl) ?_
  rintro q ⟨hql, hall, hdc⟩ ih3
  have hdc1 := Dc.next_ok hdc
  have hv4 := Dc.val_lt (d := q.2.2) (n := 4) (by omega)
  have hw4 := Dc.val_nonneg (d := q.2.2) (n := 4) (by omega)
  refine run_seq ?_
  refine run_seq ?_
  refine run_region ?_
  refine run_op (loc_move rfl) rfl ?_
  refine run_op (loc_fieldAddr rfl) rfl ?_
  refine run_op (loc_load1 rfl) rfl ?_
  first | refine runL_fact (s := 22) rfl (fun _ _ h => dSl_len h) (fun hlen4 => ?_) | skip
  refine run_op (loc_len rfl) rfl ?_
  refine run_op (loc_lss rfl rfl) rfl ?_
  refine run_nil ?_
  refine run_cond rfl (fun h5 => ?_) (fun h5 => ?_)
  ·
   have hrk := hct.2.2.2.2 _ (getD_mem (xs := t.rows) (k := q.2.1.length) (by omega))
   refine run_skip ?_
   refine run_seq ?_
   refine run_block ?_
   refine run_seq ?_
   refine run_region ?_
   refine run_op (loc_move rfl) rfl ?_
   refine run_callM rfl (.there (.there (.here))) (pick_spec b _ _ (by assumption) (by omega)) rfl (fun s6 hs6 => ?_)
   refine run_op (loc_gtr rfl rfl) rfl ?_
   refine run_nil ?_
   refine run_cond rfl (fun h7 => ?_) (fun h7 => ?_)
   ·
    refine dr_start _ (.one (σ := Value) 8 (fun _ => True)) [⟨[(5, none)], [], none⟩,
        ⟨[(30, some (0, false))], [0], some (0, 0, false)⟩,
        ⟨[(3, none)], [], none⟩,
        ⟨[(32, some (2, false))], [2], none⟩,
        ⟨[(6, none)], [], none⟩,
        ⟨[(33, some (3, false)), (34, some (4, false))], [2, 3, 4], none⟩,
        ⟨[(35, some (5, false))], [2, 3, 4, 5], none⟩,
        ⟨[(36, some (6, false))], [2, 3, 4, 5, 6], none⟩,
        ⟨[(31, some (1, false)), (37, some (7, false))], [0, 1, 2, 3, 4, 5, 6, 7], some (1, 0, true)⟩,
        ⟨[(5, none)], [0, 1, 2, 3, 4, 5, 6, 7, 8], none⟩,
        ⟨[(39, some (9, false)), (38, some (8, false))], [0, 1, 2, 3, 4, 5, 6, 7, 8, 9], some (0, 0, true)⟩] [_, _, _, _] _ rfl rfl ?_
    refine dq_pure rfl (fun s => .g rfl (.nil)) (fun s hs _ => loc_fieldAddrOwn rfl) (by exact .cons (.inr fun _ _ _ => rfl) (.nil)) ?_
    first | refine dq_read rfl (fun s => .op rfl (.nil)) rfl rfl (fun s hs _ hm => LocP.upV (loc_loadOwn1 rfl hm (by rfl))) (by exact .cons (.inr fun _ _ _ => rfl) (.nil)) ?_ | refine dq_read rfl (fun s => .op rfl (.nil)) rfl rfl (fun s hs _ hm => loc_loadOwn1 rfl hm (by rfl)) (by exact .cons (.inr fun _ _ _ => rfl) (.nil)) ?_
    refine dq_pure rfl (fun s => .g rfl (.nil)) (fun s hs _ => loc_fieldAddr rfl) (by exact .cons (.inr fun _ _ _ => rfl) (.nil)) ?_
    refine dq_pure rfl (fun s => .op rfl (.nil)) (fun s hs _ => loc_load1 rfl) (by exact .cons (.inr fun _ _ _ => rfl) (.nil)) ?_
    refine dq_pure rfl (fun s => .g rfl (.nil)) (fun s hs _ => loc_move rfl) (by exact .cons (.inr fun _ _ _ => rfl) (.nil)) ?_
    first | refine dq_pure rfl (fun s => .op rfl (.op rfl (.nil))) (fun s hs _ => loc_index rfl rfl (by first | omega | assumption | (simp; omega))) (by exact .cons (.inr fun _ _ _ => rfl) (.nil)) ?_ | refine dq_pure rfl (fun s => .op rfl (.op rfl (.nil))) (fun s hs _ => loc_indexI rfl rfl (by first | omega | assumption | (simp; omega))) (by exact .cons (.inr fun _ _ _ => rfl) (.nil)) ?_
    refine dq_pure rfl (fun s => .op rfl (.nil)) (fun s hs _ => loc_load1 rfl) (by exact .cons (.inr fun _ _ _ => rfl) (.nil)) ?_
    refine dq_pure rfl (fun s => .op rfl (.nil)) (fun s hs _ => loc_buildSlice rfl rfl (.one rfl (.nil)) rfl rfl) (by exact .cons (.inr fun _ _ _ => rfl) (.nil)) ?_
    refine dq_choose id (fun _ t => t) rfl (fun _ _ => ⟨rfl, id, trivial⟩) (fun s => .op rfl (.op rfl (.nil))) rfl rfl (fun s hs => LocM.rowV (loc_append1 (t.rows[q.2.1.length]?.getD default) rfl rfl rfl rfl (by first | omega | (simp [lenMax]; omega) | (simp [lenMax]; done) | assumption) (by first | omega | (simp [lenMax]; omega) | (simp [lenMax]; done) | assumption))) (by exact .cons (.inl rfl) (.nil)) (fun _ _ => rfl) ?_
    refine dq_pure rfl (fun s => .g rfl (.nil)) (fun s hs _ => loc_fieldAddrOwn rfl) (by exact .cons (.inl rfl) (.nil)) ?_
    refine dq_write0 rfl (fun s => .op rfl (.op rfl (.nil))) rfl rfl (fun s hs => loc_store1 rfl rfl rfl) (by exact .cons (.inl rfl) (.nil)) ?_
    refine dq_end (rs := [_, _, _, _]) (.bool true) rfl (fun _ => rfl) (.cons rfl (.nil)) rfl (fun _ => rfl) (fun v9 _ => ?_)
    dsimp only [outG, outM, List.map, List.set, id]
    refine run_inBlock ?_
    refine run_region ?_
    refine run_op (loc_move rfl) rfl ?_
    first | refine run_op (loc_add rfl rfl (by first | omega | assumption | (simp; omega))) rfl ?_ | refine run_op (loc_addW rfl rfl) rfl ?_
    refine run_op (loc_assign rfl) rfl ?_
    refine run_nil ?_
    exact run_againF ih3 ((v9, q.2.1 ++ [t.rows[q.2.1.length]?.getD default], q.2.2.next)) (⟨by simp only [List.length_append, List.length_singleton]; omega, fun r hr => by rcases List.mem_append.1 hr with hr | hr; (· exact hall r hr); (· rw [List.mem_singleton.1 hr]; exact hrk), hdc1⟩) (by simp only [List.length_append, List.length_singleton]; omega) (.cons rfl (d_int (by simp only [List.length_append, List.length_singleton]; omega)) .nil) (.cons rfl (fun _ _ x => x) (.cons rfl (fun _ _ x => x) (.cons rfl (fun _ _ x => x) (.cons rfl (fun _ _ x => x) (.nil))))) (rfl)
   ·
    refine dr_start _ (.two (τ1 := List Int × Dc) (τ2 := Value) 7 9 (fun s => (s.1.length = t.width.toNat ∧ ∀ x ∈ s.1, hasP t.p x) ∧ okDc s.2) (fun _ => True)) [⟨[(5, none)], [], none⟩,
        ⟨[(40, some (0, false))], [0], some (0, 0, false)⟩,
        ⟨[(0, none)], [], none⟩,
        ⟨[(3, none)], [], none⟩,
        ⟨[(43, some (3, false))], [3], none⟩,
        ⟨[(3, none)], [], none⟩,
        ⟨[(45, some (5, false))], [5], none⟩,
        ⟨[(42, some (2, false)), (44, some (4, false)), (46, some (6, false))], [2, 3, 4, 5, 6], some (2, 0, true)⟩,
        ⟨[(47, some (7, false))], [2, 3, 4, 5, 6, 7], none⟩,
        ⟨[(41, some (1, false)), (48, some (8, false))], [0, 1, 2, 3, 4, 5, 6, 7, 8], some (1, 0, true)⟩,
        ⟨[(5, none)], [0, 1, 2, 3, 4, 5, 6, 7, 8, 9], none⟩,
        ⟨[(50, some (10, false)), (49, some (9, false))], [0, 1, 2, 3, 4, 5, 6, 7, 8, 9, 10], some (0, 0, true)⟩] [_, _, _, _] _ rfl rfl ?_
    refine dq_pure rfl (fun s => .g rfl (.nil)) (fun s hs _ => loc_fieldAddrOwn rfl) (by exact .cons (.inr fun _ _ _ => rfl) (.cons (.inr fun _ _ _ => rfl) (.nil))) ?_
    first | refine dq_read rfl (fun s => .op rfl (.nil)) rfl rfl (fun s hs _ hm => LocP.upV (loc_loadOwn1 rfl hm (by rfl))) (by exact .cons (.inr fun _ _ _ => rfl) (.cons (.inr fun _ _ _ => rfl) (.nil))) ?_ | refine dq_read rfl (fun s => .op rfl (.nil)) rfl rfl (fun s hs _ hm => loc_loadOwn1 rfl hm (by rfl)) (by exact .cons (.inr fun _ _ _ => rfl) (.cons (.inr fun _ _ _ => rfl) (.nil))) ?_
    refine dq_pure rfl (fun s => .g rfl (.nil)) (fun s hs _ => loc_move rfl) (by exact .cons (.inr fun _ _ _ => rfl) (.cons (.inr fun _ _ _ => rfl) (.nil))) ?_
    refine dq_pure rfl (fun s => .g rfl (.nil)) (fun s hs _ => loc_fieldAddr rfl) (by exact .cons (.inr fun _ _ _ => rfl) (.cons (.inr fun _ _ _ => rfl) (.nil))) ?_
    refine dq_pure rfl (fun s => .op rfl (.nil)) (fun s hs _ => loc_loadN rfl rfl) (by exact .cons (.inr fun _ _ _ => rfl) (.cons (.inr fun _ _ _ => rfl) (.nil))) ?_
    refine dq_pure rfl (fun s => .g rfl (.nil)) (fun s hs _ => loc_fieldAddr rfl) (by exact .cons (.inr fun _ _ _ => rfl) (.cons (.inr fun _ _ _ => rfl) (.nil))) ?_
    refine dq_pure rfl (fun s => .op rfl (.nil)) (fun s hs _ => loc_load1 rfl) (by exact .cons (.inr fun _ _ _ => rfl) (.cons (.inr fun _ _ _ => rfl) (.nil))) ?_
    refine dq_choose Prod.fst (fun s t => (t, s.2)) rfl (fun _ _ => ⟨rfl, id, rfl⟩) (fun s => .op rfl (.op rfl (.op rfl (.nil)))) rfl rfl (fun s hs => loc_callM (delements_spec b _ hdc1 t.p t.width ⟨by omega, by omega⟩ (by omega)) rfl) (by exact .cons (.inl rfl) (.cons (.inr (.inr fun ⟨a, b⟩ ⟨c, d⟩ h => by have h : c = a := h; subst h; exact rfl)) (.nil))) (fun _ _ => rfl) ?_
    refine dq_pure rfl (fun s => .op rfl (.nil)) (fun s hs _ => loc_buildSlice rfl rfl (.one rfl (.nil)) rfl rfl) (by exact .cons (.inl rfl) (.cons (.inr fun ⟨a, b⟩ ⟨c, d⟩ h => by have h : c = a := h; subst h; exact rfl) (.nil))) ?_
    refine dq_chooseS Prod.snd (fun s t => (s.1, t)) rfl (fun _ _ => ⟨rfl, id, rfl⟩) (fun s => .op rfl (.op rfl (.nil))) rfl rfl (fun s hs => LocM.rowV (loc_append1 (s.1.1) rfl rfl rfl rfl (by first | omega | (simp [lenMax]; omega) | (simp [lenMax]; done) | assumption) (by first | omega | (simp [lenMax]; omega) | (simp [lenMax]; done) | assumption))) (fun _ _ => ⟨rfl, rfl⟩) (by exact .cons (.inr (.inl rfl)) (.cons (.inl rfl) (.nil))) (fun _ _ => rfl) ?_
    refine dq_pure rfl (fun s => .g rfl (.nil)) (fun s hs _ => loc_fieldAddrOwn rfl) (by exact .cons (.inl rfl) (.cons (.inl rfl) (.nil))) ?_
    refine dq_write0 rfl (fun s => .op rfl (.op rfl (.nil))) rfl rfl (fun s hs => loc_store1 rfl rfl rfl) (by exact .cons (.inl rfl) (.cons (.inl rfl) (.nil))) ?_
    refine dq_end (rs := [_, _, _, _]) (([], q.2.2), (.bool true)) rfl (fun _ => rfl) (.cons rfl (.cons rfl (.nil))) rfl (fun _ => rfl) (fun s9 h9 => ?_)
    obtain ⟨el, v9⟩ := s9
    obtain ⟨hel, _⟩ := Ch.two_good rfl h9
    dsimp only [outG, outM, List.map, List.set, id]
    refine run_inBlock ?_
    refine run_region ?_
    refine run_op (loc_move rfl) rfl ?_
    first | refine run_op (loc_add rfl rfl (by first | omega | assumption | (simp; omega))) rfl ?_ | refine run_op (loc_addW rfl rfl) rfl ?_
    refine run_op (loc_assign rfl) rfl ?_
    refine run_nil ?_
    exact run_againF ih3 ((v9, q.2.1 ++ [el.1], el.2)) (⟨by simp only [List.length_append, List.length_singleton]; omega, fun r hr => by rcases List.mem_append.1 hr with hr | hr; (· exact hall r hr); (· rw [List.mem_singleton.1 hr]; exact ⟨by have h5 : el.1.length = t.width.toNat := hel.1.1; omega, hel.1.2⟩), hel.2⟩) (by simp only [List.length_append, List.length_singleton]; omega) (.cons rfl (d_int (by simp only [List.length_append, List.length_singleton]; omega)) .nil) (.cons rfl (fun _ _ x => x) (.cons rfl (fun _ _ x => x) (.cons rfl (fun _ _ x => x) (.cons rfl (fun _ _ x => x) (.nil))))) (rfl)
  ·
   refine run_exit rfl ?_
   refine run_seq ?_
   refine run_seq ?_
   refine run_region ?_
   refine run_op (loc_move rfl) rfl ?_
   refine run_callM rfl (.there (.there (.here))) (pick_spec b _ _ (by assumption) (by omega)) rfl (fun s8 hs8 => ?_)
   refine run_nil ?_
   refine run_joinF (σ := List (List Int) × Dc) (ks := [3, 4, 5]) _ (.cons rfl (.cons rfl (.cons rfl (.nil)))) (fun y => []) (fun y => [rCells b5 32 [dInt .i64 (t.number + 1 + d.val 2), dInt .i64 t.p, dInt .i64 t.width, dRows y.1], rNone, rDc b y.2]) (fun y => (1 ≤ y.1.length ∧ y.1.length ≤ t.rows.length + 1) ∧ (∀ r ∈ y.1, (r.length : Int) = t.width ∧ allP t.p r) ∧ okDc y.2) ⟨[_, _, _], rfl⟩ (fun j9 => ?_) ?_
   ·
    refine run_block ?_
    refine run_seq ?_
    refine run_region ?_
    refine run_op (loc_eql rfl rfl) rfl ?_
    refine run_op (loc_assign rfl) rfl ?_
    refine run_nil ?_
    refine run_cond rfl (fun h10 => ?_) (fun h10 => ?_)
    ·
     refine dr_start _ (.two (τ1 := List Int × Dc) (τ2 := Value) 7 9 (fun s => (s.1.length = t.width.toNat ∧ ∀ x ∈ s.1, hasP t.p x) ∧ okDc s.2) (fun _ => True)) [⟨[(5, none)], [], none⟩,
         ⟨[(55, some (0, false))], [0], some (0, 0, false)⟩,
         ⟨[(0, none)], [], none⟩,
         ⟨[(3, none)], [], none⟩,
         ⟨[(58, some (3, false))], [3], none⟩,
         ⟨[(3, none)], [], none⟩,
         ⟨[(60, some (5, false))], [5], none⟩,
         ⟨[(57, some (2, false)), (59, some (4, false)), (61, some (6, false))], [2, 3, 4, 5, 6], some (2, 0, true)⟩,
         ⟨[(62, some (7, false))], [2, 3, 4, 5, 6, 7], none⟩,
         ⟨[(56, some (1, false)), (63, some (8, false))], [0, 1, 2, 3, 4, 5, 6, 7, 8], some (1, 0, true)⟩,
         ⟨[(5, none)], [0, 1, 2, 3, 4, 5, 6, 7, 8, 9], none⟩,
         ⟨[(65, some (10, false)), (64, some (9, false))], [0, 1, 2, 3, 4, 5, 6, 7, 8, 9, 10], some (0, 0, true)⟩] [_, _, _, _] _ rfl rfl ?_
     refine dq_pure rfl (fun s => .g rfl (.nil)) (fun s hs _ => loc_fieldAddrOwn rfl) (by exact .cons (.inr fun _ _ _ => rfl) (.cons (.inr fun _ _ _ => rfl) (.nil))) ?_
     first | refine dq_read rfl (fun s => .op rfl (.nil)) rfl rfl (fun s hs _ hm => LocP.upV (loc_loadOwn1 rfl hm (by rfl))) (by exact .cons (.inr fun _ _ _ => rfl) (.cons (.inr fun _ _ _ => rfl) (.nil))) ?_ | refine dq_read rfl (fun s => .op rfl (.nil)) rfl rfl (fun s hs _ hm => loc_loadOwn1 rfl hm (by rfl)) (by exact .cons (.inr fun _ _ _ => rfl) (.cons (.inr fun _ _ _ => rfl) (.nil))) ?_
     refine dq_pure rfl (fun s => .g rfl (.nil)) (fun s hs _ => loc_move rfl) (by exact .cons (.inr fun _ _ _ => rfl) (.cons (.inr fun _ _ _ => rfl) (.nil))) ?_
     refine dq_pure rfl (fun s => .g rfl (.nil)) (fun s hs _ => loc_fieldAddr rfl) (by exact .cons (.inr fun _ _ _ => rfl) (.cons (.inr fun _ _ _ => rfl) (.nil))) ?_
     refine dq_pure rfl (fun s => .op rfl (.nil)) (fun s hs _ => loc_loadN rfl rfl) (by exact .cons (.inr fun _ _ _ => rfl) (.cons (.inr fun _ _ _ => rfl) (.nil))) ?_
     refine dq_pure rfl (fun s => .g rfl (.nil)) (fun s hs _ => loc_fieldAddr rfl) (by exact .cons (.inr fun _ _ _ => rfl) (.cons (.inr fun _ _ _ => rfl) (.nil))) ?_
     refine dq_pure rfl (fun s => .op rfl (.nil)) (fun s hs _ => loc_load1 rfl) (by exact .cons (.inr fun _ _ _ => rfl) (.cons (.inr fun _ _ _ => rfl) (.nil))) ?_
     refine dq_choose Prod.fst (fun s t => (t, s.2)) rfl (fun _ _ => ⟨rfl, id, rfl⟩) (fun s => .op rfl (.op rfl (.op rfl (.nil)))) rfl rfl (fun s hs => loc_callM (delements_spec b _ hdc1 t.p t.width ⟨by omega, by omega⟩ (by omega)) rfl) (by exact .cons (.inl rfl) (.cons (.inr (.inr fun ⟨a, b⟩ ⟨c, d⟩ h => by have h : c = a := h; subst h; exact rfl)) (.nil))) (fun _ _ => rfl) ?_
     refine dq_pure rfl (fun s => .op rfl (.nil)) (fun s hs _ => loc_buildSlice rfl rfl (.one rfl (.nil)) rfl rfl) (by exact .cons (.inl rfl) (.cons (.inr fun ⟨a, b⟩ ⟨c, d⟩ h => by have h : c = a := h; subst h; exact rfl) (.nil))) ?_
     refine dq_chooseS Prod.snd (fun s t => (s.1, t)) rfl (fun _ _ => ⟨rfl, id, rfl⟩) (fun s => .op rfl (.op rfl (.nil))) rfl rfl (fun s hs => LocM.rowV (loc_append1 (s.1.1) rfl rfl rfl rfl (by first | omega | (simp [lenMax]; omega) | (simp [lenMax]; done) | assumption) (by first | omega | (simp [lenMax]; omega) | (simp [lenMax]; done) | assumption))) (fun _ _ => ⟨rfl, rfl⟩) (by exact .cons (.inr (.inl rfl)) (.cons (.inl rfl) (.nil))) (fun _ _ => rfl) ?_
     refine dq_pure rfl (fun s => .g rfl (.nil)) (fun s hs _ => loc_fieldAddrOwn rfl) (by exact .cons (.inl rfl) (.cons (.inl rfl) (.nil))) ?_
     refine dq_write0 rfl (fun s => .op rfl (.op rfl (.nil))) rfl rfl (fun s hs => loc_store1 rfl rfl rfl) (by exact .cons (.inl rfl) (.cons (.inl rfl) (.nil))) ?_
     refine dq_end (rs := [_, _, _, _]) (([], q.2.2), (.bool true)) rfl (fun _ => rfl) (.cons rfl (.cons rfl (.nil))) rfl (fun _ => rfl) (fun s9 h9 => ?_)
     obtain ⟨el, v9⟩ := s9
     obtain ⟨hel, _⟩ := Ch.two_good rfl h9
     dsimp only [outG, outM, List.map, List.set, id]
     first | refine run_freezeRowCellV (kk := 3) (.there (.here)) (.here) rfl ?_ | refine run_freezeRowCell (kk := 3) (.there (.here)) (.here) rfl ?_
     refine run_addNone ?_
     refine run_inBlock ?_
     refine run_front (.there (.there (.here))) ?_
     refine run_front (.there (.here)) ?_
     refine run_front (.there (.there (.here))) ?_
     exact run_atF j9 ((q.2.1 ++ [el.1], el.2)) (⟨⟨by simp only [List.length_append, List.length_singleton]; omega, by simp only [List.length_append, List.length_singleton]; omega⟩, fun r hr => by rcases List.mem_append.1 hr with hr | hr; (· exact hall r hr); (· rw [List.mem_singleton.1 hr]; exact ⟨by have h5 : el.1.length = t.width.toNat := hel.1.1; omega, hel.1.2⟩), hel.2⟩) (rfl) (.nil) (.cons rfl (fun _ _ x => x) (.cons rfl (fun _ _ x => x) (.cons rfl (fun _ _ x => x) (.nil))))
    ·
     refine run_seq ?_
     refine run_region ?_
     refine run_op (loc_eql rfl rfl) rfl ?_
     refine run_op (loc_assign rfl) rfl ?_
     refine run_nil ?_
     refine run_cond rfl (fun h11 => ?_) (fun h11 => ?_)
     ·
      first | refine run_freezeRowCellV (kk := 3) (.there (.here)) (.here) rfl ?_ | refine run_freezeRowCell (kk := 3) (.there (.here)) (.here) rfl ?_
      refine run_addNone ?_
      refine run_region ?_
      refine run_op (loc_fieldAddrOwn rfl) rfl ?_
      refine run_op (loc_loadOwn1 rfl (.there (.here)) (by rfl)) rfl ?_
      refine run_op (loc_fieldAddrOwn rfl) rfl ?_
      refine run_op (loc_loadOwn1 rfl (.there (.here)) (by rfl)) rfl ?_
      first | refine runL_fact (s := 71) rfl (fun _ _ h => dSl_len h) (fun hlen12 => ?_) | skip
      refine run_op (loc_len rfl) rfl ?_
      first | refine run_op (loc_sub rfl rfl (by first | omega | assumption | (simp; omega))) rfl ?_ | refine run_op (loc_subW rfl rfl) rfl ?_
      refine run_op (loc_max rfl rfl) rfl ?_
      refine run_op (loc_sliceTo rfl rfl (by first | omega | assumption | (simp; omega))) rfl ?_
      refine run_op (loc_fieldAddrOwn rfl) rfl ?_
      refine run_store1 rfl rfl (.there (.here)) (by rfl) ?_
      refine run_nil ?_
      refine run_inBlock ?_
      refine run_front (.there (.there (.here))) ?_
      refine run_front (.there (.here)) ?_
      refine run_front (.there (.there (.here))) ?_
      exact run_atF j9 ((q.2.1.take (max 1 ((q.2.1.length : Int) - 1)).toNat, q.2.2.next)) (⟨by simp only [List.length_take]; omega, fun r hr => hall r (List.mem_of_mem_take hr), hdc1⟩) (rfl) (.nil) (.cons rfl (fun _ _ x => x) (.cons rfl (fun _ _ x => x) (.cons rfl (fun _ _ x => x) (.nil))))
     ·
      refine run_skip ?_
      refine run_inBlock ?_
      first | refine run_freezeRowCellV (kk := 3) (.there (.here)) (.here) rfl ?_ | refine run_freezeRowCell (kk := 3) (.there (.here)) (.here) rfl ?_
      refine run_addNone ?_
      refine run_front (.there (.there (.here))) ?_
      refine run_front (.there (.here)) ?_
      refine run_front (.there (.there (.here))) ?_
      exact run_atF j9 ((q.2.1, q.2.2.next)) (⟨by simp only; omega, hall, hdc1⟩) (rfl) (.nil) (.cons rfl (fun _ _ x => x) (.cons rfl (fun _ _ x => x) (.cons rfl (fun _ _ x => x) (.nil))))
   rintro y ⟨hyl, hya, hyd⟩
   refine run_seq ?_
   refine run_region ?_
   refine run_op (loc_loadN rfl rfl) rfl ?_
   refine run_op (loc_loadOwnN rfl (.here) (by rfl)) rfl ?_
   refine run_op (loc_call (rbtw_spec t ⟨t.number + 1 + d.val 2, t.p, t.width, y.1⟩) rfl) rfl ?_
   refine run_op (loc_move rfl) rfl ?_
   refine run_op (loc_extract rfl rfl) rfl ?_
   refine run_op (loc_extract rfl rfl) rfl ?_
   refine run_new (loc_allocOwn (by simp)) rfl (fun b13 _ => ?_)
   refine run_storeN (ho := (by show OneAll [_, _, _, _]; infer_instance)) rfl rfl (.here) (by rfl) ?_
   refine run_op (loc_assign rfl) rfl ?_
   refine run_nil ?_
   refine run_seq ?_
   refine run_region ?_
   refine run_op (loc_loadOwnN rfl (.here) (by rfl)) rfl ?_
   refine run_storeN (ho := (by show OneAll [_, _, _, _]; infer_instance)) rfl rfl (.there (.there (.there (.there (.here))))) (by rfl) ?_
   refine run_nil ?_
   refine run_retG ((⟨t.number + 1 + d.val 2, t.p, t.width, y.1⟩, y.2)) Tryz.func91 rfl (.cellN rfl (.there (.there (.there (.there (.here))))) (by rfl) (.nil)) ?_ (⟨⟨rfl, rfl, by simp only; omega, hyl, hya⟩, hyd⟩) (fun _ _ h => h.sub (.cons _ (.cons _ (.cons _ (.cons_cons _ (.cons _ (.refl _)))))))
   exact fun _ _ h => h
end Go.Q

namespace Go.Q
open Go.Proofs
open Classical
theorem units_bd {s : Schm} {n : Int} (h : shapeS s) (hn : 1 ≤ n ∧ n ≤ 1024) : 1 ≤ unitsS s n ∧ unitsS s n ≤ 1024 := by
 have hb := shape_bd h
 unfold unitsS
 rw [if_neg (by rintro (h1 | h1); (· exact h1 h); (· exact h1 hn))]
 split
 ·rename_i hk
  have hg : 1 ≤ s.group := by unfold shapeS at h; omega
  constructor
  ·exact Int.le_ediv_of_mul_le (by omega) (by omega)
  ·have := Int.ediv_le_self (s.group) (a := n - 1) (by omega)
   rw [show n + s.group - 1 = (n - 1) + s.group * 1 by omega, Int.add_mul_ediv_left _ _ (by omega)]
   omega
 ·omega
theorem dquery_spec (b : Nat) (d : Dc) (h : okDc d) (v : Srv) (t : Tab) (hv : okI v) (ht : checkT t = 0) (hr : 1 ≤ t.rows.length) (hn : t.number ≤ 1000000) : Spec Tryz.prog 12 [dVal (ptr b 0), dSrv v, dTab t] [rDc b d] (σ := Nte × Dc) (fun r => (r.1.query.length ≤ 2000 ∧ r.1.values = []) ∧ okDc r.2) (fun r => dNte r.1) (fun s => [rDc b s.2]) := by
  refine spec_of_body Tryz.func12 rfl rfl (fun I F => ?_)
  refine run_seq ?_
  refine run_region ?_
  refine run_op (loc_boxN rfl) rfl ?_
  refine run_op (loc_boxN rfl) rfl ?_
  refine run_new (loc_allocOwn (by simp)) rfl (fun b1 _ => ?_)
  refine run_nil ?_
  refine run_seq ?_
  refine run_rowNil 3 1 fI ?_
  refine run_front (.there (.there (.here))) ?_
  refine run_front (.there (.there (.here))) ?_
  have hsh := hv.2.1
  have hct := checkT_ok ht
  have hpp := hct.2.1
  have hp1 := hpp.1
  have hp2 := hpp.2.1
  have hun := units_bd (n := (t.rows.length : Nat)) hsh (by have := hct.2.2.2.1; omega)
  have hd1 := Dc.next_ok h
  have hd2 := Dc.next_ok (Dc.next_ok h)
  have hsb := shape_bd hsh
  have hid := hv.2.2
  refine run_addNone ?_
  refine dr_start _ (.twoX (τ1 := (Value × List Int) × Dc) (τ2 := Nat) 17 19 (fun r => (r.1.2.length = (unitsS v.scheme t.rows.length).toNat ∧ ∀ x ∈ r.1.2, hasP t.p x) ∧ okDc r.2) (fun _ => True) (fun s => (fun r => [rRow r.1.1 3 1 fI r.1.2]) s.1)) [⟨[(0, none)], [], none⟩,
      ⟨[(8, some (0, false))], [0], some (2, 0, true)⟩,
      ⟨[(0, none)], [], none⟩,
      ⟨[(10, some (2, false))], [0, 1, 2], some (2, 1, true)⟩,
      ⟨[(4, none)], [], none⟩,
      ⟨[(12, some (4, false))], [4], none⟩,
      ⟨[(5, none)], [], none⟩,
      ⟨[(14, some (6, false))], [6], none⟩,
      ⟨[(0, none)], [], none⟩,
      ⟨[(5, none)], [], none⟩,
      ⟨[(17, some (9, false))], [9], none⟩,
      ⟨[(4, none)], [], none⟩,
      ⟨[(19, some (11, false))], [11], none⟩,
      ⟨[(5, none)], [], none⟩,
      ⟨[(21, some (13, false))], [13], none⟩,
      ⟨[(22, some (14, false))], [13, 14], none⟩,
      ⟨[(20, some (12, false)), (23, some (15, false))], [0, 1, 2, 3, 11, 12, 13, 14, 15], none⟩,
      ⟨[(16, some (8, false)), (18, some (10, false)), (24, some (16, false))], [0, 1, 2, 3, 8, 9, 10, 11, 12, 13, 14, 15, 16], some (2, 2, true)⟩,
      ⟨[(9, some (1, false)), (11, some (3, false)), (13, some (5, false)), (15, some (7, false)), (25, some (17, false))], [0, 1, 2, 3, 4, 5, 6, 7, 8, 9, 10, 11, 12, 13, 14, 15, 16, 17], none⟩,
      ⟨[], [], some (0, 0, true)⟩,
      ⟨[(7, some (19, false)), (26, some (18, false))], [0, 1, 2, 3, 4, 5, 6, 7, 8, 9, 10, 11, 12, 13, 14, 15, 16, 17, 18, 19], some (0, 1, true)⟩] [_, _, _] _ rfl rfl ?_
  refine dq_pure rfl (fun s => .g rfl (.nil)) (fun s hs _ => loc_move rfl) (by exact .cons (.inr fun _ _ _ => rfl) (.cons (.inr fun _ _ _ => rfl) (.nil))) ?_
  refine dq_write rfl (fun s => .op rfl (.nil)) rfl rfl (fun s hs => loc_callM (pick_spec b _ _ (by assumption) (by omega)) rfl) (by exact .cons (.inr fun _ _ _ => ⟨rfl, rfl⟩) (.cons (.inr fun _ _ _ => ⟨rfl, rfl⟩) (.nil))) ?_
  refine dq_pure rfl (fun s => .g rfl (.nil)) (fun s hs _ => loc_move rfl) (by exact .cons (.inr fun _ _ _ => rfl) (.cons (.inr fun _ _ _ => rfl) (.nil))) ?_
  refine dq_write rfl (fun s => .op rfl (.nil)) rfl rfl (fun s hs => loc_callM (pick_spec b _ _ (by assumption) (by omega)) rfl) (by exact .cons (.inr fun _ _ _ => ⟨rfl, rfl⟩) (.cons (.inr fun _ _ _ => ⟨rfl, rfl⟩) (.nil))) ?_
  refine dq_pure rfl (fun s => .g rfl (.nil)) (fun s hs _ => loc_fieldAddr rfl) (by exact .cons (.inr fun _ _ _ => rfl) (.cons (.inr fun _ _ _ => rfl) (.nil))) ?_
  refine dq_pure rfl (fun s => .op rfl (.nil)) (fun s hs _ => loc_load1 rfl) (by exact .cons (.inr fun _ _ _ => rfl) (.cons (.inr fun _ _ _ => rfl) (.nil))) ?_
  refine dq_pure rfl (fun s => .g rfl (.nil)) (fun s hs _ => loc_fieldAddr rfl) (by exact .cons (.inr fun _ _ _ => rfl) (.cons (.inr fun _ _ _ => rfl) (.nil))) ?_
  refine dq_pure rfl (fun s => .op rfl (.nil)) (fun s hs _ => loc_load1 rfl) (by exact .cons (.inr fun _ _ _ => rfl) (.cons (.inr fun _ _ _ => rfl) (.nil))) ?_
  refine dq_pure rfl (fun s => .g rfl (.nil)) (fun s hs _ => loc_move rfl) (by exact .cons (.inr fun _ _ _ => rfl) (.cons (.inr fun _ _ _ => rfl) (.nil))) ?_
  refine dq_pure rfl (fun s => .g rfl (.nil)) (fun s hs _ => loc_fieldAddr rfl) (by exact .cons (.inr fun _ _ _ => rfl) (.cons (.inr fun _ _ _ => rfl) (.nil))) ?_
  refine dq_pure rfl (fun s => .op rfl (.nil)) (fun s hs _ => loc_loadN rfl rfl) (by exact .cons (.inr fun _ _ _ => rfl) (.cons (.inr fun _ _ _ => rfl) (.nil))) ?_
  refine dq_pure rfl (fun s => .g rfl (.nil)) (fun s hs _ => loc_fieldAddr rfl) (by exact .cons (.inr fun _ _ _ => rfl) (.cons (.inr fun _ _ _ => rfl) (.nil))) ?_
  refine dq_pure rfl (fun s => .op rfl (.nil)) (fun s hs _ => loc_loadN rfl rfl) (by exact .cons (.inr fun _ _ _ => rfl) (.cons (.inr fun _ _ _ => rfl) (.nil))) ?_
  refine dq_pure rfl (fun s => .g rfl (.nil)) (fun s hs _ => loc_fieldAddr rfl) (by exact .cons (.inr fun _ _ _ => rfl) (.cons (.inr fun _ _ _ => rfl) (.nil))) ?_
  refine dq_pure rfl (fun s => .op rfl (.nil)) (fun s hs _ => loc_load1 rfl) (by exact .cons (.inr fun _ _ _ => rfl) (.cons (.inr fun _ _ _ => rfl) (.nil))) ?_
  refine dq_pure rfl (fun s => .op rfl (.nil)) (fun s hs _ => loc_len rfl) (by exact .cons (.inr fun _ _ _ => rfl) (.cons (.inr fun _ _ _ => rfl) (.nil))) ?_
  refine dq_pure rfl (fun s => .op rfl (.op rfl (.nil))) (fun s hs _ => loc_call (runits_spec _ _) rfl) (by exact .cons (.inr fun _ _ _ => rfl) (.cons (.inr fun _ _ _ => rfl) (.nil))) ?_
  refine dq_chooseX Prod.fst (fun s t => (t, s.2)) (fun r => [rRow r.1.1 3 1 fI r.1.2]) rfl (fun _ _ => ⟨rfl, id, rfl⟩) (fun s => .op rfl (.op rfl (.op rfl (.nil)))) rfl rfl (fun s hs => locM_swapX (loc_callM (delementsM_spec b _ hd2 t.p _ ⟨hp1, hp2⟩ (by omega)) rfl)) (by exact .cons (.inl rfl) (.cons (.inr (.inr fun ⟨a, b⟩ ⟨c, d⟩ h => by have h : c = a := h; subst h; exact rfl)) (.nil))) (fun _ _ => rfl) ?_
  refine dq_pure rfl (fun s => .op rfl (.op rfl (.op rfl (.op rfl (.op rfl (.nil)))))) (fun s hs _ => loc_build (.one rfl rfl rfl (.one rfl rfl rfl (.one rfl rfl rfl (.one rfl rfl rfl (.one rfl rfl rfl (.one rfl rfl rfl (.nil)))))))) (by exact .cons (.inl rfl) (.cons (.inr fun ⟨a, b⟩ ⟨c, d⟩ h => by have h : c = a := h; subst h; exact rfl) (.nil))) ?_
  refine dq_choose Prod.snd (fun s t => (s.1, t)) rfl (fun _ _ => ⟨rfl, id, rfl⟩) (fun s => .nil) rfl rfl (fun s hs => locM_new (loc_allocOwn (by simp))) (by exact .cons (.inr (.inr fun ⟨a, b⟩ ⟨c, d⟩ h => by have h : d = b := h; subst h; exact rfl)) (.cons (.inl rfl) (.nil))) (fun _ _ => rfl) ?_
  refine dq_write0 rfl (fun s => .op rfl (.op rfl (.nil))) rfl rfl (fun s hs => loc_storeN (ho := (by show OneAll [_, _, _, _, _, _, _, _]; infer_instance)) rfl rfl rfl) (by exact .cons (.inl rfl) (.cons (.inl rfl) (.nil))) ?_
  refine dq_endX (rs := [_, _, _]) (((.slice none 0 0, []), d), 0) rfl (fun _ => rfl) (.cons rfl (.cons rfl (.nil))) rfl (fun s9 h9 => ?_)
  obtain ⟨⟨⟨u,xs⟩,dd⟩, b7⟩ := s9
  obtain ⟨hel, _⟩ := Ch.twoX_good rfl h9
  dsimp only [outG, outM, List.map, List.set, id, Ch.oneX, Ch.twoX, List.cons_append, List.nil_append]
  dsimp only at hel
  obtain ⟨⟨hxl, hxa⟩, hdd⟩ := hel
  have hd3 := Dc.next_ok hdd
  refine run_rowForm (.there (.there (.there (.here)))) (by omega) (fun bq cq hq => ?_)
  subst hq
  have hv9 := Dc.val_lt (d := dd) (n := 10) (by omega)
  have hw9 := Dc.val_nonneg (d := dd) (n := 10) (by omega)
  refine run_seq ?_
  refine run_seq ?_
  refine run_region ?_
  refine run_op (loc_move rfl) rfl ?_
  refine run_callM rfl (.there (.there (.here))) (pick_spec b _ _ (by assumption) (by omega)) rfl (fun s3 hs3 => ?_)
  refine run_nil ?_
  refine run_front (.there (.there (.here))) ?_
  refine run_front (.there (.there (.there (.here)))) ?_
  refine run_front (.there (.there (.here))) ?_
  refine run_joinF (σ := (Int × Int × Int) × Value × List Int) (ks := [6, 7]) _ (.cons rfl (.cons rfl (.nil))) (fun y => []) (fun y => [rCells b7 46 [dInt .i64 y.1.1, dInt .i64 (d.val 4), dInt .i64 (d.next.val 2), dInt .i64 y.1.2.1, dInt .i64 y.1.2.2, dSlV y.2.1, dVal (.slice none 0 0), dInt .i64 0], rRow y.2.1 3 1 fI y.2.2, rDc b dd.next]) (fun y => y.2.2.length ≤ 2000) ⟨[_, _, _], rfl⟩ (fun j4 => ?_) ?_
  ·
   refine run_block ?_
   refine run_seq ?_
   refine run_region ?_
   refine run_op (loc_eql rfl rfl) rfl ?_
   refine run_op (loc_assign rfl) rfl ?_
   refine run_nil ?_
   refine run_cond rfl (fun h5 => ?_) (fun h5 => ?_)
   ·
    refine run_region ?_
    refine run_op (loc_fieldAddrOwn rfl) rfl ?_
    refine run_store1 rfl rfl (.here) (by rfl) ?_
    refine run_nil ?_
    refine run_inBlock ?_
    exact run_atF j4 (((2, v.id, t.number), .slice (some ⟨bq, 0, none⟩) xs.length cq, xs)) (by simp only; omega) (rfl) (.nil) (.cons rfl (fun _ _ x => x) (.cons rfl (fun _ _ x => x) (.nil)))
   ·
    refine run_seq ?_
    refine run_region ?_
    refine run_op (loc_eql rfl rfl) rfl ?_
    refine run_op (loc_assign rfl) rfl ?_
    refine run_nil ?_
    refine run_cond rfl (fun h6 => ?_) (fun h6 => ?_)
    ·
     refine run_region ?_
     refine run_op (loc_fieldAddrOwn rfl) rfl ?_
     refine run_op (loc_loadOwn1 rfl (.here) (by rfl)) rfl ?_
     first | refine run_op (loc_add rfl rfl (by first | omega | assumption | (simp; omega))) rfl ?_ | refine run_op (loc_addW rfl rfl) rfl ?_
     refine run_op (loc_fieldAddrOwn rfl) rfl ?_
     refine run_store1 rfl rfl (.here) (by rfl) ?_
     refine run_nil ?_
     refine run_inBlock ?_
     exact run_atF j4 (((1, v.id + 1, t.number), .slice (some ⟨bq, 0, none⟩) xs.length cq, xs)) (by simp only; omega) (rfl) (.nil) (.cons rfl (fun _ _ x => x) (.cons rfl (fun _ _ x => x) (.nil)))
    ·
     refine run_seq ?_
     refine run_region ?_
     refine run_op (loc_eql rfl rfl) rfl ?_
     refine run_op (loc_assign rfl) rfl ?_
     refine run_nil ?_
     refine run_cond rfl (fun h7 => ?_) (fun h7 => ?_)
     ·
      refine run_region ?_
      refine run_op (loc_fieldAddrOwn rfl) rfl ?_
      refine run_op (loc_loadOwn1 rfl (.here) (by rfl)) rfl ?_
      first | refine run_op (loc_add rfl rfl (by first | omega | assumption | (simp; omega))) rfl ?_ | refine run_op (loc_addW rfl rfl) rfl ?_
      refine run_op (loc_fieldAddrOwn rfl) rfl ?_
      refine run_store1 rfl rfl (.here) (by rfl) ?_
      refine run_nil ?_
      refine run_inBlock ?_
      exact run_atF j4 (((1, v.id, t.number + 1), .slice (some ⟨bq, 0, none⟩) xs.length cq, xs)) (by simp only; omega) (rfl) (.nil) (.cons rfl (fun _ _ x => x) (.cons rfl (fun _ _ x => x) (.nil)))
     ·
      refine run_seq ?_
      refine run_region ?_
      refine run_op (loc_eql rfl rfl) rfl ?_
      refine run_op (loc_assign rfl) rfl ?_
      refine run_nil ?_
      refine run_cond rfl (fun h8 => ?_) (fun h8 => ?_)
      ·
       refine run_region ?_
       refine run_op (loc_fieldAddrOwn rfl) rfl ?_
       first | refine run_op (LocP.upV (loc_loadOwn1 rfl (.here) (by rfl))) rfl ?_ | refine run_op (loc_loadOwn1 rfl (.here) (by rfl)) rfl ?_
       refine run_op (loc_buildSlice rfl rfl (.one rfl (.nil)) rfl rfl) rfl ?_
       refine run_append1 rfl (.there (.here)) rfl (by rfl) (by rfl) (by first | omega | (simp [lenMax]; omega) | (simp [lenMax]; done) | assumption) (by first | omega | (simp [lenMax]; omega) | (simp [lenMax]; done) | assumption) rfl (fun v9 => ?_)
       refine runL_rowV (s := 49) rfl (.there (.here)) ?_
       refine run_op (loc_fieldAddrOwn rfl) rfl ?_
       refine run_store1 rfl rfl (.here) (by rfl) ?_
       refine run_nil ?_
       refine run_inBlock ?_
       exact run_atF j4 (((1, v.id, t.number), v9, xs ++ [0])) (by simp only [List.length_append, List.length_singleton]; omega) (rfl) (.nil) (.cons rfl (fun _ _ x => x) (.cons rfl (fun _ _ x => x) (.nil)))
      ·
       refine run_seq ?_
       refine run_region ?_
       refine run_op (loc_eql rfl rfl) rfl ?_
       refine run_op (loc_assign rfl) rfl ?_
       refine run_nil ?_
       refine run_cond rfl (fun h10 => ?_) (fun h10 => ?_)
       ·
        refine run_region ?_
        refine run_op (loc_fieldAddrOwn rfl) rfl ?_
        first | refine run_op (LocP.upV (loc_loadOwn1 rfl (.here) (by rfl))) rfl ?_ | refine run_op (loc_loadOwn1 rfl (.here) (by rfl)) rfl ?_
        refine run_op (loc_fieldAddr rfl) rfl ?_
        refine run_op (loc_fieldAddr rfl) rfl ?_
        refine run_op (loc_load1 rfl) rfl ?_
        first | refine run_op (loc_indexRow rfl rfl (by first | omega | assumption | (simp; omega))) rfl ?_ | refine run_op (loc_indexRowI rfl rfl (by first | omega | assumption | (simp; omega))) rfl ?_
        refine run_storeRow1 rfl (.there (.here)) rfl (by rfl) (by first | omega | assumption | (simp; omega)) ?_
        refine run_nil ?_
        refine run_inBlock ?_
        exact run_atF j4 (((1, v.id, t.number), .slice (some ⟨bq, 0, none⟩) xs.length cq, xs.set 0 t.p)) (by simp only [List.length_set]; omega) (rfl) (.nil) (.cons rfl (fun _ _ x => x) (.cons rfl (fun _ _ x => x) (.nil)))
       ·
        refine run_skip ?_
        refine run_inBlock ?_
        exact run_atF j4 (((1, v.id, t.number), .slice (some ⟨bq, 0, none⟩) xs.length cq, xs)) (by simp only; omega) (rfl) (.nil) (.cons rfl (fun _ _ x => x) (.cons rfl (fun _ _ x => x) (.nil)))
  intro y hy
  refine run_seq ?_
  first | refine run_freezeRowCellV (kk := 5) (.there (.here)) (.here) rfl ?_ | refine run_freezeRowCell (kk := 5) (.there (.here)) (.here) rfl ?_
  refine run_region ?_
  refine run_op (loc_loadOwnN rfl (.here) (by rfl)) rfl ?_
  refine run_storeN (ho := (by show OneAll [_, _, _, _, _, _, _, _]; infer_instance)) rfl rfl (.there (.there (.here))) (by rfl) ?_
  refine run_nil ?_
  refine run_retG ((⟨y.1.1, d.val 4, d.next.val 2, y.1.2.1, y.1.2.2, y.2.2, [], 0⟩, dd.next)) Tryz.func12 rfl (.cellN rfl (.there (.there (.here))) (by rfl) (.nil)) ?_ (⟨⟨hy, rfl⟩, hd3⟩) (fun _ _ h => h.sub (.cons _ (.cons_cons _ (.cons _ (.refl _)))))
  exact d_aggU (.cons (fun _ _ h => h) (.cons (fun _ _ h => h) (.cons (fun _ _ h => h) (.cons (fun _ _ h => h) (.cons (fun _ _ h => h) (.cons (fun _ _ h => h) (.cons d_nil (.cons (fun _ _ h => h) .nil))))))))
end Go.Q

namespace Go.Q
open Go.Proofs
open Classical
theorem rwordA_spec (v : Srv) (p : Psn) (lie : Int) (hok : okI v) : SpecP Tryz.prog 29 [dSrv v, dPsn p, dInt .i64 lie] (dTup [dSrv (wordV v p lie), dNte (wordN v p lie), dB (wordR v p lie), dInt .i64 (wordE v p lie)]) := by
 by_cases hup : v.up
 ·match hj : v.jobs with
  | [] => exact rwordN_spec v p lie (.inr (by rw [hj]; rfl))
  | j :: rest => exact rword_spec v p lie hok hup j rest hj
 ·exact rwordN_spec v p lie (.inl hup)
theorem vwordA_spec (v : Srv) (p : Psn) (lie : Int) (hok : okI v) : SpecP Tryz.prog 13 [dSrv v, dPsn p, dInt .i64 lie] (dTup [dSrv (wordV v p lie), dNte (wordN v p lie), dB (wordR v p lie), dInt .i64 (wordE v p lie)]) := by
 by_cases hup : v.up
 ·match hj : v.jobs with
  | [] => exact vwordN_spec v p lie (.inr (by rw [hj]; rfl)) (sz_of_ok hok.1)
  | j :: rest => exact vword_spec v p lie hok.1 (sz_of_ok hok.1) hup j rest hj
 ·exact vwordN_spec v p lie (.inl hup) (sz_of_ok hok.1)
theorem dserver_spec (b : Nat) (d : Dc) (h : okDc d) (sc : Schm) (t : Tab) (p : Int) (hs : dieS sc) (hp : dieP p) (ht : dieT p t) : Spec Tryz.prog 41 [dVal (ptr b 0), dSchm sc, dTab t] [rDc b d] (σ := Srv × Dc) (fun r => okI r.1 ∧ okDc r.2) (fun r => dSrv r.1) (fun s => [rDc b s.2]) := by
  refine spec_of_body Tryz.func41 rfl rfl (fun I F => ?_)
  refine run_seq ?_
  refine run_region ?_
  refine run_op (loc_boxN rfl) rfl ?_
  refine run_op (loc_boxN rfl) rfl ?_
  refine run_new (loc_allocOwn (by simp)) rfl (fun b1 _ => ?_)
  refine run_nil ?_
  refine run_seq ?_
  obtain ⟨hsh, hsv⟩ := hs
  have hpl10 := people_len
  have htn := ht.2.2.2.1
  have hd1 := Dc.next_ok h
  have hd2 := Dc.next_ok (Dc.next_ok h)
  have hvi := Dc.val_lt (d := d) (n := sc.servers) (by omega)
  have hwi := Dc.val_nonneg (d := d) (n := sc.servers) (by omega)
  have hk0 := (okI_new hsh (id := 1 + d.val sc.servers) (by omega)).2.2
  have hk1 := okI_load (t := t) hk0
  refine run_addNone ?_
  refine dr_start _ (.one (σ := Nat) 10 (fun _ => True)) [⟨[(0, none)], [], none⟩,
      ⟨[(4, none)], [], none⟩,
      ⟨[(15, some (1, false))], [1], none⟩,
      ⟨[(14, some (0, false)), (16, some (2, false))], [0, 1, 2], some (2, 0, true)⟩,
      ⟨[(17, some (3, false))], [0, 1, 2, 3], none⟩,
      ⟨[(4, none)], [], none⟩,
      ⟨[(18, some (4, false)), (19, some (5, false))], [0, 1, 2, 3, 4, 5], none⟩,
      ⟨[(20, some (6, false))], [0, 1, 2, 3, 4, 5, 6], none⟩,
      ⟨[(13, some (7, false))], [0, 1, 2, 3, 4, 5, 6, 7], none⟩,
      ⟨[(13, some (7, false))], [0, 1, 2, 3, 4, 5, 6, 7], none⟩,
      ⟨[], [], some (0, 0, true)⟩,
      ⟨[(7, some (10, false)), (21, some (8, false))], [0, 1, 2, 3, 4, 5, 6, 7, 8, 10], some (0, 1, true)⟩,
      ⟨[(22, some (9, false))], [0, 1, 2, 3, 4, 5, 6, 7, 8, 9, 10, 11], none⟩] [_, _, _] _ rfl rfl ?_
  refine dq_pure rfl (fun s => .g rfl (.nil)) (fun s hs _ => loc_move rfl) (by exact .cons (.inr fun _ _ _ => rfl) (.nil)) ?_
  refine dq_pure rfl (fun s => .g rfl (.nil)) (fun s hs _ => loc_fieldAddr rfl) (by exact .cons (.inr fun _ _ _ => rfl) (.nil)) ?_
  refine dq_pure rfl (fun s => .op rfl (.nil)) (fun s hs _ => loc_load1 rfl) (by exact .cons (.inr fun _ _ _ => rfl) (.nil)) ?_
  refine dq_write rfl (fun s => .op rfl (.op rfl (.nil))) rfl rfl (fun s hs => loc_callM (pick_spec b _ _ (by assumption) (by omega)) rfl) (by exact .cons (.inr fun _ _ _ => ⟨rfl, rfl⟩) (.nil)) ?_
  first | refine dq_pure rfl (fun s => .op rfl (.nil)) (fun s hs _ => loc_add rfl rfl (by first | omega | assumption | (simp; omega))) (by exact .cons (.inr fun _ _ _ => rfl) (.nil)) ?_ | refine dq_pure rfl (fun s => .op rfl (.nil)) (fun s hs _ => loc_addW rfl rfl) (by exact .cons (.inr fun _ _ _ => rfl) (.nil)) ?_
  refine dq_pure rfl (fun s => .g rfl (.nil)) (fun s hs _ => loc_loadN rfl rfl) (by exact .cons (.inr fun _ _ _ => rfl) (.nil)) ?_
  refine dq_pure rfl (fun s => .op rfl (.op rfl (.nil))) (fun s hs _ => loc_call (rsnew_spec _ _) rfl) (by exact .cons (.inr fun _ _ _ => rfl) (.nil)) ?_
  refine dq_pure rfl (fun s => .op rfl (.nil)) (fun s hs _ => loc_move rfl) (by exact .cons (.inr fun _ _ _ => rfl) (.nil)) ?_
  refine dq_pure rfl (fun s => .op rfl (.nil)) (fun s hs _ => loc_extract rfl rfl) (by exact .cons (.inr fun _ _ _ => rfl) (.nil)) ?_
  refine dq_pure rfl (fun s => .op rfl (.nil)) (fun s hs _ => loc_extract rfl rfl) (by exact .cons (.inr fun _ _ _ => rfl) (.nil)) ?_
  refine dq_choose id (fun _ t => t) rfl (fun _ _ => ⟨rfl, id, trivial⟩) (fun s => .nil) rfl rfl (fun s hs => locM_new (loc_allocOwn (by simp))) (by exact .cons (.inl rfl) (.nil)) (fun _ _ => rfl) ?_
  refine dq_write0 rfl (fun s => .op rfl (.op rfl (.nil))) rfl rfl (fun s hs => loc_storeN (ho := (by show OneAll [_, _, _, _, _, _, _, _]; infer_instance)) rfl rfl rfl) (by exact .cons (.inl rfl) (.nil)) ?_
  refine dq_pure rfl (fun s => .op rfl (.nil)) (fun s hs _ => loc_assign rfl) (by exact .cons (.inl rfl) (.nil)) ?_
  refine dq_end (rs := [_, _, _]) 0 rfl (fun _ => rfl) (.cons rfl (.nil)) rfl (fun _ => rfl) (fun b7 _ => ?_)
  dsimp only [outG, outM, List.map, List.set, id]
  refine run_seq ?_
  refine run_region ?_
  refine run_op (loc_loadOwnN rfl (.here) (by rfl)) rfl ?_
  refine run_op (loc_loadN rfl rfl) rfl ?_
  refine run_op (loc_call (rload_spec _ t hk0) rfl) rfl ?_
  refine run_op (loc_move rfl) rfl ?_
  refine run_op (loc_extract rfl rfl) rfl ?_
  refine run_op (loc_extract rfl rfl) rfl ?_
  refine run_storeN (ho := (by show OneAll [_, _, _, _, _, _, _, _]; infer_instance)) rfl rfl (.here) (by rfl) ?_
  refine run_nil ?_
  refine run_seq ?_
  refine run_seq ?_
  refine run_region ?_
  refine run_op (loc_move rfl) rfl ?_
  refine run_callM rfl (.there (.there (.here))) (pick_spec b _ _ (by assumption) (by omega)) rfl (fun s3 hs3 => ?_)
  refine run_op (loc_eql rfl rfl) rfl ?_
  refine run_nil ?_
  refine run_front (.there (.there (.here))) ?_
  refine run_front (.there (.here)) ?_
  refine run_joinF (σ := Srv × Dc) (ks := [0, 5, 6, 7]) _ (.cons rfl (.cons rfl (.cons rfl (.cons rfl (.nil))))) (fun y => []) (fun y => [rCells b7 36 (cSrv y.1), rDc b y.2]) (fun y => okI y.1 ∧ okDc y.2) ⟨[_, _], rfl⟩ (fun j4 => ?_) ?_
  ·
   refine run_cond rfl (fun h5 => ?_) (fun h5 => ?_)
   ·
    refine run_seq ?_
    refine run_addNone ?_
    refine dr_start _ (.two (τ1 := Tab × Dc) (τ2 := Nat) 3 8 (fun r => nextT t r.1 ∧ okDc r.2) (fun _ => True)) [⟨[(5, none)], [], none⟩,
        ⟨[(0, none)], [], none⟩,
        ⟨[(5, none)], [], none⟩,
        ⟨[(34, some (1, false)), (35, some (2, false))], [1, 2], some (2, 0, true)⟩,
        ⟨[(33, some (0, false)), (36, some (3, false))], [0, 1, 2, 3], none⟩,
        ⟨[(37, some (4, false))], [0, 1, 2, 3, 4], none⟩,
        ⟨[(32, some (5, false))], [0, 1, 2, 3, 4, 5], none⟩,
        ⟨[(32, some (5, false))], [0, 1, 2, 3, 4, 5], none⟩,
        ⟨[], [], some (0, 0, true)⟩,
        ⟨[(9, some (8, false)), (38, some (6, false))], [0, 1, 2, 3, 4, 5, 6, 8], some (0, 1, true)⟩,
        ⟨[(39, some (7, false))], [0, 1, 2, 3, 4, 5, 6, 7, 8, 9], none⟩] [_, _, _, _] _ rfl rfl ?_
    refine dq_pure rfl (fun s => .g rfl (.nil)) (fun s hs _ => loc_loadN rfl rfl) (by exact .cons (.inr fun _ _ _ => rfl) (.cons (.inr fun _ _ _ => rfl) (.nil))) ?_
    refine dq_pure rfl (fun s => .g rfl (.nil)) (fun s hs _ => loc_move rfl) (by exact .cons (.inr fun _ _ _ => rfl) (.cons (.inr fun _ _ _ => rfl) (.nil))) ?_
    refine dq_pure rfl (fun s => .g rfl (.nil)) (fun s hs _ => loc_loadN rfl rfl) (by exact .cons (.inr fun _ _ _ => rfl) (.cons (.inr fun _ _ _ => rfl) (.nil))) ?_
    refine dq_choose Prod.fst (fun s t => (t, s.2)) rfl (fun _ _ => ⟨rfl, id, rfl⟩) (fun s => .op rfl (.op rfl (.nil))) rfl rfl (fun s hs => loc_callM (dchange_spec b _ hd2 t ht.1 ht.2.2.1.1 (by omega)) rfl) (by exact .cons (.inl rfl) (.cons (.inr (.inr fun ⟨a, b⟩ ⟨c, d⟩ h => by have h : c = a := h; subst h; exact rfl)) (.nil))) (fun _ _ => rfl) ?_
    refine dq_pure rfl (fun s => .op rfl (.op rfl (.nil))) (fun s hs _ => loc_call (rapply15_spec _ _) rfl) (by exact .cons (.inl rfl) (.cons (.inr fun ⟨a, b⟩ ⟨c, d⟩ h => by have h : c = a := h; subst h; exact rfl) (.nil))) ?_
    refine dq_pure rfl (fun s => .op rfl (.nil)) (fun s hs _ => loc_move rfl) (by exact .cons (.inl rfl) (.cons (.inr fun ⟨a, b⟩ ⟨c, d⟩ h => by have h : c = a := h; subst h; exact rfl) (.nil))) ?_
    refine dq_pure rfl (fun s => .op rfl (.nil)) (fun s hs _ => loc_extract rfl rfl) (by exact .cons (.inl rfl) (.cons (.inr fun ⟨a, b⟩ ⟨c, d⟩ h => by have h : c = a := h; subst h; exact rfl) (.nil))) ?_
    refine dq_pure rfl (fun s => .op rfl (.nil)) (fun s hs _ => loc_extract rfl rfl) (by exact .cons (.inl rfl) (.cons (.inr fun ⟨a, b⟩ ⟨c, d⟩ h => by have h : c = a := h; subst h; exact rfl) (.nil))) ?_
    refine dq_choose Prod.snd (fun s t => (s.1, t)) rfl (fun _ _ => ⟨rfl, id, rfl⟩) (fun s => .nil) rfl rfl (fun s hs => locM_new (loc_allocOwn (by simp))) (by exact .cons (.inr (.inr fun ⟨a, b⟩ ⟨c, d⟩ h => by have h : d = b := h; subst h; exact rfl)) (.cons (.inl rfl) (.nil))) (fun _ _ => rfl) ?_
    refine dq_write0 rfl (fun s => .op rfl (.op rfl (.nil))) rfl rfl (fun s hs => loc_storeN (ho := (by show OneAll [_, _, _, _]; infer_instance)) rfl rfl rfl) (by exact .cons (.inl rfl) (.cons (.inl rfl) (.nil))) ?_
    refine dq_pure rfl (fun s => .op rfl (.nil)) (fun s hs _ => loc_assign rfl) (by exact .cons (.inl rfl) (.cons (.inl rfl) (.nil))) ?_
    refine dq_end (rs := [_, _, _, _]) ((t, d), 0) rfl (fun _ => rfl) (.cons rfl (.cons rfl (.nil))) rfl (fun _ => rfl) (fun s9 h9 => ?_)
    obtain ⟨cg, b9⟩ := s9
    obtain ⟨hcg, _⟩ := Ch.two_good rfl h9
    dsimp only [outG, outM, List.map, List.set, id]
    refine run_region ?_
    refine run_op (loc_loadOwnN rfl (.there (.here)) (by rfl)) rfl ?_
    refine run_op (loc_loadOwnN rfl (.here) (by rfl)) rfl ?_
    refine run_op (loc_call (rload_spec _ (applyC t (btwC t cg.1)) hk1) rfl) rfl ?_
    refine run_op (loc_move rfl) rfl ?_
    refine run_op (loc_extract rfl rfl) rfl ?_
    refine run_op (loc_extract rfl rfl) rfl ?_
    refine run_storeN (ho := (by show OneAll [_, _, _, _, _, _, _, _]; infer_instance)) rfl rfl (.there (.here)) (by rfl) ?_
    refine run_nil ?_
    refine run_drop (.cons _ (.refl _)) ?_
    exact run_atF j4 ((loadV (loadV (newS (1 + d.val sc.servers) sc) t) (applyC t (btwC t cg.1)), cg.2)) (⟨okI_load hk1, hcg.2⟩) (rfl) (.nil) (.cons rfl (fun _ _ x => x) (.cons rfl (fun _ _ x => x) (.cons rfl (fun _ _ x => x) (.cons rfl (fun _ _ x => x) (.nil)))))
   ·
    refine run_skip ?_
    exact run_atF j4 ((loadV (newS (1 + d.val sc.servers) sc) t, d.next.next)) (⟨hk1, Dc.next_ok (Dc.next_ok h)⟩) (rfl) (.nil) (.cons rfl (fun _ _ x => x) (.cons rfl (fun _ _ x => x) (.cons rfl (fun _ _ x => x) (.cons rfl (fun _ _ x => x) (.nil)))))
  rintro ⟨y, dy⟩ ⟨hyo, hyd⟩
  simp only at hyo hyd
  have hyn := Dc.next_ok hyd
  have hv4 := Dc.val_lt (d := dy) (n := 4) (by omega)
  have hw4 := Dc.val_nonneg (d := dy) (n := 4) (by omega)
  refine run_seq ?_
  refine run_seq ?_
  refine run_region ?_
  refine run_op (loc_move rfl) rfl ?_
  refine run_callM rfl (.there (.here)) (pick_spec b _ _ (by assumption) (by omega)) rfl (fun s7 hs7 => ?_)
  refine run_op (loc_assign rfl) rfl ?_
  refine run_nil ?_
  refine run_block ?_
  refine run_loopF (σ := Srv × Dc × Nat) (ks := [0, 5, 6, 7]) (.cons rfl (.cons rfl (.cons rfl (.cons rfl (.nil))))) (fun q => [(11, dInt .i64 (q.2.2 : Nat))]) (fun q => [rCells b7 36 (cSrv q.1), rDc b q.2.1]) (fun q => okI q.1 ∧ okDc q.2.1 ∧ q.2.2 ≤ 4) (fun q => q.2.2) ((y, dy.next, (dy.val 4).toNat)) (⟨hyo, hyn, by simp only; omega⟩) (.cons rfl (d_int (by simp only; omega)) .nil) (rfl) ?_
  rintro ⟨z, dz, n⟩ ⟨hzo, hzd, hzn⟩ ih8
  simp only at hzo hzd hzn
  have hzx := Dc.next_ok hzd
  have hv4 := Dc.val_lt (d := dz) (n := 4) (by omega)
  have hw4 := Dc.val_nonneg (d := dz) (n := 4) (by omega)
  refine run_seq ?_
  refine run_seq ?_
  refine run_region ?_
  refine run_op (loc_move rfl) rfl ?_
  refine run_op (loc_gtr rfl rfl) rfl ?_
  refine run_nil ?_
  refine run_cond rfl (fun h9 => ?_) (fun h9 => ?_)
  ·
   refine run_skip ?_
   refine run_seq ?_
   refine run_block ?_
   refine dr_start _ (.one (σ := Nte × Dc) 4 (fun r => (r.1.query.length ≤ 2000 ∧ r.1.values = []) ∧ okDc r.2)) [⟨[(7, none)], [], some (0, 0, false)⟩,
       ⟨[(0, none)], [], none⟩,
       ⟨[(7, none)], [], some (0, 0, false)⟩,
       ⟨[(5, none)], [], none⟩,
       ⟨[(54, some (1, false)), (55, some (2, false)), (56, some (3, false))], [1, 2, 3], some (1, 0, true)⟩,
       ⟨[(53, some (0, false)), (57, some (4, false))], [0, 1, 2, 3, 4], none⟩,
       ⟨[(58, some (5, false))], [0, 1, 2, 3, 4, 5], none⟩,
       ⟨[(52, some (6, false))], [0, 1, 2, 3, 4, 5, 6], none⟩,
       ⟨[(52, some (6, false))], [0, 1, 2, 3, 4, 5, 6], none⟩,
       ⟨[(7, none), (59, some (7, false))], [0, 1, 2, 3, 4, 5, 6, 7], some (0, 0, true)⟩] [_, _, _] _ rfl rfl ?_
   refine dq_read rfl (fun s => .g rfl (.nil)) rfl rfl (fun s hs _ hm => loc_loadOwnN rfl hm (by rfl)) (by exact .cons (.inr fun _ _ _ => rfl) (.nil)) ?_
   refine dq_pure rfl (fun s => .g rfl (.nil)) (fun s hs _ => loc_move rfl) (by exact .cons (.inr fun _ _ _ => rfl) (.nil)) ?_
   refine dq_read rfl (fun s => .g rfl (.nil)) rfl rfl (fun s hs _ hm => loc_loadOwnN rfl hm (by rfl)) (by exact .cons (.inr fun _ _ _ => rfl) (.nil)) ?_
   refine dq_pure rfl (fun s => .g rfl (.nil)) (fun s hs _ => loc_loadN rfl rfl) (by exact .cons (.inr fun _ _ _ => rfl) (.nil)) ?_
   refine dq_choose id (fun _ t => t) rfl (fun _ _ => ⟨rfl, id, trivial⟩) (fun s => .op rfl (.op rfl (.op rfl (.nil)))) rfl rfl (fun s hs => loc_callM (dquery_spec b _ hzd z t hzo ht.1 ht.2.2.1.1 (by omega)) rfl) (by exact .cons (.inl rfl) (.nil)) (fun _ _ => rfl) ?_
   refine dq_pure rfl (fun s => .op rfl (.op rfl (.nil))) (fun s hs _ => loc_call (rask_spec z s.1 hzo (Nat.le_trans (show (s.1.query.length ≤ 2000 ∧ s.1.values = []) ∧ okDc s.2 from hs 4 (List.mem_singleton.2 rfl) rfl).1.1 (by omega))) rfl) (by exact .cons (.inl rfl) (.nil)) ?_
   refine dq_pure rfl (fun s => .op rfl (.nil)) (fun s hs _ => loc_move rfl) (by exact .cons (.inl rfl) (.nil)) ?_
   refine dq_pure rfl (fun s => .op rfl (.nil)) (fun s hs _ => loc_extract rfl rfl) (by exact .cons (.inl rfl) (.nil)) ?_
   refine dq_pure rfl (fun s => .op rfl (.nil)) (fun s hs _ => loc_extract rfl rfl) (by exact .cons (.inl rfl) (.nil)) ?_
   refine dq_write0 rfl (fun s => .g rfl (.op rfl (.nil))) rfl rfl (fun s hs => loc_storeN (ho := (by show OneAll [_, _, _, _, _, _, _, _]; infer_instance)) rfl rfl rfl) (by exact .cons (.inl rfl) (.nil)) ?_
   refine dq_end (rs := [_, _, _]) (nte0, dz) rfl (fun _ => rfl) (.cons rfl (.nil)) rfl (fun _ => rfl) (fun qn h9 => ?_)
   obtain hqn := Ch.one_good h9
   dsimp only [outG, outM, List.map, List.set, id]
   refine run_inBlock ?_
   refine run_region ?_
   refine run_op (loc_move rfl) rfl ?_
   first | refine run_op (loc_sub rfl rfl (by first | omega | assumption | (simp; omega))) rfl ?_ | refine run_op (loc_subW rfl rfl) rfl ?_
   refine run_op (loc_assign rfl) rfl ?_
   refine run_nil ?_
   exact run_againF ih8 ((askV z qn.1, qn.2, n - 1)) (⟨okI_ask hzo, hqn.2, by simp only; omega⟩) (by simp only at *; omega) (.cons rfl (d_int (by simp only at *; omega)) .nil) (.cons rfl (fun _ _ x => x) (.cons rfl (fun _ _ x => x) (.cons rfl (fun _ _ x => x) (.cons rfl (fun _ _ x => x) (.nil))))) (rfl)
  ·
   refine run_exit rfl ?_
   refine run_seq ?_
   refine run_seq ?_
   refine run_region ?_
   refine run_op (loc_move rfl) rfl ?_
   refine run_callM rfl (.there (.here)) (pick_spec b _ _ (by assumption) (by omega)) rfl (fun s10 hs10 => ?_)
   refine run_op (loc_assign rfl) rfl ?_
   refine run_nil ?_
   refine run_block ?_
   refine run_loopF (σ := Srv × Nat) (ks := [0, 6, 7]) (.cons rfl (.cons rfl (.cons rfl (.nil)))) (fun q => [(12, dInt .i64 (q.2 : Nat))]) (fun q => [rCells b7 36 (cSrv q.1), rDc b dz.next]) (fun q => okI q.1 ∧ q.2 ≤ 4) (fun q => q.2) ((z, (dz.val 4).toNat)) (⟨hzo, by simp only; omega⟩) (.cons rfl (d_int (by simp only; omega)) .nil) (rfl) ?_
   rintro ⟨x, m⟩ ⟨hxo, hxm⟩ ih11
   simp only at hxo hxm
   have hxi := hxo.2.2
   have hxs := shape_bd hxo.2.1
   have hv8 := Dc.val_lt (d := dz.next) (n := 8) (by omega)
   have hw8 := Dc.val_nonneg (d := dz.next) (n := 8) (by omega)
   refine run_seq ?_
   refine run_seq ?_
   refine run_region ?_
   refine run_op (loc_move rfl) rfl ?_
   refine run_op (loc_gtr rfl rfl) rfl ?_
   refine run_nil ?_
   refine run_cond rfl (fun h12 => ?_) (fun h12 => ?_)
   ·
    refine run_skip ?_
    refine run_seq ?_
    refine run_block ?_
    refine dr_start _ (.none) [⟨[(7, none)], [], some (0, 0, false)⟩,
        ⟨[], [], none⟩,
        ⟨[(7, none)], [], none⟩,
        ⟨[(70, some (2, false))], [2], some (0, 0, false)⟩,
        ⟨[(71, some (3, false))], [2, 3], none⟩,
        ⟨[(69, some (1, false)), (72, some (4, false))], [1, 2, 3, 4], none⟩,
        ⟨[(73, some (5, false))], [1, 2, 3, 4, 5], none⟩,
        ⟨[(68, some (0, false)), (74, some (6, false))], [0, 1, 2, 3, 4, 5, 6], none⟩,
        ⟨[(75, some (7, false))], [0, 1, 2, 3, 4, 5, 6, 7], none⟩,
        ⟨[(67, some (8, false))], [0, 1, 2, 3, 4, 5, 6, 7, 8], none⟩,
        ⟨[(67, some (8, false))], [0, 1, 2, 3, 4, 5, 6, 7, 8], none⟩,
        ⟨[(67, some (8, false))], [0, 1, 2, 3, 4, 5, 6, 7, 8], none⟩,
        ⟨[(67, some (8, false))], [0, 1, 2, 3, 4, 5, 6, 7, 8], none⟩,
        ⟨[(7, none), (76, some (9, false))], [0, 1, 2, 3, 4, 5, 6, 7, 8, 9], some (0, 0, true)⟩] [_, _, _] _ rfl rfl ?_
    refine dq_read rfl (fun s => .g rfl (.nil)) rfl rfl (fun s hs _ hm => loc_loadOwnN rfl hm (by rfl)) (by exact .nil) ?_
    refine dq_pure rfl (fun s => .nil) (fun s hs _ => loc_call (people_spec) rfl) (by exact .nil) ?_
    refine dq_pure rfl (fun s => .g rfl (.nil)) (fun s hs _ => loc_fieldAddrOwn rfl) (by exact .nil) ?_
    refine dq_read rfl (fun s => .op rfl (.nil)) rfl rfl (fun s hs _ hm => loc_loadOwn1 rfl hm (by rfl)) (by exact .nil) ?_
    first | refine dq_pure rfl (fun s => .op rfl (.nil)) (fun s hs _ => loc_sub rfl rfl (by first | omega | assumption | (simp; omega))) (by exact .nil) ?_ | refine dq_pure rfl (fun s => .op rfl (.nil)) (fun s hs _ => loc_subW rfl rfl) (by exact .nil) ?_
    first | refine dq_pure rfl (fun s => .op rfl (.op rfl (.nil))) (fun s hs _ => loc_index rfl rfl (by first | omega | assumption | (simp; omega))) (by exact .nil) ?_ | refine dq_pure rfl (fun s => .op rfl (.op rfl (.nil))) (fun s hs _ => loc_indexI rfl rfl (by first | omega | assumption | (simp; omega))) (by exact .nil) ?_
    refine dq_pure rfl (fun s => .op rfl (.nil)) (fun s hs _ => loc_loadN rfl rfl) (by exact .nil) ?_
    refine dq_pure rfl (fun s => .op rfl (.op rfl (.nil))) (fun s hs _ => loc_call (rwordA_spec x _ 0 hxo) rfl) (by exact .nil) ?_
    refine dq_pure rfl (fun s => .op rfl (.nil)) (fun s hs _ => loc_move rfl) (by exact .nil) ?_
    refine dq_pure rfl (fun s => .op rfl (.nil)) (fun s hs _ => loc_extract rfl rfl) (by exact .nil) ?_
    refine dq_pure rfl (fun s => .op rfl (.nil)) (fun s hs _ => loc_extract rfl rfl) (by exact .nil) ?_
    refine dq_pure rfl (fun s => .op rfl (.nil)) (fun s hs _ => loc_extract rfl rfl) (by exact .nil) ?_
    refine dq_pure rfl (fun s => .op rfl (.nil)) (fun s hs _ => loc_extract rfl rfl) (by exact .nil) ?_
    refine dq_write0 rfl (fun s => .g rfl (.op rfl (.nil))) rfl rfl (fun s hs => loc_storeN (ho := (by show OneAll [_, _, _, _, _, _, _, _]; infer_instance)) rfl rfl rfl) (by exact .nil) ?_
    refine dq_end (rs := [_, _, _]) () rfl (fun _ => rfl) (.nil) rfl (fun _ => rfl) (fun _ _ => ?_)
    dsimp only [outG, outM, List.map, List.set, id]
    refine run_inBlock ?_
    refine run_region ?_
    refine run_op (loc_move rfl) rfl ?_
    first | refine run_op (loc_sub rfl rfl (by first | omega | assumption | (simp; omega))) rfl ?_ | refine run_op (loc_subW rfl rfl) rfl ?_
    refine run_op (loc_assign rfl) rfl ?_
    refine run_nil ?_
    exact run_againF ih11 ((wordV x (peopleL[(x.id - 1).toNat]?.getD default) 0, m - 1)) (⟨okI_word hxo, by simp only; omega⟩) (by simp only at *; omega) (.cons rfl (d_int (by simp only at *; omega)) .nil) (.cons rfl (fun _ _ x => x) (.cons rfl (fun _ _ x => x) (.cons rfl (fun _ _ x => x) (.nil)))) (rfl)
   ·
    refine run_exit rfl ?_
    refine run_seq ?_
    refine run_seq ?_
    refine run_region ?_
    refine run_op (loc_move rfl) rfl ?_
    refine run_callM rfl (.there (.here)) (pick_spec b _ _ (by assumption) (by omega)) rfl (fun s13 hs13 => ?_)
    refine run_op (loc_eql rfl rfl) rfl ?_
    refine run_nil ?_
    refine run_cond rfl (fun h14 => ?_) (fun h14 => ?_)
    ·
     refine run_region ?_
     refine run_op (loc_loadOwnN rfl (.here) (by rfl)) rfl ?_
     refine run_op (loc_call (rcrash_spec _) rfl) rfl ?_
     refine run_storeN (ho := (by show OneAll [_, _, _, _, _, _, _, _]; infer_instance)) rfl rfl (.here) (by rfl) ?_
     refine run_nil ?_
     refine run_seq ?_
     refine run_region ?_
     refine run_op (loc_loadOwnN rfl (.here) (by rfl)) rfl ?_
     refine run_storeN (ho := (by show OneAll [_, _, _, _, _, _, _, _]; infer_instance)) rfl rfl (.there (.there (.here))) (by rfl) ?_
     refine run_nil ?_
     refine run_retG ((crashV x, dz.next.next)) Tryz.func41 rfl (.cellN rfl (.there (.there (.here))) (by rfl) (.nil)) ?_ (⟨okI_crash hxo, Dc.next_ok hzx⟩) (fun _ _ h => h.sub (.cons _ (.cons_cons _ (.cons _ (.refl _)))))
     exact fun _ _ h => h
    ·
     refine run_skip ?_
     refine run_seq ?_
     refine run_region ?_
     refine run_op (loc_loadOwnN rfl (.here) (by rfl)) rfl ?_
     refine run_storeN (ho := (by show OneAll [_, _, _, _, _, _, _, _]; infer_instance)) rfl rfl (.there (.there (.here))) (by rfl) ?_
     refine run_nil ?_
     refine run_retG ((x, dz.next.next)) Tryz.func41 rfl (.cellN rfl (.there (.there (.here))) (by rfl) (.nil)) ?_ (⟨hxo, Dc.next_ok hzx⟩) (fun _ _ h => h.sub (.cons _ (.cons_cons _ (.cons _ (.refl _)))))
     exact fun _ _ h => h
end Go.Q
