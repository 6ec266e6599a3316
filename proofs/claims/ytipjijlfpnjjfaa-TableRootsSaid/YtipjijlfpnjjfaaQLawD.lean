/- The law of roots. -/
import Derived.Test.YtipjijlfpnjjfaaQSpecG
import Derived.Test.YtipjijlfpnjjfaaQKit11
import Derived.Test.YtipjijlfpnjjfaaQPlainF
set_option linter.unusedVariables false
set_option linter.unusedSimpArgs false
namespace Go.Q
open Go.Proofs

open Classical
theorem tableRoots_spec (ts : List Int) (m : Int) : SpecP Try.prog 4 [dInts ts, dInt .i64 m] (dB True) := by
  refine specP_of_body Try.func4 rfl rfl (fun I M => ?_)
  refine run_seq ?_
  refine run_region ?_
  refine run_op (loc_assign rfl) rfl ?_
  refine run_nil ?_
  refine run_seq ?_
  refine run_seq ?_
  refine run_region ?_
  refine run_op (loc_call (sane_spec) rfl) rfl ?_
  refine run_op (loc_not rfl) rfl ?_
  refine run_nil ?_
  refine run_cond rfl (fun h1 => ?_) (fun h1 => ?_)
  · exfalso; exact h1 trivial
  ·
    refine run_skip ?_
    refine run_seq ?_
    refine run_seq ?_
    refine run_region ?_
    refine run_op (loc_move rfl) rfl ?_
    refine run_op (loc_call (few_spec _) rfl) rfl ?_
    refine run_op (loc_not rfl) rfl ?_
    refine run_nil ?_
    refine run_cond rfl (fun h2 => ?_) (fun h2 => ?_)
    ·
      refine run_seq ?_
      refine run_region ?_
      refine run_op (loc_assign rfl) rfl ?_
      refine run_nil ?_
      refine run_retP Try.func4 rfl rfl ?_
      exact d_B Iff.rfl
    ·
      refine run_skip ?_
      refine run_seq ?_
      refine run_region ?_
      refine run_op (loc_move rfl) rfl ?_
      refine run_callN rfl (deck_spec _) rfl (fun v3 hv3 => ?_)
      refine run_op (loc_assign rfl) rfl ?_
      refine run_nil ?_
      refine run_seq ?_
      refine run_region ?_
      refine run_op (loc_move rfl) rfl ?_
      refine run_callM rfl (by first | exact .here | exact .there .here | exact .there (.there .here) | exact .there (.there (.there .here)) | exact .there (.there (.there (.there .here))) | exact .there (.there (.there (.there (.there .here))))) (mtab_spec _ ⟨ts, 0⟩) rfl (fun s4 hs4 => ?_)
      refine run_new (loc_allocOwn (by simp)) rfl (fun b5 _ => ?_)
      refine run_storeN (ho := (by show OneAll [_, _, _, _]; infer_instance)) rfl rfl (by first | exact .here | exact .there .here | exact .there (.there .here) | exact .there (.there (.there .here)) | exact .there (.there (.there (.there .here))) | exact .there (.there (.there (.there (.there .here))))) (by rfl) ?_
      refine run_nil ?_
      refine run_freezeCells (s := 6) rfl (by first | exact .here | exact .there .here | exact .there (.there .here) | exact .there (.there (.there .here)) | exact .there (.there (.there (.there .here))) | exact .there (.there (.there (.there (.there .here))))) ?_
      have hx := Dk.tab_ok ⟨ts, 0⟩
      have hr := Dk.tab_rows ⟨ts, 0⟩
      generalize Dk.tab ⟨ts, 0⟩ = x at *
      generalize Dk.tab4 ⟨ts, 0⟩ = d0 at *
      have hxc := checkT_ok hx
      have hw := hxc.2.2.1
      have hp : 2 ≤ x.p ∧ x.p ≤ 65521 := ⟨hxc.2.1.1, hxc.2.1.2.1⟩
      have hdl := digs_len hx
      have hhx : (headT x).count = x.rows.length := by rw [head_ok hx]
      refine run_seq ?_
      refine run_seq ?_
      refine run_region ?_
      refine run_op (loc_fieldAddr rfl) rfl ?_
      refine run_op (loc_load1 rfl) rfl ?_
      refine run_op (loc_len rfl) rfl ?_
      refine run_op (loc_eql rfl rfl) rfl ?_
      refine run_nil ?_
      refine run_cond rfl (fun h6 => ?_) (fun h6 => ?_)
      ·
        refine run_seq ?_
        refine run_region ?_
        refine run_op (loc_assign rfl) rfl ?_
        refine run_nil ?_
        refine run_drop (.cons _ (.refl _)) ?_
        refine run_retP Try.func4 rfl rfl ?_
        exact d_B Iff.rfl
      ·
        refine run_skip ?_
        refine run_seq ?_
        have hn : (0 : Int) < x.rows.length := by omega
        have hi1 := d0.val_nonneg x.rows.length
        have hi2 := d0.val_lt x.rows.length (by omega)
        have hj1 := (d0.next x.rows.length).val_nonneg x.width
        have hj2 := (d0.next x.rows.length).val_lt x.width (by omega)
        have hb1 := Int.emod_nonneg m (b := x.p) (by omega)
        have hb2 := Int.emod_lt_of_pos m (b := x.p) (by omega)
        have hv1 := Int.emod_nonneg m (b := 2147483647) (by omega)
        have hv2 := Int.emod_lt_of_pos m (b := 2147483647) (by omega)
        have hsz : x.rows.length ≤ 100000 ∧ ∀ r ∈ x.rows, r.length ≤ 100000 := ⟨by omega, fun r h => by have := (hr.2 r h).1; omega⟩
        obtain ⟨i, hi⟩ : ∃ i, i = d0.val x.rows.length := ⟨_, rfl⟩
        obtain ⟨j, hj⟩ : ∃ j, j = (d0.next x.rows.length).val x.width := ⟨_, rfl⟩
        obtain ⟨b, hb⟩ : ∃ b, b = m % x.p := ⟨_, rfl⟩
        obtain ⟨v, hv⟩ : ∃ v, v = m % 2147483647 := ⟨_, rfl⟩
        rw [← hi] at hi1 hi2
        rw [← hj] at hj1 hj2
        rw [← hb] at hb1 hb2
        rw [← hv] at hv1 hv2
        have hrow := hr.2 _ (getD_mem (xs := x.rows) (k := i.toNat) (by omega))
        refine run_region ?_
        refine run_op (loc_loadN rfl rfl) rfl ?_
        refine run_new (loc_allocOwn (by simp)) rfl (fun b7 _ => ?_)
        refine run_storeN (ho := (by show OneAll [_, _, _, _]; infer_instance)) rfl rfl (by first | exact .here | exact .there .here | exact .there (.there .here) | exact .there (.there (.there .here)) | exact .there (.there (.there (.there .here))) | exact .there (.there (.there (.there (.there .here))))) (by rfl) ?_
        refine run_nil ?_
        refine run_seq ?_
        refine run_region ?_
        refine run_op (loc_fieldAddr rfl) rfl ?_
        refine run_op (loc_load1 rfl) rfl ?_
        refine run_callN rfl (rowsBut_spec x.rows hsz i.toNat (by omega)) rfl (fun v8 hv8 => ?_)
        refine run_op (loc_fieldAddrOwn rfl) rfl ?_
        refine run_store1 rfl rfl (by first | exact .here | exact .there .here | exact .there (.there .here) | exact .there (.there (.there .here)) | exact .there (.there (.there (.there .here))) | exact .there (.there (.there (.there (.there .here))))) (by rfl) ?_
        refine run_nil ?_
        refine run_rowForm .here (by omega) (fun bq cq hvq => ?_)
        subst hvq
        have hbl := but_len x.rows i.toNat (.slice (some ⟨bq, 0, none⟩) (x.rows[i.toNat]?.getD default).length cq)
        have hbg := but_get (xs := x.rows) (k := i.toNat) (v := .slice (some ⟨bq, 0, none⟩) (x.rows[i.toNat]?.getD default).length cq) (by omega)
        refine run_seq ?_
        refine dr_start (Unit) (fun _ => True) 11 [⟨[(5, none)], [], none⟩,
            ⟨[(6, none)], [], none⟩,
            ⟨[(36, some (1, false))], [1], none⟩,
            ⟨[(37, some (2, false))], [1, 2], none⟩,
            ⟨[(35, some (0, false)), (38, some (3, false))], [0, 1, 2, 3], some (2, 0, true)⟩,
            ⟨[(5, none)], [], none⟩,
            ⟨[(6, none)], [], none⟩,
            ⟨[(41, some (6, false))], [6], none⟩,
            ⟨[(40, some (5, false)), (42, some (7, false))], [0, 1, 2, 3, 4, 5, 6, 7], some (2, 1, true)⟩,
            ⟨[(39, some (4, false))], [0, 1, 2, 3, 4, 5, 6, 7, 8], none⟩,
            ⟨[(43, some (8, false))], [0, 1, 2, 3, 4, 5, 6, 7, 8, 9], none⟩] [_, _, _] _ rfl rfl ?_
        refine dq_pure rfl (fun s => .g rfl (.nil)) (fun s hs _ => loc_move rfl) (by first | exact .inl fun _ _ => rfl | exact .inr rfl) ?_
        refine dq_pure rfl (fun s => .g rfl (.nil)) (fun s hs _ => loc_fieldAddr rfl) (by first | exact .inl fun _ _ => rfl | exact .inr rfl) ?_
        refine dq_pure rfl (fun s => .op rfl (.nil)) (fun s hs _ => loc_load1 rfl) (by first | exact .inl fun _ _ => rfl | exact .inr rfl) ?_
        refine dq_pure rfl (fun s => .op rfl (.nil)) (fun s hs _ => loc_len rfl) (by first | exact .inl fun _ _ => rfl | exact .inr rfl) ?_
        refine dq_write rfl (fun s => .op rfl (.op rfl (.nil))) rfl rfl (fun s hs => loc_callM (next_spec _ d0 x.rows.length (by omega)) rfl) (by first | exact .inl fun _ _ => ⟨rfl, rfl⟩ | exact .inr rfl) ?_
        refine dq_pure rfl (fun s => .g rfl (.nil)) (fun s hs _ => loc_move rfl) (by first | exact .inl fun _ _ => rfl | exact .inr rfl) ?_
        refine dq_pure rfl (fun s => .g rfl (.nil)) (fun s hs _ => loc_fieldAddr rfl) (by first | exact .inl fun _ _ => rfl | exact .inr rfl) ?_
        refine dq_pure rfl (fun s => .op rfl (.nil)) (fun s hs _ => loc_load1 rfl) (by first | exact .inl fun _ _ => rfl | exact .inr rfl) ?_
        refine dq_write rfl (fun s => .op rfl (.op rfl (.nil))) rfl rfl (fun s hs => loc_callM (next_spec _ (d0.next x.rows.length) x.width (by omega)) rfl) (by first | exact .inl fun _ _ => ⟨rfl, rfl⟩ | exact .inr rfl) ?_
        refine dq_pure rfl (fun s => .op rfl (.nil)) (fun s hs _ => loc_assign rfl) (by first | exact .inl fun _ _ => rfl | exact .inr rfl) ?_
        refine dq_pure rfl (fun s => .op rfl (.nil)) (fun s hs _ => loc_assign rfl) (by first | exact .inl fun _ _ => rfl | exact .inr rfl) ?_
        refine dq_end (rs := [_, _, _]) () rfl (fun _ => rfl) (fun _ _ => trivial) rfl (fun _ _ => ?_)
        dsimp only [outG, outM, List.map, List.set]
        rw [← hi, ← hj]
        refine run_seq ?_
        refine dr_start (Unit) (fun _ => True) 13 [⟨[(7, none)], [], none⟩,
            ⟨[(44, some (0, false))], [0], some (1, 0, false)⟩,
            ⟨[(8, none)], [], none⟩,
            ⟨[(45, some (1, false)), (46, some (2, false))], [0, 1, 2], none⟩,
            ⟨[(47, some (3, false))], [0, 1, 2, 3], none⟩,
            ⟨[(9, none)], [], none⟩,
            ⟨[(1, none)], [], none⟩,
            ⟨[(6, none)], [], none⟩,
            ⟨[(51, some (7, false))], [7], none⟩,
            ⟨[(52, some (8, false))], [7, 8], none⟩,
            ⟨[(50, some (6, false)), (53, some (9, false))], [6, 7, 8, 9], none⟩,
            ⟨[(48, some (4, false)), (49, some (5, false))], [0, 1, 2, 3, 4, 5, 6, 7, 8, 9, 10], none⟩,
            ⟨[(55, some (11, false)), (54, some (10, false))], [0, 1, 2, 3, 4, 5, 6, 7, 8, 9, 10, 11], some (0, 0, true)⟩] [_, _, _] _ rfl rfl ?_
        refine dq_pure rfl (fun s => .g rfl (.nil)) (fun s hs _ => loc_fieldAddrOwn rfl) (by first | exact .inl fun _ _ => rfl | exact .inr rfl) ?_
        refine dq_read rfl (fun s => .op rfl (.nil)) rfl rfl (fun s hs _ hm => loc_loadOwn1 rfl hm (by rfl)) (by first | exact .inl fun _ _ => rfl | exact .inr rfl) ?_
        refine dq_pure rfl (fun s => .g rfl (.nil)) (fun s hs _ => loc_move rfl) (by first | exact .inl fun _ _ => rfl | exact .inr rfl) ?_
        first | refine dq_pure rfl (fun s => .op rfl (.op rfl (.nil))) (fun s hs _ => loc_index rfl rfl (by first | omega | assumption)) (by first | exact .inl fun _ _ => rfl | exact .inr rfl) ?_ | refine dq_pure rfl (fun s => .op rfl (.op rfl (.nil))) (fun s hs _ => loc_indexI rfl rfl (by first | omega | assumption)) (by first | exact .inl fun _ _ => rfl | exact .inr rfl) ?_
        refine dq_pure rfl (fun s => .op rfl (.nil)) (fun s hs _ => LocP.conv (loc_load1 rfl) hbg) (by first | exact .inl fun _ _ => rfl | exact .inr rfl) ?_
        refine dq_pure rfl (fun s => .g rfl (.nil)) (fun s hs _ => loc_move rfl) (by first | exact .inl fun _ _ => rfl | exact .inr rfl) ?_
        refine dq_pure rfl (fun s => .g rfl (.nil)) (fun s hs _ => loc_move rfl) (by first | exact .inl fun _ _ => rfl | exact .inr rfl) ?_
        refine dq_pure rfl (fun s => .g rfl (.nil)) (fun s hs _ => loc_fieldAddr rfl) (by first | exact .inl fun _ _ => rfl | exact .inr rfl) ?_
        refine dq_pure rfl (fun s => .op rfl (.nil)) (fun s hs _ => loc_fieldAddr rfl) (by first | exact .inl fun _ _ => rfl | exact .inr rfl) ?_
        refine dq_pure rfl (fun s => .op rfl (.nil)) (fun s hs _ => loc_load1 rfl) (by first | exact .inl fun _ _ => rfl | exact .inr rfl) ?_
        refine dq_pure rfl (fun s => .op rfl (.op rfl (.nil))) (fun s hs _ => loc_call (mmod_spec _ _ (by omega)) rfl) (by first | exact .inl fun _ _ => rfl | exact .inr rfl) ?_
        first | refine dq_pure rfl (fun s => .op rfl (.op rfl (.nil))) (fun s hs _ => loc_indexRow rfl rfl (by first | omega | assumption)) (by first | exact .inl fun _ _ => rfl | exact .inr rfl) ?_ | refine dq_pure rfl (fun s => .op rfl (.op rfl (.nil))) (fun s hs _ => loc_indexRowI rfl rfl (by first | omega | assumption)) (by first | exact .inl fun _ _ => rfl | exact .inr rfl) ?_
        refine dq_write0 rfl (fun s => .op rfl (.op rfl (.nil))) rfl rfl (fun s hs => loc_storeRow1 _ rfl rfl rfl (by first | omega | assumption)) (by first | exact .inl fun _ _ => rfl | exact .inr rfl) ?_
        refine dq_end (rs := [_, _, _]) () rfl (fun _ => rfl) (fun _ _ => trivial) rfl (fun _ _ => ?_)
        dsimp only [outG, outM, List.map, List.set]
        rw [← hb]
        refine run_freezeUp (kk := 3) (dBut x.rows i.toNat _) (dRows (x.rows.set i.toNat ((x.rows[i.toNat]?.getD default).set j.toNat b))) .here .here rfl (fun J u h1 h2 => but_up (by omega) h1 h2) ?_
        refine run_freezeCells (s := 7) rfl .here ?_
        refine run_drop (.cons _ (.refl _)) ?_
        refine run_seq ?_
        have hlr : (x.rows.set i.toNat ((x.rows[i.toNat]?.getD default).set j.toNat b)).length = x.rows.length := List.length_set ..
        have hlr2 : ((x.rows.set i.toNat ((x.rows[i.toNat]?.getD default).set j.toNat b))[i.toNat]?.getD default).length = (x.rows[i.toNat]?.getD default).length := (by rw [List.getElem?_set_self (by omega)]; exact List.length_set ..)
        refine run_region ?_
        refine run_op (loc_loadN rfl rfl) rfl ?_
        first | refine run_op (loc_call (head_spec x) rfl) rfl ?_ | refine run_op (loc_call (head_spec (x.bend i.toNat j.toNat b)) rfl) rfl ?_
        refine run_op (loc_move rfl) rfl ?_
        refine run_op (loc_extract rfl rfl) rfl ?_
        refine run_op (loc_extract rfl rfl) rfl ?_
        refine run_new (loc_allocOwn (by simp)) rfl (fun b9 _ => ?_)
        refine run_storeN (ho := (by show OneAll [_, _, _, _, _]; infer_instance)) rfl rfl (by first | exact .here | exact .there .here | exact .there (.there .here) | exact .there (.there (.there .here)) | exact .there (.there (.there (.there .here))) | exact .there (.there (.there (.there (.there .here))))) (by rfl) ?_
        refine run_op (loc_assign rfl) rfl ?_
        refine run_nil ?_
        refine run_freezeCells (s := 10) rfl (by first | exact .here | exact .there .here | exact .there (.there .here) | exact .there (.there (.there .here)) | exact .there (.there (.there (.there .here))) | exact .there (.there (.there (.there (.there .here))))) ?_
        refine run_seq ?_
        refine run_region ?_
        refine run_op (loc_loadN rfl rfl) rfl ?_
        first | refine run_op (loc_call (head_spec x) rfl) rfl ?_ | refine run_op (loc_call (head_spec (x.bend i.toNat j.toNat b)) rfl) rfl ?_
        refine run_op (loc_move rfl) rfl ?_
        refine run_op (loc_extract rfl rfl) rfl ?_
        refine run_op (loc_extract rfl rfl) rfl ?_
        refine run_new (loc_allocOwn (by simp)) rfl (fun b10 _ => ?_)
        refine run_storeN (ho := (by show OneAll [_, _, _, _, _]; infer_instance)) rfl rfl (by first | exact .here | exact .there .here | exact .there (.there .here) | exact .there (.there (.there .here)) | exact .there (.there (.there (.there .here))) | exact .there (.there (.there (.there (.there .here))))) (by rfl) ?_
        refine run_op (loc_assign rfl) rfl ?_
        refine run_nil ?_
        refine run_freezeCells (s := 12) rfl (by first | exact .here | exact .there .here | exact .there (.there .here) | exact .there (.there (.there .here)) | exact .there (.there (.there (.there .here))) | exact .there (.there (.there (.there (.there .here))))) ?_
        refine run_seq ?_
        refine run_region ?_
        refine run_op (loc_loadN rfl rfl) rfl ?_
        refine run_callN rfl (digestsM_spec x) rfl (fun v11 hv11 => ?_)
        refine run_op (loc_move rfl) rfl ?_
        refine run_op (loc_extract rfl rfl) rfl ?_
        refine run_op (loc_extract rfl rfl) rfl ?_
        refine run_op (loc_assign rfl) rfl ?_
        refine run_op (loc_assign rfl) rfl ?_
        refine run_nil ?_
        refine run_rowForm .here (by omega) (fun bl cl hvl => ?_)
        subst hvl
        refine run_seq ?_
        refine run_seq ?_
        refine dr_start (Unit) (fun _ => True) 35 [⟨[(11, none)], [], none⟩,
            ⟨[(71, some (0, false))], [0], none⟩,
            ⟨[(72, some (1, false))], [0, 1], none⟩,
            ⟨[(13, none)], [0, 1, 2], none⟩,
            ⟨[(74, some (3, true))], [0, 1, 2, 3], none⟩,
            ⟨[(73, some (2, false)), (75, some (4, false))], [0, 1, 2, 3, 4], none⟩,
            ⟨[(76, some (5, false))], [0, 1, 2, 3, 4, 5], none⟩,
            ⟨[(15, none)], [0, 1, 2, 3, 4, 5, 6], none⟩,
            ⟨[(78, some (7, true))], [0, 1, 2, 3, 4, 5, 6, 7], none⟩,
            ⟨[(77, some (6, false)), (79, some (8, false))], [0, 1, 2, 3, 4, 5, 6, 7, 8], none⟩,
            ⟨[(80, some (9, false))], [0, 1, 2, 3, 4, 5, 6, 7, 8, 9], none⟩,
            ⟨[(10, none)], [0, 1, 2, 3, 4, 5, 6, 7, 8, 9, 10], none⟩,
            ⟨[(82, some (11, true))], [0, 1, 2, 3, 4, 5, 6, 7, 8, 9, 10, 11], none⟩,
            ⟨[(12, none)], [0, 1, 2, 3, 4, 5, 6, 7, 8, 9, 10], none⟩,
            ⟨[(84, some (13, true))], [0, 1, 2, 3, 4, 5, 6, 7, 8, 9, 10, 13], none⟩,
            ⟨[(83, some (12, true)), (85, some (14, true))], [0, 1, 2, 3, 4, 5, 6, 7, 8, 9, 10, 11, 12, 13, 14], none⟩,
            ⟨[(6, none)], [0, 1, 2, 3, 4, 5, 6, 7, 8, 9, 10], none⟩,
            ⟨[(87, some (16, true))], [0, 1, 2, 3, 4, 5, 6, 7, 8, 9, 10, 16], none⟩,
            ⟨[(8, none)], [0, 1, 2, 3, 4, 5, 6, 7, 8, 9, 10], none⟩,
            ⟨[(88, some (17, true)), (89, some (18, true))], [0, 1, 2, 3, 4, 5, 6, 7, 8, 9, 10, 16, 17, 18], none⟩,
            ⟨[(90, some (19, true))], [0, 1, 2, 3, 4, 5, 6, 7, 8, 9, 10, 16, 17, 18, 19], none⟩,
            ⟨[(9, none)], [0, 1, 2, 3, 4, 5, 6, 7, 8, 9, 10], none⟩,
            ⟨[(91, some (20, true)), (92, some (21, true))], [0, 1, 2, 3, 4, 5, 6, 7, 8, 9, 10, 16, 17, 18, 19, 20, 21], none⟩,
            ⟨[(93, some (22, true))], [0, 1, 2, 3, 4, 5, 6, 7, 8, 9, 10, 16, 17, 18, 19, 20, 21, 22], none⟩,
            ⟨[(7, none)], [0, 1, 2, 3, 4, 5, 6, 7, 8, 9, 10], none⟩,
            ⟨[(95, some (24, true))], [0, 1, 2, 3, 4, 5, 6, 7, 8, 9, 10, 24], none⟩,
            ⟨[(8, none)], [0, 1, 2, 3, 4, 5, 6, 7, 8, 9, 10], none⟩,
            ⟨[(96, some (25, true)), (97, some (26, true))], [0, 1, 2, 3, 4, 5, 6, 7, 8, 9, 10, 24, 25, 26], none⟩,
            ⟨[(98, some (27, true))], [0, 1, 2, 3, 4, 5, 6, 7, 8, 9, 10, 24, 25, 26, 27], none⟩,
            ⟨[(9, none)], [0, 1, 2, 3, 4, 5, 6, 7, 8, 9, 10], none⟩,
            ⟨[(99, some (28, true)), (100, some (29, true))], [0, 1, 2, 3, 4, 5, 6, 7, 8, 9, 10, 24, 25, 26, 27, 28, 29], none⟩,
            ⟨[(101, some (30, true))], [0, 1, 2, 3, 4, 5, 6, 7, 8, 9, 10, 24, 25, 26, 27, 28, 29, 30], none⟩,
            ⟨[(94, some (23, true)), (102, some (31, true))], [0, 1, 2, 3, 4, 5, 6, 7, 8, 9, 10, 16, 17, 18, 19, 20, 21, 22, 23, 24, 25, 26, 27, 28, 29, 30, 31], none⟩,
            ⟨[(86, some (15, true)), (103, some (32, true))], [0, 1, 2, 3, 4, 5, 6, 7, 8, 9, 10, 11, 12, 13, 14, 15, 16, 17, 18, 19, 20, 21, 22, 23, 24, 25, 26, 27, 28, 29, 30, 31, 32], none⟩,
            ⟨[(81, some (10, false)), (104, some (33, false))], [0, 1, 2, 3, 4, 5, 6, 7, 8, 9, 10, 11, 12, 13, 14, 15, 16, 17, 18, 19, 20, 21, 22, 23, 24, 25, 26, 27, 28, 29, 30, 31, 32, 33], none⟩] [] _ rfl rfl ?_
        refine dq_pure rfl (fun s => .g rfl (.nil)) (fun s hs _ => loc_move rfl) (by first | exact .inl fun _ _ => rfl | exact .inr rfl) ?_
        refine dq_pure rfl (fun s => .op rfl (.nil)) (fun s hs _ => loc_neq rfl rfl) (by first | exact .inl fun _ _ => rfl | exact .inr rfl) ?_
        refine dq_pure rfl (fun s => .op rfl (.nil)) (fun s hs _ => loc_move rfl) (by first | exact .inl fun _ _ => rfl | exact .inr rfl) ?_
        refine dq_gpure rfl (fun s => .g rfl (.nil)) rfl (fun _ => by first | exact guard_true _ | exact guard_false _ | exact guard_if (guard_true _) | exact guard_if (guard_false _)) (fun s hs hg _ => loc_move rfl) (by first | exact .inl fun _ _ => rfl | exact .inr rfl) ?_
        refine dq_gpure rfl (fun s => .opU rfl (.nil)) rfl (fun _ => by first | exact guard_true _ | exact guard_false _ | exact guard_if (guard_true _) | exact guard_if (guard_false _)) (fun s hs hg _ => loc_neq rfl rfl) (by first | exact .inl fun _ _ => rfl | exact .inr rfl) ?_
        refine dq_pure rfl (fun s => .op rfl (.op rfl (.nil))) (fun s hs _ => loc_or rfl rfl) (by first | exact .inl fun _ _ => rfl | exact .inr rfl) ?_
        refine dq_pure rfl (fun s => .op rfl (.nil)) (fun s hs _ => loc_move rfl) (by first | exact .inl fun _ _ => rfl | exact .inr rfl) ?_
        refine dq_gpure rfl (fun s => .g rfl (.nil)) rfl (fun _ => by first | exact guard_true _ | exact guard_false _ | exact guard_if (guard_true _) | exact guard_if (guard_false _)) (fun s hs hg _ => loc_move rfl) (by first | exact .inl fun _ _ => rfl | exact .inr rfl) ?_
        refine dq_gpure rfl (fun s => .opU rfl (.nil)) rfl (fun _ => by first | exact guard_true _ | exact guard_false _ | exact guard_if (guard_true _) | exact guard_if (guard_false _)) (fun s hs hg _ => loc_neq rfl rfl) (by first | exact .inl fun _ _ => rfl | exact .inr rfl) ?_
        refine dq_pure rfl (fun s => .op rfl (.op rfl (.nil))) (fun s hs _ => loc_or rfl rfl) (by first | exact .inl fun _ _ => rfl | exact .inr rfl) ?_
        refine dq_pure rfl (fun s => .op rfl (.nil)) (fun s hs _ => loc_move rfl) (by first | exact .inl fun _ _ => rfl | exact .inr rfl) ?_
        refine dq_gpure rfl (fun s => .g rfl (.nil)) rfl (fun _ => by first | exact guard_true _ | exact guard_false _ | exact guard_if (guard_true _) | exact guard_if (guard_false _)) (fun s hs hg _ => loc_fieldAddr rfl) (by first | exact .inl fun _ _ => rfl | exact .inr rfl) ?_
        refine dq_gpure rfl (fun s => .opU rfl (.nil)) rfl (fun _ => by first | exact guard_true _ | exact guard_false _ | exact guard_if (guard_true _) | exact guard_if (guard_false _)) (fun s hs hg _ => loc_load1 rfl) (by first | exact .inl fun _ _ => rfl | exact .inr rfl) ?_
        refine dq_gpure rfl (fun s => .g rfl (.nil)) rfl (fun _ => by first | exact guard_true _ | exact guard_false _ | exact guard_if (guard_true _) | exact guard_if (guard_false _)) (fun s hs hg _ => loc_fieldAddr rfl) (by first | exact .inl fun _ _ => rfl | exact .inr rfl) ?_
        refine dq_gpure rfl (fun s => .opU rfl (.nil)) rfl (fun _ => by first | exact guard_true _ | exact guard_false _ | exact guard_if (guard_true _) | exact guard_if (guard_false _)) (fun s hs hg _ => loc_load1 rfl) (by first | exact .inl fun _ _ => rfl | exact .inr rfl) ?_
        refine dq_gpure rfl (fun s => .opU rfl (.opU rfl (.nil))) rfl (fun _ => by first | exact guard_true _ | exact guard_false _ | exact guard_if (guard_true _) | exact guard_if (guard_false _)) (fun s hs hg _ => loc_eql rfl rfl) (by first | exact .inl fun _ _ => rfl | exact .inr rfl) ?_
        refine dq_gpure rfl (fun s => .g rfl (.nil)) rfl (fun _ => by first | exact guard_true _ | exact guard_false _ | exact guard_if (guard_true _) | exact guard_if (guard_false _)) (fun s hs hg _ => loc_fieldAddr rfl) (by first | exact .inl fun _ _ => rfl | exact .inr rfl) ?_
        refine dq_gpure rfl (fun s => .opU rfl (.nil)) rfl (fun _ => by first | exact guard_true _ | exact guard_false _ | exact guard_if (guard_true _) | exact guard_if (guard_false _)) (fun s hs hg _ => loc_load1 rfl) (by first | exact .inl fun _ _ => rfl | exact .inr rfl) ?_
        refine dq_gpure rfl (fun s => .g rfl (.nil)) rfl (fun _ => by first | exact guard_true _ | exact guard_false _ | exact guard_if (guard_true _) | exact guard_if (guard_false _)) (fun s hs hg _ => loc_move rfl) (by first | exact .inl fun _ _ => rfl | exact .inr rfl) ?_
        first | refine dq_gpure rfl (fun s => .opU rfl (.opU rfl (.nil))) rfl (fun _ => by first | exact guard_true _ | exact guard_false _ | exact guard_if (guard_true _) | exact guard_if (guard_false _)) (fun s hs hg _ => loc_index rfl rfl (by first | omega | assumption)) (by first | exact .inl fun _ _ => rfl | exact .inr rfl) ?_ | refine dq_gpure rfl (fun s => .opU rfl (.opU rfl (.nil))) rfl (fun _ => by first | exact guard_true _ | exact guard_false _ | exact guard_if (guard_true _) | exact guard_if (guard_false _)) (fun s hs hg _ => loc_indexI rfl rfl (by first | omega | assumption)) (by first | exact .inl fun _ _ => rfl | exact .inr rfl) ?_
        refine dq_gpure rfl (fun s => .opU rfl (.nil)) rfl (fun _ => by first | exact guard_true _ | exact guard_false _ | exact guard_if (guard_true _) | exact guard_if (guard_false _)) (fun s hs hg _ => loc_load1 rfl) (by first | exact .inl fun _ _ => rfl | exact .inr rfl) ?_
        refine dq_gpure rfl (fun s => .g rfl (.nil)) rfl (fun _ => by first | exact guard_true _ | exact guard_false _ | exact guard_if (guard_true _) | exact guard_if (guard_false _)) (fun s hs hg _ => loc_move rfl) (by first | exact .inl fun _ _ => rfl | exact .inr rfl) ?_
        first | refine dq_gpure rfl (fun s => .opU rfl (.opU rfl (.nil))) rfl (fun _ => by first | exact guard_true _ | exact guard_false _ | exact guard_if (guard_true _) | exact guard_if (guard_false _)) (fun s hs hg _ => loc_index rfl rfl (by first | omega | assumption)) (by first | exact .inl fun _ _ => rfl | exact .inr rfl) ?_ | refine dq_gpure rfl (fun s => .opU rfl (.opU rfl (.nil))) rfl (fun _ => by first | exact guard_true _ | exact guard_false _ | exact guard_if (guard_true _) | exact guard_if (guard_false _)) (fun s hs hg _ => loc_indexI rfl rfl (by first | omega | assumption)) (by first | exact .inl fun _ _ => rfl | exact .inr rfl) ?_
        refine dq_gpure rfl (fun s => .opU rfl (.nil)) rfl (fun _ => by first | exact guard_true _ | exact guard_false _ | exact guard_if (guard_true _) | exact guard_if (guard_false _)) (fun s hs hg _ => loc_load1 rfl) (by first | exact .inl fun _ _ => rfl | exact .inr rfl) ?_
        refine dq_gpure rfl (fun s => .g rfl (.nil)) rfl (fun _ => by first | exact guard_true _ | exact guard_false _ | exact guard_if (guard_true _) | exact guard_if (guard_false _)) (fun s hs hg _ => loc_fieldAddr rfl) (by first | exact .inl fun _ _ => rfl | exact .inr rfl) ?_
        refine dq_gpure rfl (fun s => .opU rfl (.nil)) rfl (fun _ => by first | exact guard_true _ | exact guard_false _ | exact guard_if (guard_true _) | exact guard_if (guard_false _)) (fun s hs hg _ => loc_load1 rfl) (by first | exact .inl fun _ _ => rfl | exact .inr rfl) ?_
        refine dq_gpure rfl (fun s => .g rfl (.nil)) rfl (fun _ => by first | exact guard_true _ | exact guard_false _ | exact guard_if (guard_true _) | exact guard_if (guard_false _)) (fun s hs hg _ => loc_move rfl) (by first | exact .inl fun _ _ => rfl | exact .inr rfl) ?_
        first | refine dq_gpure rfl (fun s => .opU rfl (.opU rfl (.nil))) rfl (fun _ => by first | exact guard_true _ | exact guard_false _ | exact guard_if (guard_true _) | exact guard_if (guard_false _)) (fun s hs hg _ => loc_index rfl rfl (by first | omega | assumption)) (by first | exact .inl fun _ _ => rfl | exact .inr rfl) ?_ | refine dq_gpure rfl (fun s => .opU rfl (.opU rfl (.nil))) rfl (fun _ => by first | exact guard_true _ | exact guard_false _ | exact guard_if (guard_true _) | exact guard_if (guard_false _)) (fun s hs hg _ => loc_indexI rfl rfl (by first | omega | assumption)) (by first | exact .inl fun _ _ => rfl | exact .inr rfl) ?_
        refine dq_gpure rfl (fun s => .opU rfl (.nil)) rfl (fun _ => by first | exact guard_true _ | exact guard_false _ | exact guard_if (guard_true _) | exact guard_if (guard_false _)) (fun s hs hg _ => loc_load1 rfl) (by first | exact .inl fun _ _ => rfl | exact .inr rfl) ?_
        refine dq_gpure rfl (fun s => .g rfl (.nil)) rfl (fun _ => by first | exact guard_true _ | exact guard_false _ | exact guard_if (guard_true _) | exact guard_if (guard_false _)) (fun s hs hg _ => loc_move rfl) (by first | exact .inl fun _ _ => rfl | exact .inr rfl) ?_
        first | refine dq_gpure rfl (fun s => .opU rfl (.opU rfl (.nil))) rfl (fun _ => by first | exact guard_true _ | exact guard_false _ | exact guard_if (guard_true _) | exact guard_if (guard_false _)) (fun s hs hg _ => loc_index rfl rfl (by first | omega | assumption)) (by first | exact .inl fun _ _ => rfl | exact .inr rfl) ?_ | refine dq_gpure rfl (fun s => .opU rfl (.opU rfl (.nil))) rfl (fun _ => by first | exact guard_true _ | exact guard_false _ | exact guard_if (guard_true _) | exact guard_if (guard_false _)) (fun s hs hg _ => loc_indexI rfl rfl (by first | omega | assumption)) (by first | exact .inl fun _ _ => rfl | exact .inr rfl) ?_
        refine dq_gpure rfl (fun s => .opU rfl (.nil)) rfl (fun _ => by first | exact guard_true _ | exact guard_false _ | exact guard_if (guard_true _) | exact guard_if (guard_false _)) (fun s hs hg _ => loc_load1 rfl) (by first | exact .inl fun _ _ => rfl | exact .inr rfl) ?_
        refine dq_gpure rfl (fun s => .opU rfl (.opU rfl (.nil))) rfl (fun _ => by first | exact guard_true _ | exact guard_false _ | exact guard_if (guard_true _) | exact guard_if (guard_false _)) (fun s hs hg _ => loc_eql rfl rfl) (by first | exact .inl fun _ _ => rfl | exact .inr rfl) ?_
        refine dq_gpure rfl (fun s => .opU rfl (.opU rfl (.nil))) rfl (fun _ => by first | exact guard_true _ | exact guard_false _ | exact guard_if (guard_true _) | exact guard_if (guard_false _)) (fun s hs hg _ => loc_neqB rfl rfl) (by first | exact .inl fun _ _ => rfl | exact .inr rfl) ?_
        refine dq_pure rfl (fun s => .op rfl (.op rfl (.nil))) (fun s hs _ => loc_or rfl rfl) (by first | exact .inl fun _ _ => rfl | exact .inr rfl) ?_
        refine dq_end (rs := []) () rfl (fun _ => rfl) (fun _ _ => trivial) rfl (fun _ _ => ?_)
        dsimp only [outG, outM, List.map, List.set]
        refine run_cond rfl (fun h12 => ?_) (fun h12 => ?_)
        · exfalso; rw [bend_get (by omega) (by omega)] at h12; have e1 := bend_root hx (i := i.toNat) (j := j.toNat) (b := b) (by omega) (by omega) ⟨hb1, hb2⟩; have e2 := bend_ok hx (i := i.toNat) (j := j.toNat) (b := b) (by omega) ⟨hb1, hb2⟩; rcases h12 with ((h12 | h12) | h12) | h12; exact h12 hx; exact h12 e2; exact h12 hx; exact h12 e1
        ·
          refine run_skip ?_
          refine run_seq ?_
          refine dr_start (Unit) (fun _ => True) 8 [⟨[(14, none)], [], none⟩,
              ⟨[(8, none)], [], none⟩,
              ⟨[(106, some (0, false)), (107, some (1, false))], [0, 1], none⟩,
              ⟨[(108, some (2, false))], [0, 1, 2], some (0, 0, false)⟩,
              ⟨[(1, none)], [], none⟩,
              ⟨[(110, some (4, false))], [4], none⟩,
              ⟨[(109, some (3, false)), (111, some (5, false))], [0, 1, 2, 3, 4, 5], none⟩,
              ⟨[(112, some (6, false))], [0, 1, 2, 3, 4, 5, 6], none⟩] [_] _ rfl rfl ?_
          refine dq_pure rfl (fun s => .g rfl (.nil)) (fun s hs _ => loc_move rfl) (by first | exact .inl fun _ _ => rfl | exact .inr rfl) ?_
          refine dq_pure rfl (fun s => .g rfl (.nil)) (fun s hs _ => loc_move rfl) (by first | exact .inl fun _ _ => rfl | exact .inr rfl) ?_
          first | refine dq_pure rfl (fun s => .op rfl (.op rfl (.nil))) (fun s hs _ => loc_indexRow rfl rfl (by first | omega | assumption)) (by first | exact .inl fun _ _ => rfl | exact .inr rfl) ?_ | refine dq_pure rfl (fun s => .op rfl (.op rfl (.nil))) (fun s hs _ => loc_indexRowI rfl rfl (by first | omega | assumption)) (by first | exact .inl fun _ _ => rfl | exact .inr rfl) ?_
          refine dq_read rfl (fun s => .op rfl (.nil)) rfl rfl (fun s hs _ hm => loc_loadRow1 rfl hm (by first | omega | assumption)) (by first | exact .inl fun _ _ => rfl | exact .inr rfl) ?_
          refine dq_pure rfl (fun s => .g rfl (.nil)) (fun s hs _ => loc_move rfl) (by first | exact .inl fun _ _ => rfl | exact .inr rfl) ?_
          refine dq_pure rfl (fun s => .op rfl (.nil)) (fun s hs _ => loc_call (mmod_spec _ _ (by omega)) rfl) (by first | exact .inl fun _ _ => rfl | exact .inr rfl) ?_
          refine dq_pure rfl (fun s => .op rfl (.op rfl (.nil))) (fun s hs _ => loc_eql rfl rfl) (by first | exact .inl fun _ _ => rfl | exact .inr rfl) ?_
          refine dq_pure rfl (fun s => .op rfl (.nil)) (fun s hs _ => loc_assign rfl) (by first | exact .inl fun _ _ => rfl | exact .inr rfl) ?_
          refine dq_end (rs := [_]) () rfl (fun _ => rfl) (fun _ _ => trivial) rfl (fun _ _ => ?_)
          dsimp only [outG, outM, List.map, List.set]
          rw [← hv]
          refine run_seq ?_
          refine run_region ?_
          refine run_op (loc_move rfl) rfl ?_
          refine run_op (loc_move rfl) rfl ?_
          refine run_op (loc_move rfl) rfl ?_
          refine run_op (loc_call (mmod_spec _ _ (by omega)) rfl) rfl ?_
          first | refine run_op (loc_indexRow rfl rfl (by first | omega | assumption)) rfl ?_ | refine run_op (loc_indexRowI rfl rfl (by first | omega | assumption)) rfl ?_
          refine run_storeRow1 rfl (by first | exact .here | exact .there .here | exact .there (.there .here) | exact .there (.there (.there .here)) | exact .there (.there (.there (.there .here))) | exact .there (.there (.there (.there (.there .here))))) rfl (by rfl) (by first | omega | assumption) ?_
          refine run_nil ?_
          rw [← hv]
          refine run_seq ?_
          refine run_region ?_
          refine run_op (loc_loadN rfl rfl) rfl ?_
          refine run_op (loc_move rfl) rfl ?_
          refine run_op (loc_callB (holds_spec _ _) rfl (.same (.row (by first | exact .here | exact .there .here | exact .there (.there .here) | exact .there (.there (.there .here)) | exact .there (.there (.there (.there .here))) | exact .there (.there (.there (.there (.there .here))))) .nil))) rfl ?_
          refine run_op (loc_eql rfl rfl) rfl ?_
          refine run_op (loc_move rfl) rfl ?_
          refine run_op (loc_eqlB rfl rfl) rfl ?_
          refine run_op (loc_assign rfl) rfl ?_
          refine run_nil ?_
          refine run_drop (.cons _ (.refl _)) ?_
          refine run_retP Try.func4 rfl rfl ?_
          exact d_B ⟨fun _ => trivial, fun _ => holds_set hx (by omega) ⟨hv1, hv2⟩⟩

end Go.Q
