/- The law of tables, digests, heads and rows. -/
import Derived.Test.YtipjijlfpnjjfaaQSpecG
import Derived.Test.YtipjijlfpnjjfaaQOps5
import Derived.Test.YtipjijlfpnjjfaaQPlainF
set_option linter.unusedVariables false
set_option linter.unusedSimpArgs false
namespace Go.Q
open Go.Proofs

open Classical
theorem rowsAny_spec (xs : List (List Int)) (hx : xs.length ≤ 100000 ∧ ∀ x ∈ xs, x.length ≤ 100000) (k : Nat) : Spec Try.prog 22 [dRows xs] [] (fun _ : Value => True) (fun v => dBut xs k v) (fun v => [rRow v 3 1 fI (xs[k]?.getD default)]) := spec_freezeAny k (rowsM_spec xs hx)
abbrev fT : Tab → List D := fun t => [dInt .i64 t.number, dInt .i64 t.p, dInt .i64 t.width, dRows t.rows]
abbrev fQ : Int × Int → List D := fun q => [dInt .i64 q.1, dInt .i64 q.2]
abbrev fM : List (List Int) → List D := fun r => [dRows r]
theorem tableDoes_spec (ts : List Int) (raw : Tab) (num wid idx : Int) (rows : List (List Int)) : SpecP Try.prog 7 [dInts ts, dTab raw, dInt .i64 num, dInt .i64 wid, dInt .i64 idx, dRows rows] (dB True) := by
  refine specP_of_body Try.func7 rfl rfl (fun I M => ?_)
  refine run_seq ?_
  refine run_region ?_
  refine run_op (loc_boxN rfl) rfl ?_
  refine run_op (loc_assign rfl) rfl ?_
  refine run_nil ?_
  refine run_seq ?_
  refine run_seq ?_
  refine run_region ?_
  refine run_op (loc_call (sane_spec) rfl) rfl ?_
  refine run_op (loc_not rfl) rfl ?_
  refine run_nil ?_
  refine run_cond rfl (fun h1 => ?_) (fun h1 => ?_)
  · exfalso; exact h1 trivial
  ·
    refine run_skip ?_
    refine run_seq ?_
    refine run_seq ?_
    refine run_region ?_
    refine run_op (loc_move rfl) rfl ?_
    refine run_op (loc_call (few_spec _) rfl) rfl ?_
    refine run_op (loc_not rfl) rfl ?_
    refine run_op (loc_move rfl) rfl ?_
    refine run_gfirst rfl rfl (by first | exact guard_true _ | exact guard_false _ | exact guard_if (guard_true _) | exact guard_if (guard_false _)) (fun hg => loc_fieldAddr rfl) rfl ?_
    refine run_gop rfl rfl (by first | exact guard_true _ | exact guard_false _ | exact guard_if (guard_true _) | exact guard_if (guard_false _)) (fun hg => loc_load1 rfl) rfl ?_
    refine run_gop rfl rfl (by first | exact guard_true _ | exact guard_false _ | exact guard_if (guard_true _) | exact guard_if (guard_false _)) (fun hg => loc_call (small_spec _) rfl) rfl ?_
    refine run_gop rfl rfl (by first | exact guard_true _ | exact guard_false _ | exact guard_if (guard_true _) | exact guard_if (guard_false _)) (fun hg => loc_not rfl) rfl ?_
    refine run_gleave ?_
    refine run_op (loc_or rfl rfl) rfl ?_
    refine run_op (loc_move rfl) rfl ?_
    refine run_gfirst rfl rfl (by first | exact guard_true _ | exact guard_false _ | exact guard_if (guard_true _) | exact guard_if (guard_false _)) (fun hg => loc_move rfl) rfl ?_
    refine run_gop rfl rfl (by first | exact guard_true _ | exact guard_false _ | exact guard_if (guard_true _) | exact guard_if (guard_false _)) (fun hg => loc_call (small_spec _) rfl) rfl ?_
    refine run_gop rfl rfl (by first | exact guard_true _ | exact guard_false _ | exact guard_if (guard_true _) | exact guard_if (guard_false _)) (fun hg => loc_not rfl) rfl ?_
    refine run_gleave ?_
    refine run_op (loc_or rfl rfl) rfl ?_
    refine run_nil ?_
    refine run_cond rfl (fun h2 => ?_) (fun h2 => ?_)
    ·
      refine run_seq ?_
      refine run_region ?_
      refine run_op (loc_assign rfl) rfl ?_
      refine run_nil ?_
      refine run_retP Try.func7 rfl rfl ?_
      exact d_B Iff.rfl
    ·
      refine run_skip ?_
      refine run_seq ?_
      refine run_region ?_
      refine run_op (loc_move rfl) rfl ?_
      refine run_callN rfl (deck_spec _) rfl (fun v3 hv3 => ?_)
      refine run_op (loc_assign rfl) rfl ?_
      refine run_nil ?_
      refine run_seq ?_
      refine run_region ?_
      refine run_op (loc_move rfl) rfl ?_
      refine run_callM rfl (by first | exact .here | exact .there .here | exact .there (.there .here) | exact .there (.there (.there .here)) | exact .there (.there (.there (.there .here))) | exact .there (.there (.there (.there (.there .here))))) (mtab_spec _ ⟨ts, 0⟩) rfl (fun s4 hs4 => ?_)
      refine run_new (loc_allocOwn (by simp)) rfl (fun b5 _ => ?_)
      refine run_storeN (ho := (by show OneAll [_, _, _, _]; infer_instance)) rfl rfl (by first | exact .here | exact .there .here | exact .there (.there .here) | exact .there (.there (.there .here)) | exact .there (.there (.there (.there .here))) | exact .there (.there (.there (.there (.there .here))))) (by rfl) ?_
      refine run_nil ?_
      refine run_freezeCells (s := 14) rfl (by first | exact .here | exact .there .here | exact .there (.there .here) | exact .there (.there (.there .here)) | exact .there (.there (.there (.there .here))) | exact .there (.there (.there (.there (.there .here))))) ?_
      have hx := Dk.tab_ok ⟨ts, 0⟩
      have hr := Dk.tab_rows ⟨ts, 0⟩
      generalize Dk.tab ⟨ts, 0⟩ = x at *
      generalize Dk.tab4 ⟨ts, 0⟩ = d0 at *
      have hxc := checkT_ok hx
      have hw := hxc.2.2.1
      have hp : 2 ≤ x.p ∧ x.p ≤ 65521 := ⟨hxc.2.1.1, hxc.2.1.2.1⟩
      have hdl := digs_len hx
      have hhx : (headT x).count = x.rows.length := by rw [head_ok hx]
      have hsz : x.rows.length ≤ 100000 ∧ ∀ r ∈ x.rows, r.length ≤ 100000 := ⟨by omega, fun r h => by have := (hr.2 r h).1; omega⟩
      refine run_seq ?_
      refine run_region ?_
      refine run_op (loc_loadN rfl rfl) rfl ?_
      refine run_new (loc_allocOwn (by simp)) rfl (fun b6 _ => ?_)
      refine run_storeN (ho := (by show OneAll [_, _, _, _]; infer_instance)) rfl rfl (by first | exact .here | exact .there .here | exact .there (.there .here) | exact .there (.there (.there .here)) | exact .there (.there (.there (.there .here))) | exact .there (.there (.there (.there (.there .here))))) (by rfl) ?_
      refine run_nil ?_
      refine run_seq ?_
      refine run_region ?_
      refine run_op (loc_fieldAddr rfl) rfl ?_
      refine run_op (loc_load1 rfl) rfl ?_
      refine run_callN rfl (rowsAny_spec x.rows hsz (d0.val x.rows.length).toNat) rfl (fun v7 hv7 => ?_)
      refine run_op (loc_fieldAddrOwn rfl) rfl ?_
      refine run_store1 rfl rfl (by first | exact .here | exact .there .here | exact .there (.there .here) | exact .there (.there (.there .here)) | exact .there (.there (.there (.there .here))) | exact .there (.there (.there (.there (.there .here))))) (by rfl) ?_
      refine run_nil ?_
      refine run_seq ?_
      refine run_seq ?_
      refine run_region ?_
      refine run_op (loc_fieldAddrOwn rfl) rfl ?_
      refine run_op (loc_loadOwn1 rfl (by first | exact .here | exact .there .here | exact .there (.there .here) | exact .there (.there (.there .here)) | exact .there (.there (.there (.there .here))) | exact .there (.there (.there (.there (.there .here))))) (by rfl)) rfl ?_
      refine run_op (loc_len rfl) rfl ?_
      refine run_op (loc_gtr rfl rfl) rfl ?_
      refine run_nil ?_
      rw [but_len]
      have hi1 := d0.val_nonneg x.rows.length
      have hj1 := (d0.next x.rows.length).val_nonneg x.width
      have hj2 := (d0.next x.rows.length).val_lt x.width (by omega)
      have hc1 := ((d0.next x.rows.length).next x.width).val_nonneg x.p
      have hc2 := ((d0.next x.rows.length).next x.width).val_lt x.p (by omega)
      refine run_join (fun (y : Tab) => [(2, dInt .i64 num), (3, dInt .i64 wid), (4, dInt .i64 idx), (5, dRows rows), (7, dBox (fT raw)), (14, dBox (fT x)), (15, dBox (fT y))]) (fun (y : Tab) => M) (fun (y : Tab) => True) (fun j8 => ?_) ?_
      ·
        refine run_cond rfl (fun h9 => ?_) (fun h9 => ?_)
        ·
          refine run_seq ?_
          have hi2 := d0.val_lt x.rows.length (by omega)
          have hrow := hr.2 _ (getD_mem (xs := x.rows) (k := (d0.val x.rows.length).toNat) (by omega))
          refine run_rowForm .here (by omega) (fun bq cq hvq => ?_)
          subst hvq
          have hbl := but_len x.rows (d0.val x.rows.length).toNat (.slice (some ⟨bq, 0, none⟩) (x.rows[(d0.val x.rows.length).toNat]?.getD default).length cq)
          have hbg := but_get (xs := x.rows) (k := (d0.val x.rows.length).toNat) (v := .slice (some ⟨bq, 0, none⟩) (x.rows[(d0.val x.rows.length).toNat]?.getD default).length cq) (by omega)
          refine run_region ?_
          refine run_op (loc_move rfl) rfl ?_
          refine run_op (loc_fieldAddrOwn rfl) rfl ?_
          refine run_op (loc_loadOwn1 rfl (by first | exact .here | exact .there .here | exact .there (.there .here) | exact .there (.there (.there .here)) | exact .there (.there (.there (.there .here))) | exact .there (.there (.there (.there (.there .here))))) (by rfl)) rfl ?_
          refine run_op (loc_len rfl) rfl ?_
          rw [but_len]
          refine run_callM rfl (by first | exact .here | exact .there .here | exact .there (.there .here) | exact .there (.there (.there .here)) | exact .there (.there (.there (.there .here))) | exact .there (.there (.there (.there (.there .here))))) (next_spec _ d0 x.rows.length (by omega)) rfl (fun s10 hs10 => ?_)
          refine run_op (loc_assign rfl) rfl ?_
          refine run_nil ?_
          refine dr_start (Unit) (fun _ => True) 19 [⟨[(15, none)], [], none⟩,
              ⟨[(75, some (0, false))], [0], some (1, 0, false)⟩,
              ⟨[(16, none)], [], none⟩,
              ⟨[(76, some (1, false)), (77, some (2, false))], [0, 1, 2], none⟩,
              ⟨[(78, some (3, false))], [0, 1, 2, 3], none⟩,
              ⟨[(13, none)], [], none⟩,
              ⟨[(14, none)], [], none⟩,
              ⟨[(81, some (6, false))], [6], none⟩,
              ⟨[(80, some (5, false)), (82, some (7, false))], [5, 6, 7], some (2, 0, true)⟩,
              ⟨[(79, some (4, false)), (83, some (8, false))], [0, 1, 2, 3, 4, 5, 6, 7, 8], none⟩,
              ⟨[(84, some (9, false))], [0, 1, 2, 3, 4, 5, 6, 7, 8, 9], some (0, 0, false)⟩,
              ⟨[(13, none)], [], none⟩,
              ⟨[(14, none)], [], none⟩,
              ⟨[(87, some (12, false))], [12], none⟩,
              ⟨[(88, some (13, false))], [12, 13], none⟩,
              ⟨[(86, some (11, false)), (89, some (14, false))], [5, 6, 7, 8, 11, 12, 13, 14], some (2, 1, true)⟩,
              ⟨[(85, some (10, false)), (90, some (15, false))], [0, 1, 2, 3, 4, 5, 6, 7, 8, 9, 10, 11, 12, 13, 14, 15], none⟩,
              ⟨[(79, some (4, false)), (83, some (8, false))], [0, 1, 2, 3, 4, 5, 6, 7, 8, 9, 10, 11, 12, 13, 14, 15, 16], none⟩,
              ⟨[(92, some (17, false)), (91, some (16, false))], [0, 1, 2, 3, 4, 5, 6, 7, 8, 9, 10, 11, 12, 13, 14, 15, 16, 17], some (0, 0, true)⟩] [_, _, _] _ rfl rfl ?_
          refine dq_pure rfl (fun s => .g rfl (.nil)) (fun s hs _ => loc_fieldAddrOwn rfl) (by first | exact .inl fun _ _ => rfl | exact .inr rfl) ?_
          refine dq_read rfl (fun s => .op rfl (.nil)) rfl rfl (fun s hs _ hm => loc_loadOwn1 rfl hm (by rfl)) (by first | exact .inl fun _ _ => rfl | exact .inr rfl) ?_
          refine dq_pure rfl (fun s => .g rfl (.nil)) (fun s hs _ => loc_move rfl) (by first | exact .inl fun _ _ => rfl | exact .inr rfl) ?_
          first | refine dq_pure rfl (fun s => .op rfl (.op rfl (.nil))) (fun s hs _ => loc_index rfl rfl (by first | omega | assumption)) (by first | exact .inl fun _ _ => rfl | exact .inr rfl) ?_ | refine dq_pure rfl (fun s => .op rfl (.op rfl (.nil))) (fun s hs _ => loc_indexI rfl rfl (by first | omega | assumption)) (by first | exact .inl fun _ _ => rfl | exact .inr rfl) ?_
          refine dq_pure rfl (fun s => .op rfl (.nil)) (fun s hs _ => LocP.conv (loc_load1 rfl) hbg) (by first | exact .inl fun _ _ => rfl | exact .inr rfl) ?_
          refine dq_pure rfl (fun s => .g rfl (.nil)) (fun s hs _ => loc_move rfl) (by first | exact .inl fun _ _ => rfl | exact .inr rfl) ?_
          refine dq_pure rfl (fun s => .g rfl (.nil)) (fun s hs _ => loc_fieldAddr rfl) (by first | exact .inl fun _ _ => rfl | exact .inr rfl) ?_
          refine dq_pure rfl (fun s => .op rfl (.nil)) (fun s hs _ => loc_load1 rfl) (by first | exact .inl fun _ _ => rfl | exact .inr rfl) ?_
          refine dq_write rfl (fun s => .op rfl (.op rfl (.nil))) rfl rfl (fun s hs => loc_callM (next_spec _ (d0.next x.rows.length) x.width (by omega)) rfl) (by first | exact .inl fun _ _ => ⟨rfl, rfl⟩ | exact .inr rfl) ?_
          first | refine dq_pure rfl (fun s => .op rfl (.op rfl (.nil))) (fun s hs _ => loc_indexRow rfl rfl (by first | omega | assumption)) (by first | exact .inl fun _ _ => rfl | exact .inr rfl) ?_ | refine dq_pure rfl (fun s => .op rfl (.op rfl (.nil))) (fun s hs _ => loc_indexRowI rfl rfl (by first | omega | assumption)) (by first | exact .inl fun _ _ => rfl | exact .inr rfl) ?_
          refine dq_read rfl (fun s => .op rfl (.nil)) rfl rfl (fun s hs _ hm => loc_loadRow1 rfl hm (by first | omega | assumption)) (by first | exact .inl fun _ _ => rfl | exact .inr rfl) ?_
          refine dq_pure rfl (fun s => .g rfl (.nil)) (fun s hs _ => loc_move rfl) (by first | exact .inl fun _ _ => rfl | exact .inr rfl) ?_
          refine dq_pure rfl (fun s => .g rfl (.nil)) (fun s hs _ => loc_fieldAddr rfl) (by first | exact .inl fun _ _ => rfl | exact .inr rfl) ?_
          refine dq_pure rfl (fun s => .op rfl (.nil)) (fun s hs _ => loc_fieldAddr rfl) (by first | exact .inl fun _ _ => rfl | exact .inr rfl) ?_
          refine dq_pure rfl (fun s => .op rfl (.nil)) (fun s hs _ => loc_load1 rfl) (by first | exact .inl fun _ _ => rfl | exact .inr rfl) ?_
          refine dq_write rfl (fun s => .op rfl (.op rfl (.nil))) rfl rfl (fun s hs => loc_callM (next_spec _ ((d0.next x.rows.length).next x.width) x.p (by omega)) rfl) (by first | exact .inl fun _ _ => ⟨rfl, rfl⟩ | exact .inr rfl) ?_
          first | refine dq_pure rfl (fun s => .op rfl (.op rfl (.nil))) (fun s hs _ => loc_add rfl rfl (by first | omega | assumption)) (by first | exact .inl fun _ _ => rfl | exact .inr rfl) ?_ | refine dq_pure rfl (fun s => .op rfl (.op rfl (.nil))) (fun s hs _ => loc_addW rfl rfl) (by first | exact .inl fun _ _ => rfl | exact .inr rfl) ?_
          first | refine dq_pure rfl (fun s => .op rfl (.op rfl (.nil))) (fun s hs _ => loc_indexRow rfl rfl (by first | omega | assumption)) (by first | exact .inl fun _ _ => rfl | exact .inr rfl) ?_ | refine dq_pure rfl (fun s => .op rfl (.op rfl (.nil))) (fun s hs _ => loc_indexRowI rfl rfl (by first | omega | assumption)) (by first | exact .inl fun _ _ => rfl | exact .inr rfl) ?_
          refine dq_write0 rfl (fun s => .op rfl (.op rfl (.nil))) rfl rfl (fun s hs => loc_storeRow1 _ rfl rfl rfl (by first | omega | assumption)) (by first | exact .inl fun _ _ => rfl | exact .inr rfl) ?_
          refine dq_end (rs := [_, _, _]) () rfl (fun _ => rfl) (fun _ _ => trivial) rfl (fun _ _ => ?_)
          dsimp only [outG, outM, List.map, List.set]
          refine run_freezeUp (kk := 3) (dBut x.rows (d0.val x.rows.length).toNat _) (dRows _) .here .here rfl (fun J u h1 h2 => but_up (by omega) h1 h2) ?_
          refine run_freezeCells (s := 15) rfl .here ?_
          refine run_drop (.cons _ (.refl _)) ?_
          exact run_at j8 (⟨x.number, x.p, x.width, x.rows.set (d0.val x.rows.length).toNat ((x.rows[(d0.val x.rows.length).toNat]?.getD default).set ((d0.next x.rows.length).val x.width).toNat (IntKind.i64.wrap ((x.rows[(d0.val x.rows.length).toNat]?.getD default)[((d0.next x.rows.length).val x.width).toNat]?.getD default + ((d0.next x.rows.length).next x.width).val x.p)))⟩) (trivial) (rfl) (.cons rfl (by first | exact fun _ _ h => h | exact d_int (by omega) | exact d_int (by simp) | exact d_intN (by omega) | exact d_any) (.cons rfl (by first | exact fun _ _ h => h | exact d_int (by omega) | exact d_int (by simp) | exact d_intN (by omega) | exact d_any) (.cons rfl (by first | exact fun _ _ h => h | exact d_int (by omega) | exact d_int (by simp) | exact d_intN (by omega) | exact d_any) (.cons rfl (by first | exact fun _ _ h => h | exact d_int (by omega) | exact d_int (by simp) | exact d_intN (by omega) | exact d_any) (.cons rfl (by first | exact fun _ _ h => h | exact d_int (by omega) | exact d_int (by simp) | exact d_intN (by omega) | exact d_any) (.cons rfl (by first | exact fun _ _ h => h | exact d_int (by omega) | exact d_int (by simp) | exact d_intN (by omega) | exact d_any) (.cons rfl (by first | exact fun _ _ h => h | exact d_int (by omega) | exact d_int (by simp) | exact d_intN (by omega) | exact d_any) .nil)))))))
        ·
          refine run_skip ?_
          refine run_freezeUp (kk := 3) (dBut x.rows (d0.val x.rows.length).toNat _) (dRows x.rows) .here .here rfl (fun J u h1 _ => but_none (by omega) h1) ?_
          refine run_freezeCells (s := 15) rfl .here ?_
          refine run_drop (.cons _ (.refl _)) ?_
          exact run_at j8 (⟨x.number, x.p, x.width, x.rows⟩) (trivial) (rfl) (.cons rfl (by first | exact fun _ _ h => h | exact d_int (by omega) | exact d_int (by simp) | exact d_intN (by omega) | exact d_any) (.cons rfl (by first | exact fun _ _ h => h | exact d_int (by omega) | exact d_int (by simp) | exact d_intN (by omega) | exact d_any) (.cons rfl (by first | exact fun _ _ h => h | exact d_int (by omega) | exact d_int (by simp) | exact d_intN (by omega) | exact d_any) (.cons rfl (by first | exact fun _ _ h => h | exact d_int (by omega) | exact d_int (by simp) | exact d_intN (by omega) | exact d_any) (.cons rfl (by first | exact fun _ _ h => h | exact d_int (by omega) | exact d_int (by simp) | exact d_intN (by omega) | exact d_any) (.cons rfl (by first | exact fun _ _ h => h | exact d_int (by omega) | exact d_int (by simp) | exact d_intN (by omega) | exact d_any) (.cons rfl (by first | exact fun _ _ h => h | exact d_int (by omega) | exact d_int (by simp) | exact d_intN (by omega) | exact d_any) .nil)))))))
      intro y _
      refine run_seq ?_
      refine run_seq ?_
      refine run_region ?_
      refine run_op (loc_loadN rfl rfl) rfl ?_
      refine run_op (loc_loadN rfl rfl) rfl ?_
      refine run_op (loc_loadN rfl rfl) rfl ?_
      refine run_op (loc_buildSlice rfl rfl (.agg rfl (.agg rfl (.agg rfl (.nil)))) rfl rfl) rfl ?_
      refine runL_recast (s := 96) rfl (d_sl (ys := [raw, x, y]) (h := fT) rfl) ?_
      generalize [raw, x, y] = zs
      refine run_op (loc_len rfl) rfl ?_
      refine run_op (loc_move rfl) rfl ?_
      refine run_nil ?_
      refine run_fact (s := 96) rfl (fun _ _ h => dSl_len h) (fun hz1 => ?_)
      refine run_block ?_
      refine run_loop' (σ := Nat) (fun k1 => [(2, dInt .i64 num), (3, dInt .i64 wid), (4, dInt .i64 idx), (5, dRows rows), (7, dBox (fT raw)), (14, dBox (fT x)), (15, dBox (fT y)), (96, dSl 4 fT zs), (97, dInt .i64 zs.length), (98, dInt .i64 (k1 : Nat))]) (fun k1 => M) (fun k1 => k1 ≤ zs.length) (fun k1 => zs.length - k1) (0) (Nat.zero_le _) (.cons rfl (by first | exact fun _ _ h => h | exact d_int (by omega) | exact d_int (by simp) | exact d_intN (by omega) | exact d_any) (.cons rfl (by first | exact fun _ _ h => h | exact d_int (by omega) | exact d_int (by simp) | exact d_intN (by omega) | exact d_any) (.cons rfl (by first | exact fun _ _ h => h | exact d_int (by omega) | exact d_int (by simp) | exact d_intN (by omega) | exact d_any) (.cons rfl (by first | exact fun _ _ h => h | exact d_int (by omega) | exact d_int (by simp) | exact d_intN (by omega) | exact d_any) (.cons rfl (by first | exact fun _ _ h => h | exact d_int (by omega) | exact d_int (by simp) | exact d_intN (by omega) | exact d_any) (.cons rfl (by first | exact fun _ _ h => h | exact d_int (by omega) | exact d_int (by simp) | exact d_intN (by omega) | exact d_any) (.cons rfl (by first | exact fun _ _ h => h | exact d_int (by omega) | exact d_int (by simp) | exact d_intN (by omega) | exact d_any) (.cons rfl (by first | exact fun _ _ h => h | exact d_int (by omega) | exact d_int (by simp) | exact d_intN (by omega) | exact d_any) (.cons rfl (by first | exact fun _ _ h => h | exact d_int (by omega) | exact d_int (by simp) | exact d_intN (by omega) | exact d_any) (.cons rfl (by first | exact fun _ _ h => h | exact d_int (by omega) | exact d_int (by simp) | exact d_intN (by omega) | exact d_any) .nil)))))))))) rfl ?_
      intro k1 hk1 ih11
      refine run_seq ?_
      refine run_region ?_
      refine run_op (loc_lss rfl rfl) rfl ?_
      refine run_nil ?_
      refine run_seq ?_
      refine run_cond rfl (fun h12 => ?_) (fun h12 => ?_)
      ·
        refine run_skip ?_
        refine run_seq ?_
        refine run_block ?_
        refine run_seq ?_
        refine run_region ?_
        first | refine run_op (loc_index rfl rfl (by first | omega | assumption)) rfl ?_ | refine run_op (loc_indexI rfl rfl (by first | omega | assumption)) rfl ?_
        refine run_op (loc_loadN rfl rfl) rfl ?_
        refine run_new (loc_allocOwn (by simp)) rfl (fun b13 _ => ?_)
        refine run_storeN (ho := (by show OneAll [_, _, _, _]; infer_instance)) rfl rfl (by first | exact .here | exact .there .here | exact .there (.there .here) | exact .there (.there (.there .here)) | exact .there (.there (.there (.there .here))) | exact .there (.there (.there (.there (.there .here))))) (by rfl) ?_
        refine run_nil ?_
        refine run_freezeCells (s := 18) rfl (by first | exact .here | exact .there .here | exact .there (.there .here) | exact .there (.there (.there .here)) | exact .there (.there (.there (.there .here))) | exact .there (.there (.there (.there (.there .here))))) ?_
        refine run_seq ?_
        refine run_region ?_
        refine run_op (loc_loadN rfl rfl) rfl ?_
        refine run_op (loc_call (digests_spec _) rfl) rfl ?_
        refine run_op (loc_move rfl) rfl ?_
        refine run_op (loc_extract rfl rfl) rfl ?_
        refine run_op (loc_extract rfl rfl) rfl ?_
        refine run_op (loc_assign rfl) rfl ?_
        refine run_op (loc_assign rfl) rfl ?_
        refine run_nil ?_
        refine run_seq ?_
        refine run_region ?_
        refine run_op (loc_loadN rfl rfl) rfl ?_
        refine run_op (loc_call (rdigests_spec _) rfl) rfl ?_
        refine run_op (loc_move rfl) rfl ?_
        refine run_op (loc_extract rfl rfl) rfl ?_
        refine run_op (loc_extract rfl rfl) rfl ?_
        refine run_op (loc_assign rfl) rfl ?_
        refine run_op (loc_assign rfl) rfl ?_
        refine run_nil ?_
        refine run_seq ?_
        refine run_region ?_
        refine run_op (loc_loadN rfl rfl) rfl ?_
        refine run_op (loc_call (head_spec _) rfl) rfl ?_
        refine run_op (loc_move rfl) rfl ?_
        refine run_op (loc_extract rfl rfl) rfl ?_
        refine run_op (loc_extract rfl rfl) rfl ?_
        refine run_new (loc_allocOwn (by simp)) rfl (fun b14 _ => ?_)
        refine run_storeN (ho := (by show OneAll [_, _, _, _, _]; infer_instance)) rfl rfl (by first | exact .here | exact .there .here | exact .there (.there .here) | exact .there (.there (.there .here)) | exact .there (.there (.there (.there .here))) | exact .there (.there (.there (.there (.there .here))))) (by rfl) ?_
        refine run_op (loc_assign rfl) rfl ?_
        refine run_nil ?_
        refine run_freezeCells (s := 23) rfl (by first | exact .here | exact .there .here | exact .there (.there .here) | exact .there (.there (.there .here)) | exact .there (.there (.there (.there .here))) | exact .there (.there (.there (.there (.there .here))))) ?_
        refine run_seq ?_
        refine run_region ?_
        refine run_op (loc_loadN rfl rfl) rfl ?_
        refine run_op (loc_call (rhead_spec _) rfl) rfl ?_
        refine run_op (loc_move rfl) rfl ?_
        refine run_op (loc_extract rfl rfl) rfl ?_
        refine run_op (loc_extract rfl rfl) rfl ?_
        refine run_new (loc_allocOwn (by simp)) rfl (fun b15 _ => ?_)
        refine run_storeN (ho := (by show OneAll [_, _, _, _, _]; infer_instance)) rfl rfl (by first | exact .here | exact .there .here | exact .there (.there .here) | exact .there (.there (.there .here)) | exact .there (.there (.there (.there .here))) | exact .there (.there (.there (.there (.there .here))))) (by rfl) ?_
        refine run_op (loc_assign rfl) rfl ?_
        refine run_nil ?_
        refine run_freezeCells (s := 25) rfl (by first | exact .here | exact .there .here | exact .there (.there .here) | exact .there (.there (.there .here)) | exact .there (.there (.there (.there .here))) | exact .there (.there (.there (.there (.there .here))))) ?_
        refine run_seq ?_
        refine run_seq ?_
        refine dr_start (Unit) (fun _ => True) 35 [⟨[(18, none)], [], none⟩,
            ⟨[(122, some (0, false))], [0], none⟩,
            ⟨[(18, none)], [], none⟩,
            ⟨[(124, some (2, false))], [0, 1, 2], none⟩,
            ⟨[(123, some (1, false)), (125, some (3, false))], [0, 1, 2, 3], none⟩,
            ⟨[(126, some (4, false))], [0, 1, 2, 3, 4], none⟩,
            ⟨[(20, none)], [0, 1, 2, 3, 4, 5], none⟩,
            ⟨[(22, none)], [0, 1, 2, 3, 4, 5], none⟩,
            ⟨[(128, some (6, true)), (129, some (7, true))], [0, 1, 2, 3, 4, 5, 6, 7], none⟩,
            ⟨[(127, some (5, false)), (130, some (8, false))], [0, 1, 2, 3, 4, 5, 6, 7, 8], none⟩,
            ⟨[(131, some (9, false))], [0, 1, 2, 3, 4, 5, 6, 7, 8, 9], none⟩,
            ⟨[(19, none)], [0, 1, 2, 3, 4, 5, 6, 7, 8, 9, 10], none⟩,
            ⟨[(21, none)], [0, 1, 2, 3, 4, 5, 6, 7, 8, 9, 10], none⟩,
            ⟨[(133, some (11, true)), (134, some (12, true))], [0, 1, 2, 3, 4, 5, 6, 7, 8, 9, 10, 11, 12], none⟩,
            ⟨[(135, some (13, true))], [0, 1, 2, 3, 4, 5, 6, 7, 8, 9, 10, 11, 12, 13], none⟩,
            ⟨[(132, some (10, false)), (136, some (14, false))], [0, 1, 2, 3, 4, 5, 6, 7, 8, 9, 10, 11, 12, 13, 14], none⟩,
            ⟨[(137, some (15, false))], [0, 1, 2, 3, 4, 5, 6, 7, 8, 9, 10, 11, 12, 13, 14, 15], none⟩,
            ⟨[(23, none)], [0, 1, 2, 3, 4, 5, 6, 7, 8, 9, 10, 11, 12, 13, 14, 15, 16], none⟩,
            ⟨[(25, none)], [0, 1, 2, 3, 4, 5, 6, 7, 8, 9, 10, 11, 12, 13, 14, 15, 16], none⟩,
            ⟨[(139, some (17, true)), (140, some (18, true))], [0, 1, 2, 3, 4, 5, 6, 7, 8, 9, 10, 11, 12, 13, 14, 15, 16, 17, 18], none⟩,
            ⟨[(138, some (16, false)), (141, some (19, false))], [0, 1, 2, 3, 4, 5, 6, 7, 8, 9, 10, 11, 12, 13, 14, 15, 16, 17, 18, 19], none⟩,
            ⟨[(142, some (20, false))], [0, 1, 2, 3, 4, 5, 6, 7, 8, 9, 10, 11, 12, 13, 14, 15, 16, 17, 18, 19, 20], none⟩,
            ⟨[(24, none)], [0, 1, 2, 3, 4, 5, 6, 7, 8, 9, 10, 11, 12, 13, 14, 15, 16, 17, 18, 19, 20, 21], none⟩,
            ⟨[(26, none)], [0, 1, 2, 3, 4, 5, 6, 7, 8, 9, 10, 11, 12, 13, 14, 15, 16, 17, 18, 19, 20, 21], none⟩,
            ⟨[(144, some (22, true)), (145, some (23, true))], [0, 1, 2, 3, 4, 5, 6, 7, 8, 9, 10, 11, 12, 13, 14, 15, 16, 17, 18, 19, 20, 21, 22, 23], none⟩,
            ⟨[(143, some (21, false)), (146, some (24, false))], [0, 1, 2, 3, 4, 5, 6, 7, 8, 9, 10, 11, 12, 13, 14, 15, 16, 17, 18, 19, 20, 21, 22, 23, 24], none⟩,
            ⟨[(147, some (25, false))], [0, 1, 2, 3, 4, 5, 6, 7, 8, 9, 10, 11, 12, 13, 14, 15, 16, 17, 18, 19, 20, 21, 22, 23, 24, 25], none⟩,
            ⟨[(18, none)], [0, 1, 2, 3, 4, 5, 6, 7, 8, 9, 10, 11, 12, 13, 14, 15, 16, 17, 18, 19, 20, 21, 22, 23, 24, 25, 26], none⟩,
            ⟨[(14, none)], [0, 1, 2, 3, 4, 5, 6, 7, 8, 9, 10, 11, 12, 13, 14, 15, 16, 17, 18, 19, 20, 21, 22, 23, 24, 25, 26], none⟩,
            ⟨[(149, some (27, true)), (150, some (28, true))], [0, 1, 2, 3, 4, 5, 6, 7, 8, 9, 10, 11, 12, 13, 14, 15, 16, 17, 18, 19, 20, 21, 22, 23, 24, 25, 26, 27, 28], none⟩,
            ⟨[(18, none)], [0, 1, 2, 3, 4, 5, 6, 7, 8, 9, 10, 11, 12, 13, 14, 15, 16, 17, 18, 19, 20, 21, 22, 23, 24, 25, 26], none⟩,
            ⟨[(14, none)], [0, 1, 2, 3, 4, 5, 6, 7, 8, 9, 10, 11, 12, 13, 14, 15, 16, 17, 18, 19, 20, 21, 22, 23, 24, 25, 26], none⟩,
            ⟨[(152, some (30, true)), (153, some (31, true))], [0, 1, 2, 3, 4, 5, 6, 7, 8, 9, 10, 11, 12, 13, 14, 15, 16, 17, 18, 19, 20, 21, 22, 23, 24, 25, 26, 27, 28, 29, 30, 31], none⟩,
            ⟨[(151, some (29, true)), (154, some (32, true))], [0, 1, 2, 3, 4, 5, 6, 7, 8, 9, 10, 11, 12, 13, 14, 15, 16, 17, 18, 19, 20, 21, 22, 23, 24, 25, 26, 27, 28, 29, 30, 31, 32], none⟩,
            ⟨[(148, some (26, false)), (155, some (33, false))], [0, 1, 2, 3, 4, 5, 6, 7, 8, 9, 10, 11, 12, 13, 14, 15, 16, 17, 18, 19, 20, 21, 22, 23, 24, 25, 26, 27, 28, 29, 30, 31, 32, 33], none⟩] [] _ rfl rfl ?_
        refine dq_pure rfl (fun s => .g rfl (.nil)) (fun s hs _ => loc_loadN rfl rfl) (by first | exact .inl fun _ _ => rfl | exact .inr rfl) ?_
        refine dq_pure rfl (fun s => .op rfl (.nil)) (fun s hs _ => loc_call (tcheck_spec _) rfl) (by first | exact .inl fun _ _ => rfl | exact .inr rfl) ?_
        refine dq_pure rfl (fun s => .g rfl (.nil)) (fun s hs _ => loc_loadN rfl rfl) (by first | exact .inl fun _ _ => rfl | exact .inr rfl) ?_
        refine dq_pure rfl (fun s => .op rfl (.nil)) (fun s hs _ => loc_call (rtcheck_spec _) rfl) (by first | exact .inl fun _ _ => rfl | exact .inr rfl) ?_
        refine dq_pure rfl (fun s => .op rfl (.op rfl (.nil))) (fun s hs _ => loc_neq rfl rfl) (by first | exact .inl fun _ _ => rfl | exact .inr rfl) ?_
        refine dq_pure rfl (fun s => .op rfl (.nil)) (fun s hs _ => loc_move rfl) (by first | exact .inl fun _ _ => rfl | exact .inr rfl) ?_
        refine dq_gpure rfl (fun s => .g rfl (.nil)) rfl (fun _ => by first | exact guard_true _ | exact guard_false _ | exact guard_if (guard_true _) | exact guard_if (guard_false _)) (fun s hs hg _ => loc_move rfl) (by first | exact .inl fun _ _ => rfl | exact .inr rfl) ?_
        refine dq_gpure rfl (fun s => .g rfl (.nil)) rfl (fun _ => by first | exact guard_true _ | exact guard_false _ | exact guard_if (guard_true _) | exact guard_if (guard_false _)) (fun s hs hg _ => loc_move rfl) (by first | exact .inl fun _ _ => rfl | exact .inr rfl) ?_
        refine dq_gpure rfl (fun s => .opU rfl (.opU rfl (.nil))) rfl (fun _ => by first | exact guard_true _ | exact guard_false _ | exact guard_if (guard_true _) | exact guard_if (guard_false _)) (fun s hs hg _ => loc_neq rfl rfl) (by first | exact .inl fun _ _ => rfl | exact .inr rfl) ?_
        refine dq_pure rfl (fun s => .op rfl (.op rfl (.nil))) (fun s hs _ => loc_or rfl rfl) (by first | exact .inl fun _ _ => rfl | exact .inr rfl) ?_
        refine dq_pure rfl (fun s => .op rfl (.nil)) (fun s hs _ => loc_move rfl) (by first | exact .inl fun _ _ => rfl | exact .inr rfl) ?_
        refine dq_gpure rfl (fun s => .g rfl (.nil)) rfl (fun _ => by first | exact guard_true _ | exact guard_false _ | exact guard_if (guard_true _) | exact guard_if (guard_false _)) (fun s hs hg _ => loc_move rfl) (by first | exact .inl fun _ _ => rfl | exact .inr rfl) ?_
        refine dq_gpure rfl (fun s => .g rfl (.nil)) rfl (fun _ => by first | exact guard_true _ | exact guard_false _ | exact guard_if (guard_true _) | exact guard_if (guard_false _)) (fun s hs hg _ => loc_move rfl) (by first | exact .inl fun _ _ => rfl | exact .inr rfl) ?_
        refine dq_gpure rfl (fun s => .opU rfl (.opU rfl (.nil))) rfl (fun _ => by first | exact guard_true _ | exact guard_false _ | exact guard_if (guard_true _) | exact guard_if (guard_false _)) (fun s hs hg _ => loc_call (same_spec _ _) rfl) (by first | exact .inl fun _ _ => rfl | exact .inr rfl) ?_
        refine dq_gpure rfl (fun s => .opU rfl (.nil)) rfl (fun _ => by first | exact guard_true _ | exact guard_false _ | exact guard_if (guard_true _) | exact guard_if (guard_false _)) (fun s hs hg _ => loc_not rfl) (by first | exact .inl fun _ _ => rfl | exact .inr rfl) ?_
        refine dq_pure rfl (fun s => .op rfl (.op rfl (.nil))) (fun s hs _ => loc_or rfl rfl) (by first | exact .inl fun _ _ => rfl | exact .inr rfl) ?_
        refine dq_pure rfl (fun s => .op rfl (.nil)) (fun s hs _ => loc_move rfl) (by first | exact .inl fun _ _ => rfl | exact .inr rfl) ?_
        refine dq_gpure rfl (fun s => .g rfl (.nil)) rfl (fun _ => by first | exact guard_true _ | exact guard_false _ | exact guard_if (guard_true _) | exact guard_if (guard_false _)) (fun s hs hg _ => loc_loadN rfl rfl) (by first | exact .inl fun _ _ => rfl | exact .inr rfl) ?_
        refine dq_gpure rfl (fun s => .g rfl (.nil)) rfl (fun _ => by first | exact guard_true _ | exact guard_false _ | exact guard_if (guard_true _) | exact guard_if (guard_false _)) (fun s hs hg _ => loc_loadN rfl rfl) (by first | exact .inl fun _ _ => rfl | exact .inr rfl) ?_
        refine dq_gpure rfl (fun s => .opU rfl (.opU rfl (.nil))) rfl (fun _ => by first | exact guard_true _ | exact guard_false _ | exact guard_if (guard_true _) | exact guard_if (guard_false _)) (fun s hs hg _ => loc_neqI rfl rfl (.cons (.cons (.cons (.cons (.cons (.nil)))))) rfl) (by first | exact .inl fun _ _ => rfl | exact .inr rfl) ?_
        refine dq_pure rfl (fun s => .op rfl (.op rfl (.nil))) (fun s hs _ => loc_or rfl rfl) (by first | exact .inl fun _ _ => rfl | exact .inr rfl) ?_
        refine dq_pure rfl (fun s => .op rfl (.nil)) (fun s hs _ => loc_move rfl) (by first | exact .inl fun _ _ => rfl | exact .inr rfl) ?_
        refine dq_gpure rfl (fun s => .g rfl (.nil)) rfl (fun _ => by first | exact guard_true _ | exact guard_false _ | exact guard_if (guard_true _) | exact guard_if (guard_false _)) (fun s hs hg _ => loc_move rfl) (by first | exact .inl fun _ _ => rfl | exact .inr rfl) ?_
        refine dq_gpure rfl (fun s => .g rfl (.nil)) rfl (fun _ => by first | exact guard_true _ | exact guard_false _ | exact guard_if (guard_true _) | exact guard_if (guard_false _)) (fun s hs hg _ => loc_move rfl) (by first | exact .inl fun _ _ => rfl | exact .inr rfl) ?_
        refine dq_gpure rfl (fun s => .opU rfl (.opU rfl (.nil))) rfl (fun _ => by first | exact guard_true _ | exact guard_false _ | exact guard_if (guard_true _) | exact guard_if (guard_false _)) (fun s hs hg _ => loc_neq rfl rfl) (by first | exact .inl fun _ _ => rfl | exact .inr rfl) ?_
        refine dq_pure rfl (fun s => .op rfl (.op rfl (.nil))) (fun s hs _ => loc_or rfl rfl) (by first | exact .inl fun _ _ => rfl | exact .inr rfl) ?_
        refine dq_pure rfl (fun s => .op rfl (.nil)) (fun s hs _ => loc_move rfl) (by first | exact .inl fun _ _ => rfl | exact .inr rfl) ?_
        refine dq_gpure rfl (fun s => .g rfl (.nil)) rfl (fun _ => by first | exact guard_true _ | exact guard_false _ | exact guard_if (guard_true _) | exact guard_if (guard_false _)) (fun s hs hg _ => loc_loadN rfl rfl) (by first | exact .inl fun _ _ => rfl | exact .inr rfl) ?_
        refine dq_gpure rfl (fun s => .g rfl (.nil)) rfl (fun _ => by first | exact guard_true _ | exact guard_false _ | exact guard_if (guard_true _) | exact guard_if (guard_false _)) (fun s hs hg _ => loc_loadN rfl rfl) (by first | exact .inl fun _ _ => rfl | exact .inr rfl) ?_
        refine dq_gpure rfl (fun s => .opU rfl (.opU rfl (.nil))) rfl (fun _ => by first | exact guard_true _ | exact guard_false _ | exact guard_if (guard_true _) | exact guard_if (guard_false _)) (fun s hs hg _ => loc_call (sameT_spec _ _) rfl) (by first | exact .inl fun _ _ => rfl | exact .inr rfl) ?_
        refine dq_gpure rfl (fun s => .g rfl (.nil)) rfl (fun _ => by first | exact guard_true _ | exact guard_false _ | exact guard_if (guard_true _) | exact guard_if (guard_false _)) (fun s hs hg _ => loc_loadN rfl rfl) (by first | exact .inl fun _ _ => rfl | exact .inr rfl) ?_
        refine dq_gpure rfl (fun s => .g rfl (.nil)) rfl (fun _ => by first | exact guard_true _ | exact guard_false _ | exact guard_if (guard_true _) | exact guard_if (guard_false _)) (fun s hs hg _ => loc_loadN rfl rfl) (by first | exact .inl fun _ _ => rfl | exact .inr rfl) ?_
        refine dq_gpure rfl (fun s => .opU rfl (.opU rfl (.nil))) rfl (fun _ => by first | exact guard_true _ | exact guard_false _ | exact guard_if (guard_true _) | exact guard_if (guard_false _)) (fun s hs hg _ => loc_call (rsameT_spec _ _) rfl) (by first | exact .inl fun _ _ => rfl | exact .inr rfl) ?_
        refine dq_gpure rfl (fun s => .opU rfl (.opU rfl (.nil))) rfl (fun _ => by first | exact guard_true _ | exact guard_false _ | exact guard_if (guard_true _) | exact guard_if (guard_false _)) (fun s hs hg _ => loc_neqB rfl rfl) (by first | exact .inl fun _ _ => rfl | exact .inr rfl) ?_
        refine dq_pure rfl (fun s => .op rfl (.op rfl (.nil))) (fun s hs _ => loc_or rfl rfl) (by first | exact .inl fun _ _ => rfl | exact .inr rfl) ?_
        refine dq_end (rs := []) () rfl (fun _ => rfl) (fun _ _ => trivial) rfl (fun _ _ => ?_)
        dsimp only [outG, outM, List.map, List.set]
        refine run_cond rfl (fun h16 => ?_) (fun h16 => ?_)
        · exfalso; simp [sameT] at h16
        ·
          refine run_skip ?_
          refine run_seq ?_
          refine run_seq ?_
          refine run_region ?_
          refine run_op (loc_move rfl) rfl ?_
          refine run_op (loc_move rfl) rfl ?_
          refine run_op (loc_call (mmod_spec _ _ (by omega)) rfl) rfl ?_
          refine run_op (loc_buildSlice rfl rfl (.one rfl (.one rfl (.nil))) rfl rfl) rfl ?_
          refine runL_recast (s := 160) rfl (d_sl (ys := [idx, idx % 8]) (h := fI) rfl) ?_
          generalize [idx, idx % 8] = ks
          refine run_op (loc_len rfl) rfl ?_
          refine run_op (loc_move rfl) rfl ?_
          refine run_nil ?_
          refine run_fact (s := 160) rfl (fun _ _ h => dSl_len h) (fun hz2 => ?_)
          refine run_block ?_
          refine run_loop' (σ := Nat) (fun k2 => [(2, dInt .i64 num), (3, dInt .i64 wid), (4, dInt .i64 idx), (5, dRows rows), (7, dBox (fT raw)), (14, dBox (fT x)), (15, dBox (fT y)), (18, dBox (fT (zs[k1]?.getD default))), (96, dSl 4 fT zs), (97, dInt .i64 zs.length), (98, dInt .i64 (k1 : Nat)), (160, dInts ks), (161, dInt .i64 ks.length), (162, dInt .i64 (k2 : Nat))]) (fun k2 => M) (fun k2 => k2 ≤ ks.length) (fun k2 => ks.length - k2) (0) (Nat.zero_le _) (.cons rfl (by first | exact fun _ _ h => h | exact d_int (by omega) | exact d_int (by simp) | exact d_intN (by omega) | exact d_any) (.cons rfl (by first | exact fun _ _ h => h | exact d_int (by omega) | exact d_int (by simp) | exact d_intN (by omega) | exact d_any) (.cons rfl (by first | exact fun _ _ h => h | exact d_int (by omega) | exact d_int (by simp) | exact d_intN (by omega) | exact d_any) (.cons rfl (by first | exact fun _ _ h => h | exact d_int (by omega) | exact d_int (by simp) | exact d_intN (by omega) | exact d_any) (.cons rfl (by first | exact fun _ _ h => h | exact d_int (by omega) | exact d_int (by simp) | exact d_intN (by omega) | exact d_any) (.cons rfl (by first | exact fun _ _ h => h | exact d_int (by omega) | exact d_int (by simp) | exact d_intN (by omega) | exact d_any) (.cons rfl (by first | exact fun _ _ h => h | exact d_int (by omega) | exact d_int (by simp) | exact d_intN (by omega) | exact d_any) (.cons rfl (by first | exact fun _ _ h => h | exact d_int (by omega) | exact d_int (by simp) | exact d_intN (by omega) | exact d_any) (.cons rfl (by first | exact fun _ _ h => h | exact d_int (by omega) | exact d_int (by simp) | exact d_intN (by omega) | exact d_any) (.cons rfl (by first | exact fun _ _ h => h | exact d_int (by omega) | exact d_int (by simp) | exact d_intN (by omega) | exact d_any) (.cons rfl (by first | exact fun _ _ h => h | exact d_int (by omega) | exact d_int (by simp) | exact d_intN (by omega) | exact d_any) (.cons rfl (by first | exact fun _ _ h => h | exact d_int (by omega) | exact d_int (by simp) | exact d_intN (by omega) | exact d_any) (.cons rfl (by first | exact fun _ _ h => h | exact d_int (by omega) | exact d_int (by simp) | exact d_intN (by omega) | exact d_any) (.cons rfl (by first | exact fun _ _ h => h | exact d_int (by omega) | exact d_int (by simp) | exact d_intN (by omega) | exact d_any) .nil)))))))))))))) rfl ?_
          intro k2 hk2 ih17
          refine run_seq ?_
          refine run_region ?_
          refine run_op (loc_lss rfl rfl) rfl ?_
          refine run_nil ?_
          refine run_seq ?_
          refine run_cond rfl (fun h18 => ?_) (fun h18 => ?_)
          ·
            refine run_skip ?_
            refine run_seq ?_
            refine run_block ?_
            refine run_seq ?_
            refine run_region ?_
            first | refine run_op (loc_index rfl rfl (by first | omega | assumption)) rfl ?_ | refine run_op (loc_indexI rfl rfl (by first | omega | assumption)) rfl ?_
            refine run_op (loc_load1 rfl) rfl ?_
            refine run_op (loc_assign rfl) rfl ?_
            refine run_nil ?_
            refine run_seq ?_
            refine run_region ?_
            refine run_op (loc_loadN rfl rfl) rfl ?_
            refine run_op (loc_move rfl) rfl ?_
            refine run_op (loc_call (rowT_spec _ _) rfl) rfl ?_
            refine run_op (loc_move rfl) rfl ?_
            refine run_op (loc_extract rfl rfl) rfl ?_
            refine run_op (loc_extract rfl rfl) rfl ?_
            refine run_op (loc_assign rfl) rfl ?_
            refine run_op (loc_assign rfl) rfl ?_
            refine run_nil ?_
            refine run_seq ?_
            refine run_region ?_
            refine run_op (loc_loadN rfl rfl) rfl ?_
            refine run_op (loc_move rfl) rfl ?_
            refine run_op (loc_call (rrowT_spec _ _) rfl) rfl ?_
            refine run_op (loc_move rfl) rfl ?_
            refine run_op (loc_extract rfl rfl) rfl ?_
            refine run_op (loc_extract rfl rfl) rfl ?_
            refine run_op (loc_assign rfl) rfl ?_
            refine run_op (loc_assign rfl) rfl ?_
            refine run_nil ?_
            refine run_seq ?_
            refine run_region ?_
            refine run_op (loc_move rfl) rfl ?_
            refine run_op (loc_move rfl) rfl ?_
            refine run_op (loc_neq rfl rfl) rfl ?_
            refine run_op (loc_move rfl) rfl ?_
            refine run_gfirst rfl rfl (by first | exact guard_true _ | exact guard_false _ | exact guard_if (guard_true _) | exact guard_if (guard_false _)) (fun hg => loc_move rfl) rfl ?_
            refine run_gop rfl rfl (by first | exact guard_true _ | exact guard_false _ | exact guard_if (guard_true _) | exact guard_if (guard_false _)) (fun hg => loc_move rfl) rfl ?_
            refine run_gop rfl rfl (by first | exact guard_true _ | exact guard_false _ | exact guard_if (guard_true _) | exact guard_if (guard_false _)) (fun hg => loc_call (same_spec _ _) rfl) rfl ?_
            refine run_gop rfl rfl (by first | exact guard_true _ | exact guard_false _ | exact guard_if (guard_true _) | exact guard_if (guard_false _)) (fun hg => loc_not rfl) rfl ?_
            refine run_gleave ?_
            refine run_op (loc_or rfl rfl) rfl ?_
            refine run_nil ?_
            refine run_cond rfl (fun h19 => ?_) (fun h19 => ?_)
            · exfalso; simp [sameT] at h19
            ·
              refine run_skip ?_
              refine run_inBlock ?_
              refine run_region ?_
              first | refine run_op (loc_add rfl rfl (by first | omega | assumption)) rfl ?_ | refine run_op (loc_addW rfl rfl) rfl ?_
              refine run_op (loc_move rfl) rfl ?_
              refine run_nil ?_
              exact run_again ih17 (k2 + 1) (by omega) (by omega) (.cons rfl (by first | exact fun _ _ h => h | exact d_int (by omega) | exact d_int (by simp) | exact d_intN (by omega) | exact d_any) (.cons rfl (by first | exact fun _ _ h => h | exact d_int (by omega) | exact d_int (by simp) | exact d_intN (by omega) | exact d_any) (.cons rfl (by first | exact fun _ _ h => h | exact d_int (by omega) | exact d_int (by simp) | exact d_intN (by omega) | exact d_any) (.cons rfl (by first | exact fun _ _ h => h | exact d_int (by omega) | exact d_int (by simp) | exact d_intN (by omega) | exact d_any) (.cons rfl (by first | exact fun _ _ h => h | exact d_int (by omega) | exact d_int (by simp) | exact d_intN (by omega) | exact d_any) (.cons rfl (by first | exact fun _ _ h => h | exact d_int (by omega) | exact d_int (by simp) | exact d_intN (by omega) | exact d_any) (.cons rfl (by first | exact fun _ _ h => h | exact d_int (by omega) | exact d_int (by simp) | exact d_intN (by omega) | exact d_any) (.cons rfl (by first | exact fun _ _ h => h | exact d_int (by omega) | exact d_int (by simp) | exact d_intN (by omega) | exact d_any) (.cons rfl (by first | exact fun _ _ h => h | exact d_int (by omega) | exact d_int (by simp) | exact d_intN (by omega) | exact d_any) (.cons rfl (by first | exact fun _ _ h => h | exact d_int (by omega) | exact d_int (by simp) | exact d_intN (by omega) | exact d_any) (.cons rfl (by first | exact fun _ _ h => h | exact d_int (by omega) | exact d_int (by simp) | exact d_intN (by omega) | exact d_any) (.cons rfl (by first | exact fun _ _ h => h | exact d_int (by omega) | exact d_int (by simp) | exact d_intN (by omega) | exact d_any) (.cons rfl (by first | exact fun _ _ h => h | exact d_int (by omega) | exact d_int (by simp) | exact d_intN (by omega) | exact d_any) (.cons rfl (by first | exact fun _ _ h => h | exact d_int (by omega) | exact d_int (by simp) | exact d_intN (by omega) | exact d_any) .nil)))))))))))))) (rfl)
          ·
            refine run_exit rfl ?_
            refine run_seq ?_
            refine dr_start (Unit) (fun _ => True) 12 [⟨[(2, none)], [], none⟩,
                ⟨[(3, none)], [], none⟩,
                ⟨[(188, some (0, false)), (189, some (1, false))], [0, 1], none⟩,
                ⟨[(2, none)], [], none⟩,
                ⟨[(191, some (3, false))], [3], none⟩,
                ⟨[(192, some (4, false))], [3, 4], none⟩,
                ⟨[(18, none)], [], none⟩,
                ⟨[(194, some (6, false))], [6], none⟩,
                ⟨[(193, some (5, false)), (195, some (7, false))], [3, 4, 5, 6, 7], none⟩,
                ⟨[(190, some (2, false)), (196, some (8, false))], [0, 1, 2, 3, 4, 5, 6, 7, 8], none⟩,
                ⟨[(197, some (9, false))], [0, 1, 2, 3, 4, 5, 6, 7, 8, 9], none⟩,
                ⟨[], [], none⟩] [] _ rfl rfl ?_
            refine dq_pure rfl (fun s => .g rfl (.nil)) (fun s hs _ => loc_move rfl) (by first | exact .inl fun _ _ => rfl | exact .inr rfl) ?_
            refine dq_pure rfl (fun s => .g rfl (.nil)) (fun s hs _ => loc_move rfl) (by first | exact .inl fun _ _ => rfl | exact .inr rfl) ?_
            refine dq_pure rfl (fun s => .op rfl (.op rfl (.nil))) (fun s hs _ => loc_buildA (e := 3) (len := 2) [(0, 1), (1, 1)] (by kernel_rfl) rfl (.one rfl rfl rfl (.one rfl rfl rfl (.nil)))) (by first | exact .inl fun _ _ => rfl | exact .inr rfl) ?_
            refine dq_pure rfl (fun s => .g rfl (.nil)) (fun s hs _ => loc_move rfl) (by first | exact .inl fun _ _ => rfl | exact .inr rfl) ?_
            refine dq_pure rfl (fun s => .op rfl (.nil)) (fun s hs _ => loc_call (mmod_spec _ _ (by omega)) rfl) (by first | exact .inl fun _ _ => rfl | exact .inr rfl) ?_
            first | refine dq_pure rfl (fun s => .op rfl (.nil)) (fun s hs _ => loc_add rfl rfl (by first | omega | assumption)) (by first | exact .inl fun _ _ => rfl | exact .inr rfl) ?_ | refine dq_pure rfl (fun s => .op rfl (.nil)) (fun s hs _ => loc_addW rfl rfl) (by first | exact .inl fun _ _ => rfl | exact .inr rfl) ?_
            refine dq_pure rfl (fun s => .g rfl (.nil)) (fun s hs _ => loc_fieldAddr rfl) (by first | exact .inl fun _ _ => rfl | exact .inr rfl) ?_
            refine dq_pure rfl (fun s => .op rfl (.nil)) (fun s hs _ => loc_load1 rfl) (by first | exact .inl fun _ _ => rfl | exact .inr rfl) ?_
            refine dq_pure rfl (fun s => .op rfl (.op rfl (.nil))) (fun s hs _ => loc_buildA (e := 3) (len := 2) [(0, 1), (1, 1)] (by kernel_rfl) rfl (.one rfl rfl rfl (.one rfl rfl rfl (.nil)))) (by first | exact .inl fun _ _ => rfl | exact .inr rfl) ?_
            refine dq_pure rfl (fun s => .op rfl (.op rfl (.nil))) (fun s hs _ => loc_buildSlice rfl rfl (.agg rfl (.agg rfl (.nil))) rfl rfl) (by first | exact .inl fun _ _ => rfl | exact .inr rfl) ?_
            refine dq_pure rfl (fun s => .op rfl (.nil)) (fun s hs _ => loc_len rfl) (by first | exact .inl fun _ _ => rfl | exact .inr rfl) ?_
            refine dq_pure rfl (fun s => .nil) (fun s hs _ => loc_move rfl) (by first | exact .inl fun _ _ => rfl | exact .inr rfl) ?_
            refine dq_end (rs := []) () rfl (fun _ => rfl) (fun _ _ => trivial) rfl (fun _ _ => ?_)
            dsimp only [outG, outM, List.map, List.set]
            refine run_recast (s := 197) rfl (d_sl (ys := [(num, wid), (1 + num % 9, (zs[k1]?.getD default).width)]) (h := fQ) rfl) ?_
            have hql : ([(num, wid), (1 + num % 9, (zs[k1]?.getD default).width)] : List (Int × Int)).length = 2 := rfl
            generalize [(num, wid), (1 + num % 9, (zs[k1]?.getD default).width)] = qs at hql ⊢
            refine run_block ?_
            refine run_loop' (σ := Nat) (fun k3 => [(2, dInt .i64 num), (3, dInt .i64 wid), (4, dInt .i64 idx), (5, dRows rows), (7, dBox (fT raw)), (14, dBox (fT x)), (15, dBox (fT y)), (18, dBox (fT (zs[k1]?.getD default))), (96, dSl 4 fT zs), (97, dInt .i64 zs.length), (98, dInt .i64 (k1 : Nat)), (197, dSl 2 fQ qs), (198, dInt .i64 2), (199, dInt .i64 (k3 : Nat))]) (fun k3 => M) (fun k3 => k3 ≤ qs.length) (fun k3 => qs.length - k3) (0) (Nat.zero_le _) (.cons rfl (by first | exact fun _ _ h => h | exact d_int (by omega) | exact d_int (by simp) | exact d_intN (by omega) | exact d_any) (.cons rfl (by first | exact fun _ _ h => h | exact d_int (by omega) | exact d_int (by simp) | exact d_intN (by omega) | exact d_any) (.cons rfl (by first | exact fun _ _ h => h | exact d_int (by omega) | exact d_int (by simp) | exact d_intN (by omega) | exact d_any) (.cons rfl (by first | exact fun _ _ h => h | exact d_int (by omega) | exact d_int (by simp) | exact d_intN (by omega) | exact d_any) (.cons rfl (by first | exact fun _ _ h => h | exact d_int (by omega) | exact d_int (by simp) | exact d_intN (by omega) | exact d_any) (.cons rfl (by first | exact fun _ _ h => h | exact d_int (by omega) | exact d_int (by simp) | exact d_intN (by omega) | exact d_any) (.cons rfl (by first | exact fun _ _ h => h | exact d_int (by omega) | exact d_int (by simp) | exact d_intN (by omega) | exact d_any) (.cons rfl (by first | exact fun _ _ h => h | exact d_int (by omega) | exact d_int (by simp) | exact d_intN (by omega) | exact d_any) (.cons rfl (by first | exact fun _ _ h => h | exact d_int (by omega) | exact d_int (by simp) | exact d_intN (by omega) | exact d_any) (.cons rfl (by first | exact fun _ _ h => h | exact d_int (by omega) | exact d_int (by simp) | exact d_intN (by omega) | exact d_any) (.cons rfl (by first | exact fun _ _ h => h | exact d_int (by omega) | exact d_int (by simp) | exact d_intN (by omega) | exact d_any) (.cons rfl (by first | exact fun _ _ h => h | exact d_int (by omega) | exact d_int (by simp) | exact d_intN (by omega) | exact d_any) (.cons rfl (by first | exact fun _ _ h => h | exact d_int (by omega) | exact d_int (by simp) | exact d_intN (by omega) | exact d_any) (.cons rfl (by first | exact fun _ _ h => h | exact d_int (by omega) | exact d_int (by simp) | exact d_intN (by omega) | exact d_any) .nil)))))))))))))) rfl ?_
            intro k3 hk3 ih20
            refine run_seq ?_
            refine run_region ?_
            refine run_op (loc_lss rfl rfl) rfl ?_
            refine run_nil ?_
            refine run_seq ?_
            refine run_cond rfl (fun h21 => ?_) (fun h21 => ?_)
            ·
              refine run_skip ?_
              refine run_seq ?_
              refine run_block ?_
              refine run_seq ?_
              refine run_region ?_
              first | refine run_op (loc_index rfl rfl (by first | omega | assumption)) rfl ?_ | refine run_op (loc_indexI rfl rfl (by first | omega | assumption)) rfl ?_
              refine run_op (loc_loadN rfl rfl) rfl ?_
              refine run_new (loc_allocOwn (by simp)) rfl (fun b22 _ => ?_)
              refine run_storeN (ho := (by show OneAll [_, _]; infer_instance)) rfl rfl (by first | exact .here | exact .there .here | exact .there (.there .here) | exact .there (.there (.there .here)) | exact .there (.there (.there (.there .here))) | exact .there (.there (.there (.there (.there .here))))) (by rfl) ?_
              refine run_nil ?_
              refine run_freezeCells (s := 34) rfl (by first | exact .here | exact .there .here | exact .there (.there .here) | exact .there (.there (.there .here)) | exact .there (.there (.there (.there .here))) | exact .there (.there (.there (.there (.there .here))))) ?_
              refine run_seq ?_
              refine run_region ?_
              refine run_op (loc_move rfl) rfl ?_
              refine run_op (loc_fieldAddr rfl) rfl ?_
              refine run_op (loc_load1 rfl) rfl ?_
              refine run_op (loc_buildSlice rfl rfl (.one rfl (.one rfl (.nil))) rfl rfl) rfl ?_
              refine runL_recast (s := 206) rfl (d_sl (ys := [rows, (zs[k1]?.getD default).rows]) (h := fM) rfl) ?_
              generalize [rows, (zs[k1]?.getD default).rows] = rs
              refine run_op (loc_len rfl) rfl ?_
              refine run_op (loc_move rfl) rfl ?_
              refine run_nil ?_
              refine run_fact (s := 206) rfl (fun _ _ h => dSl_len h) (fun hz4 => ?_)
              refine run_block ?_
              refine run_loop' (σ := Nat) (fun k4 => [(2, dInt .i64 num), (3, dInt .i64 wid), (4, dInt .i64 idx), (5, dRows rows), (7, dBox (fT raw)), (14, dBox (fT x)), (15, dBox (fT y)), (18, dBox (fT (zs[k1]?.getD default))), (34, dBox (fQ (qs[k3]?.getD default))), (96, dSl 4 fT zs), (97, dInt .i64 zs.length), (98, dInt .i64 (k1 : Nat)), (197, dSl 2 fQ qs), (198, dInt .i64 2), (199, dInt .i64 (k3 : Nat)), (206, dSl 1 fM rs), (207, dInt .i64 rs.length), (208, dInt .i64 (k4 : Nat))]) (fun k4 => M) (fun k4 => k4 ≤ rs.length) (fun k4 => rs.length - k4) (0) (Nat.zero_le _) (.cons rfl (by first | exact fun _ _ h => h | exact d_int (by omega) | exact d_int (by simp) | exact d_intN (by omega) | exact d_any) (.cons rfl (by first | exact fun _ _ h => h | exact d_int (by omega) | exact d_int (by simp) | exact d_intN (by omega) | exact d_any) (.cons rfl (by first | exact fun _ _ h => h | exact d_int (by omega) | exact d_int (by simp) | exact d_intN (by omega) | exact d_any) (.cons rfl (by first | exact fun _ _ h => h | exact d_int (by omega) | exact d_int (by simp) | exact d_intN (by omega) | exact d_any) (.cons rfl (by first | exact fun _ _ h => h | exact d_int (by omega) | exact d_int (by simp) | exact d_intN (by omega) | exact d_any) (.cons rfl (by first | exact fun _ _ h => h | exact d_int (by omega) | exact d_int (by simp) | exact d_intN (by omega) | exact d_any) (.cons rfl (by first | exact fun _ _ h => h | exact d_int (by omega) | exact d_int (by simp) | exact d_intN (by omega) | exact d_any) (.cons rfl (by first | exact fun _ _ h => h | exact d_int (by omega) | exact d_int (by simp) | exact d_intN (by omega) | exact d_any) (.cons rfl (by first | exact fun _ _ h => h | exact d_int (by omega) | exact d_int (by simp) | exact d_intN (by omega) | exact d_any) (.cons rfl (by first | exact fun _ _ h => h | exact d_int (by omega) | exact d_int (by simp) | exact d_intN (by omega) | exact d_any) (.cons rfl (by first | exact fun _ _ h => h | exact d_int (by omega) | exact d_int (by simp) | exact d_intN (by omega) | exact d_any) (.cons rfl (by first | exact fun _ _ h => h | exact d_int (by omega) | exact d_int (by simp) | exact d_intN (by omega) | exact d_any) (.cons rfl (by first | exact fun _ _ h => h | exact d_int (by omega) | exact d_int (by simp) | exact d_intN (by omega) | exact d_any) (.cons rfl (by first | exact fun _ _ h => h | exact d_int (by omega) | exact d_int (by simp) | exact d_intN (by omega) | exact d_any) (.cons rfl (by first | exact fun _ _ h => h | exact d_int (by omega) | exact d_int (by simp) | exact d_intN (by omega) | exact d_any) (.cons rfl (by first | exact fun _ _ h => h | exact d_int (by omega) | exact d_int (by simp) | exact d_intN (by omega) | exact d_any) (.cons rfl (by first | exact fun _ _ h => h | exact d_int (by omega) | exact d_int (by simp) | exact d_intN (by omega) | exact d_any) (.cons rfl (by first | exact fun _ _ h => h | exact d_int (by omega) | exact d_int (by simp) | exact d_intN (by omega) | exact d_any) .nil)))))))))))))))))) rfl ?_
              intro k4 hk4 ih23
              refine run_seq ?_
              refine run_region ?_
              refine run_op (loc_lss rfl rfl) rfl ?_
              refine run_nil ?_
              refine run_seq ?_
              refine run_cond rfl (fun h24 => ?_) (fun h24 => ?_)
              ·
                refine run_skip ?_
                refine run_seq ?_
                refine run_block ?_
                refine run_seq ?_
                refine run_region ?_
                first | refine run_op (loc_index rfl rfl (by first | omega | assumption)) rfl ?_ | refine run_op (loc_indexI rfl rfl (by first | omega | assumption)) rfl ?_
                refine run_op (loc_load1 rfl) rfl ?_
                refine run_op (loc_assign rfl) rfl ?_
                refine run_nil ?_
                refine run_seq ?_
                refine run_region ?_
                refine run_op (loc_indexArr (e := 3) (len := 2) (by kernel_rfl) rfl rfl (by omega)) rfl ?_
                refine run_op (loc_load1 rfl) rfl ?_
                refine run_op (loc_fieldAddr rfl) rfl ?_
                refine run_op (loc_loadN rfl rfl) rfl ?_
                refine run_op (loc_indexArr (e := 3) (len := 2) (by kernel_rfl) rfl rfl (by omega)) rfl ?_
                refine run_op (loc_load1 rfl) rfl ?_
                refine run_op (loc_move rfl) rfl ?_
                refine run_op (loc_call (newT_spec _ _ _ _) rfl) rfl ?_
                refine run_op (loc_move rfl) rfl ?_
                refine run_op (loc_extract rfl rfl) rfl ?_
                refine run_op (loc_extract rfl rfl) rfl ?_
                refine run_new (loc_allocOwn (by simp)) rfl (fun b25 _ => ?_)
                refine run_storeN (ho := (by show OneAll [_, _, _, _]; infer_instance)) rfl rfl (by first | exact .here | exact .there .here | exact .there (.there .here) | exact .there (.there (.there .here)) | exact .there (.there (.there (.there .here))) | exact .there (.there (.there (.there (.there .here))))) (by rfl) ?_
                refine run_op (loc_assign rfl) rfl ?_
                refine run_nil ?_
                refine run_freezeCells (s := 37) rfl (by first | exact .here | exact .there .here | exact .there (.there .here) | exact .there (.there (.there .here)) | exact .there (.there (.there (.there .here))) | exact .there (.there (.there (.there (.there .here))))) ?_
                refine run_seq ?_
                refine run_region ?_
                refine run_op (loc_indexArr (e := 3) (len := 2) (by kernel_rfl) rfl rfl (by omega)) rfl ?_
                refine run_op (loc_load1 rfl) rfl ?_
                refine run_op (loc_fieldAddr rfl) rfl ?_
                refine run_op (loc_loadN rfl rfl) rfl ?_
                refine run_op (loc_indexArr (e := 3) (len := 2) (by kernel_rfl) rfl rfl (by omega)) rfl ?_
                refine run_op (loc_load1 rfl) rfl ?_
                refine run_op (loc_move rfl) rfl ?_
                refine run_op (loc_call (rnewT_spec _ _ _ _) rfl) rfl ?_
                refine run_op (loc_move rfl) rfl ?_
                refine run_op (loc_extract rfl rfl) rfl ?_
                refine run_op (loc_extract rfl rfl) rfl ?_
                refine run_new (loc_allocOwn (by simp)) rfl (fun b26 _ => ?_)
                refine run_storeN (ho := (by show OneAll [_, _, _, _]; infer_instance)) rfl rfl (by first | exact .here | exact .there .here | exact .there (.there .here) | exact .there (.there (.there .here)) | exact .there (.there (.there (.there .here))) | exact .there (.there (.there (.there (.there .here))))) (by rfl) ?_
                refine run_op (loc_assign rfl) rfl ?_
                refine run_nil ?_
                refine run_freezeCells (s := 39) rfl (by first | exact .here | exact .there .here | exact .there (.there .here) | exact .there (.there (.there .here)) | exact .there (.there (.there (.there .here))) | exact .there (.there (.there (.there (.there .here))))) ?_
                refine run_seq ?_
                refine run_region ?_
                refine run_op (loc_move rfl) rfl ?_
                refine run_op (loc_move rfl) rfl ?_
                refine run_op (loc_neq rfl rfl) rfl ?_
                refine run_op (loc_move rfl) rfl ?_
                refine run_gfirst rfl rfl (by first | exact guard_true _ | exact guard_false _ | exact guard_if (guard_true _) | exact guard_if (guard_false _)) (fun hg => loc_loadN rfl rfl) rfl ?_
                refine run_gop rfl rfl (by first | exact guard_true _ | exact guard_false _ | exact guard_if (guard_true _) | exact guard_if (guard_false _)) (fun hg => loc_loadN rfl rfl) rfl ?_
                refine run_gop rfl rfl (by first | exact guard_true _ | exact guard_false _ | exact guard_if (guard_true _) | exact guard_if (guard_false _)) (fun hg => loc_call (rsameT_spec _ _) rfl) rfl ?_
                refine run_gop rfl rfl (by first | exact guard_true _ | exact guard_false _ | exact guard_if (guard_true _) | exact guard_if (guard_false _)) (fun hg => loc_not rfl) rfl ?_
                refine run_gleave ?_
                refine run_op (loc_or rfl rfl) rfl ?_
                refine run_nil ?_
                refine run_cond rfl (fun h27 => ?_) (fun h27 => ?_)
                · exfalso; simp [sameT] at h27
                ·
                  refine run_skip ?_
                  refine run_inBlock ?_
                  refine run_region ?_
                  first | refine run_op (loc_add rfl rfl (by first | omega | assumption)) rfl ?_ | refine run_op (loc_addW rfl rfl) rfl ?_
                  refine run_op (loc_move rfl) rfl ?_
                  refine run_nil ?_
                  exact run_again ih23 (k4 + 1) (by omega) (by omega) (.cons rfl (by first | exact fun _ _ h => h | exact d_int (by omega) | exact d_int (by simp) | exact d_intN (by omega) | exact d_any) (.cons rfl (by first | exact fun _ _ h => h | exact d_int (by omega) | exact d_int (by simp) | exact d_intN (by omega) | exact d_any) (.cons rfl (by first | exact fun _ _ h => h | exact d_int (by omega) | exact d_int (by simp) | exact d_intN (by omega) | exact d_any) (.cons rfl (by first | exact fun _ _ h => h | exact d_int (by omega) | exact d_int (by simp) | exact d_intN (by omega) | exact d_any) (.cons rfl (by first | exact fun _ _ h => h | exact d_int (by omega) | exact d_int (by simp) | exact d_intN (by omega) | exact d_any) (.cons rfl (by first | exact fun _ _ h => h | exact d_int (by omega) | exact d_int (by simp) | exact d_intN (by omega) | exact d_any) (.cons rfl (by first | exact fun _ _ h => h | exact d_int (by omega) | exact d_int (by simp) | exact d_intN (by omega) | exact d_any) (.cons rfl (by first | exact fun _ _ h => h | exact d_int (by omega) | exact d_int (by simp) | exact d_intN (by omega) | exact d_any) (.cons rfl (by first | exact fun _ _ h => h | exact d_int (by omega) | exact d_int (by simp) | exact d_intN (by omega) | exact d_any) (.cons rfl (by first | exact fun _ _ h => h | exact d_int (by omega) | exact d_int (by simp) | exact d_intN (by omega) | exact d_any) (.cons rfl (by first | exact fun _ _ h => h | exact d_int (by omega) | exact d_int (by simp) | exact d_intN (by omega) | exact d_any) (.cons rfl (by first | exact fun _ _ h => h | exact d_int (by omega) | exact d_int (by simp) | exact d_intN (by omega) | exact d_any) (.cons rfl (by first | exact fun _ _ h => h | exact d_int (by omega) | exact d_int (by simp) | exact d_intN (by omega) | exact d_any) (.cons rfl (by first | exact fun _ _ h => h | exact d_int (by omega) | exact d_int (by simp) | exact d_intN (by omega) | exact d_any) (.cons rfl (by first | exact fun _ _ h => h | exact d_int (by omega) | exact d_int (by simp) | exact d_intN (by omega) | exact d_any) (.cons rfl (by first | exact fun _ _ h => h | exact d_int (by omega) | exact d_int (by simp) | exact d_intN (by omega) | exact d_any) (.cons rfl (by first | exact fun _ _ h => h | exact d_int (by omega) | exact d_int (by simp) | exact d_intN (by omega) | exact d_any) (.cons rfl (by first | exact fun _ _ h => h | exact d_int (by omega) | exact d_int (by simp) | exact d_intN (by omega) | exact d_any) .nil)))))))))))))))))) (rfl)
              ·
                refine run_exit rfl ?_
                refine run_inBlock ?_
                refine run_region ?_
                first | refine run_op (loc_add rfl rfl (by first | omega | assumption)) rfl ?_ | refine run_op (loc_addW rfl rfl) rfl ?_
                refine run_op (loc_move rfl) rfl ?_
                refine run_nil ?_
                exact run_again ih20 (k3 + 1) (by omega) (by omega) (.cons rfl (by first | exact fun _ _ h => h | exact d_int (by omega) | exact d_int (by simp) | exact d_intN (by omega) | exact d_any) (.cons rfl (by first | exact fun _ _ h => h | exact d_int (by omega) | exact d_int (by simp) | exact d_intN (by omega) | exact d_any) (.cons rfl (by first | exact fun _ _ h => h | exact d_int (by omega) | exact d_int (by simp) | exact d_intN (by omega) | exact d_any) (.cons rfl (by first | exact fun _ _ h => h | exact d_int (by omega) | exact d_int (by simp) | exact d_intN (by omega) | exact d_any) (.cons rfl (by first | exact fun _ _ h => h | exact d_int (by omega) | exact d_int (by simp) | exact d_intN (by omega) | exact d_any) (.cons rfl (by first | exact fun _ _ h => h | exact d_int (by omega) | exact d_int (by simp) | exact d_intN (by omega) | exact d_any) (.cons rfl (by first | exact fun _ _ h => h | exact d_int (by omega) | exact d_int (by simp) | exact d_intN (by omega) | exact d_any) (.cons rfl (by first | exact fun _ _ h => h | exact d_int (by omega) | exact d_int (by simp) | exact d_intN (by omega) | exact d_any) (.cons rfl (by first | exact fun _ _ h => h | exact d_int (by omega) | exact d_int (by simp) | exact d_intN (by omega) | exact d_any) (.cons rfl (by first | exact fun _ _ h => h | exact d_int (by omega) | exact d_int (by simp) | exact d_intN (by omega) | exact d_any) (.cons rfl (by first | exact fun _ _ h => h | exact d_int (by omega) | exact d_int (by simp) | exact d_intN (by omega) | exact d_any) (.cons rfl (by first | exact fun _ _ h => h | exact d_int (by omega) | exact d_int (by simp) | exact d_intN (by omega) | exact d_any) (.cons rfl (by first | exact fun _ _ h => h | exact d_int (by omega) | exact d_int (by simp) | exact d_intN (by omega) | exact d_any) (.cons rfl (by first | exact fun _ _ h => h | exact d_int (by omega) | exact d_int (by simp) | exact d_intN (by omega) | exact d_any) .nil)))))))))))))) (rfl)
            ·
              refine run_exit rfl ?_
              refine run_inBlock ?_
              refine run_region ?_
              first | refine run_op (loc_add rfl rfl (by first | omega | assumption)) rfl ?_ | refine run_op (loc_addW rfl rfl) rfl ?_
              refine run_op (loc_move rfl) rfl ?_
              refine run_nil ?_
              exact run_again ih11 (k1 + 1) (by omega) (by omega) (.cons rfl (by first | exact fun _ _ h => h | exact d_int (by omega) | exact d_int (by simp) | exact d_intN (by omega) | exact d_any) (.cons rfl (by first | exact fun _ _ h => h | exact d_int (by omega) | exact d_int (by simp) | exact d_intN (by omega) | exact d_any) (.cons rfl (by first | exact fun _ _ h => h | exact d_int (by omega) | exact d_int (by simp) | exact d_intN (by omega) | exact d_any) (.cons rfl (by first | exact fun _ _ h => h | exact d_int (by omega) | exact d_int (by simp) | exact d_intN (by omega) | exact d_any) (.cons rfl (by first | exact fun _ _ h => h | exact d_int (by omega) | exact d_int (by simp) | exact d_intN (by omega) | exact d_any) (.cons rfl (by first | exact fun _ _ h => h | exact d_int (by omega) | exact d_int (by simp) | exact d_intN (by omega) | exact d_any) (.cons rfl (by first | exact fun _ _ h => h | exact d_int (by omega) | exact d_int (by simp) | exact d_intN (by omega) | exact d_any) (.cons rfl (by first | exact fun _ _ h => h | exact d_int (by omega) | exact d_int (by simp) | exact d_intN (by omega) | exact d_any) (.cons rfl (by first | exact fun _ _ h => h | exact d_int (by omega) | exact d_int (by simp) | exact d_intN (by omega) | exact d_any) (.cons rfl (by first | exact fun _ _ h => h | exact d_int (by omega) | exact d_int (by simp) | exact d_intN (by omega) | exact d_any) .nil)))))))))) (rfl)
      ·
        refine run_exit rfl ?_
        refine run_seq ?_
        refine run_region ?_
        refine run_op (loc_assign rfl) rfl ?_
        refine run_nil ?_
        refine run_retP Try.func7 rfl rfl ?_
        exact d_B Iff.rfl

end Go.Q
