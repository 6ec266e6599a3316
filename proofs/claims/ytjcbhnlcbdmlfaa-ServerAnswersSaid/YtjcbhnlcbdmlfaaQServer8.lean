/- The contract of the word of a server. -/
import Derived.Test.YtjcbhnlcbdmlfaaQLaw30S
set_option linter.unusedVariables false
set_option linter.unusedSimpArgs false
namespace Go.Q
open Go.Proofs

open Classical
theorem els_get1 {c : List D} {rest : List Job} {r : List (List D)} {k q : Nat} (hk : 1 ≤ k) (h : k < rest.length + 1) (hq : q = k) : ((c :: rest.map cJob).map (fun l : List D => l) ++ r)[q]? = some (cJob (rest[k - 1]?.getD default)) := by
  subst hq
  obtain ⟨m, rfl⟩ : ∃ m, q = m + 1 := ⟨q - 1, by omega⟩
  rw [List.map_cons, List.cons_append, List.getElem?_cons_succ, List.map_map]
  exact els_get (f' := cJob) (by omega) rfl
theorem els_same1 {c : List D} {rest : List Job} {r : List (List D)} {k q : Nat} {e : List D} (hk : 1 ≤ k) (h : k < rest.length + 1) (hq : q = k) (he : e = cJob (rest[k - 1]?.getD default)) : ((c :: rest.map cJob).map (fun l : List D => l) ++ r).set q e = (c :: rest.map cJob).map (fun l : List D => l) ++ r := by
  subst hq
  obtain ⟨m, rfl⟩ : ∃ m, q = m + 1 := ⟨q - 1, by omega⟩
  rw [List.map_cons, List.cons_append, List.set_cons_succ, List.map_map]
  congr 1
  exact els_same (f' := cJob) (by omega) rfl he
theorem ownWG_spec (v : Srv) (hv : szSrv v) (j : Job) (rest : List Job) (hj : v.jobs = j :: rest) : Spec Try.prog 27 [dSrv v] [] (σ := Value × Value) (fun _ => True) (fun s => dAgg ([dInt .i64 v.id, dInt .i64 v.scheme.kind, dInt .i64 v.scheme.servers, dInt .i64 v.scheme.degree, dInt .i64 v.scheme.group, dB v.up] ++ [dSl 6 cHeld v.versions, dSlV s.1])) (fun s => [rRow s.1 84 5 (fun l : List D => l) (cJobV j s.2 :: rest.map cJob), rRow s.2 3 1 fI j.got]) := by
  obtain ⟨hv1, hv2, hv3, hv4⟩ := hv
  have hjz := hv4 j (by rw [hj]; exact List.mem_cons_self ..)
  have hjl : v.jobs.length = rest.length + 1 := by rw [hj]; rfl
  have hjn : (j :: rest).length = rest.length + 1 := rfl
  refine spec_of_body Try.func27 rfl rfl (fun I F => ?_)
  refine run_seq ?_
  refine run_region ?_
  refine run_new (loc_boxOwnN rfl) rfl (fun b1 _ => ?_)
  refine run_new (loc_allocOwn (by simp)) rfl (fun b2 _ => ?_)
  refine run_nil ?_
  refine run_seq ?_
  refine run_addNone ?_
  refine run_addNone ?_
  refine dr_start _ (.two (τ1 := Value) (τ2 := Value) 2 5 (fun _ => True) (fun _ => True)) [⟨[(1, none)], [], none⟩,
      ⟨[(7, some (0, false))], [0], some (3, 0, false)⟩,
      ⟨[(8, some (1, false))], [0, 1], some (1, 0, true)⟩,
      ⟨[(1, none)], [], none⟩,
      ⟨[(10, some (3, false))], [3], some (3, 0, false)⟩,
      ⟨[(11, some (4, false))], [0, 1, 2, 3, 4], some (0, 0, true)⟩,
      ⟨[(1, none)], [0, 1, 2, 3, 4], none⟩,
      ⟨[(13, some (6, false)), (9, some (2, false))], [0, 1, 2, 3, 4, 5, 6], some (3, 0, true)⟩,
      ⟨[(1, none)], [0, 1, 2, 3, 4, 5, 6, 7], none⟩,
      ⟨[(14, some (8, false)), (12, some (5, false))], [0, 1, 2, 3, 4, 5, 6, 7, 8], some (3, 1, true)⟩] [_, _, _, _] _ rfl rfl ?_
  refine dq_pure rfl (fun s => .g rfl (.nil)) (fun s hs _ => loc_fieldAddrOwn rfl) (by exact .cons (.inr fun s s' h => by obtain ⟨a, b⟩ := s; obtain ⟨c, d⟩ := s'; have h : d = b := h; subst h; exact rfl) (.cons (.inr fun s s' h => by obtain ⟨a, b⟩ := s; obtain ⟨c, d⟩ := s'; have h : c = a := h; subst h; exact rfl) (.nil))) ?_
  refine dq_read rfl (fun s => .op rfl (.nil)) rfl rfl (fun s hs _ hm => loc_loadOwn1 rfl hm (by rfl)) (by exact .cons (.inr fun s s' h => by obtain ⟨a, b⟩ := s; obtain ⟨c, d⟩ := s'; have h : d = b := h; subst h; exact rfl) (.cons (.inr fun s s' h => by obtain ⟨a, b⟩ := s; obtain ⟨c, d⟩ := s'; have h : c = a := h; subst h; exact rfl) (.nil))) ?_
  refine dq_choose Prod.fst (fun s t => (t, s.2)) rfl (fun _ _ => ⟨rfl, id, rfl⟩) (fun s => .op rfl (.nil)) rfl rfl (fun s hs => locM_new (loc_callM (spec_rowV (cloneHlM_spec _ (by omega))) rfl)) (by exact .cons (.inl rfl) (.cons (.inr (.inr fun s s' h => by obtain ⟨a, b⟩ := s; obtain ⟨c, d⟩ := s'; have h : c = a := h; subst h; exact rfl)) (.nil))) ?_
  refine dq_pure rfl (fun s => .g rfl (.nil)) (fun s hs _ => loc_fieldAddrOwn rfl) (by exact .cons (.inr fun s s' h => by obtain ⟨a, b⟩ := s; obtain ⟨c, d⟩ := s'; have h : d = b := h; subst h; exact rfl) (.cons (.inr fun s s' h => by obtain ⟨a, b⟩ := s; obtain ⟨c, d⟩ := s'; have h : c = a := h; subst h; exact rfl) (.nil))) ?_
  refine dq_read rfl (fun s => .op rfl (.nil)) rfl rfl (fun s hs _ hm => loc_loadOwn1 rfl hm (by rfl)) (by exact .cons (.inr fun s s' h => by obtain ⟨a, b⟩ := s; obtain ⟨c, d⟩ := s'; have h : d = b := h; subst h; exact rfl) (.cons (.inr fun s s' h => by obtain ⟨a, b⟩ := s; obtain ⟨c, d⟩ := s'; have h : c = a := h; subst h; exact rfl) (.nil))) ?_
  refine dq_choose Prod.snd (fun s t => (s.1, t)) rfl (fun _ _ => ⟨rfl, id, rfl⟩) (fun s => .op rfl (.nil)) rfl rfl (fun s hs => locM_new (loc_callM (spec_rowV (cloneJbM_spec _ (by omega))) rfl)) (by exact .cons (.inr (.inl rfl)) (.cons (.inl rfl) (.nil))) ?_
  refine dq_pure rfl (fun s => .g rfl (.nil)) (fun s hs _ => loc_fieldAddrOwn rfl) (by exact .cons (.inl rfl) (.cons (.inr fun s s' h => by obtain ⟨a, b⟩ := s; obtain ⟨c, d⟩ := s'; have h : c = a := h; subst h; exact rfl) (.nil))) ?_
  refine dq_write0 rfl (fun s => .op rfl (.op rfl (.nil))) rfl rfl (fun s hs => loc_store1 rfl rfl rfl) (by exact .cons (.inl rfl) (.cons (.inl rfl) (.nil))) ?_
  refine dq_pure rfl (fun s => .g rfl (.nil)) (fun s hs _ => loc_fieldAddrOwn rfl) (by exact .cons (.inl rfl) (.cons (.inl rfl) (.nil))) ?_
  refine dq_write0 rfl (fun s => .op rfl (.op rfl (.nil))) rfl rfl (fun s hs => loc_store1 rfl rfl rfl) (by exact .cons (.inl rfl) (.cons (.inl rfl) (.nil))) ?_
  refine dq_end (rs := [_, _, _, _]) ((.bool true), (.bool true)) rfl (fun _ => rfl) (.cons rfl (.cons rfl (.nil))) rfl (fun s9 _ => ?_)
  obtain ⟨v3, v4⟩ := s9
  dsimp only [outG, outM, List.map, List.set, id]
  refine run_seq ?_
  refine run_seq ?_
  refine run_region ?_
  refine run_op (loc_fieldAddrOwn rfl) rfl ?_
  first | refine run_op (LocP.upV (loc_loadOwn1 rfl (.there (.there (.there (.here)))) (by rfl))) rfl ?_ | refine run_op (loc_loadOwn1 rfl (.there (.there (.there (.here)))) (by rfl)) rfl ?_
  refine run_op (loc_lenRow rfl (.there (.here))) rfl ?_
  refine run_op (loc_move rfl) rfl ?_
  refine run_nil ?_
  refine run_block ?_
  refine run_front (.there (.here)) ?_
  refine run_loopF (σ := Nat) (ks := [1, 2, 16, 17]) (.cons rfl (.cons rfl (.cons rfl (.cons rfl (.nil))))) (fun k => [(18, dInt .i64 (k : Nat))]) (fun k => [rRow v3 80 6 cHeld v.versions]) (fun k => k ≤ v.versions.length) (fun k => v.versions.length - k) (0) (Nat.zero_le _) (.cons rfl (by first | exact fun _ _ h => h | exact d_int (by omega) | exact d_int (by simp) | exact d_intN (by omega) | exact d_any) .nil) (rfl) ?_
  intro k hk ih5
  refine run_seq ?_
  refine run_region ?_
  refine run_op (loc_lss rfl rfl) rfl ?_
  refine run_nil ?_
  refine run_seq ?_
  refine run_cond rfl (fun h6 => ?_) (fun h6 => ?_)
  ·
    have hrk := hv3 _ (getD_mem (xs := v.versions) (k := k) (by omega))
    refine run_openRow (.here) (by intro he; have h0 := congrArg List.length he; rw [List.length_nil] at h0; omega) (fun bh cbh hvbh hcbh hmbh hlbh hfbh => ?_)
    subst hvbh
    refine run_skip ?_
    refine run_seq ?_
    refine run_block ?_
    refine run_seq ?_
    refine run_region ?_
    refine run_op (loc_move rfl) rfl ?_
    refine run_op (loc_indexOwn rfl rfl (by first | omega | assumption | (simp; done) | (constructor; (· omega); (· simp only [List.length_cons, List.length_map]; omega)))) rfl ?_
    refine run_op (loc_loadBufN rfl (.here) (els_get (i := k) (by omega) (by omega))) rfl ?_
    refine run_new (loc_allocOwn (by simp)) rfl (fun b7 _ => ?_)
    refine run_op (loc_assign rfl) rfl ?_
    refine run_storeN (ho := (by show OneAll [_, _, _, _, _, _]; infer_instance)) rfl rfl (.here) (by rfl) ?_
    refine run_nil ?_
    refine dr_start _ (.none) [⟨[(1, none)], [], none⟩,
        ⟨[(23, some (0, false))], [0], some (4, 0, false)⟩,
        ⟨[(3, none)], [], none⟩,
        ⟨[(4, none)], [], none⟩,
        ⟨[(26, some (3, false))], [3], some (0, 0, false)⟩,
        ⟨[(27, some (4, false))], [3, 4], none⟩,
        ⟨[(24, some (1, false)), (25, some (2, false))], [0, 1, 2, 3, 4, 5], none⟩,
        ⟨[(29, some (6, false))], [0, 1, 2, 3, 4, 5, 6], none⟩,
        ⟨[(30, some (7, false)), (28, some (5, false))], [0, 1, 2, 3, 4, 5, 6, 7], some (1, 0, true)⟩] [_, _, _, _, _] _ rfl rfl ?_
    refine dq_pure rfl (fun s => .g rfl (.nil)) (fun s hs _ => loc_fieldAddrOwn rfl) (by exact .nil) ?_
    first | refine dq_read rfl (fun s => .op rfl (.nil)) rfl rfl (fun s hs _ hm => LocP.upV (loc_loadOwn1 rfl hm (by rfl))) (by exact .nil) ?_ | refine dq_read rfl (fun s => .op rfl (.nil)) rfl rfl (fun s hs _ hm => loc_loadOwn1 rfl hm (by rfl)) (by exact .nil) ?_
    refine dq_pure rfl (fun s => .g rfl (.nil)) (fun s hs _ => loc_move rfl) (by exact .nil) ?_
    refine dq_pure rfl (fun s => .g rfl (.nil)) (fun s hs _ => loc_fieldAddrOwn rfl) (by exact .nil) ?_
    refine dq_read rfl (fun s => .op rfl (.nil)) rfl rfl (fun s hs _ hm => loc_loadOwn1 rfl hm (by rfl)) (by exact .nil) ?_
    refine dq_pure rfl (fun s => .op rfl (.nil)) (fun s hs _ => loc_call (ownRows_spec _ hrk) rfl) (by exact .nil) ?_
    refine dq_pure rfl (fun s => .op rfl (.op rfl (.nil))) (fun s hs _ => loc_indexOwn rfl rfl (by first | omega | assumption | (simp; done) | (constructor; (· omega); (· simp only [List.length_cons, List.length_map]; omega)))) (by exact .nil) ?_
    refine dq_pure rfl (fun s => .op rfl (.nil)) (fun s hs _ => loc_fieldAddrOwn rfl) (by exact .nil) ?_
    refine dq_write0 rfl (fun s => .op rfl (.op rfl (.nil))) rfl rfl (fun s hs => loc_storeBufF rfl rfl (els_get (i := k) (by omega) (by omega)) (by decide)) (by exact .nil) ?_
    refine dq_end (rs := [_, _, _, _, _]) () rfl (fun _ => rfl) (.nil) rfl (fun _ _ => ?_)
    dsimp only [outG, outM, List.map, List.set, id]
    refine run_shutRow (f' := cHeld) (xs := v.versions) (.there (.here)) (els_same (i := k) (by omega) (by omega) (by rfl)) rfl (by simp [junk_length]; omega) hmbh hlbh ?_
    refine run_inBlock ?_
    refine run_region ?_
    first | refine run_op (loc_add rfl rfl (by first | omega | assumption | (simp; done) | (constructor; (· omega); (· simp only [List.length_cons, List.length_map]; omega)))) rfl ?_ | refine run_op (loc_addW rfl rfl) rfl ?_
    refine run_op (loc_move rfl) rfl ?_
    refine run_nil ?_
    refine run_drop (.cons _ (.refl _)) ?_
    exact run_againF ih5 (k + 1) (by omega) (by omega) (.cons rfl (by first | exact fun _ _ h => h | exact d_int (by omega) | exact d_int (by simp) | exact d_intN (by omega) | exact d_any) .nil) (.cons rfl (fun _ _ x => x) (.cons rfl (fun _ _ x => x) (.cons rfl (fun _ _ x => x) (.cons rfl (fun _ _ x => x) (.nil))))) (rfl)
  ·
    refine run_exit rfl ?_
    refine run_seq ?_
    refine run_seq ?_
    first | refine run_freezeRowCellV (kk := 6) (.here) (.there (.there (.here))) rfl ?_ | refine run_freezeRowCell (kk := 6) (.here) (.there (.there (.here))) rfl ?_
    refine run_region ?_
    refine run_op (loc_fieldAddrOwn rfl) rfl ?_
    first | refine run_op (LocP.upV (loc_loadOwn1 rfl (.there (.there (.here))) (by rfl))) rfl ?_ | refine run_op (loc_loadOwn1 rfl (.there (.there (.here))) (by rfl)) rfl ?_
    refine run_op (loc_lenRow rfl (.here)) rfl ?_
    refine run_op (loc_move rfl) rfl ?_
    refine run_nil ?_
    rw [hj]
    refine run_block ?_
    refine run_addNone ?_
    refine run_front (.there (.here)) ?_
    refine run_weaken (fun _ _ _ hs hi => ⟨hs, row_ids hi⟩) ?_
    refine run_loopF (σ := Nat × Value) (ks := [1, 2, 33, 34]) (.cons rfl (.cons rfl (.cons rfl (.cons rfl (.nil))))) (fun q => [(35, dInt .i64 (q.1 : Nat))]) (fun q => [rRow v4 84 5 (fun l : List D => l) ((if q.1 = 0 then cJob j else cJobV j q.2) :: rest.map cJob), if q.1 = 0 then rNone else rRow q.2 3 1 fI j.got]) (fun q => q.1 ≤ rest.length + 1) (fun q => rest.length + 1 - q.1) ((0, .bool true)) (Nat.zero_le _) (.cons rfl (by first | exact fun _ _ h => h | exact d_int (by omega) | exact d_int (by simp) | exact d_intN (by omega) | exact d_any) .nil) (rfl) ?_
    rintro ⟨k, u⟩ hk ih8
    refine run_seq ?_
    refine run_region ?_
    refine run_op (loc_lss rfl rfl) rfl ?_
    refine run_nil ?_
    refine run_seq ?_
    refine run_cond rfl (fun h9 => ?_) (fun h9 => ?_)
    ·
      have h9 := h9
      simp only [List.length_cons] at h9 hk
      refine run_skip ?_
      refine run_seq ?_
      refine run_block ?_
      refine run_seq ?_
      rcases Nat.eq_zero_or_pos k with hk0 | hk0
      ·
        subst hk0
        simp only [↓reduceIte]
        refine run_openRow (.here) (by simp) (fun bj cbj hvbj hcbj hmbj hlbj hfbj => ?_)
        subst hvbj
        refine run_region ?_
        refine run_op (loc_move rfl) rfl ?_
        refine run_op (loc_indexOwn rfl rfl (by first | omega | assumption | (simp; done) | (constructor; (· omega); (· simp only [List.length_cons, List.length_map]; omega)))) rfl ?_
        refine run_op (loc_loadBufN rfl (.here) (by rfl)) rfl ?_
        refine run_new (loc_allocOwn (by simp)) rfl (fun b10 _ => ?_)
        refine run_op (loc_assign rfl) rfl ?_
        refine run_storeN (ho := (by show OneAll [_, _, _, _, _]; infer_instance)) rfl rfl (.here) (by rfl) ?_
        refine run_nil ?_
        refine dr_start _ (.one (σ := Value) 4 (fun _ => True)) [⟨[(1, none)], [], none⟩,
            ⟨[(40, some (0, false))], [0], some (4, 0, false)⟩,
            ⟨[(5, none)], [], none⟩,
            ⟨[(6, none)], [], some (0, 0, false)⟩,
            ⟨[(43, some (3, false))], [3], some (2, 0, true)⟩,
            ⟨[(41, some (1, false)), (42, some (2, false))], [0, 1, 2, 3, 4], none⟩,
            ⟨[(45, some (5, false)), (44, some (4, false))], [0, 1, 2, 3, 4, 5], some (1, 0, true)⟩] [_, _, _, _, _] _ rfl rfl ?_
        refine dq_pure rfl (fun s => .g rfl (.nil)) (fun s hs _ => loc_fieldAddrOwn rfl) (by exact .cons (.inr fun _ _ _ => rfl) (.nil)) ?_
        first | refine dq_read rfl (fun s => .op rfl (.nil)) rfl rfl (fun s hs _ hm => LocP.upV (loc_loadOwn1 rfl hm (by rfl))) (by exact .cons (.inr fun _ _ _ => rfl) (.nil)) ?_ | refine dq_read rfl (fun s => .op rfl (.nil)) rfl rfl (fun s hs _ hm => loc_loadOwn1 rfl hm (by rfl)) (by exact .cons (.inr fun _ _ _ => rfl) (.nil)) ?_
        refine dq_pure rfl (fun s => .g rfl (.nil)) (fun s hs _ => loc_move rfl) (by exact .cons (.inr fun _ _ _ => rfl) (.nil)) ?_
        refine dq_read rfl (fun s => .g rfl (.nil)) rfl rfl (fun s hs _ hm => loc_loadOwnN rfl hm (by rfl)) (by exact .cons (.inr fun _ _ _ => rfl) (.nil)) ?_
        refine dq_choose id (fun _ t => t) rfl (fun _ _ => ⟨rfl, id, trivial⟩) (fun s => .op rfl (.nil)) rfl rfl (fun s hs => locM_new (loc_callM (ownJobM_spec j hjz) rfl)) (by exact .cons (.inl rfl) (.nil)) ?_
        refine dq_pure rfl (fun s => .op rfl (.op rfl (.nil))) (fun s hs _ => loc_indexOwn rfl rfl (by first | omega | assumption | (simp; done) | (constructor; (· omega); (· simp only [List.length_cons, List.length_map]; omega)))) (by exact .cons (.inl rfl) (.nil)) ?_
        refine dq_write0 rfl (fun s => .op rfl (.op rfl (.nil))) rfl rfl (fun s hs => loc_storeBufN (ho := (by show OneAll [_, _, _, _, _]; infer_instance)) rfl rfl (by first | omega | (simp [junk_length]; done) | (simp [junk_length]; omega) | (simp only [List.length_append, List.length_map, junk_length]; omega)) rfl) (by exact .cons (.inl rfl) (.nil)) ?_
        refine dq_end (rs := [_, _, _, _, _]) (.bool true) rfl (fun _ => rfl) (.cons rfl (.nil)) rfl (fun vu _ => ?_)
        dsimp only [outG, outM, List.map, List.set, id]
        refine run_shutRow (f' := fun l : List D => l) (xs := cJobV j vu :: rest.map cJob) (.there (.here)) (by rfl) rfl (by have h5 := hcbj; simp only [List.length_cons, List.length_map, junk_length] at h5 ⊢; omega) hmbj hlbj ?_
        refine run_inBlock ?_
        refine run_region ?_
        first | refine run_op (loc_add rfl rfl (by first | omega | assumption | (simp; done) | (constructor; (· omega); (· simp only [List.length_cons, List.length_map]; omega)))) rfl ?_ | refine run_op (loc_addW rfl rfl) rfl ?_
        refine run_op (loc_move rfl) rfl ?_
        refine run_nil ?_
        refine run_drop (.cons _ (.refl _)) ?_
        exact run_againF ih8 ((1, vu)) (by simp only; omega) (by simp only; omega) (.cons rfl (by first | exact fun _ _ h => h | exact d_int (by omega) | exact d_int (by simp) | exact d_intN (by omega) | exact d_any) .nil) (.cons rfl (fun _ _ x => x) (.cons rfl (fun _ _ x => x) (.cons rfl (fun _ _ x => x) (.cons rfl (fun _ _ x => x) (.nil))))) (rfl)
      ·
        simp only [if_neg (show ¬ k = 0 by omega)]
        have hrj := hv4 (rest[k - 1]?.getD default) (by rw [hj]; exact List.mem_cons_of_mem _ (getD_mem (by omega)))
        refine run_openRow (.here) (by simp) (fun bj cbj hvbj hcbj hmbj hlbj hfbj => ?_)
        subst hvbj
        refine run_region ?_
        refine run_op (loc_move rfl) rfl ?_
        refine run_op (loc_indexOwn rfl rfl (by first | omega | assumption | (simp; done) | (constructor; (· omega); (· simp only [List.length_cons, List.length_map]; omega)))) rfl ?_
        refine run_op (loc_loadBufN rfl (.here) (els_get1 (k := k) (by omega) (by omega) (by omega))) rfl ?_
        refine run_new (loc_allocOwn (by simp)) rfl (fun b11 _ => ?_)
        refine run_op (loc_assign rfl) rfl ?_
        refine run_storeN (ho := (by show OneAll [_, _, _, _, _]; infer_instance)) rfl rfl (.here) (by rfl) ?_
        refine run_nil ?_
        refine dr_start _ (.none) [⟨[(1, none)], [], none⟩,
            ⟨[(40, some (0, false))], [0], some (4, 0, false)⟩,
            ⟨[(5, none)], [], none⟩,
            ⟨[(6, none)], [], some (0, 0, false)⟩,
            ⟨[(43, some (3, false))], [3], none⟩,
            ⟨[(41, some (1, false)), (42, some (2, false))], [0, 1, 2, 3, 4], none⟩,
            ⟨[(45, some (5, false)), (44, some (4, false))], [0, 1, 2, 3, 4, 5], some (1, 0, true)⟩] [_, _, _, _, _] _ rfl rfl ?_
        refine dq_pure rfl (fun s => .g rfl (.nil)) (fun s hs _ => loc_fieldAddrOwn rfl) (by exact .nil) ?_
        first | refine dq_read rfl (fun s => .op rfl (.nil)) rfl rfl (fun s hs _ hm => LocP.upV (loc_loadOwn1 rfl hm (by rfl))) (by exact .nil) ?_ | refine dq_read rfl (fun s => .op rfl (.nil)) rfl rfl (fun s hs _ hm => loc_loadOwn1 rfl hm (by rfl)) (by exact .nil) ?_
        refine dq_pure rfl (fun s => .g rfl (.nil)) (fun s hs _ => loc_move rfl) (by exact .nil) ?_
        refine dq_read rfl (fun s => .g rfl (.nil)) rfl rfl (fun s hs _ hm => loc_loadOwnN rfl hm (by rfl)) (by exact .nil) ?_
        refine dq_pure rfl (fun s => .op rfl (.nil)) (fun s hs _ => loc_call (ownJob_spec _ hrj) rfl) (by exact .nil) ?_
        refine dq_pure rfl (fun s => .op rfl (.op rfl (.nil))) (fun s hs _ => loc_indexOwn rfl rfl (by first | omega | assumption | (simp; done) | (constructor; (· omega); (· simp only [List.length_cons, List.length_map]; omega)))) (by exact .nil) ?_
        refine dq_write0 rfl (fun s => .op rfl (.op rfl (.nil))) rfl rfl (fun s hs => loc_storeBufN (ho := (by show OneAll [_, _, _, _, _]; infer_instance)) rfl rfl (by first | omega | (simp [junk_length]; done) | (simp [junk_length]; omega) | (simp only [List.length_append, List.length_map, junk_length]; omega)) rfl) (by exact .nil) ?_
        refine dq_end (rs := [_, _, _, _, _]) () rfl (fun _ => rfl) (.nil) rfl (fun _ _ => ?_)
        dsimp only [outG, outM, List.map, List.set, id]
        refine run_shutRow (f' := fun l : List D => l) (xs := cJobV j u :: rest.map cJob) (.there (.here)) (els_same1 (k := k) (by omega) (by omega) (by omega) (by rfl)) rfl (by have h5 := hcbj; simp only [List.length_cons, List.length_map, junk_length] at h5 ⊢; omega) hmbj hlbj ?_
        refine run_inBlock ?_
        refine run_region ?_
        first | refine run_op (loc_add rfl rfl (by first | omega | assumption | (simp; done) | (constructor; (· omega); (· simp only [List.length_cons, List.length_map]; omega)))) rfl ?_ | refine run_op (loc_addW rfl rfl) rfl ?_
        refine run_op (loc_move rfl) rfl ?_
        refine run_nil ?_
        refine run_drop (.cons _ (.refl _)) ?_
        exact run_againF ih8 ((k + 1, u)) (by simp only; omega) (by simp only; omega) (.cons rfl (by first | exact fun _ _ h => h | exact d_int (by omega) | exact d_int (by simp) | exact d_intN (by omega) | exact d_any) .nil) (.cons rfl (fun _ _ x => x) (.cons rfl (fun _ _ x => x) (.cons rfl (fun _ _ x => x) (.cons rfl (fun _ _ x => x) (.nil))))) (by simp only [appR, if_neg (show ¬ k + 1 = 0 by omega)]; try rfl)
    ·
      refine run_exit rfl ?_
      refine run_seq ?_
      have hk1 : ¬ k = 0 := by simp only at *; omega
      simp only [if_neg hk1]
      skip
      refine run_region ?_
      refine run_op (loc_loadOwnN rfl (.there (.there (.there (.here)))) (by rfl)) rfl ?_
      refine run_storeN (ho := (by show OneAll [_, _, _, _, _, _, _, _]; infer_instance)) rfl rfl (.there (.there (.here))) (by rfl) ?_
      refine run_nil ?_
      refine run_retG ((v4, u)) Try.func27 rfl (.cellN rfl (by first | exact .here | exact .there .here | exact .there (.there .here) | exact .there (.there (.there .here)) | exact .there (.there (.there (.there .here))) | exact .there (.there (.there (.there (.there .here))))) (by rfl) (.nil)) ?_ (trivial) (fun _ _ h => h.sub (.cons_cons _ (.cons_cons _ (.cons _ (.cons _ (.refl _))))))
      exact fun _ _ h => h

theorem word_plain {v : Srv} {j : Job} {rest : List Job} {lie : Int} (hj : v.jobs = j :: rest) : job1 v lie = (⟨j.read, j.probe, j.version, j.query, j.got ++ [(wordQ (heldV v j.version) j.query j.got.length lie)]⟩ : Job) ∧ note1 v lie = (⟨2, j.read, j.probe, v.id, j.version, j.query, j.got ++ [(wordQ (heldV v j.version) j.query j.got.length lie)], 0⟩ : Nte) ∧ (moreV v lie ↔ ((j.got ++ [(wordQ (heldV v j.version) j.query j.got.length lie)]).length : Int) < (heldV v j.version).head.width) := by
  have e0 : v.jobs[0]?.getD default = j := by rw [hj]; rfl
  have e1 : job1 v lie = (⟨j.read, j.probe, j.version, j.query, j.got ++ [(wordQ (heldV v j.version) j.query j.got.length lie)]⟩ : Job) := by unfold job1; rw [e0]; rfl
  refine ⟨e1, by unfold note1; rw [e1], ?_⟩
  unfold moreV; rw [e1, e0]
theorem vword_spec (v : Srv) (p : Psn) (lie : Int) (hok : okSrv v) (hsz : szSrv v) (hup : v.up) (j : Job) (rest : List Job) (hj : v.jobs = j :: rest) : SpecP Try.prog 21 [dSrv v, dPsn p, dInt .i64 lie] (dTup [dSrv (wordV v p lie), dNte (wordN v p lie), dB (wordR v p lie), dInt .i64 (wordE v p lie)]) := by
  have hpl := word_plain (lie := lie) hj
  have hjl : v.jobs.length = rest.length + 1 := by rw [hj]; rfl
  have hjo := hok.2.2.2.2 j (by rw [hj]; exact List.mem_cons_self ..)
  have hat := hjo.1.1
  have hhm : okHeld (heldV v j.version) := hok.2.2.1 _ (getD_mem hat)
  have hjk : okHeld (heldV v j.version) ∧ j.query.length = (heldV v j.version).rows.length ∧ allP (heldV v j.version).head.p j.query ∧ (j.got.length : Int) < (heldV v j.version).head.width := ⟨hhm, hjo.2.1, hjo.2.2.1, hjo.2.2.2.1⟩
  have hwd := hhm.2.1
  have hrl := hhm.2.2.1
  have hgl : (j.got ++ [(wordQ (heldV v j.version) j.query j.got.length lie)]).length = j.got.length + 1 := by simp
  have hnz : ((⟨2, j.read, j.probe, v.id, j.version, j.query, j.got ++ [(wordQ (heldV v j.version) j.query j.got.length lie)], 0⟩ : Nte)).query.length ≤ 100000 ∧ ((⟨2, j.read, j.probe, v.id, j.version, j.query, j.got ++ [(wordQ (heldV v j.version) j.query j.got.length lie)], 0⟩ : Nte)).values.length ≤ 100000 := ⟨by show j.query.length ≤ 100000; have := hjo.2.1; omega, by show (j.got ++ [(wordQ (heldV v j.version) j.query j.got.length lie)]).length ≤ 100000; omega⟩
  have hnn : ¬ (¬ v.up ∨ v.jobs.length = 0) := by rintro (h | h); (· exact h hup); (· omega)
  refine specP_of_body Try.func21 rfl rfl (fun I M => ?_)
  refine run_seq ?_
  refine run_region ?_
  refine run_op (loc_boxN rfl) rfl ?_
  refine run_op (loc_boxN rfl) rfl ?_
  refine run_new (loc_allocOwn (by simp)) rfl (fun b1 _ => ?_)
  refine run_new (loc_allocOwn (by simp)) rfl (fun b2 _ => ?_)
  refine run_op (loc_assign rfl) rfl ?_
  refine run_op (loc_assign rfl) rfl ?_
  refine run_nil ?_
  refine run_seq ?_
  refine run_block ?_
  refine run_seq ?_
  refine run_region ?_
  refine run_op (loc_fieldAddr rfl) rfl ?_
  refine run_op (loc_load1 rfl) rfl ?_
  refine run_op (loc_not rfl) rfl ?_
  refine run_op (loc_assign rfl) rfl ?_
  refine run_nil ?_
  refine run_cond rfl (fun h3 => ?_) (fun h3 => ?_)
  · exfalso; exact h3 hup
  ·
    refine run_seq ?_
    refine run_region ?_
    refine run_op (loc_fieldAddr rfl) rfl ?_
    refine run_op (loc_load1 rfl) rfl ?_
    first | refine runL_fact (s := 27) rfl (fun _ _ h => dSl_len h) (fun hlen4 => ?_) | skip
    refine run_op (loc_len rfl) rfl ?_
    refine run_op (loc_eql rfl rfl) rfl ?_
    refine run_op (loc_assign rfl) rfl ?_
    refine run_nil ?_
    refine run_cond rfl (fun h5 => ?_) (fun h5 => ?_)
    · exfalso; omega
    ·
      refine run_skip ?_
      refine run_inBlock ?_
      refine run_seq ?_
      refine run_region ?_
      refine run_op (loc_loadN rfl rfl) rfl ?_
      refine run_callN2 rfl (ownWG_spec v hsz j rest hj) rfl (fun vw vu => ?_)
      dsimp only
      refine run_new (loc_allocOwn (by simp)) rfl (fun b6 _ => ?_)
      refine run_storeN (ho := (by show OneAll [_, _, _, _, _, _, _, _]; infer_instance)) rfl rfl (.here) (by rfl) ?_
      refine run_nil ?_
      refine run_seq ?_
      refine run_rowLen (.there (.there (.here))) (fun ad cap hu => ?_)
      subst hu
      refine run_openRow (.there (.here)) (by simp) (fun bw cbw hvbw hcbw hmbw hlbw hfbw => ?_)
      subst hvbw
      refine run_region ?_
      refine run_op (loc_fieldAddrOwn rfl) rfl ?_
      first | refine run_op (LocP.upV (loc_loadOwn1 rfl (.here) (by rfl))) rfl ?_ | refine run_op (loc_loadOwn1 rfl (.here) (by rfl)) rfl ?_
      refine run_op (loc_indexOwn rfl rfl (by first | omega | assumption | (simp; done) | (constructor; (· omega); (· simp only [List.length_cons]; omega)))) rfl ?_
      refine run_op (loc_assign rfl) rfl ?_
      refine run_nil ?_
      refine run_seq ?_
      refine dr_start _ (.none) [⟨[(3, none)], [], none⟩,
          ⟨[(11, none)], [], none⟩,
          ⟨[(40, some (1, false))], [1], none⟩,
          ⟨[(41, some (2, false))], [1, 2], none⟩,
          ⟨[(42, some (3, false))], [1, 2, 3], some (1, 0, false)⟩,
          ⟨[(39, some (0, false)), (43, some (4, false))], [0, 1, 2, 3, 4], none⟩,
          ⟨[(44, some (5, false))], [0, 1, 2, 3, 4, 5], none⟩,
          ⟨[(38, some (6, false))], [0, 1, 2, 3, 4, 5, 6], none⟩,
          ⟨[(38, some (6, false))], [0, 1, 2, 3, 4, 5, 6], none⟩,
          ⟨[(45, some (7, false))], [0, 1, 2, 3, 4, 5, 6, 7], none⟩,
          ⟨[(46, some (8, false))], [0, 1, 2, 3, 4, 5, 6, 7, 8, 9], none⟩] [_, _, _, _, _] _ rfl rfl ?_
      refine dq_pure rfl (fun s => .g rfl (.nil)) (fun s hs _ => loc_loadN rfl rfl) (by exact .nil) ?_
      refine dq_pure rfl (fun s => .g rfl (.nil)) (fun s hs _ => loc_move rfl) (by exact .nil) ?_
      refine dq_pure rfl (fun s => .op rfl (.nil)) (fun s hs _ => loc_nilCheckOwn rfl) (by exact .nil) ?_
      refine dq_pure rfl (fun s => .op rfl (.nil)) (fun s hs _ => loc_fieldAddrOwn rfl) (by exact .nil) ?_
      refine dq_read rfl (fun s => .op rfl (.nil)) rfl rfl (fun s hs _ hm => loc_loadBufF rfl hm (by rfl) rfl) (by exact .nil) ?_
      refine dq_pure rfl (fun s => .op rfl (.op rfl (.nil))) (fun s hs _ => loc_call (vfind_spec _ _) rfl) (by exact .nil) ?_
      refine dq_pure rfl (fun s => .op rfl (.nil)) (fun s hs _ => loc_move rfl) (by exact .nil) ?_
      refine dq_pure rfl (fun s => .op rfl (.nil)) (fun s hs _ => loc_extract rfl rfl) (by exact .nil) ?_
      refine dq_pure rfl (fun s => .op rfl (.nil)) (fun s hs _ => loc_extract rfl rfl) (by exact .nil) ?_
      refine dq_pure rfl (fun s => .op rfl (.nil)) (fun s hs _ => loc_assign rfl) (by exact .nil) ?_
      refine dq_pure rfl (fun s => .op rfl (.nil)) (fun s hs _ => loc_assign rfl) (by exact .nil) ?_
      refine dq_end (rs := [_, _, _, _, _]) () rfl (fun _ => rfl) (.nil) rfl (fun _ _ => ?_)
      dsimp only [outG, outM, List.map, List.set, id]
      refine run_seq ?_
      refine run_region ?_
      refine run_op (loc_fieldAddr rfl) rfl ?_
      refine run_op (loc_load1 rfl) rfl ?_
      refine run_op (loc_move rfl) rfl ?_
      first | refine run_op (loc_index rfl rfl (by first | omega | assumption | (simp; done) | (constructor; (· omega); (· simp only [List.length_cons]; omega)))) rfl ?_ | refine run_op (loc_indexI rfl rfl (by first | omega | assumption | (simp; done) | (constructor; (· omega); (· simp only [List.length_cons]; omega)))) rfl ?_
      refine run_op (loc_loadN rfl rfl) rfl ?_
      refine run_new (loc_allocOwn (by simp)) rfl (fun b7 _ => ?_)
      refine run_storeN (ho := (by show OneAll [_, _, _, _, _, _]; infer_instance)) rfl rfl (.here) (by rfl) ?_
      refine run_nil ?_
      refine run_seq ?_
      refine dr_start _ (.one (σ := Value) 12 (fun _ => True)) [⟨[(11, none)], [], none⟩,
          ⟨[(11, none)], [], none⟩,
          ⟨[(53, some (1, false))], [1], none⟩,
          ⟨[(54, some (2, false))], [1, 2], none⟩,
          ⟨[(55, some (3, false))], [1, 2, 3], some (2, 0, false)⟩,
          ⟨[(14, none)], [], some (0, 0, false)⟩,
          ⟨[(11, none)], [], none⟩,
          ⟨[(58, some (6, false))], [6], none⟩,
          ⟨[(59, some (7, false))], [6, 7], some (2, 0, false)⟩,
          ⟨[(2, none)], [], none⟩,
          ⟨[(57, some (5, false)), (60, some (8, false)), (61, some (9, false))], [5, 6, 7, 8, 9], none⟩,
          ⟨[(62, some (10, false))], [5, 6, 7, 8, 9, 10], none⟩,
          ⟨[(56, some (4, false)), (63, some (11, false))], [1, 2, 3, 4, 5, 6, 7, 8, 9, 10, 11], some (3, 0, true)⟩,
          ⟨[(52, some (0, false))], [0, 1, 2, 3, 4, 5, 6, 7, 8, 9, 10, 11, 12], none⟩,
          ⟨[(65, some (13, false))], [0, 1, 2, 3, 4, 5, 6, 7, 8, 9, 10, 11, 12, 13], none⟩,
          ⟨[(66, some (14, false)), (64, some (12, false))], [0, 1, 2, 3, 4, 5, 6, 7, 8, 9, 10, 11, 12, 13, 14], some (2, 0, true)⟩] [_, _, _, _, _, _] _ rfl rfl ?_
      refine dq_pure rfl (fun s => .g rfl (.nil)) (fun s hs _ => loc_move rfl) (by exact .cons (.inr fun _ _ _ => rfl) (.nil)) ?_
      refine dq_pure rfl (fun s => .g rfl (.nil)) (fun s hs _ => loc_move rfl) (by exact .cons (.inr fun _ _ _ => rfl) (.nil)) ?_
      refine dq_pure rfl (fun s => .op rfl (.nil)) (fun s hs _ => loc_nilCheckOwn rfl) (by exact .cons (.inr fun _ _ _ => rfl) (.nil)) ?_
      refine dq_pure rfl (fun s => .op rfl (.nil)) (fun s hs _ => loc_fieldAddrOwn rfl) (by exact .cons (.inr fun _ _ _ => rfl) (.nil)) ?_
      refine dq_read rfl (fun s => .op rfl (.nil)) rfl rfl (fun s hs _ hm => LocP.upV (loc_loadBufF rfl hm (by rfl) rfl)) (by exact .cons (.inr fun _ _ _ => rfl) (.nil)) ?_
      refine dq_read rfl (fun s => .g rfl (.nil)) rfl rfl (fun s hs _ hm => loc_loadOwnN rfl hm (by rfl)) (by exact .cons (.inr fun _ _ _ => rfl) (.nil)) ?_
      refine dq_pure rfl (fun s => .g rfl (.nil)) (fun s hs _ => loc_move rfl) (by exact .cons (.inr fun _ _ _ => rfl) (.nil)) ?_
      refine dq_pure rfl (fun s => .op rfl (.nil)) (fun s hs _ => loc_nilCheckOwn rfl) (by exact .cons (.inr fun _ _ _ => rfl) (.nil)) ?_
      refine dq_read rfl (fun s => .op rfl (.nil)) rfl rfl (fun s hs _ hm => loc_loadBufN rfl hm (by rfl)) (by exact .cons (.inr fun _ _ _ => rfl) (.nil)) ?_
      refine dq_pure rfl (fun s => .g rfl (.nil)) (fun s hs _ => loc_move rfl) (by exact .cons (.inr fun _ _ _ => rfl) (.nil)) ?_
      refine dq_pure rfl (fun s => .op rfl (.op rfl (.op rfl (.nil)))) (fun s hs _ => loc_call (sword_spec (heldV v j.version) _ _ _ _ _ _ _ _ hjk.1 hjk.2.1 hjk.2.2.2 hjk.2.2.1) rfl) (by exact .cons (.inr fun _ _ _ => rfl) (.nil)) ?_
      refine dq_pure rfl (fun s => .op rfl (.nil)) (fun s hs _ => loc_buildSlice rfl rfl (.one rfl (.nil)) rfl rfl) (by exact .cons (.inr fun _ _ _ => rfl) (.nil)) ?_
      refine dq_choose id (fun _ t => t) rfl (fun _ _ => ⟨rfl, id, trivial⟩) (fun s => .op rfl (.op rfl (.nil))) rfl rfl (fun s hs => LocM.rowV (loc_append1 _ rfl rfl rfl rfl (by first | omega | (unfold lenMax; omega) | assumption | (simp; omega) | (simp [lenMax]; omega)) (by first | omega | (unfold lenMax; omega) | assumption | (simp; omega) | (simp [lenMax]; omega)))) (by exact .cons (.inl rfl) (.nil)) ?_
      refine dq_pure rfl (fun s => .op rfl (.nil)) (fun s hs _ => loc_nilCheckOwn rfl) (by exact .cons (.inl rfl) (.nil)) ?_
      refine dq_pure rfl (fun s => .op rfl (.nil)) (fun s hs _ => loc_fieldAddrOwn rfl) (by exact .cons (.inl rfl) (.nil)) ?_
      refine dq_write0 rfl (fun s => .op rfl (.op rfl (.nil))) rfl rfl (fun s hs => loc_storeBufF rfl rfl (by rfl) (by decide)) (by exact .cons (.inl rfl) (.nil)) ?_
      refine dq_end (rs := [_, _, _, _, _, _]) (.bool true) rfl (fun _ => rfl) (.cons rfl (.nil)) rfl (fun v8 _ => ?_)
      dsimp only [outG, outM, List.map, List.set, id]
      refine run_seq ?_
      refine run_seq ?_
      refine dr_start _ (.none) [⟨[(11, none)], [], none⟩,
          ⟨[(67, some (0, false))], [0], none⟩,
          ⟨[(68, some (1, false))], [0, 1], none⟩,
          ⟨[(69, some (2, false))], [0, 1, 2], some (2, 0, false)⟩,
          ⟨[(70, some (3, false))], [0, 1, 2, 3], some (3, 0, false)⟩,
          ⟨[(14, none)], [], none⟩,
          ⟨[(72, some (5, false))], [5], none⟩,
          ⟨[(73, some (6, false))], [5, 6], some (0, 0, false)⟩,
          ⟨[(71, some (4, false)), (74, some (7, false))], [0, 1, 2, 3, 4, 5, 6, 7], none⟩] [_, _, _, _, _, _] _ rfl rfl ?_
      refine dq_pure rfl (fun s => .g rfl (.nil)) (fun s hs _ => loc_move rfl) (by exact .nil) ?_
      refine dq_pure rfl (fun s => .op rfl (.nil)) (fun s hs _ => loc_nilCheckOwn rfl) (by exact .nil) ?_
      refine dq_pure rfl (fun s => .op rfl (.nil)) (fun s hs _ => loc_fieldAddrOwn rfl) (by exact .nil) ?_
      refine dq_read rfl (fun s => .op rfl (.nil)) rfl rfl (fun s hs _ hm => LocP.upV (loc_loadBufF rfl hm (by rfl) rfl)) (by exact .nil) ?_
      refine dq_read rfl (fun s => .op rfl (.nil)) rfl rfl (fun s hs _ hm => loc_lenRow rfl hm) (by exact .nil) ?_
      refine dq_pure rfl (fun s => .g rfl (.nil)) (fun s hs _ => loc_fieldAddrOwn rfl) (by exact .nil) ?_
      refine dq_pure rfl (fun s => .op rfl (.nil)) (fun s hs _ => loc_fieldAddrOwn rfl) (by exact .nil) ?_
      refine dq_read rfl (fun s => .op rfl (.nil)) rfl rfl (fun s hs _ hm => loc_loadOwn1 rfl hm (by rfl)) (by exact .nil) ?_
      refine dq_pure rfl (fun s => .op rfl (.op rfl (.nil))) (fun s hs _ => loc_lss rfl rfl) (by exact .nil) ?_
      refine dq_end (rs := [_, _, _, _, _, _]) () rfl (fun _ => rfl) (.nil) rfl (fun _ _ => ?_)
      dsimp only [outG, outM, List.map, List.set, id]
      refine run_cond rfl (fun h9 => ?_) (fun h9 => ?_)
      ·
        have c3 := h9
        refine run_seq ?_
        refine run_freezeRowBuf (q := 0) (o := 4) (.there (.there (.there (.here)))) (.there (.there (.here))) rfl rfl ?_
        refine run_shutRow (len := (cJobV j (.slice ad j.got.length cap) :: rest.map cJob).length) (f' := cJob) (xs := (⟨j.read, j.probe, j.version, j.query, j.got ++ [(wordQ (heldV v j.version) j.query j.got.length lie)]⟩ : Job) :: rest) (.there (.there (.here))) (by simp only [List.map_cons, List.map_map]; rfl) (by simp) (by have h5 := hcbw; simp only [List.length_cons, List.length_map, junk_length] at h5 ⊢; omega) hmbw (by simpa using hlbw) ?_
        first | refine run_freezeRowCellV (kk := 7) (.there (.there (.here))) (.there (.here)) rfl ?_ | refine run_freezeRowCell (kk := 7) (.there (.there (.here))) (.there (.here)) rfl ?_
        refine run_region ?_
        refine run_op (loc_loadOwnN rfl (.there (.here)) (by rfl)) rfl ?_
        refine run_op (loc_build (.nil)) rfl ?_
        refine run_storeN (ho := (by show OneAll [_, _, _, _, _, _, _, _]; infer_instance)) rfl rfl (.there (.there (.there (.here)))) (by rfl) ?_
        refine run_storeN (ho := (by show OneAll [_, _, _, _, _, _, _, _]; infer_instance)) rfl rfl (.there (.there (.here))) (by rfl) ?_
        refine run_op (loc_assign rfl) rfl ?_
        refine run_op (loc_assign rfl) rfl ?_
        refine run_nil ?_
        refine run_retGP Try.func21 rfl (.cellN rfl (by first | exact .here | exact .there .here | exact .there (.there .here) | exact .there (.there (.there .here)) | exact .there (.there (.there (.there .here))) | exact .there (.there (.there (.there (.there .here))))) (by rfl) (.cellN rfl (by first | exact .here | exact .there .here | exact .there (.there .here) | exact .there (.there (.there .here)) | exact .there (.there (.there (.there .here))) | exact .there (.there (.there (.there (.there .here))))) (by rfl) (.tmp rfl (.tmp rfl (.nil))))) ?_ (fun _ _ h => inv_tail (inv_tail (inv_tail (inv_tail (h)))))
        exact d_tup4 (d_toSrv (t' := { v with jobs := (⟨j.read, j.probe, j.version, j.query, j.got ++ [(wordQ (heldV v j.version) j.query j.got.length lie)]⟩ : Job) :: rest }) (by unfold wordV; rw [if_neg hnn, if_pos (hpl.2.2.2 c3), hpl.1, hj]; rfl) (fun _ _ h => h)) (d_toNte (t' := nte0) (by unfold wordN; rw [if_neg (fun hc => hc.2.2.1 (hpl.2.2.2 c3))]) (d_aggU (.cons (d_int rfl) (.cons (d_int rfl) (.cons (d_int rfl) (.cons (d_int rfl) (.cons (d_int rfl) (.cons d_nil (.cons d_nil (.cons (d_int rfl) .nil)))))))))) (d_B ⟨False.elim, fun hc => hc.2.2.1 (hpl.2.2.2 c3)⟩) (d_int (by unfold wordE; rw [if_neg (Classical.not_not.2 hup), if_neg (by omega), if_pos (hpl.2.2.2 c3)]))
      ·
        have c3 := h9
        refine run_skip ?_
        refine run_seq ?_
        have hmo : ¬ moreV v lie := fun hc => c3 (hpl.2.2.1 hc)
        refine run_freezeRowBuf (q := 0) (o := 4) (.there (.there (.there (.here)))) (.there (.there (.here))) rfl rfl ?_
        refine run_addNone ?_
        refine dr_start _ (.one (σ := Nat) 23 (fun _ => True)) [⟨[(11, none)], [], none⟩,
            ⟨[(78, some (0, false))], [0], none⟩,
            ⟨[(79, some (1, false))], [0, 1], none⟩,
            ⟨[(80, some (2, false))], [0, 1, 2], some (3, 0, false)⟩,
            ⟨[(11, none)], [], none⟩,
            ⟨[(82, some (4, false))], [4], none⟩,
            ⟨[(83, some (5, false))], [4, 5], none⟩,
            ⟨[(84, some (6, false))], [4, 5, 6], some (3, 0, false)⟩,
            ⟨[(3, none)], [], none⟩,
            ⟨[(86, some (8, false))], [8], none⟩,
            ⟨[(11, none)], [], none⟩,
            ⟨[(88, some (10, false))], [10], none⟩,
            ⟨[(89, some (11, false))], [10, 11], none⟩,
            ⟨[(90, some (12, false))], [10, 11, 12], some (3, 0, false)⟩,
            ⟨[(11, none)], [], none⟩,
            ⟨[(92, some (14, false))], [14], none⟩,
            ⟨[(93, some (15, false))], [14, 15], none⟩,
            ⟨[(94, some (16, false))], [14, 15, 16], some (3, 0, false)⟩,
            ⟨[(11, none)], [], none⟩,
            ⟨[(96, some (18, false))], [18], none⟩,
            ⟨[(97, some (19, false))], [18, 19], none⟩,
            ⟨[(98, some (20, false))], [18, 19, 20], some (3, 0, false)⟩,
            ⟨[(81, some (3, false)), (85, some (7, false)), (87, some (9, false)), (91, some (13, false)), (95, some (17, false)), (99, some (21, false))], [0, 1, 2, 3, 4, 5, 6, 7, 8, 9, 10, 11, 12, 13, 14, 15, 16, 17, 18, 19, 20, 21], none⟩,
            ⟨[], [], some (0, 0, true)⟩,
            ⟨[(15, some (23, false)), (100, some (22, false))], [0, 1, 2, 3, 4, 5, 6, 7, 8, 9, 10, 11, 12, 13, 14, 15, 16, 17, 18, 19, 20, 21, 22, 23], some (0, 1, true)⟩] [_, _, _, _, _, _] _ rfl rfl ?_
        refine dq_pure rfl (fun s => .g rfl (.nil)) (fun s hs _ => loc_move rfl) (by exact .cons (.inr fun _ _ _ => rfl) (.nil)) ?_
        refine dq_pure rfl (fun s => .op rfl (.nil)) (fun s hs _ => loc_nilCheckOwn rfl) (by exact .cons (.inr fun _ _ _ => rfl) (.nil)) ?_
        refine dq_pure rfl (fun s => .op rfl (.nil)) (fun s hs _ => loc_fieldAddrOwn rfl) (by exact .cons (.inr fun _ _ _ => rfl) (.nil)) ?_
        refine dq_read rfl (fun s => .op rfl (.nil)) rfl rfl (fun s hs _ hm => loc_loadBufF rfl hm (by rfl) rfl) (by exact .cons (.inr fun _ _ _ => rfl) (.nil)) ?_
        refine dq_pure rfl (fun s => .g rfl (.nil)) (fun s hs _ => loc_move rfl) (by exact .cons (.inr fun _ _ _ => rfl) (.nil)) ?_
        refine dq_pure rfl (fun s => .op rfl (.nil)) (fun s hs _ => loc_nilCheckOwn rfl) (by exact .cons (.inr fun _ _ _ => rfl) (.nil)) ?_
        refine dq_pure rfl (fun s => .op rfl (.nil)) (fun s hs _ => loc_fieldAddrOwn rfl) (by exact .cons (.inr fun _ _ _ => rfl) (.nil)) ?_
        refine dq_read rfl (fun s => .op rfl (.nil)) rfl rfl (fun s hs _ hm => loc_loadBufF rfl hm (by rfl) rfl) (by exact .cons (.inr fun _ _ _ => rfl) (.nil)) ?_
        refine dq_pure rfl (fun s => .g rfl (.nil)) (fun s hs _ => loc_fieldAddr rfl) (by exact .cons (.inr fun _ _ _ => rfl) (.nil)) ?_
        refine dq_pure rfl (fun s => .op rfl (.nil)) (fun s hs _ => loc_load1 rfl) (by exact .cons (.inr fun _ _ _ => rfl) (.nil)) ?_
        refine dq_pure rfl (fun s => .g rfl (.nil)) (fun s hs _ => loc_move rfl) (by exact .cons (.inr fun _ _ _ => rfl) (.nil)) ?_
        refine dq_pure rfl (fun s => .op rfl (.nil)) (fun s hs _ => loc_nilCheckOwn rfl) (by exact .cons (.inr fun _ _ _ => rfl) (.nil)) ?_
        refine dq_pure rfl (fun s => .op rfl (.nil)) (fun s hs _ => loc_fieldAddrOwn rfl) (by exact .cons (.inr fun _ _ _ => rfl) (.nil)) ?_
        refine dq_read rfl (fun s => .op rfl (.nil)) rfl rfl (fun s hs _ hm => loc_loadBufF rfl hm (by rfl) rfl) (by exact .cons (.inr fun _ _ _ => rfl) (.nil)) ?_
        refine dq_pure rfl (fun s => .g rfl (.nil)) (fun s hs _ => loc_move rfl) (by exact .cons (.inr fun _ _ _ => rfl) (.nil)) ?_
        refine dq_pure rfl (fun s => .op rfl (.nil)) (fun s hs _ => loc_nilCheckOwn rfl) (by exact .cons (.inr fun _ _ _ => rfl) (.nil)) ?_
        refine dq_pure rfl (fun s => .op rfl (.nil)) (fun s hs _ => loc_fieldAddrOwn rfl) (by exact .cons (.inr fun _ _ _ => rfl) (.nil)) ?_
        refine dq_read rfl (fun s => .op rfl (.nil)) rfl rfl (fun s hs _ hm => loc_loadBufF rfl hm (by rfl) rfl) (by exact .cons (.inr fun _ _ _ => rfl) (.nil)) ?_
        refine dq_pure rfl (fun s => .g rfl (.nil)) (fun s hs _ => loc_move rfl) (by exact .cons (.inr fun _ _ _ => rfl) (.nil)) ?_
        refine dq_pure rfl (fun s => .op rfl (.nil)) (fun s hs _ => loc_nilCheckOwn rfl) (by exact .cons (.inr fun _ _ _ => rfl) (.nil)) ?_
        refine dq_pure rfl (fun s => .op rfl (.nil)) (fun s hs _ => loc_fieldAddrOwn rfl) (by exact .cons (.inr fun _ _ _ => rfl) (.nil)) ?_
        refine dq_read rfl (fun s => .op rfl (.nil)) rfl rfl (fun s hs _ hm => loc_loadBufF rfl hm (by rfl) rfl) (by exact .cons (.inr fun _ _ _ => rfl) (.nil)) ?_
        refine dq_pure rfl (fun s => .op rfl (.op rfl (.op rfl (.op rfl (.op rfl (.op rfl (.nil))))))) (fun s hs _ => loc_build (.one rfl rfl rfl (.one rfl rfl rfl (.one rfl rfl rfl (.one rfl rfl rfl (.one rfl rfl rfl (.one rfl rfl rfl (.one rfl rfl rfl (.nil))))))))) (by exact .cons (.inr fun _ _ _ => rfl) (.nil)) ?_
        refine dq_choose id (fun _ t => t) rfl (fun _ _ => ⟨rfl, id, trivial⟩) (fun s => .nil) rfl rfl (fun s hs => locM_new (loc_allocOwn (by simp))) (by exact .cons (.inl rfl) (.nil)) ?_
        refine dq_write0 rfl (fun s => .op rfl (.op rfl (.nil))) rfl rfl (fun s hs => loc_storeN (ho := (by show OneAll [_, _, _, _, _, _, _, _]; infer_instance)) rfl rfl rfl) (by exact .cons (.inl rfl) (.nil)) ?_
        refine dq_end (rs := [_, _, _, _, _, _]) 0 rfl (fun _ => rfl) (.cons rfl (.nil)) rfl (fun b10 _ => ?_)
        dsimp only [outG, outM, List.map, List.set, id]
        refine run_seq ?_
        refine dr_start _ (.none) [⟨[(4, none)], [], none⟩,
            ⟨[(102, some (0, false))], [0], none⟩,
            ⟨[(15, none)], [], some (0, 0, false)⟩,
            ⟨[(104, some (2, false))], [2], none⟩,
            ⟨[(103, some (1, false)), (105, some (3, false))], [0, 1, 2, 3], none⟩,
            ⟨[(106, some (4, false))], [0, 1, 2, 3, 4], none⟩,
            ⟨[(101, some (5, false))], [0, 1, 2, 3, 4, 5], none⟩,
            ⟨[(101, some (5, false))], [0, 1, 2, 3, 4, 5], none⟩,
            ⟨[(107, some (6, false))], [0, 1, 2, 3, 4, 5, 6], none⟩,
            ⟨[(108, some (7, false))], [0, 1, 2, 3, 4, 5, 6, 7, 8], none⟩] [_, _, _, _, _, _] _ rfl rfl ?_
        refine dq_pure rfl (fun s => .g rfl (.nil)) (fun s hs _ => loc_fieldAddr rfl) (by exact .nil) ?_
        refine dq_pure rfl (fun s => .op rfl (.nil)) (fun s hs _ => loc_load1 rfl) (by exact .nil) ?_
        refine dq_read rfl (fun s => .g rfl (.nil)) rfl rfl (fun s hs _ hm => loc_loadOwnN rfl hm (by rfl)) (by exact .nil) ?_
        refine dq_pure rfl (fun s => .op rfl (.nil)) (fun s hs _ => loc_call (numbers_spec (⟨2, j.read, j.probe, v.id, j.version, j.query, j.got ++ [(wordQ (heldV v j.version) j.query j.got.length lie)], 0⟩ : Nte) hnz) rfl) (by exact .nil) ?_
        refine dq_pure rfl (fun s => .op rfl (.op rfl (.nil))) (fun s hs _ => loc_call (sign_spec _ _) rfl) (by exact .nil) ?_
        refine dq_pure rfl (fun s => .op rfl (.nil)) (fun s hs _ => loc_move rfl) (by exact .nil) ?_
        refine dq_pure rfl (fun s => .op rfl (.nil)) (fun s hs _ => loc_extract rfl rfl) (by exact .nil) ?_
        refine dq_pure rfl (fun s => .op rfl (.nil)) (fun s hs _ => loc_extract rfl rfl) (by exact .nil) ?_
        refine dq_pure rfl (fun s => .op rfl (.nil)) (fun s hs _ => loc_assign rfl) (by exact .nil) ?_
        refine dq_pure rfl (fun s => .op rfl (.nil)) (fun s hs _ => loc_assign rfl) (by exact .nil) ?_
        refine dq_end (rs := [_, _, _, _, _, _]) () rfl (fun _ => rfl) (.nil) rfl (fun _ _ => ?_)
        dsimp only [outG, outM, List.map, List.set, id]
        refine run_seq ?_
        refine run_seq ?_
        refine run_region ?_
        refine run_op (loc_move rfl) rfl ?_
        refine run_op (loc_neq rfl rfl) rfl ?_
        refine run_nil ?_
        refine run_cond rfl (fun h11 => ?_) (fun h11 => ?_)
        ·
          have c4 := h11
          refine run_seq ?_
          refine run_region ?_
          refine run_op (loc_loadN rfl rfl) rfl ?_
          refine run_op (loc_call (ownP_spec v hsz) rfl) rfl ?_
          refine run_op (loc_build (.nil)) rfl ?_
          refine run_op (loc_move rfl) rfl ?_
          refine run_storeN (ho := (by show OneAll [_, _, _, _, _, _, _, _]; infer_instance)) rfl rfl (.there (.there (.there (.there (.there (.here)))))) (by rfl) ?_
          refine run_storeN (ho := (by show OneAll [_, _, _, _, _, _, _, _]; infer_instance)) rfl rfl (.there (.there (.there (.there (.here))))) (by rfl) ?_
          refine run_op (loc_assign rfl) rfl ?_
          refine run_op (loc_assign rfl) rfl ?_
          refine run_nil ?_
          refine run_retGP Try.func21 rfl (.cellN rfl (by first | exact .here | exact .there .here | exact .there (.there .here) | exact .there (.there (.there .here)) | exact .there (.there (.there (.there .here))) | exact .there (.there (.there (.there (.there .here))))) (by rfl) (.cellN rfl (by first | exact .here | exact .there .here | exact .there (.there .here) | exact .there (.there (.there .here)) | exact .there (.there (.there (.there .here))) | exact .there (.there (.there (.there (.there .here))))) (by rfl) (.tmp rfl (.tmp rfl (.nil))))) ?_ (fun _ _ h => inv_tail (inv_tail (inv_tail (inv_tail (inv_tail (inv_tail (h)))))))
          exact d_tup4 (d_toSrv (t' := v) (by unfold wordV; rw [if_neg hnn, if_neg hmo, hpl.2.1, if_neg c4]) (fun _ _ h => h)) (d_toNte (t' := nte0) (by unfold wordN; rw [if_neg (fun hc => c4 (by have := hc.2.2.2; rwa [hpl.2.1] at this))]) (d_aggU (.cons (d_int rfl) (.cons (d_int rfl) (.cons (d_int rfl) (.cons (d_int rfl) (.cons (d_int rfl) (.cons d_nil (.cons d_nil (.cons (d_int rfl) .nil)))))))))) (d_B ⟨False.elim, fun hc => c4 (by have := hc.2.2.2; rwa [hpl.2.1] at this)⟩) (d_int (by unfold wordE; rw [if_neg (Classical.not_not.2 hup), if_neg (by omega), if_neg hmo, hpl.2.1]))
        ·
          have c4 := Classical.not_not.1 h11
          refine run_skip ?_
          refine run_seq ?_
          have hwr : wordR v p lie := ⟨hup, by omega, hmo, by rw [hpl.2.1]; exact c4⟩
          refine run_region ?_
          refine run_op (loc_move rfl) rfl ?_
          refine run_op (loc_fieldAddrOwn rfl) rfl ?_
          refine run_store1 rfl rfl (.here) (by rfl) ?_
          refine run_nil ?_
          refine run_seq ?_
          refine run_shutRow (len := (cJobV j (.slice ad j.got.length cap) :: rest.map cJob).length) (f' := cJob) (xs := (⟨j.read, j.probe, j.version, j.query, j.got ++ [(wordQ (heldV v j.version) j.query j.got.length lie)]⟩ : Job) :: rest) (.there (.there (.there (.here)))) (by simp only [List.map_cons, List.map_map]; rfl) (by simp) (by have h5 := hcbw; simp only [List.length_cons, List.length_map, junk_length] at h5 ⊢; omega) hmbw (by simpa using hlbw) ?_
          refine run_region ?_
          refine run_op (loc_fieldAddrOwn rfl) rfl ?_
          first | refine run_op (LocP.upV (loc_loadOwn1 rfl (.there (.there (.here))) (by rfl))) rfl ?_ | refine run_op (loc_loadOwn1 rfl (.there (.there (.here))) (by rfl)) rfl ?_
          refine run_callM rfl (.there (.there (.there (.here)))) (spec_rowV (deleteJb_spec _ ((⟨j.read, j.probe, j.version, j.query, j.got ++ [(wordQ (heldV v j.version) j.query j.got.length lie)]⟩ : Job) :: rest) 0 1 (by omega) (by simp))) rfl (fun s12 hs12 => ?_)
          refine run_op (loc_fieldAddrOwn rfl) rfl ?_
          refine run_store1 rfl rfl (.there (.there (.here))) (by rfl) ?_
          refine run_nil ?_
          refine run_seq ?_
          first | refine run_freezeRowCellV (kk := 7) (.there (.there (.there (.here)))) (.there (.there (.here))) rfl ?_ | refine run_freezeRowCell (kk := 7) (.there (.there (.there (.here)))) (.there (.there (.here))) rfl ?_
          refine dr_start _ (.none) [⟨[(10, none)], [], some (2, 0, false)⟩,
              ⟨[(15, none)], [], some (0, 0, false)⟩,
              ⟨[(6, none), (121, some (0, false))], [0], some (4, 0, true)⟩,
              ⟨[(7, none), (122, some (1, false))], [0, 1, 2], some (3, 0, true)⟩,
              ⟨[], [0, 1, 2, 3], none⟩,
              ⟨[], [0, 1, 2, 3, 4], none⟩] [_, _, _, _, _] _ rfl rfl ?_
          refine dq_read rfl (fun s => .g rfl (.nil)) rfl rfl (fun s hs _ hm => loc_loadOwnN rfl hm (by rfl)) (by exact .nil) ?_
          refine dq_read rfl (fun s => .g rfl (.nil)) rfl rfl (fun s hs _ hm => loc_loadOwnN rfl hm (by rfl)) (by exact .nil) ?_
          refine dq_write0 rfl (fun s => .g rfl (.op rfl (.nil))) rfl rfl (fun s hs => loc_storeN (ho := (by show OneAll [_, _, _, _, _, _, _, _]; infer_instance)) rfl rfl rfl) (by exact .nil) ?_
          refine dq_write0 rfl (fun s => .g rfl (.op rfl (.nil))) rfl rfl (fun s hs => loc_storeN (ho := (by show OneAll [_, _, _, _, _, _, _, _]; infer_instance)) rfl rfl rfl) (by exact .nil) ?_
          refine dq_pure rfl (fun s => .nil) (fun s hs _ => loc_assign rfl) (by exact .nil) ?_
          refine dq_pure rfl (fun s => .nil) (fun s hs _ => loc_assign rfl) (by exact .nil) ?_
          refine dq_end (rs := [_, _, _, _, _]) () rfl (fun _ => rfl) (.nil) rfl (fun _ _ => ?_)
          dsimp only [outG, outM, List.map, List.set, id]
          refine run_retGP Try.func21 rfl (.cellN rfl (by first | exact .here | exact .there .here | exact .there (.there .here) | exact .there (.there (.there .here)) | exact .there (.there (.there (.there .here))) | exact .there (.there (.there (.there (.there .here))))) (by rfl) (.cellN rfl (by first | exact .here | exact .there .here | exact .there (.there .here) | exact .there (.there (.there .here)) | exact .there (.there (.there (.there .here))) | exact .there (.there (.there (.there (.there .here))))) (by rfl) (.tmp rfl (.tmp rfl (.nil))))) ?_ (fun _ _ h => inv_tail (inv_tail (inv_tail (inv_tail (inv_tail (h))))))
          exact d_tup4 (d_toSrv (t' := { v with jobs := rest }) (by unfold wordV; rw [if_neg hnn, if_neg hmo, hpl.2.1, if_pos c4, hj]; rfl) (fun _ _ h => h)) (d_toNte (t' := { (⟨2, j.read, j.probe, v.id, j.version, j.query, j.got ++ [(wordQ (heldV v j.version) j.query j.got.length lie)], 0⟩ : Nte) with mark := signM p.secret (numsN (⟨2, j.read, j.probe, v.id, j.version, j.query, j.got ++ [(wordQ (heldV v j.version) j.query j.got.length lie)], 0⟩ : Nte)) }) (by unfold wordN; rw [if_pos hwr, hpl.2.1]) (fun _ _ h => h)) (d_B ⟨fun _ => hwr, fun _ => trivial⟩) (d_int (by unfold wordE; rw [if_neg (Classical.not_not.2 hup), if_neg (by omega), if_neg hmo, hpl.2.1, c4]))

end Go.Q
