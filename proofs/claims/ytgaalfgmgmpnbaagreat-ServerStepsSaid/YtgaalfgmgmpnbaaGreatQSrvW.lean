/- Contracts of servers in the reference: words, crashes, notes. -/
import Derived.Test.YtgaalfgmgmpnbaaGreatQSrvR
set_option linter.unusedVariables false
set_option linter.unusedSimpArgs false
namespace Go.Q
open Go.Proofs
open Classical
theorem word_plainX {v : Srv} {j : Job} {rest : List Job} {lie : Int} (hj : v.jobs = j :: rest) : job1 v lie = (⟨j.read, j.probe, j.version, j.query, j.got ++ [(wordX (heldV v j.version) j lie)]⟩ : Job) ∧ note1 v lie = (⟨2, j.read, j.probe, v.id, j.version, j.query, j.got ++ [(wordX (heldV v j.version) j lie)], 0⟩ : Nte) ∧ (moreV v lie ↔ ((j.got ++ [(wordX (heldV v j.version) j lie)]).length : Int) < (heldV v j.version).head.width) := by
 have e0 : v.jobs[0]?.getD default = j := by rw [hj]; rfl
 have e1 : job1 v lie = (⟨j.read, j.probe, j.version, j.query, j.got ++ [(wordX (heldV v j.version) j lie)]⟩ : Job) := by unfold job1; rw [e0]
 refine ⟨e1, by unfold note1; rw [e1], ?_⟩
 unfold moreV; rw [e1, e0]
theorem rcrash_spec (v : Srv) : SpecP Tryz.prog 28 [dSrv v] (dSrv (crashV v)) := by
 refine specP_of_body Tryz.func28 rfl rfl (fun I M => ?_)
 refine run_seq ?_
 refine run_region ?_
 refine run_new (loc_boxOwnN rfl) rfl (fun b1 _ => ?_)
 refine run_new (loc_allocOwn (by simp)) rfl (fun b2 _ => ?_)
 refine run_nil ?_
 refine run_seq ?_
 refine run_region ?_
 refine run_op (loc_fieldAddrOwn rfl) rfl ?_
 refine run_store1 rfl rfl (.there (.here)) (by rfl) ?_
 refine run_op (loc_fieldAddrOwn rfl) rfl ?_
 refine run_store1 rfl rfl (.there (.here)) (by rfl) ?_
 refine run_nil ?_
 refine run_seq ?_
 refine run_region ?_
 refine run_op (loc_loadOwnN rfl (.there (.here)) (by rfl)) rfl ?_
 refine run_storeN (ho := (by show OneAll [_, _, _, _, _, _, _, _]; infer_instance)) rfl rfl (.here) (by rfl) ?_
 refine run_nil ?_
 refine run_retGP Tryz.func28 rfl (.cellN rfl (.here) (by rfl) (.nil)) ?_ (fun _ _ h => inv_tail (inv_tail (h)))
 exact d_toSrv (t' := crashV v) rfl (d_aggU (.cons (fun _ _ h => h) (.cons (fun _ _ h => h) (.cons (fun _ _ h => h) (.cons (fun _ _ h => h) (.cons (fun _ _ h => h) (.cons (d_B Iff.rfl) (.cons (fun _ _ h => h) (.cons d_nil .nil)))))))))
theorem rstart_spec (v : Srv) : SpecP Tryz.prog 31 [dSrv v] (dTup [dSrv (startV v), dInt .i64 (startE v)]) := by
  refine specP_of_body Tryz.func31 rfl rfl (fun I M => ?_)
  refine run_seq ?_
  refine run_region ?_
  refine run_new (loc_boxOwnN rfl) rfl (fun b1 _ => ?_)
  refine run_new (loc_allocOwn (by simp)) rfl (fun b2 _ => ?_)
  refine run_op (loc_assign rfl) rfl ?_
  refine run_nil ?_
  refine run_seq ?_
  refine run_seq ?_
  refine run_region ?_
  refine run_op (loc_fieldAddrOwn rfl) rfl ?_
  refine run_op (loc_loadOwn1 rfl (.there (.here)) (by rfl)) rfl ?_
  refine run_nil ?_
  refine run_cond rfl (fun h3 => ?_) (fun h3 => ?_)
  ·
   have c1 := h3
   refine run_seq ?_
   refine run_region ?_
   refine run_op (loc_loadOwnN rfl (.there (.here)) (by rfl)) rfl ?_
   refine run_storeN (ho := (by show OneAll [_, _, _, _, _, _, _, _]; infer_instance)) rfl rfl (.here) (by rfl) ?_
   refine run_op (loc_assign rfl) rfl ?_
   refine run_nil ?_
   refine run_retGP Tryz.func31 rfl (.cellN rfl (.here) (by rfl) (.tmp rfl (.nil))) ?_ (fun _ _ h => inv_tail (inv_tail (h)))
   exact d_tup2 (d_toSrv (by unfold startV; rw [if_pos c1]) (fun _ _ h => h)) (d_int (by unfold startE; rw [if_pos c1]))
  ·
   have c1 := h3
   refine run_skip ?_
   refine run_seq ?_
   refine run_region ?_
   refine run_op (loc_fieldAddrOwn rfl) rfl ?_
   refine run_store1 rfl rfl (.there (.here)) (by rfl) ?_
   refine run_nil ?_
   refine run_seq ?_
   refine run_region ?_
   refine run_op (loc_loadOwnN rfl (.there (.here)) (by rfl)) rfl ?_
   refine run_storeN (ho := (by show OneAll [_, _, _, _, _, _, _, _]; infer_instance)) rfl rfl (.here) (by rfl) ?_
   refine run_op (loc_assign rfl) rfl ?_
   refine run_nil ?_
   refine run_retGP Tryz.func31 rfl (.cellN rfl (.here) (by rfl) (.tmp rfl (.nil))) ?_ (fun _ _ h => inv_tail (inv_tail (h)))
   exact d_tup2 (d_toSrv (t' := { v with up := True }) (by unfold startV; rw [if_neg c1]) (d_aggU (.cons (fun _ _ h => h) (.cons (fun _ _ h => h) (.cons (fun _ _ h => h) (.cons (fun _ _ h => h) (.cons (fun _ _ h => h) (.cons (d_B Iff.rfl) (.cons (fun _ _ h => h) (.cons (fun _ _ h => h) .nil)))))))))) (d_int (by unfold startE; rw [if_neg c1]))
theorem vcrash_spec (v : Srv) (hv : szSrv v) : SpecP Tryz.prog 10 [dSrv v] (dSrv (crashV v)) := by
 refine specP_of_body Tryz.func10 rfl rfl (fun I M => ?_)
 refine run_seq ?_
 refine run_region ?_
 refine run_new (loc_boxOwnN rfl) rfl (fun b1 _ => ?_)
 refine run_new (loc_allocOwn (by simp)) rfl (fun b2 _ => ?_)
 refine run_nil ?_
 refine run_seq ?_
 refine run_region ?_
 refine run_op (loc_loadOwnN rfl (.there (.here)) (by rfl)) rfl ?_
 refine run_op (loc_call (ownP_spec v hv) rfl) rfl ?_
 refine run_storeN (ho := (by show OneAll [_, _, _, _, _, _, _, _]; infer_instance)) rfl rfl (.there (.here)) (by rfl) ?_
 refine run_nil ?_
 refine run_seq ?_
 refine run_region ?_
 refine run_op (loc_fieldAddrOwn rfl) rfl ?_
 refine run_store1 rfl rfl (.there (.here)) (by rfl) ?_
 refine run_op (loc_fieldAddrOwn rfl) rfl ?_
 refine run_store1 rfl rfl (.there (.here)) (by rfl) ?_
 refine run_nil ?_
 refine run_seq ?_
 refine run_region ?_
 refine run_op (loc_loadOwnN rfl (.there (.here)) (by rfl)) rfl ?_
 refine run_storeN (ho := (by show OneAll [_, _, _, _, _, _, _, _]; infer_instance)) rfl rfl (.here) (by rfl) ?_
 refine run_nil ?_
 refine run_retGP Tryz.func10 rfl (.cellN rfl (.here) (by rfl) (.nil)) ?_ (fun _ _ h => inv_tail (inv_tail (h)))
 exact d_toSrv (t' := crashV v) rfl (d_aggU (.cons (fun _ _ h => h) (.cons (fun _ _ h => h) (.cons (fun _ _ h => h) (.cons (fun _ _ h => h) (.cons (fun _ _ h => h) (.cons (d_B Iff.rfl) (.cons (fun _ _ h => h) (.cons d_nil .nil)))))))))
theorem vstart_spec (v : Srv) (hv : szSrv v) : SpecP Tryz.prog 9 [dSrv v] (dTup [dSrv (startV v), dInt .i64 (startE v)]) := by
  refine specP_of_body Tryz.func9 rfl rfl (fun I M => ?_)
  refine run_seq ?_
  refine run_region ?_
  refine run_op (loc_boxN rfl) rfl ?_
  refine run_new (loc_allocOwn (by simp)) rfl (fun b1 _ => ?_)
  refine run_op (loc_assign rfl) rfl ?_
  refine run_nil ?_
  refine run_seq ?_
  refine run_region ?_
  refine run_op (loc_loadN rfl rfl) rfl ?_
  refine run_op (loc_call (ownP_spec v hv) rfl) rfl ?_
  refine run_new (loc_allocOwn (by simp)) rfl (fun b2 _ => ?_)
  refine run_storeN (ho := (by show OneAll [_, _, _, _, _, _, _, _]; infer_instance)) rfl rfl (.here) (by rfl) ?_
  refine run_nil ?_
  refine run_seq ?_
  refine run_seq ?_
  refine run_region ?_
  refine run_op (loc_fieldAddr rfl) rfl ?_
  refine run_op (loc_load1 rfl) rfl ?_
  refine run_nil ?_
  refine run_cond rfl (fun h3 => ?_) (fun h3 => ?_)
  ·
   have c1 := h3
   refine run_seq ?_
   refine run_region ?_
   refine run_op (loc_loadOwnN rfl (.here) (by rfl)) rfl ?_
   refine run_storeN (ho := (by show OneAll [_, _, _, _, _, _, _, _]; infer_instance)) rfl rfl (.there (.here)) (by rfl) ?_
   refine run_op (loc_assign rfl) rfl ?_
   refine run_nil ?_
   refine run_retGP Tryz.func9 rfl (.cellN rfl (.there (.here)) (by rfl) (.tmp rfl (.nil))) ?_ (fun _ _ h => inv_tail (inv_tail (h)))
   exact d_tup2 (d_toSrv (by unfold startV; rw [if_pos c1]) (fun _ _ h => h)) (d_int (by unfold startE; rw [if_pos c1]))
  ·
   have c1 := h3
   refine run_skip ?_
   refine run_seq ?_
   refine run_region ?_
   refine run_op (loc_fieldAddrOwn rfl) rfl ?_
   refine run_store1 rfl rfl (.here) (by rfl) ?_
   refine run_nil ?_
   refine run_seq ?_
   refine run_region ?_
   refine run_op (loc_loadOwnN rfl (.here) (by rfl)) rfl ?_
   refine run_storeN (ho := (by show OneAll [_, _, _, _, _, _, _, _]; infer_instance)) rfl rfl (.there (.here)) (by rfl) ?_
   refine run_op (loc_assign rfl) rfl ?_
   refine run_nil ?_
   refine run_retGP Tryz.func9 rfl (.cellN rfl (.there (.here)) (by rfl) (.tmp rfl (.nil))) ?_ (fun _ _ h => inv_tail (inv_tail (h)))
   exact d_tup2 (d_toSrv (t' := { v with up := True }) (by unfold startV; rw [if_neg c1]) (d_aggU (.cons (fun _ _ h => h) (.cons (fun _ _ h => h) (.cons (fun _ _ h => h) (.cons (fun _ _ h => h) (.cons (fun _ _ h => h) (.cons (d_B Iff.rfl) (.cons (fun _ _ h => h) (.cons (fun _ _ h => h) .nil)))))))))) (d_int (by unfold startE; rw [if_neg c1]))
theorem rnums_spec (n : Nte) (hn : n.query.length ≤ 100000 ∧ n.values.length ≤ 100000) : SpecP Tryz.prog 27 [dNte n] (dInts (numsN n)) := by
 refine specP_of_body Tryz.func27 rfl rfl (fun I M => ?_)
 refine run_seq ?_
 refine run_region ?_
 refine run_op (loc_boxN rfl) rfl ?_
 refine run_op (loc_assign rfl) rfl ?_
 refine run_nil ?_
 refine run_seq ?_
 refine run_region ?_
 refine run_op (loc_fieldAddr rfl) rfl ?_
 refine run_op (loc_load1 rfl) rfl ?_
 refine run_op (loc_fieldAddr rfl) rfl ?_
 refine run_op (loc_load1 rfl) rfl ?_
 refine run_op (loc_fieldAddr rfl) rfl ?_
 refine run_op (loc_load1 rfl) rfl ?_
 refine run_op (loc_fieldAddr rfl) rfl ?_
 refine run_op (loc_load1 rfl) rfl ?_
 refine run_op (loc_fieldAddr rfl) rfl ?_
 refine run_op (loc_load1 rfl) rfl ?_
 refine run_op (loc_fieldAddr rfl) rfl ?_
 refine run_op (loc_load1 rfl) rfl ?_
 first | refine runL_fact (s := 15) rfl (fun _ _ h => dSl_len h) (fun hlen1 => ?_) | skip
 refine run_op (loc_len rfl) rfl ?_
 refine run_new (loc_buildOwn (f' := fI) (xs := [n.kind, n.read, n.probe, n.server, n.version, (n.query.length : Nat)]) rfl rfl (.one rfl (.one rfl (.one rfl (.one rfl (.one rfl (.one rfl (.nil))))))) rfl rfl rfl) rfl (fun b2 _ => ?_)
 refine run_op (loc_assign rfl) rfl ?_
 refine run_nil ?_
 refine run_seq ?_
 refine dr_start _ (.two (τ1 := Value) (τ2 := Value) 3 8 (fun _ => True) (fun _ => True)) [⟨[(3, none)], [], none⟩,
   ⟨[(1, none)], [], none⟩,
   ⟨[(19, some (1, false))], [1], none⟩,
   ⟨[(18, some (0, false)), (20, some (2, false))], [0, 1, 2], some (0, 0, true)⟩,
   ⟨[(1, none)], [], none⟩,
   ⟨[(22, some (4, false))], [4], none⟩,
   ⟨[(23, some (5, false))], [4, 5], none⟩,
   ⟨[(24, some (6, false))], [4, 5, 6], none⟩,
   ⟨[(21, some (3, false)), (25, some (7, false))], [0, 1, 2, 3, 4, 5, 6, 7], some (0, 1, true)⟩,
   ⟨[(26, some (8, false))], [0, 1, 2, 3, 4, 5, 6, 7, 8], none⟩] [_] _ rfl rfl ?_
 refine dq_pure rfl (fun s => .g rfl (.nil)) (fun s hs _ => loc_move rfl) (by exact .cons (.inr fun _ _ _ => rfl) (.cons (.inr fun _ _ _ => rfl) (.nil))) ?_
 refine dq_pure rfl (fun s => .g rfl (.nil)) (fun s hs _ => loc_fieldAddr rfl) (by exact .cons (.inr fun _ _ _ => rfl) (.cons (.inr fun _ _ _ => rfl) (.nil))) ?_
 refine dq_pure rfl (fun s => .op rfl (.nil)) (fun s hs _ => loc_load1 rfl) (by exact .cons (.inr fun _ _ _ => rfl) (.cons (.inr fun _ _ _ => rfl) (.nil))) ?_
 refine dq_choose Prod.fst (fun s t => (t, s.2)) rfl (fun _ _ => ⟨rfl, id, rfl⟩) (fun s => .op rfl (.op rfl (.nil))) rfl rfl (fun s hs => loc_append rfl rfl rfl (by first | omega | (simp [lenMax]; omega) | (simp [lenMax]; done) | assumption) (by first | omega | (simp [lenMax]; omega) | (simp [lenMax]; done) | assumption)) (by exact .cons (.inl rfl) (.cons (.inr (.inr fun ⟨a, b⟩ ⟨c, d⟩ h => by have h : c = a := h; subst h; exact rfl)) (.nil))) (fun _ _ => rfl) ?_
 refine dq_pure rfl (fun s => .g rfl (.nil)) (fun s hs _ => loc_fieldAddr rfl) (by exact .cons (.inr fun _ _ _ => rfl) (.cons (.inr fun _ _ _ => rfl) (.nil))) ?_
 refine dq_pure rfl (fun s => .op rfl (.nil)) (fun s hs _ => loc_load1 rfl) (by exact .cons (.inr fun _ _ _ => rfl) (.cons (.inr fun _ _ _ => rfl) (.nil))) ?_
 refine dq_pure rfl (fun s => .op rfl (.nil)) (fun s hs _ => loc_len rfl) (by exact .cons (.inr fun _ _ _ => rfl) (.cons (.inr fun _ _ _ => rfl) (.nil))) ?_
 refine dq_pure rfl (fun s => .op rfl (.nil)) (fun s hs _ => loc_buildSlice rfl rfl (.one rfl (.nil)) rfl rfl) (by exact .cons (.inr fun _ _ _ => rfl) (.cons (.inr fun _ _ _ => rfl) (.nil))) ?_
 refine dq_choose Prod.snd (fun s t => (s.1, t)) rfl (fun _ _ => ⟨rfl, id, rfl⟩) (fun s => .op rfl (.op rfl (.nil))) rfl rfl (fun s hs => loc_append1 ((n.values.length : Nat) : Int) rfl rfl rfl rfl (by first | omega | (simp [lenMax]; omega) | (simp [lenMax]; done) | assumption) (by first | omega | (simp [lenMax]; omega) | (simp [lenMax]; done) | assumption)) (by exact .cons (.inr (.inl rfl)) (.cons (.inl rfl) (.nil))) (fun _ _ => rfl) ?_
 refine dq_pure rfl (fun s => .op rfl (.nil)) (fun s hs _ => loc_assign rfl) (by exact .cons (.inl rfl) (.cons (.inl rfl) (.nil))) ?_
 refine dq_end (rs := [_]) ((.bool true), (.bool true)) rfl (fun _ => rfl) (.cons rfl (.cons rfl (.nil))) rfl (fun _ => rfl) (fun s9 _ => ?_)
 obtain ⟨v21, v26⟩ := s9
 dsimp only [outG, outM, List.map, List.set, id]
 refine run_seq ?_
 refine run_region ?_
 refine run_op (loc_move rfl) rfl ?_
 refine run_op (loc_fieldAddr rfl) rfl ?_
 refine run_op (loc_load1 rfl) rfl ?_
 refine run_upd (LocM.frz (loc_append rfl rfl rfl (by first | omega | (simp [lenMax]; omega) | (simp [lenMax]; done) | assumption) (by first | omega | (simp [lenMax]; omega) | (simp [lenMax]; done) | assumption)) rfl) rfl (.here) (fun v3 hv3 => ?_)
 refine run_op (loc_assign rfl) rfl ?_
 refine run_nil ?_
 refine run_drop (.cons _ (.refl _)) ?_
 refine run_retP Tryz.func27 rfl rfl ?_
 exact d_toInts (by unfold numsN; simp) (fun _ _ h => h)
theorem samenote_spec (a b : Nte) (ha : a.query.length ≤ 100000 ∧ a.values.length ≤ 100000) (hb : b.query.length ≤ 100000 ∧ b.values.length ≤ 100000) : SpecP Tryz.prog 30 [dNte a, dNte b] (dB (a.mark = b.mark ∧ numsN a = numsN b)) := by
 refine specP_of_body Tryz.func30 rfl rfl (fun I M => ?_)
 refine run_seq ?_
 refine run_region ?_
 refine run_op (loc_boxN rfl) rfl ?_
 refine run_op (loc_boxN rfl) rfl ?_
 refine run_op (loc_assign rfl) rfl ?_
 refine run_nil ?_
 refine run_seq ?_
 refine dr_start _ (.none) [⟨[(2, none)], [], none⟩,
   ⟨[(5, some (0, false))], [0], none⟩,
   ⟨[(3, none)], [], none⟩,
   ⟨[(7, some (2, false))], [2], none⟩,
   ⟨[(6, some (1, false)), (8, some (3, false))], [0, 1, 2, 3], none⟩,
   ⟨[(9, some (4, false))], [0, 1, 2, 3, 4], none⟩,
   ⟨[(2, none)], [0, 1, 2, 3, 4, 5], none⟩,
   ⟨[(11, some (6, true))], [0, 1, 2, 3, 4, 5, 6], none⟩,
   ⟨[(3, none)], [0, 1, 2, 3, 4, 5], none⟩,
   ⟨[(13, some (8, true))], [0, 1, 2, 3, 4, 5, 6, 7, 8], none⟩,
   ⟨[(12, some (7, true)), (14, some (9, true))], [0, 1, 2, 3, 4, 5, 6, 7, 8, 9], none⟩,
   ⟨[(10, some (5, false)), (15, some (10, false))], [0, 1, 2, 3, 4, 5, 6, 7, 8, 9, 10], none⟩,
   ⟨[(16, some (11, false))], [0, 1, 2, 3, 4, 5, 6, 7, 8, 9, 10, 11], none⟩] [] _ rfl rfl ?_
 refine dq_pure rfl (fun s => .g rfl (.nil)) (fun s hs _ => loc_fieldAddr rfl) (by exact .nil) ?_
 refine dq_pure rfl (fun s => .op rfl (.nil)) (fun s hs _ => loc_load1 rfl) (by exact .nil) ?_
 refine dq_pure rfl (fun s => .g rfl (.nil)) (fun s hs _ => loc_fieldAddr rfl) (by exact .nil) ?_
 refine dq_pure rfl (fun s => .op rfl (.nil)) (fun s hs _ => loc_load1 rfl) (by exact .nil) ?_
 refine dq_pure rfl (fun s => .op rfl (.op rfl (.nil))) (fun s hs _ => loc_eql rfl rfl) (by exact .nil) ?_
 refine dq_pure rfl (fun s => .op rfl (.nil)) (fun s hs _ => loc_move rfl) (by exact .nil) ?_
 refine dq_gpure rfl (fun s => .g rfl (.nil)) rfl (fun _ => gdI.ok) (fun s hs hg _ => loc_loadN rfl rfl) (by exact .nil) ?_
 refine dq_gpure rfl (fun s => .opU rfl (.nil)) rfl (fun _ => gdI.ok) (fun s hs hg _ => loc_call (rnums_spec a ha) rfl) (by exact .nil) ?_
 refine dq_gpure rfl (fun s => .g rfl (.nil)) rfl (fun _ => gdI.ok) (fun s hs hg _ => loc_loadN rfl rfl) (by exact .nil) ?_
 refine dq_gpure rfl (fun s => .opU rfl (.nil)) rfl (fun _ => gdI.ok) (fun s hs hg _ => loc_call (rnums_spec b hb) rfl) (by exact .nil) ?_
 refine dq_gpure rfl (fun s => .opU rfl (.opU rfl (.nil))) rfl (fun _ => gdI.ok) (fun s hs hg _ => loc_call (ints30_spec _ _) rfl) (by exact .nil) ?_
 refine dq_pure rfl (fun s => .op rfl (.op rfl (.nil))) (fun s hs _ => loc_and rfl rfl) (by exact .nil) ?_
 refine dq_pure rfl (fun s => .op rfl (.nil)) (fun s hs _ => loc_assign rfl) (by exact .nil) ?_
 refine dq_end (rs := []) () rfl (fun _ => rfl) (.nil) rfl (fun _ => rfl) (fun _ _ => ?_)
 dsimp only [outG, outM, List.map, List.set, id]
 refine run_retP Tryz.func30 rfl rfl ?_
 exact fun _ _ h => h
theorem rwordN_spec (v : Srv) (p : Psn) (lie : Int) (hno : ¬ v.up ∨ v.jobs.length = 0) : SpecP Tryz.prog 29 [dSrv v, dPsn p, dInt .i64 lie] (dTup [dSrv (wordV v p lie), dNte (wordN v p lie), dB (wordR v p lie), dInt .i64 (wordE v p lie)]) := by
  refine specP_of_body Tryz.func29 rfl rfl (fun I M => ?_)
  refine run_seq ?_
  refine run_region ?_
  refine run_new (loc_boxOwnN rfl) rfl (fun b1 _ => ?_)
  refine run_op (loc_boxN rfl) rfl ?_
  refine run_new (loc_allocOwn (by simp)) rfl (fun b2 _ => ?_)
  refine run_new (loc_allocOwn (by simp)) rfl (fun b3 _ => ?_)
  refine run_op (loc_assign rfl) rfl ?_
  refine run_op (loc_assign rfl) rfl ?_
  refine run_nil ?_
  refine run_seq ?_
  refine run_seq ?_
  refine run_region ?_
  refine run_op (loc_fieldAddrOwn rfl) rfl ?_
  refine run_op (loc_loadOwn1 rfl (.there (.there (.here))) (by rfl)) rfl ?_
  refine run_op (loc_not rfl) rfl ?_
  refine run_nil ?_
  refine run_cond rfl (fun h4 => ?_) (fun h4 => ?_)
  ·
   have c1 := h4
   refine run_seq ?_
   refine run_region ?_
   refine run_op (loc_loadOwnN rfl (.there (.there (.here))) (by rfl)) rfl ?_
   refine run_op (loc_build (.nil)) rfl ?_
   refine run_storeN (ho := (by show OneAll [_, _, _, _, _, _, _, _]; infer_instance)) rfl rfl (.there (.here)) (by rfl) ?_
   refine run_storeN (ho := (by show OneAll [_, _, _, _, _, _, _, _]; infer_instance)) rfl rfl (.here) (by rfl) ?_
   refine run_op (loc_assign rfl) rfl ?_
   refine run_op (loc_assign rfl) rfl ?_
   refine run_nil ?_
   refine run_retGP Tryz.func29 rfl (.cellN rfl (.there (.here)) (by rfl) (.cellN rfl (.here) (by rfl) (.tmp rfl (.tmp rfl (.nil))))) ?_ (fun _ _ h => inv_tail (inv_tail (inv_tail (h))))
   exact d_tup4 (d_toSrv (by unfold wordV; rw [if_pos hno]) (fun _ _ h => h)) (d_toNte (t' := nte0) (by unfold wordN; rw [if_neg (fun hc => hno.elim (fun h => h hc.1) hc.2.1)]) (d_aggU (.cons (d_int rfl) (.cons (d_int rfl) (.cons (d_int rfl) (.cons (d_int rfl) (.cons (d_int rfl) (.cons d_nil (.cons d_nil (.cons (d_int rfl) .nil)))))))))) (d_B ⟨False.elim, fun hc => hno.elim (fun h => h hc.1) hc.2.1⟩) (d_int (by unfold wordE; rw [if_pos c1]))
  ·
   have c1 := Classical.not_not.1 h4
   refine run_skip ?_
   refine run_seq ?_
   refine run_seq ?_
   refine run_region ?_
   refine run_op (loc_fieldAddrOwn rfl) rfl ?_
   refine run_op (loc_loadOwn1 rfl (.there (.there (.here))) (by rfl)) rfl ?_
   first | refine runL_fact (s := 27) rfl (fun _ _ h => dSl_len h) (fun hlen5 => ?_) | skip
   refine run_op (loc_len rfl) rfl ?_
   refine run_op (loc_eql rfl rfl) rfl ?_
   refine run_nil ?_
   refine run_cond rfl (fun h6 => ?_) (fun h6 => ?_)
   ·
    have c2 := h6
    refine run_seq ?_
    refine run_region ?_
    refine run_op (loc_loadOwnN rfl (.there (.there (.here))) (by rfl)) rfl ?_
    refine run_op (loc_build (.nil)) rfl ?_
    refine run_storeN (ho := (by show OneAll [_, _, _, _, _, _, _, _]; infer_instance)) rfl rfl (.there (.here)) (by rfl) ?_
    refine run_storeN (ho := (by show OneAll [_, _, _, _, _, _, _, _]; infer_instance)) rfl rfl (.here) (by rfl) ?_
    refine run_op (loc_assign rfl) rfl ?_
    refine run_op (loc_assign rfl) rfl ?_
    refine run_nil ?_
    refine run_retGP Tryz.func29 rfl (.cellN rfl (.there (.here)) (by rfl) (.cellN rfl (.here) (by rfl) (.tmp rfl (.tmp rfl (.nil))))) ?_ (fun _ _ h => inv_tail (inv_tail (inv_tail (h))))
    exact d_tup4 (d_toSrv (by unfold wordV; rw [if_pos hno]) (fun _ _ h => h)) (d_toNte (t' := nte0) (by unfold wordN; rw [if_neg (fun hc => hno.elim (fun h => h hc.1) hc.2.1)]) (d_aggU (.cons (d_int rfl) (.cons (d_int rfl) (.cons (d_int rfl) (.cons (d_int rfl) (.cons (d_int rfl) (.cons d_nil (.cons d_nil (.cons (d_int rfl) .nil)))))))))) (d_B ⟨False.elim, fun hc => hno.elim (fun h => h hc.1) hc.2.1⟩) (d_int (by unfold wordE; rw [if_neg (Classical.not_not.2 c1), if_pos (by omega)]))
   · exfalso; rcases hno with h5 | h5; (· exact h5 c1); (· omega)
theorem vwordN_spec (v : Srv) (p : Psn) (lie : Int) (hno : ¬ v.up ∨ v.jobs.length = 0) (hsz : szSrv v) : SpecP Tryz.prog 13 [dSrv v, dPsn p, dInt .i64 lie] (dTup [dSrv (wordV v p lie), dNte (wordN v p lie), dB (wordR v p lie), dInt .i64 (wordE v p lie)]) := by
  refine specP_of_body Tryz.func13 rfl rfl (fun I M => ?_)
  refine run_seq ?_
  refine run_region ?_
  refine run_op (loc_boxN rfl) rfl ?_
  refine run_op (loc_boxN rfl) rfl ?_
  refine run_new (loc_allocOwn (by simp)) rfl (fun b1 _ => ?_)
  refine run_new (loc_allocOwn (by simp)) rfl (fun b2 _ => ?_)
  refine run_op (loc_assign rfl) rfl ?_
  refine run_op (loc_assign rfl) rfl ?_
  refine run_nil ?_
  refine run_seq ?_
  refine run_block ?_
  refine run_seq ?_
  refine run_region ?_
  refine run_op (loc_fieldAddr rfl) rfl ?_
  refine run_op (loc_load1 rfl) rfl ?_
  refine run_op (loc_not rfl) rfl ?_
  refine run_op (loc_assign rfl) rfl ?_
  refine run_nil ?_
  refine run_cond rfl (fun h3 => ?_) (fun h3 => ?_)
  ·
   have c1 := h3
   refine run_seq ?_
   refine run_region ?_
   refine run_op (loc_loadN rfl rfl) rfl ?_
   refine run_op (loc_call (ownP_spec v hsz) rfl) rfl ?_
   refine run_op (loc_build (.nil)) rfl ?_
   refine run_storeN (ho := (by show OneAll [_, _, _, _, _, _, _, _]; infer_instance)) rfl rfl (.there (.here)) (by rfl) ?_
   refine run_storeN (ho := (by show OneAll [_, _, _, _, _, _, _, _]; infer_instance)) rfl rfl (.here) (by rfl) ?_
   refine run_op (loc_assign rfl) rfl ?_
   refine run_op (loc_assign rfl) rfl ?_
   refine run_nil ?_
   refine run_retGP Tryz.func13 rfl (.cellN rfl (.there (.here)) (by rfl) (.cellN rfl (.here) (by rfl) (.tmp rfl (.tmp rfl (.nil))))) ?_ (fun _ _ h => inv_tail (inv_tail (h)))
   exact d_tup4 (d_toSrv (by unfold wordV; rw [if_pos hno]) (fun _ _ h => h)) (d_toNte (t' := nte0) (by unfold wordN; rw [if_neg (fun hc => hno.elim (fun h => h hc.1) hc.2.1)]) (d_aggU (.cons (d_int rfl) (.cons (d_int rfl) (.cons (d_int rfl) (.cons (d_int rfl) (.cons (d_int rfl) (.cons d_nil (.cons d_nil (.cons (d_int rfl) .nil)))))))))) (d_B ⟨False.elim, fun hc => hno.elim (fun h => h hc.1) hc.2.1⟩) (d_int (by unfold wordE; rw [if_pos c1]))
  ·
   have c1 := Classical.not_not.1 h3
   refine run_seq ?_
   refine run_region ?_
   refine run_op (loc_fieldAddr rfl) rfl ?_
   refine run_op (loc_load1 rfl) rfl ?_
   first | refine runL_fact (s := 27) rfl (fun _ _ h => dSl_len h) (fun hlen4 => ?_) | skip
   refine run_op (loc_len rfl) rfl ?_
   refine run_op (loc_eql rfl rfl) rfl ?_
   refine run_op (loc_assign rfl) rfl ?_
   refine run_nil ?_
   refine run_cond rfl (fun h5 => ?_) (fun h5 => ?_)
   ·
    have c2 := h5
    refine run_seq ?_
    refine run_region ?_
    refine run_op (loc_loadN rfl rfl) rfl ?_
    refine run_op (loc_call (ownP_spec v hsz) rfl) rfl ?_
    refine run_op (loc_build (.nil)) rfl ?_
    refine run_storeN (ho := (by show OneAll [_, _, _, _, _, _, _, _]; infer_instance)) rfl rfl (.there (.here)) (by rfl) ?_
    refine run_storeN (ho := (by show OneAll [_, _, _, _, _, _, _, _]; infer_instance)) rfl rfl (.here) (by rfl) ?_
    refine run_op (loc_assign rfl) rfl ?_
    refine run_op (loc_assign rfl) rfl ?_
    refine run_nil ?_
    refine run_retGP Tryz.func13 rfl (.cellN rfl (.there (.here)) (by rfl) (.cellN rfl (.here) (by rfl) (.tmp rfl (.tmp rfl (.nil))))) ?_ (fun _ _ h => inv_tail (inv_tail (h)))
    exact d_tup4 (d_toSrv (by unfold wordV; rw [if_pos hno]) (fun _ _ h => h)) (d_toNte (t' := nte0) (by unfold wordN; rw [if_neg (fun hc => hno.elim (fun h => h hc.1) hc.2.1)]) (d_aggU (.cons (d_int rfl) (.cons (d_int rfl) (.cons (d_int rfl) (.cons (d_int rfl) (.cons (d_int rfl) (.cons d_nil (.cons d_nil (.cons (d_int rfl) .nil)))))))))) (d_B ⟨False.elim, fun hc => hno.elim (fun h => h hc.1) hc.2.1⟩) (d_int (by unfold wordE; rw [if_neg (Classical.not_not.2 c1), if_pos (by omega)]))
   · exfalso; rcases hno with h5 | h5; (· exact h5 c1); (· omega)
theorem rword_spec (v : Srv) (p : Psn) (lie : Int) (hok : okI v) (hup : v.up) (j : Job) (rest : List Job) (hj : v.jobs = j :: rest) : SpecP Tryz.prog 29 [dSrv v, dPsn p, dInt .i64 lie] (dTup [dSrv (wordV v p lie), dNte (wordN v p lie), dB (wordR v p lie), dInt .i64 (wordE v p lie)]) := by
  have hpl := word_plainX (lie := lie) hj
  have hjl : v.jobs.length = rest.length + 1 := by rw [hj]; rfl
  have hj0 : v.jobs[(0 : Int).toNat]?.getD default = j := by rw [hj]; rfl
  have hjf := job_first hok hj
  have hjk := hjf.2
  have hat := hjf.1.1
  have hfr := findR_pos hjf.1
  have hhv : v.versions[((atV v j.version : Nat) : Int).toNat]?.getD default = heldV v j.version := rfl
  have hjb := hok.1.2.1
  have hp1 := hjk.1.1.1
  have hp2 := hjk.1.1.2.1
  have hwd := hjk.1.2.1
  have hrl := hjk.1.2.2.1
  have hql := hjk.2.1
  have hlb := tmod_bd lie (heldV v j.version).head.p (by omega)
  have hlm := mod_bd lie (show 0 < (heldV v j.version).head.p by omega)
  have hl2 := mod_bd (lie.tmod (heldV v j.version).head.p + (heldV v j.version).head.p) (show 0 < (heldV v j.version).head.p by omega)
  have hcw := comb_word (lie := lie) hjk.1 hjk.2.1 hjk.2.2.2.1
  have hcl := combN_ok (p := (heldV v j.version).head.p) hp1 (heldV v j.version).head.width.toNat (heldV v j.version).rows j.query (heldV v j.version).rows.length
  have hcl1 := hcl.1
  have hgw := hjk.2.2.2.1
  have hcx := hcl.2 _ (getD_mem (xs := (combN (heldV v j.version).head.p (heldV v j.version).head.width.toNat (heldV v j.version).rows j.query (heldV v j.version).rows.length)) (k := j.got.length) (by omega))
  unfold hasP at hcx
  have hgl : (j.got ++ [(wordX (heldV v j.version) j lie)]).length = j.got.length + 1 := by simp
  have hnz : ((⟨2, j.read, j.probe, v.id, j.version, j.query, j.got ++ [(wordX (heldV v j.version) j lie)], 0⟩ : Nte)).query.length ≤ 100000 ∧ ((⟨2, j.read, j.probe, v.id, j.version, j.query, j.got ++ [(wordX (heldV v j.version) j lie)], 0⟩ : Nte)).values.length ≤ 100000 := ⟨by show j.query.length ≤ 100000; omega, by show (j.got ++ [(wordX (heldV v j.version) j lie)]).length ≤ 100000; omega⟩
  have hnn : ¬ (¬ v.up ∨ v.jobs.length = 0) := by rintro (h | h); (· exact h hup); (· omega)
  refine specP_of_body Tryz.func29 rfl rfl (fun I M => ?_)
  refine run_seq ?_
  refine run_region ?_
  refine run_new (loc_boxOwnN rfl) rfl (fun b1 _ => ?_)
  refine run_op (loc_boxN rfl) rfl ?_
  refine run_new (loc_allocOwn (by simp)) rfl (fun b2 _ => ?_)
  refine run_new (loc_allocOwn (by simp)) rfl (fun b3 _ => ?_)
  refine run_op (loc_assign rfl) rfl ?_
  refine run_op (loc_assign rfl) rfl ?_
  refine run_nil ?_
  refine run_seq ?_
  refine run_seq ?_
  refine run_region ?_
  refine run_op (loc_fieldAddrOwn rfl) rfl ?_
  refine run_op (loc_loadOwn1 rfl (.there (.there (.here))) (by rfl)) rfl ?_
  refine run_op (loc_not rfl) rfl ?_
  refine run_nil ?_
  refine run_cond rfl (fun h4 => ?_) (fun h4 => ?_)
  · exfalso; exact h4 hup
  ·
   refine run_skip ?_
   refine run_seq ?_
   refine run_seq ?_
   refine run_region ?_
   refine run_op (loc_fieldAddrOwn rfl) rfl ?_
   refine run_op (loc_loadOwn1 rfl (.there (.there (.here))) (by rfl)) rfl ?_
   first | refine runL_fact (s := 27) rfl (fun _ _ h => dSl_len h) (fun hlen5 => ?_) | skip
   refine run_op (loc_len rfl) rfl ?_
   refine run_op (loc_eql rfl rfl) rfl ?_
   refine run_nil ?_
   refine run_cond rfl (fun h6 => ?_) (fun h6 => ?_)
   · exfalso; omega
   ·
    refine run_skip ?_
    refine run_seq ?_
    refine run_region ?_
    refine run_op (loc_fieldAddrOwn rfl) rfl ?_
    refine run_op (loc_loadOwn1 rfl (.there (.there (.here))) (by rfl)) rfl ?_
    first | refine run_op (loc_index rfl rfl (by first | omega | assumption)) rfl ?_ | refine run_op (loc_indexI rfl rfl (by first | omega | assumption)) rfl ?_
    refine run_op (loc_loadN rfl rfl) rfl ?_
    refine run_new (loc_allocOwn (by simp)) rfl (fun b7 _ => ?_)
    refine run_storeN (ho := (by show OneAll [_, _, _, _, _]; infer_instance)) rfl rfl (.here) (by rfl) ?_
    refine run_nil ?_
    rw [hj0]
    refine run_seq ?_
    refine run_addNone ?_
    refine dr_start _ (.one (σ := Nat) 8 (fun _ => True)) [⟨[(3, none)], [], none⟩,
        ⟨[(36, some (0, false))], [0], some (4, 0, false)⟩,
        ⟨[(3, none)], [], some (4, 0, false)⟩,
        ⟨[(10, none)], [], none⟩,
        ⟨[(39, some (3, false))], [3], some (1, 0, false)⟩,
        ⟨[(38, some (2, false)), (40, some (4, false))], [2, 3, 4], none⟩,
        ⟨[(37, some (1, false)), (41, some (5, false))], [0, 1, 2, 3, 4, 5], none⟩,
        ⟨[(42, some (6, false))], [0, 1, 2, 3, 4, 5, 6], none⟩,
        ⟨[], [], some (0, 0, true)⟩,
        ⟨[(11, some (8, false)), (43, some (7, false))], [0, 1, 2, 3, 4, 5, 6, 7, 8], some (0, 1, true)⟩] [_, _, _, _, _] _ rfl rfl ?_
    refine dq_pure rfl (fun s => .g rfl (.nil)) (fun s hs _ => loc_fieldAddrOwn rfl) (by exact .cons (.inr fun _ _ _ => rfl) (.nil)) ?_
    refine dq_read rfl (fun s => .op rfl (.nil)) rfl rfl (fun s hs _ hm => loc_loadOwn1 rfl hm (by rfl)) (by exact .cons (.inr fun _ _ _ => rfl) (.nil)) ?_
    refine dq_read rfl (fun s => .g rfl (.nil)) rfl rfl (fun s hs _ hm => loc_loadOwnN rfl hm (by rfl)) (by exact .cons (.inr fun _ _ _ => rfl) (.nil)) ?_
    refine dq_pure rfl (fun s => .g rfl (.nil)) (fun s hs _ => loc_fieldAddrOwn rfl) (by exact .cons (.inr fun _ _ _ => rfl) (.nil)) ?_
    refine dq_read rfl (fun s => .op rfl (.nil)) rfl rfl (fun s hs _ hm => loc_loadOwn1 rfl hm (by rfl)) (by exact .cons (.inr fun _ _ _ => rfl) (.nil)) ?_
    refine dq_pure rfl (fun s => .op rfl (.op rfl (.nil))) (fun s hs _ => loc_call (rfind30_spec v j.version (okI_asc hok)) rfl) (by exact .cons (.inr fun _ _ _ => rfl) (.nil)) ?_
    first | refine dq_pure rfl (fun s => .op rfl (.op rfl (.nil))) (fun s hs _ => loc_index rfl rfl (by first | omega | assumption)) (by exact .cons (.inr fun _ _ _ => rfl) (.nil)) ?_ | refine dq_pure rfl (fun s => .op rfl (.op rfl (.nil))) (fun s hs _ => loc_indexI rfl rfl (by first | omega | assumption)) (by exact .cons (.inr fun _ _ _ => rfl) (.nil)) ?_
    refine dq_pure rfl (fun s => .op rfl (.nil)) (fun s hs _ => loc_loadN rfl rfl) (by exact .cons (.inr fun _ _ _ => rfl) (.nil)) ?_
    refine dq_choose id (fun _ t => t) rfl (fun _ _ => ⟨rfl, id, trivial⟩) (fun s => .nil) rfl rfl (fun s hs => locM_new (loc_allocOwn (by simp))) (by exact .cons (.inl rfl) (.nil)) (fun _ _ => rfl) ?_
    refine dq_write0 rfl (fun s => .op rfl (.op rfl (.nil))) rfl rfl (fun s hs => loc_storeN (ho := (by show OneAll [_, _, _, _, _, _]; infer_instance)) rfl rfl rfl) (by exact .cons (.inl rfl) (.nil)) ?_
    refine dq_end (rs := [_, _, _, _, _]) 0 rfl (fun _ => rfl) (.cons rfl (.nil)) rfl (fun _ => rfl) (fun b8 _ => ?_)
    dsimp only [outG, outM, List.map, List.set, id]
    rw [hfr, hhv]
    refine run_seq ?_
    refine run_region ?_
    refine run_op (loc_fieldAddrOwn rfl) rfl ?_
    refine run_op (loc_fieldAddrOwn rfl) rfl ?_
    refine run_op (loc_loadOwn1 rfl (.here) (by rfl)) rfl ?_
    refine run_op (loc_build (.one rfl rfl rfl (.nil))) rfl ?_
    refine run_new (loc_allocOwn (by simp)) rfl (fun b9 _ => ?_)
    refine run_storeN (ho := (by show OneAll [_]; infer_instance)) rfl rfl (.here) (by rfl) ?_
    refine run_nil ?_
    refine run_seq ?_
    refine run_region ?_
    refine run_op (loc_loadOwnN rfl (.here) (by rfl)) rfl ?_
    refine run_op (loc_fieldAddrOwn rfl) rfl ?_
    refine run_op (loc_fieldAddrOwn rfl) rfl ?_
    refine run_op (loc_loadOwn1 rfl (.there (.here)) (by rfl)) rfl ?_
    refine run_op (loc_fieldAddrOwn rfl) rfl ?_
    refine run_op (loc_loadOwn1 rfl (.there (.here)) (by rfl)) rfl ?_
    refine run_op (loc_fieldAddrOwn rfl) rfl ?_
    refine run_op (loc_loadOwn1 rfl (.there (.there (.here))) (by rfl)) rfl ?_
    refine run_op (loc_call (answer23_spec (heldV v j.version).head.p (heldV v j.version).head.width (heldV v j.version).rows j.query hjk.1.1 (by omega) hjk.2.1 hjk.1.2.2.2 hjk.2.2.1) rfl) rfl ?_
    refine run_op (loc_move rfl) rfl ?_
    refine run_op (loc_extract rfl rfl) rfl ?_
    refine run_op (loc_extract rfl rfl) rfl ?_
    refine run_op (loc_assign rfl) rfl ?_
    refine run_op (loc_assign rfl) rfl ?_
    refine run_nil ?_
    refine run_seq ?_
    refine run_region ?_
    refine run_op (loc_move rfl) rfl ?_
    refine run_op (loc_fieldAddrOwn rfl) rfl ?_
    refine run_op (loc_loadOwn1 rfl (.there (.there (.here))) (by rfl)) rfl ?_
    first | refine runL_fact (s := 62) rfl (fun _ _ h => dSl_len h) (fun hlen10 => ?_) | skip
    refine run_op (loc_len rfl) rfl ?_
    first | refine run_op (loc_index rfl rfl (by first | omega | assumption)) rfl ?_ | refine run_op (loc_indexI rfl rfl (by first | omega | assumption)) rfl ?_
    refine run_op (loc_load1 rfl) rfl ?_
    refine run_op (loc_assign rfl) rfl ?_
    refine run_nil ?_
    refine run_seq ?_
    refine run_seq ?_
    refine run_region ?_
    refine run_op (loc_fieldAddrOwn rfl) rfl ?_
    refine run_op (loc_loadOwn1 rfl (.there (.there (.here))) (by rfl)) rfl ?_
    first | refine runL_fact (s := 67) rfl (fun _ _ h => dSl_len h) (fun hlen11 => ?_) | skip
    refine run_op (loc_len rfl) rfl ?_
    refine run_op (loc_eql rfl rfl) rfl ?_
    refine run_nil ?_
    refine run_joinC (σ := Int) (ks := [3, 4, 6, 7, 10, 11]) (.cons rfl (.cons rfl (.cons rfl (.cons rfl (.cons rfl (.cons rfl (.nil))))))) (fun y => [(15, dInt .i64 y)]) (fun y => y = (wordX (heldV v j.version) j lie)) (fun j12 => ?_) ?_
    ·
     refine run_cond rfl (fun h13 => ?_) (fun h13 => ?_)
     ·
      have g3 := h13
      refine dr_start _ (.none) [⟨[(15, none)], [], none⟩,
          ⟨[(2, none)], [], none⟩,
          ⟨[(12, none)], [], none⟩,
          ⟨[(72, some (2, false))], [2], some (0, 0, false)⟩,
          ⟨[(71, some (1, false)), (73, some (3, false))], [1, 2, 3], none⟩,
          ⟨[(12, none)], [], none⟩,
          ⟨[(75, some (5, false))], [5], some (0, 0, false)⟩,
          ⟨[(74, some (4, false)), (76, some (6, false))], [1, 2, 3, 4, 5, 6], none⟩,
          ⟨[(12, none)], [], none⟩,
          ⟨[(78, some (8, false))], [8], some (0, 0, false)⟩,
          ⟨[(77, some (7, false)), (79, some (9, false))], [1, 2, 3, 4, 5, 6, 7, 8, 9], none⟩,
          ⟨[(70, some (0, false)), (80, some (10, false))], [0, 1, 2, 3, 4, 5, 6, 7, 8, 9, 10], none⟩,
          ⟨[(12, none)], [], none⟩,
          ⟨[(82, some (12, false))], [12], some (0, 0, false)⟩,
          ⟨[(81, some (11, false)), (83, some (13, false))], [0, 1, 2, 3, 4, 5, 6, 7, 8, 9, 10, 11, 12, 13], none⟩,
          ⟨[(84, some (14, false))], [0, 1, 2, 3, 4, 5, 6, 7, 8, 9, 10, 11, 12, 13, 14], none⟩] [_, _, _, _, _, _] _ rfl rfl ?_
      refine dq_pure rfl (fun s => .g rfl (.nil)) (fun s hs _ => loc_move rfl) (by exact .nil) ?_
      refine dq_pure rfl (fun s => .g rfl (.nil)) (fun s hs _ => loc_move rfl) (by exact .nil) ?_
      refine dq_pure rfl (fun s => .g rfl (.nil)) (fun s hs _ => loc_fieldAddrOwn rfl) (by exact .nil) ?_
      refine dq_read rfl (fun s => .op rfl (.nil)) rfl rfl (fun s hs _ hm => loc_loadOwn1 rfl hm (by rfl)) (by exact .nil) ?_
      first | refine dq_pure rfl (fun s => .op rfl (.op rfl (.nil))) (fun s hs _ => loc_rem rfl rfl (by first | omega | assumption)) (by exact .nil) ?_ | refine dq_pure rfl (fun s => .op rfl (.op rfl (.nil))) (fun s hs _ => loc_remW rfl rfl (by first | omega | assumption)) (by exact .nil) ?_
      refine dq_pure rfl (fun s => .g rfl (.nil)) (fun s hs _ => loc_fieldAddrOwn rfl) (by exact .nil) ?_
      refine dq_read rfl (fun s => .op rfl (.nil)) rfl rfl (fun s hs _ hm => loc_loadOwn1 rfl hm (by rfl)) (by exact .nil) ?_
      first | refine dq_pure rfl (fun s => .op rfl (.op rfl (.nil))) (fun s hs _ => loc_add rfl rfl (by first | omega | assumption)) (by exact .nil) ?_ | refine dq_pure rfl (fun s => .op rfl (.op rfl (.nil))) (fun s hs _ => loc_addW rfl rfl) (by exact .nil) ?_
      refine dq_pure rfl (fun s => .g rfl (.nil)) (fun s hs _ => loc_fieldAddrOwn rfl) (by exact .nil) ?_
      refine dq_read rfl (fun s => .op rfl (.nil)) rfl rfl (fun s hs _ hm => loc_loadOwn1 rfl hm (by rfl)) (by exact .nil) ?_
      first | refine dq_pure rfl (fun s => .op rfl (.op rfl (.nil))) (fun s hs _ => loc_rem rfl rfl (by first | omega | assumption)) (by exact .nil) ?_ | refine dq_pure rfl (fun s => .op rfl (.op rfl (.nil))) (fun s hs _ => loc_remW rfl rfl (by first | omega | assumption)) (by exact .nil) ?_
      first | refine dq_pure rfl (fun s => .op rfl (.op rfl (.nil))) (fun s hs _ => loc_add rfl rfl (by first | omega | assumption)) (by exact .nil) ?_ | refine dq_pure rfl (fun s => .op rfl (.op rfl (.nil))) (fun s hs _ => loc_addW rfl rfl) (by exact .nil) ?_
      refine dq_pure rfl (fun s => .g rfl (.nil)) (fun s hs _ => loc_fieldAddrOwn rfl) (by exact .nil) ?_
      refine dq_read rfl (fun s => .op rfl (.nil)) rfl rfl (fun s hs _ hm => loc_loadOwn1 rfl hm (by rfl)) (by exact .nil) ?_
      first | refine dq_pure rfl (fun s => .op rfl (.op rfl (.nil))) (fun s hs _ => loc_rem rfl rfl (by first | omega | assumption)) (by exact .nil) ?_ | refine dq_pure rfl (fun s => .op rfl (.op rfl (.nil))) (fun s hs _ => loc_remW rfl rfl (by first | omega | assumption)) (by exact .nil) ?_
      refine dq_pure rfl (fun s => .op rfl (.nil)) (fun s hs _ => loc_assign rfl) (by exact .nil) ?_
      refine dq_end (rs := [_, _, _, _, _, _]) () rfl (fun _ => rfl) (.nil) rfl (fun _ => rfl) (fun _ _ => ?_)
      dsimp only [outG, outM, List.map, List.set, id]
      exact run_atC j12 (((combN (heldV v j.version).head.p (heldV v j.version).head.width.toNat (heldV v j.version).rows j.query (heldV v j.version).rows.length)[j.got.length]?.getD default + lie % (heldV v j.version).head.p) % (heldV v j.version).head.p) (by rw [hcw, if_pos (by omega)]) (.cons rfl (d_int (by rw [mod_twice _ _ (by omega)])) .nil) (.cons rfl (fun _ _ x => x) (.cons rfl (fun _ _ x => x) (.cons rfl (fun _ _ x => x) (.cons rfl (fun _ _ x => x) (.cons rfl (fun _ _ x => x) (.cons rfl (fun _ _ x => x) (.nil)))))))
     ·
      have g3 := h13
      refine run_skip ?_
      exact run_atC j12 ((combN (heldV v j.version).head.p (heldV v j.version).head.width.toNat (heldV v j.version).rows j.query (heldV v j.version).rows.length)[j.got.length]?.getD default) (by rw [hcw, if_neg (by omega)]) (.cons rfl (by first | exact fun _ _ h => h | exact d_int (by omega) | exact d_int (by simp) | exact d_intN (by omega) | exact d_any) .nil) (.cons rfl (fun _ _ x => x) (.cons rfl (fun _ _ x => x) (.cons rfl (fun _ _ x => x) (.cons rfl (fun _ _ x => x) (.cons rfl (fun _ _ x => x) (.cons rfl (fun _ _ x => x) (.nil)))))))
    rintro y rfl
    refine run_seq ?_
    refine run_region ?_
    refine run_op (loc_assign rfl) rfl ?_
    refine run_nil ?_
    refine run_seq ?_
    refine run_region ?_
    refine run_op (loc_move rfl) rfl ?_
    refine run_op (loc_fieldAddrOwn rfl) rfl ?_
    refine run_op (loc_loadOwn1 rfl (.there (.there (.here))) (by rfl)) rfl ?_
    refine run_new (loc_appendNil rfl rfl rfl (by first | omega | (simp [lenMax]; omega) | (simp [lenMax]; done) | assumption) (by first | omega | (simp [lenMax]; omega) | (simp [lenMax]; done) | assumption)) rfl (fun b14 _ => ?_)
    refine run_op (loc_move rfl) rfl ?_
    refine run_op (loc_buildSlice rfl rfl (.one rfl (.nil)) rfl rfl) rfl ?_
    refine run_append1 rfl (.here) rfl (by rfl) (by rfl) (by first | omega | (simp [lenMax]; omega) | (simp [lenMax]; done) | assumption) (by first | omega | (simp [lenMax]; omega) | (simp [lenMax]; done) | assumption) rfl (fun v15 => ?_)
    refine run_op (loc_assign rfl) rfl ?_
    refine run_nil ?_
    refine run_seq ?_
    refine run_region ?_
    refine run_op (loc_assign rfl) rfl ?_
    refine run_nil ?_
    refine run_seq ?_
    refine run_seq ?_
    refine run_region ?_
    refine run_op (loc_move rfl) rfl ?_
    refine run_op (loc_lenRow rfl (.here)) rfl ?_
    refine run_op (loc_fieldAddrOwn rfl) rfl ?_
    refine run_op (loc_fieldAddrOwn rfl) rfl ?_
    refine run_op (loc_loadOwn1 rfl (.there (.there (.here))) (by rfl)) rfl ?_
    refine run_op (loc_lss rfl rfl) rfl ?_
    refine run_nil ?_
    refine run_cond rfl (fun h16 => ?_) (fun h16 => ?_)
    ·
     have c3 := h16
     refine run_seq ?_
     refine run_freezeRow (s := 16) rfl (.here) ?_
     refine run_region ?_
     refine run_op (loc_move rfl) rfl ?_
     refine run_op (loc_fieldAddrOwn rfl) rfl ?_
     refine run_store1 rfl rfl (.there (.there (.here))) (by rfl) ?_
     refine run_nil ?_
     refine run_seq ?_
     refine run_addNone ?_
     refine dr_start _ (.one (σ := Value) 3 (fun _ => True)) [⟨[(17, none)], [], none⟩,
         ⟨[(10, none)], [], some (3, 0, false)⟩,
         ⟨[(101, some (1, false))], [1], none⟩,
         ⟨[(100, some (0, false)), (102, some (2, false))], [0, 1, 2], some (0, 0, true)⟩,
         ⟨[(3, none)], [], none⟩,
         ⟨[(104, some (4, false))], [4], some (6, 0, false)⟩,
         ⟨[(105, some (5, false))], [4, 5], none⟩,
         ⟨[(103, some (3, false)), (106, some (6, false))], [0, 1, 2, 3, 4, 5, 6], some (0, 1, true)⟩,
         ⟨[(107, some (7, false))], [0, 1, 2, 3, 4, 5, 6, 7], none⟩] [_, _, _, _, _, _, _] _ rfl rfl ?_
     refine dq_pure rfl (fun s => .g rfl (.nil)) (fun s hs _ => loc_move rfl) (by exact .cons (.inr fun _ _ _ => rfl) (.nil)) ?_
     refine dq_read rfl (fun s => .g rfl (.nil)) rfl rfl (fun s hs _ hm => loc_loadOwnN rfl hm (by rfl)) (by exact .cons (.inr fun _ _ _ => rfl) (.nil)) ?_
     refine dq_pure rfl (fun s => .op rfl (.nil)) (fun s hs _ => LocP.imp (loc_buildSlice rfl rfl (.agg rfl (.nil)) rfl rfl) (d_sl (ys := [(⟨j.read, j.probe, j.version, j.query, j.got ++ [(wordX (heldV v j.version) j lie)]⟩ : Job)]) (h := cJob) rfl)) (by exact .cons (.inr fun _ _ _ => rfl) (.nil)) ?_
     refine dq_choose id (fun _ t => t) rfl (fun _ _ => ⟨rfl, id, trivial⟩) (fun s => .op rfl (.op rfl (.nil))) rfl rfl (fun s hs => locM_new (loc_appendNil rfl rfl rfl (by simp [lenMax]) (by simp [lenMax]))) (by exact .cons (.inl rfl) (.nil)) (fun _ _ => rfl) ?_
     refine dq_pure rfl (fun s => .g rfl (.nil)) (fun s hs _ => loc_fieldAddrOwn rfl) (by exact .cons (.inr fun _ _ _ => rfl) (.nil)) ?_
     refine dq_read rfl (fun s => .op rfl (.nil)) rfl rfl (fun s hs _ hm => loc_loadOwn1 rfl hm (by rfl)) (by exact .cons (.inr fun _ _ _ => rfl) (.nil)) ?_
     refine dq_pure rfl (fun s => .op rfl (.nil)) (fun s hs _ => loc_sliceFrom rfl rfl (by first | omega | assumption)) (by exact .cons (.inr fun _ _ _ => rfl) (.nil)) ?_
     refine dq_write rfl (fun s => .op rfl (.op rfl (.nil))) rfl rfl (fun s hs => LocM.frz (loc_append rfl rfl rfl (by first | omega | (simp [lenMax]; omega) | (simp [lenMax]; done) | assumption) (by first | omega | (simp [lenMax]; omega) | (simp [lenMax]; done) | assumption)) rfl) (by exact .cons (.inl rfl) (.nil)) ?_
     refine dq_pure rfl (fun s => .op rfl (.nil)) (fun s hs _ => loc_assign rfl) (by exact .cons (.inl rfl) (.nil)) ?_
     refine dq_end (rs := [_, _, _, _, _, _, _]) (.bool true) rfl (fun _ => rfl) (.cons rfl (.nil)) rfl (fun _ => rfl) (fun v103 _ => ?_)
     dsimp only [outG, outM, List.map, List.set, id]
     refine run_seq ?_
     refine run_region ?_
     refine run_op (loc_move rfl) rfl ?_
     refine run_op (loc_fieldAddrOwn rfl) rfl ?_
     refine run_store1 rfl rfl (.there (.there (.there (.there (.there (.there (.here))))))) (by rfl) ?_
     refine run_nil ?_
     refine run_seq ?_
     refine run_region ?_
     refine run_op (loc_loadOwnN rfl (.there (.there (.there (.there (.there (.there (.here))))))) (by rfl)) rfl ?_
     refine run_op (loc_build (.nil)) rfl ?_
     refine run_storeN (ho := (by show OneAll [_, _, _, _, _, _, _, _]; infer_instance)) rfl rfl (.there (.there (.there (.there (.there (.here)))))) (by rfl) ?_
     refine run_storeN (ho := (by show OneAll [_, _, _, _, _, _, _, _]; infer_instance)) rfl rfl (.there (.there (.there (.there (.here))))) (by rfl) ?_
     refine run_op (loc_assign rfl) rfl ?_
     refine run_op (loc_assign rfl) rfl ?_
     refine run_nil ?_
     refine run_retGP Tryz.func29 rfl (.cellN rfl (.there (.there (.there (.there (.there (.here)))))) (by rfl) (.cellN rfl (.there (.there (.there (.there (.here))))) (by rfl) (.tmp rfl (.tmp rfl (.nil))))) ?_ (fun _ _ h => inv_tail (inv_tail (inv_tail (inv_tail (inv_tail (inv_tail (inv_tail (h))))))))
     exact d_tup4 (d_toSrv (t' := { v with jobs := (⟨j.read, j.probe, j.version, j.query, j.got ++ [(wordX (heldV v j.version) j lie)]⟩ : Job) :: rest }) (by unfold wordV; rw [if_neg hnn, if_pos (hpl.2.2.2 c3), hpl.1, hj]; rfl) (by rw [hj]; exact fun _ _ h => h)) (d_toNte (t' := nte0) (by unfold wordN; rw [if_neg (fun hc => hc.2.2.1 (hpl.2.2.2 c3))]) (d_aggU (.cons (d_int rfl) (.cons (d_int rfl) (.cons (d_int rfl) (.cons (d_int rfl) (.cons (d_int rfl) (.cons d_nil (.cons d_nil (.cons (d_int rfl) .nil)))))))))) (d_B ⟨False.elim, fun hc => hc.2.2.1 (hpl.2.2.2 c3)⟩) (d_int (by unfold wordE; rw [if_neg (Classical.not_not.2 hup), if_neg (by omega), if_pos (hpl.2.2.2 c3)]))
    ·
     have c3 := h16
     refine run_skip ?_
     refine run_seq ?_
     refine run_freezeRow (s := 16) rfl (.here) ?_
     have hmo : ¬ moreV v lie := fun hc => c3 (hpl.2.2.1 hc)
     refine run_addNone ?_
     refine run_addNone ?_
     refine dr_start _ (.two (τ1 := Nat) (τ2 := Nat) 8 14 (fun _ => True) (fun _ => True)) [⟨[(10, none)], [], none⟩,
         ⟨[(112, some (0, false))], [0], some (4, 0, false)⟩,
         ⟨[(10, none)], [], none⟩,
         ⟨[(114, some (2, false))], [2], some (4, 0, false)⟩,
         ⟨[(3, none)], [], none⟩,
         ⟨[(116, some (4, false))], [4], some (7, 0, false)⟩,
         ⟨[(10, none)], [], none⟩,
         ⟨[(118, some (6, false))], [6], some (4, 0, false)⟩,
         ⟨[], [], some (1, 0, true)⟩,
         ⟨[(10, none)], [], none⟩,
         ⟨[(121, some (9, false))], [9], some (4, 0, false)⟩,
         ⟨[(120, some (8, false)), (122, some (10, false))], [8, 9, 10], some (1, 1, true)⟩,
         ⟨[(16, none)], [], none⟩,
         ⟨[(113, some (1, false)), (115, some (3, false)), (117, some (5, false)), (119, some (7, false)), (123, some (11, false)), (124, some (12, false))], [0, 1, 2, 3, 4, 5, 6, 7, 8, 9, 10, 11, 12], none⟩,
         ⟨[], [], some (0, 0, true)⟩,
         ⟨[(18, some (14, false)), (125, some (13, false))], [0, 1, 2, 3, 4, 5, 6, 7, 8, 9, 10, 11, 12, 13, 14], some (0, 1, true)⟩] [_, _, _, _, _, _, _, _] _ rfl rfl ?_
     refine dq_pure rfl (fun s => .g rfl (.nil)) (fun s hs _ => loc_fieldAddrOwn rfl) (by exact .cons (.inr fun _ _ _ => rfl) (.cons (.inr fun _ _ _ => rfl) (.nil))) ?_
     refine dq_read rfl (fun s => .op rfl (.nil)) rfl rfl (fun s hs _ hm => loc_loadOwn1 rfl hm (by rfl)) (by exact .cons (.inr fun _ _ _ => rfl) (.cons (.inr fun _ _ _ => rfl) (.nil))) ?_
     refine dq_pure rfl (fun s => .g rfl (.nil)) (fun s hs _ => loc_fieldAddrOwn rfl) (by exact .cons (.inr fun _ _ _ => rfl) (.cons (.inr fun _ _ _ => rfl) (.nil))) ?_
     refine dq_read rfl (fun s => .op rfl (.nil)) rfl rfl (fun s hs _ hm => loc_loadOwn1 rfl hm (by rfl)) (by exact .cons (.inr fun _ _ _ => rfl) (.cons (.inr fun _ _ _ => rfl) (.nil))) ?_
     refine dq_pure rfl (fun s => .g rfl (.nil)) (fun s hs _ => loc_fieldAddrOwn rfl) (by exact .cons (.inr fun _ _ _ => rfl) (.cons (.inr fun _ _ _ => rfl) (.nil))) ?_
     refine dq_read rfl (fun s => .op rfl (.nil)) rfl rfl (fun s hs _ hm => loc_loadOwn1 rfl hm (by rfl)) (by exact .cons (.inr fun _ _ _ => rfl) (.cons (.inr fun _ _ _ => rfl) (.nil))) ?_
     refine dq_pure rfl (fun s => .g rfl (.nil)) (fun s hs _ => loc_fieldAddrOwn rfl) (by exact .cons (.inr fun _ _ _ => rfl) (.cons (.inr fun _ _ _ => rfl) (.nil))) ?_
     refine dq_read rfl (fun s => .op rfl (.nil)) rfl rfl (fun s hs _ hm => loc_loadOwn1 rfl hm (by rfl)) (by exact .cons (.inr fun _ _ _ => rfl) (.cons (.inr fun _ _ _ => rfl) (.nil))) ?_
     refine dq_choose Prod.fst (fun s t => (t, s.2)) rfl (fun _ _ => ⟨rfl, id, rfl⟩) (fun s => .nil) rfl rfl (fun s hs => locM_new (loc_build0 fI)) (by exact .cons (.inl rfl) (.cons (.inr (.inr fun ⟨a, b⟩ ⟨c, d⟩ h => by have h : c = a := h; subst h; exact rfl)) (.nil))) (fun _ _ => rfl) ?_
     refine dq_pure rfl (fun s => .g rfl (.nil)) (fun s hs _ => loc_fieldAddrOwn rfl) (by exact .cons (.inr fun _ _ _ => rfl) (.cons (.inr fun _ _ _ => rfl) (.nil))) ?_
     refine dq_read rfl (fun s => .op rfl (.nil)) rfl rfl (fun s hs _ hm => loc_loadOwn1 rfl hm (by rfl)) (by exact .cons (.inr fun _ _ _ => rfl) (.cons (.inr fun _ _ _ => rfl) (.nil))) ?_
     refine dq_write rfl (fun s => .op rfl (.op rfl (.nil))) rfl rfl (fun s hs => LocM.frz (loc_append rfl rfl rfl (by first | omega | (simp [lenMax]; omega) | (simp [lenMax]; done) | assumption) (by first | omega | (simp [lenMax]; omega) | (simp [lenMax]; done) | assumption)) rfl) (by exact .cons (.inl rfl) (.cons (.inr fun ⟨a, b⟩ ⟨c, d⟩ h => by have h : c = a := h; subst h; exact ⟨rfl, rfl⟩) (.nil))) ?_
     refine dq_pure rfl (fun s => .g rfl (.nil)) (fun s hs _ => loc_move rfl) (by exact .cons (.inr fun _ _ _ => rfl) (.cons (.inr fun _ _ _ => rfl) (.nil))) ?_
     refine dq_pure rfl (fun s => .op rfl (.op rfl (.op rfl (.op rfl (.op rfl (.op rfl (.nil))))))) (fun s hs _ => LocP.imp (d' := dNte (⟨2, j.read, j.probe, v.id, j.version, j.query, j.got ++ [(wordX (heldV v j.version) j lie)], 0⟩ : Nte)) (loc_build (.one rfl rfl rfl (.one rfl rfl rfl (.one rfl rfl rfl (.one rfl rfl rfl (.one rfl rfl rfl (.one rfl rfl rfl (.one rfl rfl rfl (.nil))))))))) (by exact d_aggU (.cons (fun _ _ h => h) (.cons (fun _ _ h => h) (.cons (fun _ _ h => h) (.cons (fun _ _ h => h) (.cons (fun _ _ h => h) (.cons (fun _ _ h => h) (.cons (fun _ _ h => h) (.cons (fun _ _ h => h) (.nil))))))))))) (by exact .cons (.inl rfl) (.cons (.inr fun ⟨a, b⟩ ⟨c, d⟩ h => by have h : c = a := h; subst h; exact rfl) (.nil))) ?_
     refine dq_choose Prod.snd (fun s t => (s.1, t)) rfl (fun _ _ => ⟨rfl, id, rfl⟩) (fun s => .nil) rfl rfl (fun s hs => locM_new (loc_allocOwn (by simp))) (by exact .cons (.inr (.inr fun ⟨a, b⟩ ⟨c, d⟩ h => by have h : d = b := h; subst h; exact rfl)) (.cons (.inl rfl) (.nil))) (fun _ _ => rfl) ?_
     refine dq_write0 rfl (fun s => .op rfl (.op rfl (.nil))) rfl rfl (fun s hs => loc_storeN (ho := (by show OneAll [_, _, _, _, _, _, _, _]; infer_instance)) rfl rfl rfl) (by exact .cons (.inl rfl) (.cons (.inl rfl) (.nil))) ?_
     refine dq_end (rs := [_, _, _, _, _, _, _, _]) (0, 0) rfl (fun _ => rfl) (.cons rfl (.cons rfl (.nil))) rfl (fun _ => rfl) (fun s9 _ => ?_)
     obtain ⟨b18, b19⟩ := s9
     dsimp only [outG, outM, List.map, List.set, id]
     refine run_seq ?_
     refine dr_start _ (.none) [⟨[(4, none)], [], none⟩,
         ⟨[(127, some (0, false))], [0], none⟩,
         ⟨[(18, none)], [], some (0, 0, false)⟩,
         ⟨[(129, some (2, false))], [2], none⟩,
         ⟨[(128, some (1, false)), (130, some (3, false))], [0, 1, 2, 3], none⟩,
         ⟨[(131, some (4, false))], [0, 1, 2, 3, 4], none⟩,
         ⟨[(126, some (5, false))], [0, 1, 2, 3, 4, 5], none⟩,
         ⟨[(126, some (5, false))], [0, 1, 2, 3, 4, 5], none⟩,
         ⟨[(132, some (6, false))], [0, 1, 2, 3, 4, 5, 6], none⟩,
         ⟨[(133, some (7, false))], [0, 1, 2, 3, 4, 5, 6, 7, 8], none⟩] [_, _, _, _, _, _, _, _] _ rfl rfl ?_
     refine dq_pure rfl (fun s => .g rfl (.nil)) (fun s hs _ => loc_fieldAddr rfl) (by exact .nil) ?_
     refine dq_pure rfl (fun s => .op rfl (.nil)) (fun s hs _ => loc_load1 rfl) (by exact .nil) ?_
     refine dq_read rfl (fun s => .g rfl (.nil)) rfl rfl (fun s hs _ hm => loc_loadOwnN rfl hm (by rfl)) (by exact .nil) ?_
     refine dq_pure rfl (fun s => .op rfl (.nil)) (fun s hs _ => loc_call (rnums_spec (⟨2, j.read, j.probe, v.id, j.version, j.query, j.got ++ [(wordX (heldV v j.version) j lie)], 0⟩ : Nte) hnz) rfl) (by exact .nil) ?_
     refine dq_pure rfl (fun s => .op rfl (.op rfl (.nil))) (fun s hs _ => loc_call (rsign_spec _ _) rfl) (by exact .nil) ?_
     refine dq_pure rfl (fun s => .op rfl (.nil)) (fun s hs _ => loc_move rfl) (by exact .nil) ?_
     refine dq_pure rfl (fun s => .op rfl (.nil)) (fun s hs _ => loc_extract rfl rfl) (by exact .nil) ?_
     refine dq_pure rfl (fun s => .op rfl (.nil)) (fun s hs _ => loc_extract rfl rfl) (by exact .nil) ?_
     refine dq_pure rfl (fun s => .op rfl (.nil)) (fun s hs _ => loc_assign rfl) (by exact .nil) ?_
     refine dq_pure rfl (fun s => .op rfl (.nil)) (fun s hs _ => loc_assign rfl) (by exact .nil) ?_
     refine dq_end (rs := [_, _, _, _, _, _, _, _]) () rfl (fun _ => rfl) (.nil) rfl (fun _ => rfl) (fun _ _ => ?_)
     dsimp only [outG, outM, List.map, List.set, id]
     refine run_seq ?_
     refine run_seq ?_
     refine run_region ?_
     refine run_op (loc_move rfl) rfl ?_
     refine run_op (loc_neq rfl rfl) rfl ?_
     refine run_nil ?_
     refine run_cond rfl (fun h20 => ?_) (fun h20 => ?_)
     ·
      have c4 := h20
      refine run_seq ?_
      refine run_region ?_
      refine run_op (loc_loadOwnN rfl (.there (.there (.there (.there (.there (.there (.there (.here)))))))) (by rfl)) rfl ?_
      refine run_op (loc_build (.nil)) rfl ?_
      refine run_op (loc_move rfl) rfl ?_
      refine run_storeN (ho := (by show OneAll [_, _, _, _, _, _, _, _]; infer_instance)) rfl rfl (.there (.there (.there (.there (.there (.there (.here))))))) (by rfl) ?_
      refine run_storeN (ho := (by show OneAll [_, _, _, _, _, _, _, _]; infer_instance)) rfl rfl (.there (.there (.there (.there (.there (.here)))))) (by rfl) ?_
      refine run_op (loc_assign rfl) rfl ?_
      refine run_op (loc_assign rfl) rfl ?_
      refine run_nil ?_
      refine run_retGP Tryz.func29 rfl (.cellN rfl (.there (.there (.there (.there (.there (.there (.here))))))) (by rfl) (.cellN rfl (.there (.there (.there (.there (.there (.here)))))) (by rfl) (.tmp rfl (.tmp rfl (.nil))))) ?_ (fun _ _ h => inv_tail (inv_tail (inv_tail (inv_tail (inv_tail (inv_tail (inv_tail (inv_tail (h)))))))))
      exact d_tup4 (d_toSrv (t' := v) (by unfold wordV; rw [if_neg hnn, if_neg hmo, hpl.2.1, if_neg c4]) (fun _ _ h => h)) (d_toNte (t' := nte0) (by unfold wordN; rw [if_neg (fun hc => c4 (by have := hc.2.2.2; rwa [hpl.2.1] at this))]) (d_aggU (.cons (d_int rfl) (.cons (d_int rfl) (.cons (d_int rfl) (.cons (d_int rfl) (.cons (d_int rfl) (.cons d_nil (.cons d_nil (.cons (d_int rfl) .nil)))))))))) (d_B ⟨False.elim, fun hc => c4 (by have := hc.2.2.2; rwa [hpl.2.1] at this)⟩) (d_int (by unfold wordE; rw [if_neg (Classical.not_not.2 hup), if_neg (by omega), if_neg hmo, hpl.2.1]))
     ·
      have c4 := Classical.not_not.1 h20
      refine run_skip ?_
      refine run_seq ?_
      have hwr : wordR v p lie := ⟨hup, by omega, hmo, by rw [hpl.2.1]; exact c4⟩
      refine run_region ?_
      refine run_op (loc_move rfl) rfl ?_
      refine run_op (loc_fieldAddrOwn rfl) rfl ?_
      refine run_store1 rfl rfl (.here) (by rfl) ?_
      refine run_nil ?_
      refine run_seq ?_
      refine run_region ?_
      refine run_op (loc_move rfl) rfl ?_
      refine run_op (loc_fieldAddrOwn rfl) rfl ?_
      refine run_op (loc_loadOwn1 rfl (.there (.there (.there (.there (.there (.there (.there (.here)))))))) (by rfl)) rfl ?_
      refine run_op (loc_sliceFrom rfl rfl (by first | omega | assumption)) rfl ?_
      refine run_op (LocM.frz0 (loc_appendNil rfl rfl rfl (by first | omega | (simp [lenMax]; omega) | (simp [lenMax]; done) | assumption) (by first | omega | (simp [lenMax]; omega) | (simp [lenMax]; done) | assumption))) rfl ?_
      refine run_op (loc_fieldAddrOwn rfl) rfl ?_
      refine run_store1 rfl rfl (.there (.there (.there (.there (.there (.there (.there (.here)))))))) (by rfl) ?_
      refine run_nil ?_
      refine run_seq ?_
      refine dr_start _ (.none) [⟨[(3, none)], [], some (7, 0, false)⟩,
          ⟨[(18, none)], [], some (0, 0, false)⟩,
          ⟨[(6, none), (147, some (0, false))], [0], some (6, 0, true)⟩,
          ⟨[(7, none), (148, some (1, false))], [0, 1, 2], some (5, 0, true)⟩,
          ⟨[], [0, 1, 2, 3], none⟩,
          ⟨[], [0, 1, 2, 3, 4], none⟩] [_, _, _, _, _, _, _, _] _ rfl rfl ?_
      refine dq_read rfl (fun s => .g rfl (.nil)) rfl rfl (fun s hs _ hm => loc_loadOwnN rfl hm (by rfl)) (by exact .nil) ?_
      refine dq_read rfl (fun s => .g rfl (.nil)) rfl rfl (fun s hs _ hm => loc_loadOwnN rfl hm (by rfl)) (by exact .nil) ?_
      refine dq_write0 rfl (fun s => .g rfl (.op rfl (.nil))) rfl rfl (fun s hs => loc_storeN (ho := (by show OneAll [_, _, _, _, _, _, _, _]; infer_instance)) rfl rfl rfl) (by exact .nil) ?_
      refine dq_write0 rfl (fun s => .g rfl (.op rfl (.nil))) rfl rfl (fun s hs => loc_storeN (ho := (by show OneAll [_, _, _, _, _, _, _, _]; infer_instance)) rfl rfl rfl) (by exact .nil) ?_
      refine dq_pure rfl (fun s => .nil) (fun s hs _ => loc_assign rfl) (by exact .nil) ?_
      refine dq_pure rfl (fun s => .nil) (fun s hs _ => loc_assign rfl) (by exact .nil) ?_
      refine dq_end (rs := [_, _, _, _, _, _, _, _]) () rfl (fun _ => rfl) (.nil) rfl (fun _ => rfl) (fun _ _ => ?_)
      dsimp only [outG, outM, List.map, List.set, id]
      refine run_retGP Tryz.func29 rfl (.cellN rfl (.there (.there (.there (.there (.there (.there (.here))))))) (by rfl) (.cellN rfl (.there (.there (.there (.there (.there (.here)))))) (by rfl) (.tmp rfl (.tmp rfl (.nil))))) ?_ (fun _ _ h => inv_tail (inv_tail (inv_tail (inv_tail (inv_tail (inv_tail (inv_tail (inv_tail (h)))))))))
      exact d_tup4 (d_toSrv (t' := { v with jobs := rest }) (by unfold wordV; rw [if_neg hnn, if_neg hmo, hpl.2.1, if_pos c4, hj]; rfl) (by rw [hj]; exact fun _ _ h => h)) (d_toNte (t' := { (⟨2, j.read, j.probe, v.id, j.version, j.query, j.got ++ [(wordX (heldV v j.version) j lie)], 0⟩ : Nte) with mark := signM p.secret (numsN (⟨2, j.read, j.probe, v.id, j.version, j.query, j.got ++ [(wordX (heldV v j.version) j lie)], 0⟩ : Nte)) }) (by unfold wordN; rw [if_pos hwr, hpl.2.1]) (fun _ _ h => h)) (d_B ⟨fun _ => hwr, fun _ => trivial⟩) (d_int (by unfold wordE; rw [if_neg (Classical.not_not.2 hup), if_neg (by omega), if_neg hmo, hpl.2.1, c4]))
end Go.Q
