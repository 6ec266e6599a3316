/- Contracts of reads: how they begin, their notes, who is silent. -/
import Derived.Test.YtmihhjchmnmaiaaQOps8
set_option linter.unusedVariables false
set_option linter.unusedSimpArgs false
namespace Go.Q
open Go.Proofs

open Classical
abbrev cAns (a : Ans) : List D := [dB a.known, dInts a.row]
abbrev cNte (n : Nte) : List D := [dInt .i64 n.kind, dInt .i64 n.read, dInt .i64 n.probe, dInt .i64 n.server, dInt .i64 n.version, dInts n.query, dInts n.values, dInt .i64 n.mark]
abbrev fAs (x : List Ans) : List D := [dSl 2 cAns x]
abbrev dAs (xs : List (List Ans)) : D := dSl 1 fAs xs
abbrev cRdr (r : Rdr) : List D := [dInt .i64 r.read, dInt .i64 r.scheme.kind, dInt .i64 r.scheme.servers, dInt .i64 r.scheme.degree, dInt .i64 r.scheme.group, dInt .i64 r.head.number, dInt .i64 r.head.p, dInt .i64 r.head.count, dInt .i64 r.head.width, dInt .i64 r.head.root, dInts r.rows, dQs r.queries, dAs r.answers, dRows r.marks, dB r.ended]
abbrev dRdr (r : Rdr) : D := dAgg (cRdr r)
abbrev dNts (l : List Nte) : D := dSl 8 cNte l
theorem d_toRdr {d : D} {t t' : Rdr} (e : t = t') (h : ∀ I v, d.rel I v → (dRdr t').rel I v) : ∀ I v, d.rel I v → (dRdr t).rel I v := e ▸ h
theorem ansUp {J : Imm} {vs : List Value} (h : relL (zeroDs (.agg #[.bool false, .slice none 0 0])) J vs) : relL (cAns ⟨False, []⟩) J vs := by
  match vs, h with
  | [a, b], hr => exact ⟨hr.1, d_nil _ _ hr.2.1, trivial⟩
theorem fieldOf_spec (hd : Hd) : SpecP Try.prog 55 [dHd hd] (dAgg [dInt .i64 hd.p]) := by
  refine specP_of_body Try.func55 rfl rfl (fun I M => ?_)
  refine run_seq ?_
  refine run_region ?_
  refine run_op (loc_boxN rfl) rfl ?_
  refine run_new (loc_allocOwn (by simp)) rfl (fun b1 _ => ?_)
  refine run_nil ?_
  refine run_seq ?_
  refine run_region ?_
  refine run_op (loc_fieldAddr rfl) rfl ?_
  refine run_op (loc_load1 rfl) rfl ?_
  refine run_op (loc_build (.one rfl rfl rfl (.nil))) rfl ?_
  refine run_storeN (ho := (by show OneAll [_]; infer_instance)) rfl rfl (.here) (by rfl) ?_
  refine run_nil ?_
  refine run_retGP Try.func55 rfl (.cellN rfl (by first | exact .here | exact .there .here | exact .there (.there .here) | exact .there (.there (.there .here)) | exact .there (.there (.there (.there .here))) | exact .there (.there (.there (.there (.there .here))))) (by rfl) (.nil)) ?_ (fun _ _ h => inv_tail (h))
  exact fun _ _ h => h

theorem begin_spec (rd : Int) (sc : Schm) (hd : Hd) (rows : List Int) (t : Tape) : SpecP Try.prog 33 [dInt .i64 rd, dSchm sc, dHd hd, dInts rows, dTape t] (dTup [dRdr (bgR rd sc hd rows t), dTape (bgT rd sc hd rows t), dInt .i64 (bgE rd sc hd rows t)]) := by
  refine specP_of_body Try.func33 rfl rfl (fun I M => ?_)
  refine run_seq ?_
  refine run_region ?_
  refine run_op (loc_boxN rfl) rfl ?_
  refine run_op (loc_boxN rfl) rfl ?_
  refine run_op (loc_boxN rfl) rfl ?_
  refine run_new (loc_allocOwn (by simp)) rfl (fun b1 _ => ?_)
  refine run_new (loc_allocOwn (by simp)) rfl (fun b2 _ => ?_)
  refine run_op (loc_assign rfl) rfl ?_
  refine run_nil ?_
  refine run_seq ?_
  refine run_block ?_
  refine run_seq ?_
  refine run_region ?_
  refine run_op (loc_move rfl) rfl ?_
  refine run_op (loc_lss rfl rfl) rfl ?_
  refine run_op (loc_assign rfl) rfl ?_
  refine run_nil ?_
  refine run_cond rfl (fun h3 => ?_) (fun h3 => ?_)
  ·
    have c1 := h3
    refine run_seq ?_
    refine run_region ?_
    refine run_op (loc_build (.nil)) rfl ?_
    refine run_op (loc_build (.nil)) rfl ?_
    refine run_storeN (ho := (by show OneAll [_, _, _, _, _, _, _, _, _, _, _, _, _, _, _]; infer_instance)) rfl rfl (.there (.here)) (by rfl) ?_
    refine run_storeN (ho := (by show OneAll [_, _]; infer_instance)) rfl rfl (.here) (by rfl) ?_
    refine run_op (loc_assign rfl) rfl ?_
    refine run_nil ?_
    have hE : bgE rd sc hd rows t = 1 := by unfold bgE; rw [if_pos c1]
    refine run_retGP Try.func33 rfl (.cellN rfl (by first | exact .here | exact .there .here | exact .there (.there .here) | exact .there (.there (.there .here)) | exact .there (.there (.there (.there .here))) | exact .there (.there (.there (.there (.there .here))))) (by rfl) (.cellN rfl (by first | exact .here | exact .there .here | exact .there (.there .here) | exact .there (.there (.there .here)) | exact .there (.there (.there (.there .here))) | exact .there (.there (.there (.there (.there .here))))) (by rfl) (.tmp rfl (.nil)))) ?_ (fun _ _ h => inv_tail (inv_tail (h)))
    exact d_tup3 (d_toRdr (by unfold bgR; rw [if_neg (by rw [hE]; omega)]) (d_aggU (.cons (d_int rfl) (.cons (d_int rfl) (.cons (d_int rfl) (.cons (d_int rfl) (.cons (d_int rfl) (.cons (d_int rfl) (.cons (d_int rfl) (.cons (d_int rfl) (.cons (d_int rfl) (.cons (d_int rfl) (.cons d_nil (.cons d_nil (.cons d_nil (.cons d_nil (.cons (d_B Iff.rfl) .nil))))))))))))))))) (d_toTape (by unfold bgT; rw [if_neg (by rw [hE]; omega)]) (d_aggU (.cons d_nil (.cons (d_int rfl) .nil)))) (d_int hE.symm)
  ·
    have c1 := h3
    refine run_seq ?_
    refine dr_start _ (.none) [⟨[(6, none)], [], none⟩,
        ⟨[(7, none)], [], none⟩,
        ⟨[(24, some (1, false))], [1], none⟩,
        ⟨[(23, some (0, false)), (25, some (2, false))], [0, 1, 2], none⟩,
        ⟨[(26, some (3, false))], [0, 1, 2, 3], none⟩,
        ⟨[(27, some (4, false))], [0, 1, 2, 3, 4], none⟩] [] _ rfl rfl ?_
    refine dq_pure rfl (fun s => .g rfl (.nil)) (fun s hs _ => loc_loadN rfl rfl) (by exact .nil) ?_
    refine dq_pure rfl (fun s => .g rfl (.nil)) (fun s hs _ => loc_loadN rfl rfl) (by exact .nil) ?_
    refine dq_pure rfl (fun s => .op rfl (.nil)) (fun s hs _ => loc_call (fieldOf_spec _) rfl) (by exact .nil) ?_
    refine dq_pure rfl (fun s => .op rfl (.op rfl (.nil))) (fun s hs _ => loc_call (valid_spec _ _) rfl) (by exact .nil) ?_
    refine dq_pure rfl (fun s => .op rfl (.nil)) (fun s hs _ => loc_not rfl) (by exact .nil) ?_
    refine dq_pure rfl (fun s => .op rfl (.nil)) (fun s hs _ => loc_assign rfl) (by exact .nil) ?_
    refine dq_end (rs := []) () rfl (fun _ => rfl) (.nil) rfl (fun _ _ => ?_)
    dsimp only [outG, outM, List.map, List.set, id]
    refine run_cond rfl (fun h4 => ?_) (fun h4 => ?_)
    ·
      have c2 := h4
      refine run_seq ?_
      refine run_region ?_
      refine run_op (loc_build (.nil)) rfl ?_
      refine run_op (loc_build (.nil)) rfl ?_
      refine run_storeN (ho := (by show OneAll [_, _, _, _, _, _, _, _, _, _, _, _, _, _, _]; infer_instance)) rfl rfl (.there (.here)) (by rfl) ?_
      refine run_storeN (ho := (by show OneAll [_, _]; infer_instance)) rfl rfl (.here) (by rfl) ?_
      refine run_op (loc_assign rfl) rfl ?_
      refine run_nil ?_
      have hE : bgE rd sc hd rows t = 40 := by unfold bgE; rw [if_neg c1, if_pos c2]
      refine run_retGP Try.func33 rfl (.cellN rfl (by first | exact .here | exact .there .here | exact .there (.there .here) | exact .there (.there (.there .here)) | exact .there (.there (.there (.there .here))) | exact .there (.there (.there (.there (.there .here))))) (by rfl) (.cellN rfl (by first | exact .here | exact .there .here | exact .there (.there .here) | exact .there (.there (.there .here)) | exact .there (.there (.there (.there .here))) | exact .there (.there (.there (.there (.there .here))))) (by rfl) (.tmp rfl (.nil)))) ?_ (fun _ _ h => inv_tail (inv_tail (h)))
      exact d_tup3 (d_toRdr (by unfold bgR; rw [if_neg (by rw [hE]; omega)]) (d_aggU (.cons (d_int rfl) (.cons (d_int rfl) (.cons (d_int rfl) (.cons (d_int rfl) (.cons (d_int rfl) (.cons (d_int rfl) (.cons (d_int rfl) (.cons (d_int rfl) (.cons (d_int rfl) (.cons (d_int rfl) (.cons d_nil (.cons d_nil (.cons d_nil (.cons d_nil (.cons (d_B Iff.rfl) .nil))))))))))))))))) (d_toTape (by unfold bgT; rw [if_neg (by rw [hE]; omega)]) (d_aggU (.cons d_nil (.cons (d_int rfl) .nil)))) (d_int hE.symm)
    ·
      have c2 := Classical.not_not.1 h4
      have hbd := shape_bd c2.1
      refine run_seq ?_
      refine run_region ?_
      refine run_op (loc_move rfl) rfl ?_
      refine run_op (loc_fieldAddr rfl) rfl ?_
      refine run_op (loc_load1 rfl) rfl ?_
      refine run_op (loc_call (wvalid_spec _ _) rfl) rfl ?_
      refine run_op (loc_not rfl) rfl ?_
      refine run_op (loc_move rfl) rfl ?_
      refine run_gfirst rfl rfl (by first | exact guard_true _ | exact guard_false _ | exact guard_if (guard_true _) | exact guard_if (guard_false _)) (fun hg => loc_fieldAddr rfl) rfl ?_
      refine run_gop rfl rfl (by first | exact guard_true _ | exact guard_false _ | exact guard_if (guard_true _) | exact guard_if (guard_false _)) (fun hg => loc_load1 rfl) rfl ?_
      refine run_gop rfl rfl (by first | exact guard_true _ | exact guard_false _ | exact guard_if (guard_true _) | exact guard_if (guard_false _)) (fun hg => loc_lss rfl rfl) rfl ?_
      refine run_gleave ?_
      refine run_op (loc_or rfl rfl) rfl ?_
      refine run_op (loc_move rfl) rfl ?_
      refine run_gfirst rfl rfl (by first | exact guard_true _ | exact guard_false _ | exact guard_if (guard_true _) | exact guard_if (guard_false _)) (fun hg => loc_fieldAddr rfl) rfl ?_
      refine run_gop rfl rfl (by first | exact guard_true _ | exact guard_false _ | exact guard_if (guard_true _) | exact guard_if (guard_false _)) (fun hg => loc_load1 rfl) rfl ?_
      refine run_gop rfl rfl (by first | exact guard_true _ | exact guard_false _ | exact guard_if (guard_true _) | exact guard_if (guard_false _)) (fun hg => loc_gtr rfl rfl) rfl ?_
      refine run_gleave ?_
      refine run_op (loc_or rfl rfl) rfl ?_
      refine run_op (loc_assign rfl) rfl ?_
      refine run_nil ?_
      refine run_cond rfl (fun h5 => ?_) (fun h5 => ?_)
      ·
        have c3 : ¬ okW hd.count rows ∨ hd.width < 1 ∨ hd.width > 64 := by rcases h5 with (h | h) | h; (· exact .inl h); (· exact .inr (.inl h)); (· exact .inr (.inr h))
        refine run_seq ?_
        refine run_region ?_
        refine run_op (loc_build (.nil)) rfl ?_
        refine run_op (loc_build (.nil)) rfl ?_
        refine run_storeN (ho := (by show OneAll [_, _, _, _, _, _, _, _, _, _, _, _, _, _, _]; infer_instance)) rfl rfl (.there (.here)) (by rfl) ?_
        refine run_storeN (ho := (by show OneAll [_, _]; infer_instance)) rfl rfl (.here) (by rfl) ?_
        refine run_op (loc_assign rfl) rfl ?_
        refine run_nil ?_
        have hE : bgE rd sc hd rows t = 41 := by unfold bgE; rw [if_neg c1, if_neg (Classical.not_not.2 c2), if_pos c3]
        refine run_retGP Try.func33 rfl (.cellN rfl (by first | exact .here | exact .there .here | exact .there (.there .here) | exact .there (.there (.there .here)) | exact .there (.there (.there (.there .here))) | exact .there (.there (.there (.there (.there .here))))) (by rfl) (.cellN rfl (by first | exact .here | exact .there .here | exact .there (.there .here) | exact .there (.there (.there .here)) | exact .there (.there (.there (.there .here))) | exact .there (.there (.there (.there (.there .here))))) (by rfl) (.tmp rfl (.nil)))) ?_ (fun _ _ h => inv_tail (inv_tail (h)))
        exact d_tup3 (d_toRdr (by unfold bgR; rw [if_neg (by rw [hE]; omega)]) (d_aggU (.cons (d_int rfl) (.cons (d_int rfl) (.cons (d_int rfl) (.cons (d_int rfl) (.cons (d_int rfl) (.cons (d_int rfl) (.cons (d_int rfl) (.cons (d_int rfl) (.cons (d_int rfl) (.cons (d_int rfl) (.cons d_nil (.cons d_nil (.cons d_nil (.cons d_nil (.cons (d_B Iff.rfl) .nil))))))))))))))))) (d_toTape (by unfold bgT; rw [if_neg (by rw [hE]; omega)]) (d_aggU (.cons d_nil (.cons (d_int rfl) .nil)))) (d_int hE.symm)
      ·
        have c3 : ¬ (¬ okW hd.count rows ∨ hd.width < 1 ∨ hd.width > 64) := fun h => h5 (by rcases h with h | h | h; (· exact .inl (.inl h)); (· exact .inl (.inr h)); (· exact .inr h))
        have hkw : okW hd.count rows := Classical.not_not.1 fun h => c3 (.inl h)
        have hk16 := hkw.2.1
        refine run_skip ?_
        refine run_inBlock ?_
        refine run_seq ?_
        refine run_addNone ?_
        refine dr_start _ (.one (σ := Nat) 12 (fun _ => True)) [⟨[(6, none)], [], none⟩,
            ⟨[(7, none)], [], none⟩,
            ⟨[(50, some (1, false))], [1], none⟩,
            ⟨[(7, none)], [], none⟩,
            ⟨[(52, some (3, false))], [3], none⟩,
            ⟨[(3, none)], [], none⟩,
            ⟨[(9, none)], [], none⟩,
            ⟨[(49, some (0, false)), (51, some (2, false)), (53, some (4, false)), (54, some (5, false)), (55, some (6, false))], [0, 1, 2, 3, 4, 5, 6], none⟩,
            ⟨[(56, some (7, false))], [0, 1, 2, 3, 4, 5, 6, 7], none⟩,
            ⟨[(48, some (8, false))], [0, 1, 2, 3, 4, 5, 6, 7, 8], none⟩,
            ⟨[(48, some (8, false))], [0, 1, 2, 3, 4, 5, 6, 7, 8], none⟩,
            ⟨[(48, some (8, false))], [0, 1, 2, 3, 4, 5, 6, 7, 8], none⟩,
            ⟨[], [], some (0, 0, true)⟩,
            ⟨[(57, some (9, false))], [0, 1, 2, 3, 4, 5, 6, 7, 8, 9, 12], none⟩,
            ⟨[(14, some (12, false)), (58, some (10, false))], [0, 1, 2, 3, 4, 5, 6, 7, 8, 9, 10, 12, 13], some (0, 1, true)⟩,
            ⟨[(59, some (11, false))], [0, 1, 2, 3, 4, 5, 6, 7, 8, 9, 10, 11, 12, 13, 14], none⟩] [_, _, _] _ rfl rfl ?_
        refine dq_pure rfl (fun s => .g rfl (.nil)) (fun s hs _ => loc_loadN rfl rfl) (by exact .cons (.inr fun _ _ _ => rfl) (.nil)) ?_
        refine dq_pure rfl (fun s => .g rfl (.nil)) (fun s hs _ => loc_loadN rfl rfl) (by exact .cons (.inr fun _ _ _ => rfl) (.nil)) ?_
        refine dq_pure rfl (fun s => .op rfl (.nil)) (fun s hs _ => loc_call (fieldOf_spec _) rfl) (by exact .cons (.inr fun _ _ _ => rfl) (.nil)) ?_
        refine dq_pure rfl (fun s => .g rfl (.nil)) (fun s hs _ => loc_fieldAddr rfl) (by exact .cons (.inr fun _ _ _ => rfl) (.nil)) ?_
        refine dq_pure rfl (fun s => .op rfl (.nil)) (fun s hs _ => loc_load1 rfl) (by exact .cons (.inr fun _ _ _ => rfl) (.nil)) ?_
        refine dq_pure rfl (fun s => .g rfl (.nil)) (fun s hs _ => loc_move rfl) (by exact .cons (.inr fun _ _ _ => rfl) (.nil)) ?_
        refine dq_pure rfl (fun s => .g rfl (.nil)) (fun s hs _ => loc_loadN rfl rfl) (by exact .cons (.inr fun _ _ _ => rfl) (.nil)) ?_
        refine dq_pure rfl (fun s => .op rfl (.op rfl (.op rfl (.op rfl (.op rfl (.nil)))))) (fun s hs _ => loc_call (wqueries_spec _ _ _ _ _) rfl) (by exact .cons (.inr fun _ _ _ => rfl) (.nil)) ?_
        refine dq_pure rfl (fun s => .op rfl (.nil)) (fun s hs _ => loc_move rfl) (by exact .cons (.inr fun _ _ _ => rfl) (.nil)) ?_
        refine dq_pure rfl (fun s => .op rfl (.nil)) (fun s hs _ => loc_extract rfl rfl) (by exact .cons (.inr fun _ _ _ => rfl) (.nil)) ?_
        refine dq_pure rfl (fun s => .op rfl (.nil)) (fun s hs _ => loc_extract rfl rfl) (by exact .cons (.inr fun _ _ _ => rfl) (.nil)) ?_
        refine dq_pure rfl (fun s => .op rfl (.nil)) (fun s hs _ => loc_extract rfl rfl) (by exact .cons (.inr fun _ _ _ => rfl) (.nil)) ?_
        refine dq_choose id (fun _ t => t) rfl (fun _ _ => ⟨rfl, id, trivial⟩) (fun s => .nil) rfl rfl (fun s hs => locM_new (loc_allocOwn (by simp))) (by exact .cons (.inl rfl) (.nil)) ?_
        refine dq_pure rfl (fun s => .op rfl (.nil)) (fun s hs _ => loc_assign rfl) (by exact .cons (.inl rfl) (.nil)) ?_
        refine dq_write0 rfl (fun s => .op rfl (.op rfl (.nil))) rfl rfl (fun s hs => loc_storeN (ho := (by show OneAll [_, _]; infer_instance)) rfl rfl rfl) (by exact .cons (.inl rfl) (.nil)) ?_
        refine dq_pure rfl (fun s => .op rfl (.nil)) (fun s hs _ => loc_assign rfl) (by exact .cons (.inl rfl) (.nil)) ?_
        refine dq_end (rs := [_, _, _]) 0 rfl (fun _ => rfl) (.cons rfl (.nil)) rfl (fun b6 _ => ?_)
        dsimp only [outG, outM, List.map, List.set, id]
        refine run_seq ?_
        refine run_seq ?_
        refine run_region ?_
        refine run_op (loc_move rfl) rfl ?_
        refine run_op (loc_neq rfl rfl) rfl ?_
        refine run_nil ?_
        refine run_cond rfl (fun h7 => ?_) (fun h7 => ?_)
        ·
          have c4 := h7
          refine run_seq ?_
          refine run_region ?_
          refine run_op (loc_build (.nil)) rfl ?_
          refine run_op (loc_build (.nil)) rfl ?_
          refine run_op (loc_move rfl) rfl ?_
          refine run_storeN (ho := (by show OneAll [_, _, _, _, _, _, _, _, _, _, _, _, _, _, _]; infer_instance)) rfl rfl (.there (.there (.here))) (by rfl) ?_
          refine run_storeN (ho := (by show OneAll [_, _]; infer_instance)) rfl rfl (.there (.here)) (by rfl) ?_
          refine run_op (loc_assign rfl) rfl ?_
          refine run_nil ?_
          have hE : bgE rd sc hd rows t = wqE sc hd.p hd.count rows t := by unfold bgE; rw [if_neg c1, if_neg (Classical.not_not.2 c2), if_neg c3]
          refine run_retGP Try.func33 rfl (.cellN rfl (by first | exact .here | exact .there .here | exact .there (.there .here) | exact .there (.there (.there .here)) | exact .there (.there (.there (.there .here))) | exact .there (.there (.there (.there (.there .here))))) (by rfl) (.cellN rfl (by first | exact .here | exact .there .here | exact .there (.there .here) | exact .there (.there (.there .here)) | exact .there (.there (.there (.there .here))) | exact .there (.there (.there (.there (.there .here))))) (by rfl) (.tmp rfl (.nil)))) ?_ (fun _ _ h => inv_tail (inv_tail (inv_tail (h))))
          exact d_tup3 (d_toRdr (by unfold bgR; rw [if_neg (by rw [hE]; exact c4)]) (d_aggU (.cons (d_int rfl) (.cons (d_int rfl) (.cons (d_int rfl) (.cons (d_int rfl) (.cons (d_int rfl) (.cons (d_int rfl) (.cons (d_int rfl) (.cons (d_int rfl) (.cons (d_int rfl) (.cons (d_int rfl) (.cons d_nil (.cons d_nil (.cons d_nil (.cons d_nil (.cons (d_B Iff.rfl) .nil))))))))))))))))) (d_toTape (by unfold bgT; rw [if_neg (by rw [hE]; exact c4)]) (d_aggU (.cons d_nil (.cons (d_int rfl) .nil)))) (d_int hE.symm)
        ·
          have c4 := Classical.not_not.1 h7
          refine run_skip ?_
          refine run_seq ?_
          refine run_addNone ?_
          refine dr_start _ (.one (σ := Nat) 7 (fun _ => True)) [⟨[(0, none)], [], none⟩,
              ⟨[(6, none)], [], none⟩,
              ⟨[(7, none)], [], none⟩,
              ⟨[(3, none)], [], none⟩,
              ⟨[(68, some (3, false))], [3], none⟩,
              ⟨[(13, none)], [], none⟩,
              ⟨[(65, some (0, false)), (66, some (1, false)), (67, some (2, false)), (69, some (4, false)), (70, some (5, false))], [0, 1, 2, 3, 4, 5], none⟩,
              ⟨[], [], some (0, 0, true)⟩,
              ⟨[(16, some (7, false)), (71, some (6, false))], [0, 1, 2, 3, 4, 5, 6, 7], some (0, 1, true)⟩] [_, _, _, _] _ rfl rfl ?_
          refine dq_pure rfl (fun s => .g rfl (.nil)) (fun s hs _ => loc_move rfl) (by exact .cons (.inr fun _ _ _ => rfl) (.nil)) ?_
          refine dq_pure rfl (fun s => .g rfl (.nil)) (fun s hs _ => loc_loadN rfl rfl) (by exact .cons (.inr fun _ _ _ => rfl) (.nil)) ?_
          refine dq_pure rfl (fun s => .g rfl (.nil)) (fun s hs _ => loc_loadN rfl rfl) (by exact .cons (.inr fun _ _ _ => rfl) (.nil)) ?_
          refine dq_pure rfl (fun s => .g rfl (.nil)) (fun s hs _ => loc_move rfl) (by exact .cons (.inr fun _ _ _ => rfl) (.nil)) ?_
          refine dq_pure rfl (fun s => .op rfl (.nil)) (fun s hs _ => loc_call (cloneI_spec _ (by omega)) rfl) (by exact .cons (.inr fun _ _ _ => rfl) (.nil)) ?_
          refine dq_pure rfl (fun s => .g rfl (.nil)) (fun s hs _ => loc_move rfl) (by exact .cons (.inr fun _ _ _ => rfl) (.nil)) ?_
          refine dq_pure rfl (fun s => .op rfl (.op rfl (.op rfl (.op rfl (.op rfl (.nil)))))) (fun s hs _ => loc_build (.one rfl rfl rfl (.agg rfl rfl rfl rfl (.agg rfl rfl rfl rfl (.one rfl rfl rfl (.one rfl rfl rfl (.nil))))))) (by exact .cons (.inr fun _ _ _ => rfl) (.nil)) ?_
          refine dq_choose id (fun _ t => t) rfl (fun _ _ => ⟨rfl, id, trivial⟩) (fun s => .nil) rfl rfl (fun s hs => locM_new (loc_allocOwn (by simp))) (by exact .cons (.inl rfl) (.nil)) ?_
          refine dq_write0 rfl (fun s => .op rfl (.op rfl (.nil))) rfl rfl (fun s hs => loc_storeN (ho := (by show OneAll [_, _, _, _, _, _, _, _, _, _, _, _, _, _, _]; infer_instance)) rfl rfl rfl) (by exact .cons (.inl rfl) (.nil)) ?_
          refine dq_end (rs := [_, _, _, _]) 0 rfl (fun _ => rfl) (.cons rfl (.nil)) rfl (fun b8 _ => ?_)
          dsimp only [outG, outM, List.map, List.set, id]
          refine run_seq ?_
          refine run_seq ?_
          refine run_region ?_
          refine run_op (loc_move rfl) rfl ?_
          first | refine runL_fact (s := 72) rfl (fun _ _ h => dSl_len h) (fun hlen9 => ?_) | skip
          refine run_op (loc_len rfl) rfl ?_
          refine run_op (loc_move rfl) rfl ?_
          refine run_nil ?_
          refine run_block ?_
          refine run_rowNil 98 1 fAs ?_
          refine run_rowNil 40 1 fR ?_
          refine run_cellsUp (kk := 12) (b := b8) (dVal (.slice none 0 0)) (dSlV (.slice none 0 0)) (.there (.there (.here))) rfl (fun J u h => ⟨h, _, _, _, h⟩) ?_
          refine run_cellsUp (kk := 13) (b := b8) (dVal (.slice none 0 0)) (dSlV (.slice none 0 0)) (.there (.there (.here))) rfl (fun J u h => ⟨h, _, _, _, h⟩) ?_
          refine run_front (.here) ?_
          refine run_front (.there (.here)) ?_
          refine run_front (.there (.there (.here))) ?_
          refine run_loopF (σ := Value × Value × Nat) (ks := [6, 10, 11, 14, 16, 73]) (.cons rfl (.cons rfl (.cons rfl (.cons rfl (.cons rfl (.cons rfl (.nil))))))) (fun q => [(74, dInt .i64 (q.2.2 : Nat))]) (fun q => [rCells b8 62 [dInt .i64 rd, dInt .i64 sc.kind, dInt .i64 sc.servers, dInt .i64 sc.degree, dInt .i64 sc.group, dInt .i64 hd.number, dInt .i64 hd.p, dInt .i64 hd.count, dInt .i64 hd.width, dInt .i64 hd.root, dInts rows, dQs (wqL sc hd.p hd.count rows t), dSlV q.1, dSlV q.2.1, dB False], rRow q.1 98 1 fAs (List.replicate q.2.2 (List.replicate sc.servers.toNat ⟨False, []⟩)), rRow q.2.1 40 1 fR (List.replicate q.2.2 (List.replicate sc.servers.toNat 0))]) (fun q => q.2.2 ≤ rows.length) (fun q => rows.length - q.2.2) ((.slice none 0 0, .slice none 0 0, 0)) (Nat.zero_le _) (.cons rfl (by first | exact fun _ _ h => h | exact d_int (by omega) | exact d_int (by simp) | exact d_intN (by omega) | exact d_any) .nil) (rfl) ?_
          intro q hq ih10
          have hla : (List.replicate q.2.2 (List.replicate sc.servers.toNat (⟨False, []⟩ : Ans))).length = q.2.2 := List.length_replicate
          have hlm : (List.replicate q.2.2 (List.replicate sc.servers.toNat (0 : Int))).length = q.2.2 := List.length_replicate
          refine run_seq ?_
          refine run_region ?_
          refine run_op (loc_lss rfl rfl) rfl ?_
          refine run_nil ?_
          refine run_seq ?_
          refine run_cond rfl (fun h11 => ?_) (fun h11 => ?_)
          ·
            refine run_skip ?_
            refine run_seq ?_
            refine run_block ?_
            refine run_seq ?_
            refine dr_start _ (.one (σ := Value) 6 (fun _ => True)) [⟨[(16, none)], [], none⟩,
                ⟨[(76, some (0, false))], [0], some (0, 0, false)⟩,
                ⟨[(6, none)], [], none⟩,
                ⟨[(78, some (2, false))], [2], none⟩,
                ⟨[(79, some (3, false)), (79, some (3, false))], [2, 3], none⟩,
                ⟨[(80, some (4, false))], [2, 3, 4], none⟩,
                ⟨[(77, some (1, false)), (81, some (5, false))], [0, 1, 2, 3, 4, 5], some (1, 0, true)⟩,
                ⟨[(16, none)], [0, 1, 2, 3, 4, 5, 6], none⟩,
                ⟨[(83, some (7, false)), (82, some (6, false))], [0, 1, 2, 3, 4, 5, 6, 7], some (0, 0, true)⟩] [_, _, _, _, _, _] _ rfl rfl ?_
            refine dq_pure rfl (fun s => .g rfl (.nil)) (fun s hs _ => loc_fieldAddrOwn rfl) (by exact .cons (.inr fun _ _ _ => rfl) (.nil)) ?_
            first | refine dq_read rfl (fun s => .op rfl (.nil)) rfl rfl (fun s hs _ hm => LocP.upV (loc_loadOwn1 rfl hm (by rfl))) (by exact .cons (.inr fun _ _ _ => rfl) (.nil)) ?_ | refine dq_read rfl (fun s => .op rfl (.nil)) rfl rfl (fun s hs _ hm => loc_loadOwn1 rfl hm (by rfl)) (by exact .cons (.inr fun _ _ _ => rfl) (.nil)) ?_
            refine dq_pure rfl (fun s => .g rfl (.nil)) (fun s hs _ => loc_fieldAddr rfl) (by exact .cons (.inr fun _ _ _ => rfl) (.nil)) ?_
            refine dq_pure rfl (fun s => .op rfl (.nil)) (fun s hs _ => loc_load1 rfl) (by exact .cons (.inr fun _ _ _ => rfl) (.nil)) ?_
            refine dq_pure rfl (fun s => .op rfl (.op rfl (.nil))) (fun s hs _ => loc_makeFrzN (m := sc.servers.toNat) rfl rfl (by omega) (by omega) (by omega) rfl (by decide) (by simp) cAns ⟨False, []⟩ (fun J vs h => ansUp h) rfl) (by exact .cons (.inr fun _ _ _ => rfl) (.nil)) ?_
            refine dq_pure rfl (fun s => .op rfl (.nil)) (fun s hs _ => loc_buildSlice rfl rfl (.one rfl (.nil)) rfl rfl) (by exact .cons (.inr fun _ _ _ => rfl) (.nil)) ?_
            refine dq_choose id (fun _ t => t) rfl (fun _ _ => ⟨rfl, id, trivial⟩) (fun s => .op rfl (.op rfl (.nil))) rfl rfl (fun s hs => LocM.rowV (loc_append1 _ rfl rfl rfl rfl (by first | omega | (unfold lenMax; omega) | assumption | (simp; omega) | (simp [lenMax]; omega)) (by first | omega | (unfold lenMax; omega) | assumption | (simp; omega) | (simp [lenMax]; omega)))) (by exact .cons (.inl rfl) (.nil)) ?_
            refine dq_pure rfl (fun s => .g rfl (.nil)) (fun s hs _ => loc_fieldAddrOwn rfl) (by exact .cons (.inl rfl) (.nil)) ?_
            refine dq_write0 rfl (fun s => .op rfl (.op rfl (.nil))) rfl rfl (fun s hs => loc_store1 rfl rfl rfl) (by exact .cons (.inl rfl) (.nil)) ?_
            refine dq_end (rs := [_, _, _, _, _, _]) (.bool true) rfl (fun _ => rfl) (.cons rfl (.nil)) rfl (fun v12 _ => ?_)
            dsimp only [outG, outM, List.map, List.set, id]
            refine dr_start _ (.one (σ := Value) 6 (fun _ => True)) [⟨[(16, none)], [], none⟩,
                ⟨[(84, some (0, false))], [0], some (0, 0, false)⟩,
                ⟨[(6, none)], [], none⟩,
                ⟨[(86, some (2, false))], [2], none⟩,
                ⟨[(87, some (3, false)), (87, some (3, false))], [2, 3], none⟩,
                ⟨[(88, some (4, false))], [2, 3, 4], none⟩,
                ⟨[(85, some (1, false)), (89, some (5, false))], [0, 1, 2, 3, 4, 5], some (2, 0, true)⟩,
                ⟨[(16, none)], [0, 1, 2, 3, 4, 5, 6], none⟩,
                ⟨[(91, some (7, false)), (90, some (6, false))], [0, 1, 2, 3, 4, 5, 6, 7], some (0, 0, true)⟩] [_, _, _, _, _, _] _ rfl rfl ?_
            refine dq_pure rfl (fun s => .g rfl (.nil)) (fun s hs _ => loc_fieldAddrOwn rfl) (by exact .cons (.inr fun _ _ _ => rfl) (.nil)) ?_
            first | refine dq_read rfl (fun s => .op rfl (.nil)) rfl rfl (fun s hs _ hm => LocP.upV (loc_loadOwn1 rfl hm (by rfl))) (by exact .cons (.inr fun _ _ _ => rfl) (.nil)) ?_ | refine dq_read rfl (fun s => .op rfl (.nil)) rfl rfl (fun s hs _ hm => loc_loadOwn1 rfl hm (by rfl)) (by exact .cons (.inr fun _ _ _ => rfl) (.nil)) ?_
            refine dq_pure rfl (fun s => .g rfl (.nil)) (fun s hs _ => loc_fieldAddr rfl) (by exact .cons (.inr fun _ _ _ => rfl) (.nil)) ?_
            refine dq_pure rfl (fun s => .op rfl (.nil)) (fun s hs _ => loc_load1 rfl) (by exact .cons (.inr fun _ _ _ => rfl) (.nil)) ?_
            refine dq_pure rfl (fun s => .op rfl (.op rfl (.nil))) (fun s hs _ => loc_makeFrz rfl rfl (by omega) (by omega) (fun x => dInt .i64 x) 0 rfl (by simp)) (by exact .cons (.inr fun _ _ _ => rfl) (.nil)) ?_
            refine dq_pure rfl (fun s => .op rfl (.nil)) (fun s hs _ => loc_buildSlice rfl rfl (.one rfl (.nil)) rfl rfl) (by exact .cons (.inr fun _ _ _ => rfl) (.nil)) ?_
            refine dq_choose id (fun _ t => t) rfl (fun _ _ => ⟨rfl, id, trivial⟩) (fun s => .op rfl (.op rfl (.nil))) rfl rfl (fun s hs => LocM.rowV (loc_append1 _ rfl rfl rfl rfl (by first | omega | (unfold lenMax; omega) | assumption | (simp; omega) | (simp [lenMax]; omega)) (by first | omega | (unfold lenMax; omega) | assumption | (simp; omega) | (simp [lenMax]; omega)))) (by exact .cons (.inl rfl) (.nil)) ?_
            refine dq_pure rfl (fun s => .g rfl (.nil)) (fun s hs _ => loc_fieldAddrOwn rfl) (by exact .cons (.inl rfl) (.nil)) ?_
            refine dq_write0 rfl (fun s => .op rfl (.op rfl (.nil))) rfl rfl (fun s hs => loc_store1 rfl rfl rfl) (by exact .cons (.inl rfl) (.nil)) ?_
            refine dq_end (rs := [_, _, _, _, _, _]) (.bool true) rfl (fun _ => rfl) (.cons rfl (.nil)) rfl (fun v13 _ => ?_)
            dsimp only [outG, outM, List.map, List.set, id]
            refine run_inBlock ?_
            refine run_region ?_
            first | refine run_op (loc_add rfl rfl (by first | omega | assumption)) rfl ?_ | refine run_op (loc_addW rfl rfl) rfl ?_
            refine run_op (loc_move rfl) rfl ?_
            refine run_nil ?_
            exact run_againF ih10 ((v12, v13, q.2.2 + 1)) (by simp only; omega) (by simp only; omega) (.cons rfl (by first | exact fun _ _ h => h | exact d_int (by omega) | exact d_int (by simp) | exact d_intN (by omega) | exact d_any) .nil) (.cons rfl (fun _ _ x => x) (.cons rfl (fun _ _ x => x) (.cons rfl (fun _ _ x => x) (.cons rfl (fun _ _ x => x) (.cons rfl (fun _ _ x => x) (.cons rfl (fun _ _ x => x) (.nil))))))) (by simp only [appR]; rw [List.replicate_succ', List.replicate_succ'])
          ·
            refine run_exit rfl ?_
            refine run_seq ?_
            first | refine run_freezeRowCellV (kk := 12) (.there (.here)) (.here) rfl ?_ | refine run_freezeRowCell (kk := 12) (.there (.here)) (.here) rfl ?_
            first | refine run_freezeRowCellV (kk := 13) (.there (.here)) (.here) rfl ?_ | refine run_freezeRowCell (kk := 13) (.there (.here)) (.here) rfl ?_
            refine dr_start _ (.none) [⟨[(16, none)], [], some (0, 0, false)⟩,
                ⟨[(14, none)], [], some (1, 0, false)⟩,
                ⟨[(10, none), (93, some (0, false))], [0], some (3, 0, true)⟩,
                ⟨[(11, none), (94, some (1, false))], [0, 1, 2], some (2, 0, true)⟩,
                ⟨[], [0, 1, 2, 3], none⟩] [_, _, _, _] _ rfl rfl ?_
            refine dq_read rfl (fun s => .g rfl (.nil)) rfl rfl (fun s hs _ hm => loc_loadOwnN rfl hm (by rfl)) (by exact .nil) ?_
            refine dq_read rfl (fun s => .g rfl (.nil)) rfl rfl (fun s hs _ hm => loc_loadOwnN rfl hm (by rfl)) (by exact .nil) ?_
            refine dq_write0 rfl (fun s => .g rfl (.op rfl (.nil))) rfl rfl (fun s hs => loc_storeN (ho := (by show OneAll [_, _, _, _, _, _, _, _, _, _, _, _, _, _, _]; infer_instance)) rfl rfl rfl) (by exact .nil) ?_
            refine dq_write0 rfl (fun s => .g rfl (.op rfl (.nil))) rfl rfl (fun s hs => loc_storeN (ho := (by show OneAll [_, _]; infer_instance)) rfl rfl rfl) (by exact .nil) ?_
            refine dq_pure rfl (fun s => .nil) (fun s hs _ => loc_assign rfl) (by exact .nil) ?_
            refine dq_end (rs := [_, _, _, _]) () rfl (fun _ => rfl) (.nil) rfl (fun _ _ => ?_)
            dsimp only [outG, outM, List.map, List.set, id]
            have hE : bgE rd sc hd rows t = 0 := by unfold bgE; rw [if_neg c1, if_neg (Classical.not_not.2 c2), if_neg c3]; exact c4
            refine run_retGP Try.func33 rfl (.cellN rfl (by first | exact .here | exact .there .here | exact .there (.there .here) | exact .there (.there (.there .here)) | exact .there (.there (.there (.there .here))) | exact .there (.there (.there (.there (.there .here))))) (by rfl) (.cellN rfl (by first | exact .here | exact .there .here | exact .there (.there .here) | exact .there (.there (.there .here)) | exact .there (.there (.there (.there .here))) | exact .there (.there (.there (.there (.there .here))))) (by rfl) (.tmp rfl (.nil)))) ?_ (fun _ _ h => inv_tail (inv_tail (inv_tail (inv_tail (h)))))
            exact d_tup3 (d_toRdr (t' := ⟨rd, sc, hd, rows, wqL sc hd.p hd.count rows t, List.replicate q.2.2 (List.replicate sc.servers.toNat ⟨False, []⟩), List.replicate q.2.2 (List.replicate sc.servers.toNat 0), False⟩) (by unfold bgR; rw [if_pos hE, show rows.length = q.2.2 by omega]) (fun _ _ h => h)) (d_toTape (by unfold bgT; rw [if_pos hE]) (fun _ _ h => h)) (d_int hE.symm)

theorem notes_spec (r : Rdr) (hr : r.queries.length ≤ 1000 ∧ ∀ q ∈ r.queries, q.length ≤ 1000 ∧ ∀ x ∈ q, x.length ≤ 100000) : SpecP Try.prog 34 [dRdr r] (dNts (notesN r.read r.head.number r.queries r.queries.length)) := by
  refine specP_of_body Try.func34 rfl rfl (fun I M => ?_)
  refine run_seq ?_
  refine run_region ?_
  refine run_op (loc_boxN rfl) rfl ?_
  refine run_op (loc_assign rfl) rfl ?_
  refine run_nil ?_
  refine run_seq ?_
  refine run_region ?_
  refine run_op (loc_assign rfl) rfl ?_
  refine run_nil ?_
  refine run_seq ?_
  refine run_seq ?_
  refine run_region ?_
  refine run_op (loc_fieldAddr rfl) rfl ?_
  refine run_op (loc_load1 rfl) rfl ?_
  first | refine runL_fact (s := 9) rfl (fun _ _ h => dSl_len h) (fun hlen1 => ?_) | skip
  refine run_op (loc_len rfl) rfl ?_
  refine run_op (loc_move rfl) rfl ?_
  refine run_nil ?_
  refine run_block ?_
  refine run_rowNil 68 8 cNte ?_
  refine run_loopF (σ := Value × Nat) (ks := [1, 9, 10]) (.cons rfl (.cons rfl (.cons rfl (.nil)))) (fun q => [(3, dVal q.1), (11, dInt .i64 (q.2 : Nat))]) (fun q => [rRow q.1 68 8 cNte (notesN r.read r.head.number r.queries q.2)]) (fun q => q.2 ≤ r.queries.length) (fun q => r.queries.length - q.2) ((.slice none 0 0, 0)) (Nat.zero_le _) (.cons rfl (by first | exact fun _ _ h => h | exact d_int (by omega) | exact d_int (by simp) | exact d_intN (by omega) | exact d_any) (.cons rfl (by first | exact fun _ _ h => h | exact d_int (by omega) | exact d_int (by simp) | exact d_intN (by omega) | exact d_any) .nil)) (rfl) ?_
  intro q hq ih2
  have hnl := notesN_le (rd := r.read) (ver := r.head.number) (fun x hx => (hr.2 x hx).1) (k := q.2) hq
  refine run_seq ?_
  refine run_region ?_
  refine run_op (loc_lss rfl rfl) rfl ?_
  refine run_nil ?_
  refine run_seq ?_
  refine run_cond rfl (fun h3 => ?_) (fun h3 => ?_)
  ·
    refine run_skip ?_
    refine run_seq ?_
    refine run_block ?_
    refine run_seq ?_
    refine run_region ?_
    refine run_op (loc_move rfl) rfl ?_
    first | refine run_op (loc_index rfl rfl (by first | omega | assumption)) rfl ?_ | refine run_op (loc_indexI rfl rfl (by first | omega | assumption)) rfl ?_
    refine run_op (loc_load1 rfl) rfl ?_
    refine run_op (loc_assign rfl) rfl ?_
    refine run_op (loc_assign rfl) rfl ?_
    refine run_nil ?_
    refine run_seq ?_
    refine run_region ?_
    refine run_op (loc_move rfl) rfl ?_
    first | refine runL_fact (s := 16) rfl (fun _ _ h => dSl_len h) (fun hlen4 => ?_) | skip
    refine run_op (loc_len rfl) rfl ?_
    refine run_op (loc_move rfl) rfl ?_
    refine run_nil ?_
    refine run_block ?_
    have hqm := hr.2 _ (getD_mem (xs := r.queries) (k := q.2) (by omega))
    have hqm1 := hqm.1
    refine run_loopF (σ := Value × Nat) (ks := [1, 4, 9, 10, 11, 16, 17]) (.cons rfl (.cons rfl (.cons rfl (.cons rfl (.cons rfl (.cons rfl (.cons rfl (.nil)))))))) (fun u => [(3, dVal u.1), (18, dInt .i64 (u.2 : Nat))]) (fun u => [rRow u.1 68 8 cNte (notesN r.read r.head.number r.queries q.2 ++ probeN r.read r.head.number q.2 (r.queries[q.2]?.getD default) u.2)]) (fun u => u.2 ≤ (r.queries[q.2]?.getD default).length) (fun u => (r.queries[q.2]?.getD default).length - u.2) ((q.1, 0)) (Nat.zero_le _) (.cons rfl (by first | exact fun _ _ h => h | exact d_int (by omega) | exact d_int (by simp) | exact d_intN (by omega) | exact d_any) (.cons rfl (by first | exact fun _ _ h => h | exact d_int (by omega) | exact d_int (by simp) | exact d_intN (by omega) | exact d_any) .nil)) (by simp only [appR]; rw [show probeN r.read r.head.number q.2 (r.queries[q.2]?.getD default) 0 = [] from rfl, List.append_nil]) ?_
    intro u hu ih5
    have hpl := probeN_len r.read r.head.number q.2 (r.queries[q.2]?.getD default) u.2
    have hal : (notesN r.read r.head.number r.queries q.2 ++ probeN r.read r.head.number q.2 (r.queries[q.2]?.getD default) u.2).length ≤ 2000000 := by rw [List.length_append]; omega
    refine run_seq ?_
    refine run_region ?_
    refine run_op (loc_lss rfl rfl) rfl ?_
    refine run_nil ?_
    refine run_seq ?_
    refine run_cond rfl (fun h6 => ?_) (fun h6 => ?_)
    ·
      have hxl := hqm.2 _ (getD_mem (xs := r.queries[q.2]?.getD default) (k := u.2) (by omega))
      refine run_skip ?_
      refine run_seq ?_
      refine run_block ?_
      refine run_seq ?_
      refine run_region ?_
      refine run_op (loc_move rfl) rfl ?_
      first | refine run_op (loc_index rfl rfl (by first | omega | assumption)) rfl ?_ | refine run_op (loc_indexI rfl rfl (by first | omega | assumption)) rfl ?_
      refine run_op (loc_load1 rfl) rfl ?_
      refine run_op (loc_assign rfl) rfl ?_
      refine run_op (loc_assign rfl) rfl ?_
      refine run_nil ?_
      refine dr_start _ (.one (σ := Value) 13 (fun _ => True)) [⟨[(3, none)], [], none⟩,
          ⟨[(1, none)], [], none⟩,
          ⟨[(24, some (1, false))], [1], none⟩,
          ⟨[(4, none)], [], none⟩,
          ⟨[(6, none)], [], none⟩,
          ⟨[(27, some (4, false))], [4], none⟩,
          ⟨[(1, none)], [], none⟩,
          ⟨[(29, some (6, false))], [6], none⟩,
          ⟨[(30, some (7, false))], [6, 7], none⟩,
          ⟨[(7, none)], [], none⟩,
          ⟨[(32, some (9, false))], [9], none⟩,
          ⟨[(25, some (2, false)), (26, some (3, false)), (28, some (5, false)), (31, some (8, false)), (33, some (10, false))], [1, 2, 3, 4, 5, 6, 7, 8, 9, 10], none⟩,
          ⟨[(34, some (11, false))], [1, 2, 3, 4, 5, 6, 7, 8, 9, 10, 11], none⟩,
          ⟨[(23, some (0, false)), (35, some (12, false))], [0, 1, 2, 3, 4, 5, 6, 7, 8, 9, 10, 11, 12], some (0, 0, true)⟩,
          ⟨[(36, some (13, false))], [0, 1, 2, 3, 4, 5, 6, 7, 8, 9, 10, 11, 12, 13], none⟩] [_] _ rfl rfl ?_
      refine dq_pure rfl (fun s => .g rfl (.nil)) (fun s hs _ => loc_move rfl) (by exact .cons (.inr fun _ _ _ => rfl) (.nil)) ?_
      refine dq_pure rfl (fun s => .g rfl (.nil)) (fun s hs _ => loc_fieldAddr rfl) (by exact .cons (.inr fun _ _ _ => rfl) (.nil)) ?_
      refine dq_pure rfl (fun s => .op rfl (.nil)) (fun s hs _ => loc_load1 rfl) (by exact .cons (.inr fun _ _ _ => rfl) (.nil)) ?_
      refine dq_pure rfl (fun s => .g rfl (.nil)) (fun s hs _ => loc_move rfl) (by exact .cons (.inr fun _ _ _ => rfl) (.nil)) ?_
      refine dq_pure rfl (fun s => .g rfl (.nil)) (fun s hs _ => loc_move rfl) (by exact .cons (.inr fun _ _ _ => rfl) (.nil)) ?_
      first | refine dq_pure rfl (fun s => .op rfl (.nil)) (fun s hs _ => loc_add rfl rfl (by first | omega | assumption)) (by exact .cons (.inr fun _ _ _ => rfl) (.nil)) ?_ | refine dq_pure rfl (fun s => .op rfl (.nil)) (fun s hs _ => loc_addW rfl rfl) (by exact .cons (.inr fun _ _ _ => rfl) (.nil)) ?_
      refine dq_pure rfl (fun s => .g rfl (.nil)) (fun s hs _ => loc_fieldAddr rfl) (by exact .cons (.inr fun _ _ _ => rfl) (.nil)) ?_
      refine dq_pure rfl (fun s => .op rfl (.nil)) (fun s hs _ => loc_fieldAddr rfl) (by exact .cons (.inr fun _ _ _ => rfl) (.nil)) ?_
      refine dq_pure rfl (fun s => .op rfl (.nil)) (fun s hs _ => loc_load1 rfl) (by exact .cons (.inr fun _ _ _ => rfl) (.nil)) ?_
      refine dq_pure rfl (fun s => .g rfl (.nil)) (fun s hs _ => loc_move rfl) (by exact .cons (.inr fun _ _ _ => rfl) (.nil)) ?_
      refine dq_pure rfl (fun s => .op rfl (.nil)) (fun s hs _ => loc_call (cloneI_spec _ (by omega)) rfl) (by exact .cons (.inr fun _ _ _ => rfl) (.nil)) ?_
      refine dq_pure rfl (fun s => .op rfl (.op rfl (.op rfl (.op rfl (.op rfl (.nil)))))) (fun s hs _ => LocP.imp (d' := dAgg (cNte ⟨1, r.read, q.2, (u.2 : Int) + 1, r.head.number, (r.queries[q.2]?.getD default)[u.2]?.getD default, [], 0⟩)) (loc_build (.one rfl rfl rfl (.one rfl rfl rfl (.one rfl rfl rfl (.one rfl rfl rfl (.one rfl rfl rfl (.one rfl rfl rfl (.nil)))))))) (by exact d_aggU (.cons (fun _ _ h => h) (.cons (fun _ _ h => h) (.cons (fun _ _ h => h) (.cons (fun _ _ h => h) (.cons (fun _ _ h => h) (.cons (fun _ _ h => h) (.cons d_nil (.cons (fun _ _ h => h) .nil)))))))))) (by exact .cons (.inr fun _ _ _ => rfl) (.nil)) ?_
      refine dq_pure rfl (fun s => .op rfl (.nil)) (fun s hs _ => loc_buildSlice rfl rfl (.agg rfl (.nil)) rfl rfl) (by exact .cons (.inr fun _ _ _ => rfl) (.nil)) ?_
      refine dq_choose id (fun _ t => t) rfl (fun _ _ => ⟨rfl, id, trivial⟩) (fun s => .op rfl (.op rfl (.nil))) rfl rfl (fun s hs => loc_append1 _ rfl rfl rfl rfl (by first | omega | (unfold lenMax; omega) | assumption | (simp; omega) | (simp [lenMax]; omega)) (by first | omega | (unfold lenMax; omega) | assumption | (simp; omega) | (simp [lenMax]; omega))) (by exact .cons (.inl rfl) (.nil)) ?_
      refine dq_pure rfl (fun s => .op rfl (.nil)) (fun s hs _ => loc_assign rfl) (by exact .cons (.inl rfl) (.nil)) ?_
      refine dq_end (rs := [_]) (.bool true) rfl (fun _ => rfl) (.cons rfl (.nil)) rfl (fun v7 _ => ?_)
      dsimp only [outG, outM, List.map, List.set, id]
      refine run_inBlock ?_
      refine run_region ?_
      first | refine run_op (loc_add rfl rfl (by first | omega | assumption)) rfl ?_ | refine run_op (loc_addW rfl rfl) rfl ?_
      refine run_op (loc_move rfl) rfl ?_
      refine run_nil ?_
      exact run_againF ih5 ((v7, u.2 + 1)) (by simp only; omega) (by simp only; omega) (.cons rfl (by first | exact fun _ _ h => h | exact d_int (by omega) | exact d_int (by simp) | exact d_intN (by omega) | exact d_any) (.cons rfl (by first | exact fun _ _ h => h | exact d_int (by omega) | exact d_int (by simp) | exact d_intN (by omega) | exact d_any) .nil)) (.cons rfl (fun _ _ x => x) (.cons rfl (fun _ _ x => x) (.cons rfl (fun _ _ x => x) (.cons rfl (fun _ _ x => x) (.cons rfl (fun _ _ x => x) (.cons rfl (fun _ _ x => x) (.cons rfl (fun _ _ x => x) (.nil)))))))) (by simp only [appR]; rw [probeN_snoc, ← List.append_assoc])
    ·
      refine run_exit rfl ?_
      refine run_inBlock ?_
      refine run_region ?_
      first | refine run_op (loc_add rfl rfl (by first | omega | assumption)) rfl ?_ | refine run_op (loc_addW rfl rfl) rfl ?_
      refine run_op (loc_move rfl) rfl ?_
      refine run_nil ?_
      exact run_againF ih2 ((u.1, q.2 + 1)) (by simp only; omega) (by simp only; omega) (.cons rfl (by first | exact fun _ _ h => h | exact d_int (by omega) | exact d_int (by simp) | exact d_intN (by omega) | exact d_any) (.cons rfl (by first | exact fun _ _ h => h | exact d_int (by omega) | exact d_int (by simp) | exact d_intN (by omega) | exact d_any) .nil)) (.cons rfl (fun _ _ x => x) (.cons rfl (fun _ _ x => x) (.cons rfl (fun _ _ x => x) (.nil)))) (by simp only [appR]; rw [notesN_snoc, show u.2 = (r.queries[q.2]?.getD default).length by omega])
  ·
    refine run_exit rfl ?_
    refine run_seq ?_
    refine run_freezeRow (s := 3) rfl (.here) ?_
    refine run_region ?_
    refine run_op (loc_move rfl) rfl ?_
    refine run_op (loc_assign rfl) rfl ?_
    refine run_nil ?_
    refine run_retP Try.func34 rfl rfl ?_
    exact d_sl (by rw [show q.2 = r.queries.length by omega])

theorem silent_spec (r : Rdr) (k : Int) : SpecP Try.prog 50 [dRdr r, dInt .i64 k] (dInts (silR r k)) := by
  refine specP_of_body Try.func50 rfl rfl (fun I M => ?_)
  refine run_seq ?_
  refine run_region ?_
  refine run_op (loc_boxN rfl) rfl ?_
  refine run_op (loc_assign rfl) rfl ?_
  refine run_nil ?_
  refine run_seq ?_
  refine run_region ?_
  refine run_op (loc_assign rfl) rfl ?_
  refine run_nil ?_
  refine run_seq ?_
  refine run_seq ?_
  refine run_region ?_
  refine run_op (loc_move rfl) rfl ?_
  refine run_op (loc_lss rfl rfl) rfl ?_
  refine run_op (loc_move rfl) rfl ?_
  refine run_gfirst rfl rfl (by first | exact guard_true _ | exact guard_false _ | exact guard_if (guard_true _) | exact guard_if (guard_false _)) (fun hg => loc_move rfl) rfl ?_
  refine run_gop rfl rfl (by first | exact guard_true _ | exact guard_false _ | exact guard_if (guard_true _) | exact guard_if (guard_false _)) (fun hg => loc_fieldAddr rfl) rfl ?_
  refine run_gop rfl rfl (by first | exact guard_true _ | exact guard_false _ | exact guard_if (guard_true _) | exact guard_if (guard_false _)) (fun hg => loc_load1 rfl) rfl ?_
  refine run_gop rfl rfl (by first | exact guard_true _ | exact guard_false _ | exact guard_if (guard_true _) | exact guard_if (guard_false _)) (fun hg => loc_len rfl) rfl ?_
  refine run_gop rfl rfl (by first | exact guard_true _ | exact guard_false _ | exact guard_if (guard_true _) | exact guard_if (guard_false _)) (fun hg => loc_geq rfl rfl) rfl ?_
  refine run_gleave ?_
  refine run_op (loc_or rfl rfl) rfl ?_
  refine run_nil ?_
  refine run_cond rfl (fun h1 => ?_) (fun h1 => ?_)
  ·
    have c1 := h1
    refine run_seq ?_
    refine run_region ?_
    refine run_op (loc_move rfl) rfl ?_
    refine run_op (loc_assign rfl) rfl ?_
    refine run_nil ?_
    refine run_retP Try.func50 rfl rfl ?_
    exact d_toInts (by unfold silR; rw [if_pos c1]) d_nil
  ·
    have c1 := h1
    refine run_skip ?_
    refine run_seq ?_
    refine run_seq ?_
    refine run_region ?_
    refine run_op (loc_fieldAddr rfl) rfl ?_
    refine run_op (loc_load1 rfl) rfl ?_
    refine run_op (loc_move rfl) rfl ?_
    first | refine run_op (loc_index rfl rfl (by first | omega | assumption)) rfl ?_ | refine run_op (loc_indexI rfl rfl (by first | omega | assumption)) rfl ?_
    refine run_op (loc_load1 rfl) rfl ?_
    first | refine runL_fact (s := 22) rfl (fun _ _ h => dSl_len h) (fun hlen2 => ?_) | skip
    refine run_op (loc_len rfl) rfl ?_
    refine run_op (loc_move rfl) rfl ?_
    refine run_nil ?_
    refine run_block ?_
    refine run_rowNil 3 1 fI ?_
    refine run_loopF (σ := Value × Nat) (ks := [22, 23]) (.cons rfl (.cons rfl (.nil))) (fun q => [(5, dVal q.1), (24, dInt .i64 (q.2 : Nat))]) (fun q => [rRow q.1 3 1 fI (silN (r.answers[k.toNat]?.getD default) q.2)]) (fun q => q.2 ≤ (r.answers[k.toNat]?.getD default).length) (fun q => (r.answers[k.toNat]?.getD default).length - q.2) ((.slice none 0 0, 0)) (Nat.zero_le _) (.cons rfl (by first | exact fun _ _ h => h | exact d_int (by omega) | exact d_int (by simp) | exact d_intN (by omega) | exact d_any) (.cons rfl (by first | exact fun _ _ h => h | exact d_int (by omega) | exact d_int (by simp) | exact d_intN (by omega) | exact d_any) .nil)) (rfl) ?_
    intro q hq ih3
    have hsl := silN_len (r.answers[k.toNat]?.getD default) q.2
    refine run_seq ?_
    refine run_region ?_
    refine run_op (loc_lss rfl rfl) rfl ?_
    refine run_nil ?_
    refine run_seq ?_
    refine run_cond rfl (fun h4 => ?_) (fun h4 => ?_)
    ·
      refine run_skip ?_
      refine run_seq ?_
      refine run_joinF (σ := Value) (ks := [22, 23, 24]) _ (.cons rfl (.cons rfl (.cons rfl (.nil)))) (fun u => [(5, dVal u)]) (fun u => [rRow u 3 1 fI (silN (r.answers[k.toNat]?.getD default) (q.2 + 1))]) (fun u => True) ⟨[_], rfl⟩ (fun j5 => ?_) ?_
      ·
        refine run_block ?_
        refine run_seq ?_
        refine run_region ?_
        refine run_op (loc_move rfl) rfl ?_
        first | refine run_op (loc_index rfl rfl (by first | omega | assumption)) rfl ?_ | refine run_op (loc_indexI rfl rfl (by first | omega | assumption)) rfl ?_
        refine run_op (loc_loadN rfl rfl) rfl ?_
        refine run_new (loc_allocOwn (by simp)) rfl (fun b6 _ => ?_)
        refine run_op (loc_assign rfl) rfl ?_
        refine run_storeN (ho := (by show OneAll [_, _]; infer_instance)) rfl rfl (.here) (by rfl) ?_
        refine run_nil ?_
        refine run_seq ?_
        refine run_region ?_
        refine run_op (loc_fieldAddrOwn rfl) rfl ?_
        refine run_op (loc_loadOwn1 rfl (.here) (by rfl)) rfl ?_
        refine run_op (loc_not rfl) rfl ?_
        refine run_nil ?_
        refine run_cond rfl (fun h7 => ?_) (fun h7 => ?_)
        ·
          have c4 := h7
          refine run_region ?_
          refine run_op (loc_move rfl) rfl ?_
          refine run_op (loc_move rfl) rfl ?_
          first | refine run_op (loc_add rfl rfl (by first | omega | assumption)) rfl ?_ | refine run_op (loc_addW rfl rfl) rfl ?_
          refine run_op (loc_buildSlice rfl rfl (.one rfl (.nil)) rfl rfl) rfl ?_
          refine run_append1 rfl (.there (.here)) rfl (by rfl) (by rfl) (by first | omega | (unfold lenMax; omega) | assumption | (simp; omega) | (simp [lenMax]; omega)) (by first | omega | (unfold lenMax; omega) | assumption | (simp; omega) | (simp [lenMax]; omega)) rfl (fun v8 => ?_)
          refine run_op (loc_assign rfl) rfl ?_
          refine run_nil ?_
          refine run_inBlock ?_
          refine run_drop (.cons _ (.refl _)) ?_
          exact run_atF j5 (v8) (trivial) (by simp only [appR]; rw [silN_snoc, if_neg c4]) (.cons rfl (by first | exact fun _ _ h => h | exact d_int (by omega) | exact d_int (by simp) | exact d_intN (by omega) | exact d_any) .nil) (.cons rfl (fun _ _ x => x) (.cons rfl (fun _ _ x => x) (.cons rfl (fun _ _ x => x) (.nil))))
        ·
          have c4 := Classical.not_not.1 h7
          refine run_skip ?_
          refine run_inBlock ?_
          refine run_drop (.cons _ (.refl _)) ?_
          exact run_atF j5 (q.1) (trivial) (by simp only [appR]; rw [silN_snoc, if_pos c4]) (.cons rfl (by first | exact fun _ _ h => h | exact d_int (by omega) | exact d_int (by simp) | exact d_intN (by omega) | exact d_any) .nil) (.cons rfl (fun _ _ x => x) (.cons rfl (fun _ _ x => x) (.cons rfl (fun _ _ x => x) (.nil))))
      intro u hu
      refine run_region ?_
      first | refine run_op (loc_add rfl rfl (by first | omega | assumption)) rfl ?_ | refine run_op (loc_addW rfl rfl) rfl ?_
      refine run_op (loc_move rfl) rfl ?_
      refine run_nil ?_
      exact run_againF ih3 ((u, q.2 + 1)) (by simp only; omega) (by simp only; omega) (.cons rfl (by first | exact fun _ _ h => h | exact d_int (by omega) | exact d_int (by simp) | exact d_intN (by omega) | exact d_any) (.cons rfl (by first | exact fun _ _ h => h | exact d_int (by omega) | exact d_int (by simp) | exact d_intN (by omega) | exact d_any) .nil)) (.cons rfl (fun _ _ x => x) (.cons rfl (fun _ _ x => x) (.nil))) (rfl)
    ·
      refine run_exit rfl ?_
      refine run_seq ?_
      refine run_freezeRow (s := 5) rfl (.here) ?_
      refine run_region ?_
      refine run_op (loc_move rfl) rfl ?_
      refine run_op (loc_assign rfl) rfl ?_
      refine run_nil ?_
      refine run_retP Try.func50 rfl rfl ?_
      exact d_toInts (by unfold silR; rw [if_neg c1, show (r.answers[k.toNat]?.getD default).length = q.2 by omega]) (fun _ _ h => h)

end Go.Q

namespace Go.Q
open Classical

theorem units_bd {s : Schm} {n : Int} (hs : shapeS s) (hn : 1 ≤ n ∧ n ≤ 1024) : 0 ≤ unitsS s n ∧ unitsS s n ≤ 1024 := by
  rw [units_ok hs hn]
  split
  · have := grp_bd hn (g := s.group) (by unfold shapeS at hs; omega); omega
  · omega
theorem bg_ok {s : Schm} {hd : Hd} {rows : List Int} {t : Tape} {rd : Int} (hv : validS s hd.p) (hrd : 0 ≤ rd) (hw : okW hd.count rows) (hwd : 1 ≤ hd.width ∧ hd.width ≤ 64) (hk : okTape t) (hd0 : drawE t hd.p ((rows.length : Nat) * limN s hd.count) = 0) :
    bgE rd s hd rows t = 0 ∧ bgR rd s hd rows t = ⟨rd, s, hd, rows, qsL s hd.p hd.count rows t, List.replicate rows.length (List.replicate s.servers.toNat ⟨False, []⟩), List.replicate rows.length (List.replicate s.servers.toNat 0), False⟩ ∧ bgT rd s hd rows t = qsT s hd.p hd.count rows t := by
  obtain ⟨e1, e2, e3⟩ := wq_ok hv hw hk hd0
  have e : bgE rd s hd rows t = 0 := by unfold bgE; rw [if_neg (by omega), if_neg (Classical.not_not.2 hv), if_neg (by rintro (h | h | h); (· exact h hw); (· omega); (· omega))]; exact e1
  exact ⟨e, by unfold bgR; rw [if_pos e, e2], by unfold bgT; rw [if_pos e, e3]⟩
theorem die_bg {s : Schm} {p n k rd : Int} {hd : Hd} {rows : List Int} {t : Tape} (hs : dieS s) (hp : dieP p) (h1 : hd.p = p) (h2 : hd.count = n) (hwd : 1 ≤ hd.width ∧ hd.width ≤ 64) (hn : 1 ≤ n ∧ n ≤ 5) (hr : ∀ r ∈ rows, -1 ≤ r ∧ r < n) (hl : (rows.length : Int) = k) (hk : 1 ≤ k ∧ k ≤ 3) (ht : dieTp (wlimL s p n k) t) (hrd : 0 ≤ rd) :
    bgE rd s hd rows t = 0 ∧ (bgT rd s hd rows t).at' = k * limN s n ∧ (bgR rd s hd rows t).read = rd ∧ (bgR rd s hd rows t).head = hd ∧ ((bgR rd s hd rows t).queries.length : Int) = k ∧ ∀ q ∈ (bgR rd s hd rows t).queries, (q.length : Int) = s.servers ∧ ∀ x ∈ q, (x.length : Int) = unitsS s n := by
  subst h1 h2
  have hv := die_valid hs hp
  obtain ⟨a1, a2, a3, a4⟩ := die_wish hs hp hn hr (by omega) hl.symm ht
  obtain ⟨b1, b2, b3⟩ := bg_ok (rd := rd) hv hrd a1 hwd a3 a2
  have hq := qs_ok (s := s) (p := hd.p) (n := hd.count) hv (by omega) a3 hr a2
  rw [b2, b3]
  refine ⟨b1, ?_, rfl, rfl, ?_, hq.2.2.2⟩
  · rw [hq.2.2.1, a4, hl]; omega
  · show ((qsL s hd.p hd.count rows t).length : Int) = k
    rw [qsL_len]; exact hl
theorem notes_facts {rd ver S U : Int} {qs : List (List (List Int))} (hS : 1 ≤ S) (hq : ∀ q ∈ qs, (q.length : Int) = S ∧ ∀ x ∈ q, (x.length : Int) = U) :
    ((notesN rd ver qs qs.length).length : Int) = (qs.length : Int) * S ∧ ∀ i : Nat, i < (notesN rd ver qs qs.length).length →
      ((notesN rd ver qs qs.length)[i]?.getD default).kind = 1 ∧ ((notesN rd ver qs qs.length)[i]?.getD default).read = rd ∧ ((notesN rd ver qs qs.length)[i]?.getD default).probe = (i : Int) / S ∧ ((notesN rd ver qs qs.length)[i]?.getD default).server = (i : Int) % S + 1 ∧
      ((notesN rd ver qs qs.length)[i]?.getD default).version = ver ∧ (((notesN rd ver qs qs.length)[i]?.getD default).query.length : Int) = U ∧ ((notesN rd ver qs qs.length)[i]?.getD default).values = [] := by
  obtain ⟨m, rfl⟩ : ∃ m : Nat, S = m := ⟨S.toNat, by omega⟩
  have hm : ∀ q ∈ qs, q.length = m := fun q h => by have := (hq q h).1; omega
  have hl := notesN_len (rd := rd) (ver := ver) hm (Nat.le_refl qs.length)
  refine ⟨by rw [hl]; simp, fun i hi => ?_⟩
  rw [hl] at hi
  rw [notesN_get hm (by omega) (Nat.le_refl _) hi]
  have hd : i / m < qs.length := by rw [Nat.div_lt_iff_lt_mul (by omega)]; exact hi
  have hqm := getD_mem (xs := qs) hd
  have hr : i % m < (qs[i / m]?.getD default).length := by rw [hm _ hqm]; exact Nat.mod_lt _ (by omega)
  refine ⟨rfl, rfl, by simp, by simp, rfl, (hq _ hqm).2 _ (getD_mem hr), rfl⟩
theorem silN_all {m : Nat} : ∀ k, k ≤ m → (silN (List.replicate m ⟨False, []⟩) k).length = k
  | 0, _ => by simp [silN]
  | k + 1, h => by
    have e : ((List.replicate m (⟨False, []⟩ : Ans))[k]?.getD default).known = False := by rw [List.getElem?_replicate, if_pos (by omega)]; rfl
    rw [silN_snoc, if_neg (by rw [e]; exact id), List.length_append, silN_all k (by omega)]; rfl
end Go.Q

namespace Go.Q
open Go.Proofs

open Classical
def egR : Schm := ⟨1, 3, 0, 0⟩
def egH : Hd := ⟨4, 7, 2, 1, 0⟩
def egT : Tape := ⟨List.replicate (8 : Int).toNat 0, 0⟩
theorem egR_shape : shapeS egR := (die1 (n := 3) (by omega)).1
theorem egR_valid : validS egR 7 := ⟨egR_shape, okP_7, .inl rfl⟩
theorem egR_draw : okTape egT ∧ drawE egT 7 ((2 : Nat) * limN egR 2) = 0 := by
  have h1 : dieTp (List.replicate 8 7) egT := by
    refine ⟨rfl, rfl, fun j hj => ?_⟩
    rw [List.length_replicate] at hj
    have e : egT.numbers = List.replicate 8 0 := rfl
    rw [e, List.getElem?_replicate, if_pos hj, List.getElem?_replicate, if_pos hj]
    exact ⟨Int.le_refl _, by show (0 : Int) < 7; omega⟩
  exact die_draw (p := 7) (m := 8) okP_7 (by omega) h1
theorem egR_bg : bgE 3 egR egH [1, -1] egT = 0 ∧ (bgR 3 egR egH [1, -1] egT).read = 3 ∧ (bgR 3 egR egH [1, -1] egT).queries.length = 2 ∧ (∀ q ∈ (bgR 3 egR egH [1, -1] egT).queries, (q.length : Int) = 3 ∧ ∀ x ∈ q, (x.length : Int) = unitsS egR 2) ∧ (bgR 3 egR egH [1, -1] egT).answers = List.replicate 2 (List.replicate 3 ⟨False, []⟩) := by
  have hw : okW egH.count [1, -1] := ⟨by unfold egH; simp only; omega, by simp, fun r h => by simp only [List.mem_cons, List.not_mem_nil, or_false] at h; unfold egH; simp only; rcases h with rfl | rfl <;> omega⟩
  obtain ⟨b1, b2, b3⟩ := bg_ok (s := egR) (hd := egH) (rows := [1, -1]) (t := egT) (rd := 3) egR_valid (by omega) hw (by unfold egH; simp only; omega) egR_draw.1 egR_draw.2
  have hq := qs_ok (s := egR) (p := 7) (n := 2) (rows := [1, -1]) egR_valid (by omega) egR_draw.1 (fun r h => by simp only [List.mem_cons, List.not_mem_nil, or_false] at h; rcases h with rfl | rfl <;> omega) egR_draw.2
  rw [b2]
  refine ⟨b1, rfl, ?_, hq.2.2.2, rfl⟩
  show (qsL egR 7 2 [1, -1] egT).length = 2
  rw [qsL_len]; rfl
theorem sane32_spec  : SpecP Try.prog 26 [] (dB True) := by
  have hb := egR_bg
  have hn := notes_facts (rd := (bgR 3 egR egH [1, -1] egT).read) (ver := (bgR 3 egR egH [1, -1] egT).head.number) (S := 3) (U := unitsS egR 2) (by omega) hb.2.2.2.1
  have hu := units_bd (n := 2) egR_shape (by omega)
  have hq2 := hb.2.2.1
  have hr : (bgR 3 egR egH [1, -1] egT).queries.length ≤ 1000 ∧ ∀ q ∈ (bgR 3 egR egH [1, -1] egT).queries, q.length ≤ 1000 ∧ ∀ x ∈ q, x.length ≤ 100000 := ⟨by omega, fun q h => by
    obtain ⟨h5, h6⟩ := hb.2.2.2.1 q h
    exact ⟨by omega, fun x hx => by have := h6 x hx; omega⟩⟩
  have hl := hn.1
  have hl6 : (notesN (bgR 3 egR egH [1, -1] egT).read (bgR 3 egR egH [1, -1] egT).head.number (bgR 3 egR egH [1, -1] egT).queries (bgR 3 egR egH [1, -1] egT).queries.length).length = 6 := by rw [hq2] at hl; omega
  have h1 : ((notesN (bgR 3 egR egH [1, -1] egT).read (bgR 3 egR egH [1, -1] egT).head.number (bgR 3 egR egH [1, -1] egT).queries (bgR 3 egR egH [1, -1] egT).queries.length)[0]?.getD default).read = 3 := by rw [(hn.2 0 (by omega)).2.1]; exact hb.2.1
  have h2 : ((notesN (bgR 3 egR egH [1, -1] egT).read (bgR 3 egR egH [1, -1] egT).head.number (bgR 3 egR egH [1, -1] egT).queries (bgR 3 egR egH [1, -1] egT).queries.length)[5]?.getD default).server = 3 := by rw [(hn.2 5 (by omega)).2.2.2.1]; rfl
  have h3 : ((notesN (bgR 3 egR egH [1, -1] egT).read (bgR 3 egR egH [1, -1] egT).head.number (bgR 3 egR egH [1, -1] egT).queries (bgR 3 egR egH [1, -1] egT).queries.length)[5]?.getD default).probe = 1 := by rw [(hn.2 5 (by omega)).2.2.1]; rfl
  have h4 : ((silR (bgR 3 egR egH [1, -1] egT) 1).length : Int) = 3 := by
    have e : silR (bgR 3 egR egH [1, -1] egT) 1 = silN (List.replicate 3 ⟨False, []⟩) 3 := by unfold silR; rw [hb.2.2.2.2, if_neg (by simp)]; rfl
    rw [e, silN_all 3 (by omega)]; rfl
  refine specP_of_body Try.func26 rfl rfl (fun I M => ?_)
  refine run_seq ?_
  refine run_region ?_
  refine run_op (loc_assign rfl) rfl ?_
  refine run_nil ?_
  refine run_seq ?_
  refine run_region ?_
  refine run_op (loc_build (.one rfl rfl rfl (.one rfl rfl rfl (.one rfl rfl rfl (.one rfl rfl rfl (.nil)))))) rfl ?_
  refine run_new (loc_allocOwn (by simp)) rfl (fun b1 _ => ?_)
  refine run_storeN (ho := (by show OneAll [_, _, _, _, _]; infer_instance)) rfl rfl (.here) (by rfl) ?_
  refine run_nil ?_
  refine run_seq ?_
  refine run_addNone ?_
  refine run_addNone ?_
  refine dr_start _ (.two (τ1 := Nat) (τ2 := Nat) 10 11 (fun _ => True) (fun _ => True)) [⟨[], [], none⟩,
      ⟨[(1, none)], [], some (2, 0, false)⟩,
      ⟨[], [], none⟩,
      ⟨[], [], none⟩,
      ⟨[(11, some (3, false))], [3], none⟩,
      ⟨[(8, some (0, false)), (9, some (1, false)), (10, some (2, false)), (12, some (4, false))], [0, 1, 2, 3, 4], none⟩,
      ⟨[(13, some (5, false))], [0, 1, 2, 3, 4, 5], none⟩,
      ⟨[(7, some (6, false))], [0, 1, 2, 3, 4, 5, 6], none⟩,
      ⟨[(7, some (6, false))], [0, 1, 2, 3, 4, 5, 6], none⟩,
      ⟨[(7, some (6, false))], [0, 1, 2, 3, 4, 5, 6], none⟩,
      ⟨[], [], some (1, 0, true)⟩,
      ⟨[], [], some (0, 0, true)⟩,
      ⟨[(2, some (10, false)), (14, some (7, false))], [0, 1, 2, 3, 4, 5, 6, 7, 10, 11], some (1, 1, true)⟩,
      ⟨[(3, some (11, false)), (15, some (8, false))], [0, 1, 2, 3, 4, 5, 6, 7, 8, 10, 11, 12], some (0, 1, true)⟩,
      ⟨[(16, some (9, false))], [0, 1, 2, 3, 4, 5, 6, 7, 8, 9, 10, 11, 12, 13], none⟩] [_, _, _] _ rfl rfl ?_
  refine dq_pure rfl (fun s => .nil) (fun s hs _ => loc_build (.one rfl rfl rfl (.one rfl rfl rfl (.nil)))) (by exact .cons (.inr fun s s' h => by obtain ⟨a, b⟩ := s; obtain ⟨c, d⟩ := s'; have h : d = b := h; subst h; exact rfl) (.cons (.inr fun s s' h => by obtain ⟨a, b⟩ := s; obtain ⟨c, d⟩ := s'; have h : c = a := h; subst h; exact rfl) (.nil))) ?_
  refine dq_read rfl (fun s => .g rfl (.nil)) rfl rfl (fun s hs _ hm => loc_loadOwnN rfl hm (by rfl)) (by exact .cons (.inr fun s s' h => by obtain ⟨a, b⟩ := s; obtain ⟨c, d⟩ := s'; have h : d = b := h; subst h; exact rfl) (.cons (.inr fun s s' h => by obtain ⟨a, b⟩ := s; obtain ⟨c, d⟩ := s'; have h : c = a := h; subst h; exact rfl) (.nil))) ?_
  refine dq_pure rfl (fun s => .nil) (fun s hs _ => LocP.imp (loc_buildSlice rfl rfl (.one rfl (.one rfl (.nil))) rfl rfl) (d_sl (ys := [1, -1]) (h := fI) rfl)) (by exact .cons (.inr fun s s' h => by obtain ⟨a, b⟩ := s; obtain ⟨c, d⟩ := s'; have h : d = b := h; subst h; exact rfl) (.cons (.inr fun s s' h => by obtain ⟨a, b⟩ := s; obtain ⟨c, d⟩ := s'; have h : c = a := h; subst h; exact rfl) (.nil))) ?_
  refine dq_pure rfl (fun s => .nil) (fun s hs _ => loc_makeFrz rfl rfl (by omega) (by omega) (fun x => dInt .i64 x) 0 rfl (by simp)) (by exact .cons (.inr fun s s' h => by obtain ⟨a, b⟩ := s; obtain ⟨c, d⟩ := s'; have h : d = b := h; subst h; exact rfl) (.cons (.inr fun s s' h => by obtain ⟨a, b⟩ := s; obtain ⟨c, d⟩ := s'; have h : c = a := h; subst h; exact rfl) (.nil))) ?_
  refine dq_pure rfl (fun s => .op rfl (.nil)) (fun s hs _ => loc_build (.one rfl rfl rfl (.nil))) (by exact .cons (.inr fun s s' h => by obtain ⟨a, b⟩ := s; obtain ⟨c, d⟩ := s'; have h : d = b := h; subst h; exact rfl) (.cons (.inr fun s s' h => by obtain ⟨a, b⟩ := s; obtain ⟨c, d⟩ := s'; have h : c = a := h; subst h; exact rfl) (.nil))) ?_
  refine dq_pure rfl (fun s => .op rfl (.op rfl (.op rfl (.op rfl (.nil))))) (fun s hs _ => loc_call (begin_spec 3 egR egH [1, -1] egT) rfl) (by exact .cons (.inr fun s s' h => by obtain ⟨a, b⟩ := s; obtain ⟨c, d⟩ := s'; have h : d = b := h; subst h; exact rfl) (.cons (.inr fun s s' h => by obtain ⟨a, b⟩ := s; obtain ⟨c, d⟩ := s'; have h : c = a := h; subst h; exact rfl) (.nil))) ?_
  refine dq_pure rfl (fun s => .op rfl (.nil)) (fun s hs _ => loc_move rfl) (by exact .cons (.inr fun s s' h => by obtain ⟨a, b⟩ := s; obtain ⟨c, d⟩ := s'; have h : d = b := h; subst h; exact rfl) (.cons (.inr fun s s' h => by obtain ⟨a, b⟩ := s; obtain ⟨c, d⟩ := s'; have h : c = a := h; subst h; exact rfl) (.nil))) ?_
  refine dq_pure rfl (fun s => .op rfl (.nil)) (fun s hs _ => loc_extract rfl rfl) (by exact .cons (.inr fun s s' h => by obtain ⟨a, b⟩ := s; obtain ⟨c, d⟩ := s'; have h : d = b := h; subst h; exact rfl) (.cons (.inr fun s s' h => by obtain ⟨a, b⟩ := s; obtain ⟨c, d⟩ := s'; have h : c = a := h; subst h; exact rfl) (.nil))) ?_
  refine dq_pure rfl (fun s => .op rfl (.nil)) (fun s hs _ => loc_extract rfl rfl) (by exact .cons (.inr fun s s' h => by obtain ⟨a, b⟩ := s; obtain ⟨c, d⟩ := s'; have h : d = b := h; subst h; exact rfl) (.cons (.inr fun s s' h => by obtain ⟨a, b⟩ := s; obtain ⟨c, d⟩ := s'; have h : c = a := h; subst h; exact rfl) (.nil))) ?_
  refine dq_pure rfl (fun s => .op rfl (.nil)) (fun s hs _ => loc_extract rfl rfl) (by exact .cons (.inr fun s s' h => by obtain ⟨a, b⟩ := s; obtain ⟨c, d⟩ := s'; have h : d = b := h; subst h; exact rfl) (.cons (.inr fun s s' h => by obtain ⟨a, b⟩ := s; obtain ⟨c, d⟩ := s'; have h : c = a := h; subst h; exact rfl) (.nil))) ?_
  refine dq_choose Prod.fst (fun s t => (t, s.2)) rfl (fun _ _ => ⟨rfl, id, rfl⟩) (fun s => .nil) rfl rfl (fun s hs => locM_new (loc_allocOwn (by simp))) (by exact .cons (.inl rfl) (.cons (.inr (.inr fun s s' h => by obtain ⟨a, b⟩ := s; obtain ⟨c, d⟩ := s'; have h : c = a := h; subst h; exact rfl)) (.nil))) ?_
  refine dq_choose Prod.snd (fun s t => (s.1, t)) rfl (fun _ _ => ⟨rfl, id, rfl⟩) (fun s => .nil) rfl rfl (fun s hs => locM_new (loc_allocOwn (by simp))) (by exact .cons (.inr (.inr fun s s' h => by obtain ⟨a, b⟩ := s; obtain ⟨c, d⟩ := s'; have h : d = b := h; subst h; exact rfl)) (.cons (.inl rfl) (.nil))) ?_
  refine dq_write0 rfl (fun s => .op rfl (.op rfl (.nil))) rfl rfl (fun s hs => loc_storeN (ho := (by show OneAll [_, _, _, _, _, _, _, _, _, _, _, _, _, _, _]; infer_instance)) rfl rfl rfl) (by exact .cons (.inl rfl) (.cons (.inl rfl) (.nil))) ?_
  refine dq_write0 rfl (fun s => .op rfl (.op rfl (.nil))) rfl rfl (fun s hs => loc_storeN (ho := (by show OneAll [_, _]; infer_instance)) rfl rfl rfl) (by exact .cons (.inl rfl) (.cons (.inl rfl) (.nil))) ?_
  refine dq_pure rfl (fun s => .op rfl (.nil)) (fun s hs _ => loc_assign rfl) (by exact .cons (.inl rfl) (.cons (.inl rfl) (.nil))) ?_
  refine dq_end (rs := [_, _, _]) (0, 0) rfl (fun _ => rfl) (.cons rfl (.cons rfl (.nil))) rfl (fun s9 _ => ?_)
  obtain ⟨b2, b3⟩ := s9
  dsimp only [outG, outM, List.map, List.set, id]
  refine run_seq ?_
  refine run_region ?_
  refine run_op (loc_loadOwnN rfl (.there (.here)) (by rfl)) rfl ?_
  refine run_op (loc_call (notes_spec (bgR 3 egR egH [1, -1] egT) hr) rfl) rfl ?_
  refine run_op (loc_assign rfl) rfl ?_
  refine run_nil ?_
  refine run_seq ?_
  refine run_region ?_
  refine run_op (loc_move rfl) rfl ?_
  refine run_op (loc_eql rfl rfl) rfl ?_
  refine run_op (loc_move rfl) rfl ?_
  refine run_gfirst rfl rfl (by first | exact guard_true _ | exact guard_false _ | exact guard_if (guard_true _) | exact guard_if (guard_false _)) (fun hg => loc_move rfl) rfl ?_
  refine run_gop rfl rfl (by first | exact guard_true _ | exact guard_false _ | exact guard_if (guard_true _) | exact guard_if (guard_false _)) (fun hg => loc_len rfl) rfl ?_
  refine run_gop rfl rfl (by first | exact guard_true _ | exact guard_false _ | exact guard_if (guard_true _) | exact guard_if (guard_false _)) (fun hg => loc_eql rfl rfl) rfl ?_
  refine run_gleave ?_
  refine run_op (loc_and rfl rfl) rfl ?_
  refine run_op (loc_move rfl) rfl ?_
  refine run_gfirst rfl rfl (by first | exact guard_true _ | exact guard_false _ | exact guard_if (guard_true _) | exact guard_if (guard_false _)) (fun hg => loc_move rfl) rfl ?_
  first | refine run_gop rfl rfl (by first | exact guard_true _ | exact guard_false _ | exact guard_if (guard_true _) | exact guard_if (guard_false _)) (fun hg => loc_index rfl rfl (by first | omega | assumption)) rfl ?_ | refine run_gop rfl rfl (by first | exact guard_true _ | exact guard_false _ | exact guard_if (guard_true _) | exact guard_if (guard_false _)) (fun hg => loc_indexI rfl rfl (by first | omega | assumption)) rfl ?_
  refine run_gop rfl rfl (by first | exact guard_true _ | exact guard_false _ | exact guard_if (guard_true _) | exact guard_if (guard_false _)) (fun hg => loc_fieldAddr rfl) rfl ?_
  refine run_gop rfl rfl (by first | exact guard_true _ | exact guard_false _ | exact guard_if (guard_true _) | exact guard_if (guard_false _)) (fun hg => loc_load1 rfl) rfl ?_
  refine run_gop rfl rfl (by first | exact guard_true _ | exact guard_false _ | exact guard_if (guard_true _) | exact guard_if (guard_false _)) (fun hg => loc_eql rfl rfl) rfl ?_
  refine run_gleave ?_
  refine run_op (loc_and rfl rfl) rfl ?_
  refine run_op (loc_move rfl) rfl ?_
  refine run_gfirst rfl rfl (by first | exact guard_true _ | exact guard_false _ | exact guard_if (guard_true _) | exact guard_if (guard_false _)) (fun hg => loc_move rfl) rfl ?_
  first | refine run_gop rfl rfl (by first | exact guard_true _ | exact guard_false _ | exact guard_if (guard_true _) | exact guard_if (guard_false _)) (fun hg => loc_index rfl rfl (by first | omega | assumption)) rfl ?_ | refine run_gop rfl rfl (by first | exact guard_true _ | exact guard_false _ | exact guard_if (guard_true _) | exact guard_if (guard_false _)) (fun hg => loc_indexI rfl rfl (by first | omega | assumption)) rfl ?_
  refine run_gop rfl rfl (by first | exact guard_true _ | exact guard_false _ | exact guard_if (guard_true _) | exact guard_if (guard_false _)) (fun hg => loc_fieldAddr rfl) rfl ?_
  refine run_gop rfl rfl (by first | exact guard_true _ | exact guard_false _ | exact guard_if (guard_true _) | exact guard_if (guard_false _)) (fun hg => loc_load1 rfl) rfl ?_
  refine run_gop rfl rfl (by first | exact guard_true _ | exact guard_false _ | exact guard_if (guard_true _) | exact guard_if (guard_false _)) (fun hg => loc_eql rfl rfl) rfl ?_
  refine run_gleave ?_
  refine run_op (loc_and rfl rfl) rfl ?_
  refine run_op (loc_move rfl) rfl ?_
  refine run_gfirst rfl rfl (by first | exact guard_true _ | exact guard_false _ | exact guard_if (guard_true _) | exact guard_if (guard_false _)) (fun hg => loc_move rfl) rfl ?_
  first | refine run_gop rfl rfl (by first | exact guard_true _ | exact guard_false _ | exact guard_if (guard_true _) | exact guard_if (guard_false _)) (fun hg => loc_index rfl rfl (by first | omega | assumption)) rfl ?_ | refine run_gop rfl rfl (by first | exact guard_true _ | exact guard_false _ | exact guard_if (guard_true _) | exact guard_if (guard_false _)) (fun hg => loc_indexI rfl rfl (by first | omega | assumption)) rfl ?_
  refine run_gop rfl rfl (by first | exact guard_true _ | exact guard_false _ | exact guard_if (guard_true _) | exact guard_if (guard_false _)) (fun hg => loc_fieldAddr rfl) rfl ?_
  refine run_gop rfl rfl (by first | exact guard_true _ | exact guard_false _ | exact guard_if (guard_true _) | exact guard_if (guard_false _)) (fun hg => loc_load1 rfl) rfl ?_
  refine run_gop rfl rfl (by first | exact guard_true _ | exact guard_false _ | exact guard_if (guard_true _) | exact guard_if (guard_false _)) (fun hg => loc_eql rfl rfl) rfl ?_
  refine run_gleave ?_
  refine run_op (loc_and rfl rfl) rfl ?_
  refine run_op (loc_move rfl) rfl ?_
  refine run_gfirst rfl rfl (by first | exact guard_true _ | exact guard_false _ | exact guard_if (guard_true _) | exact guard_if (guard_false _)) (fun hg => loc_loadOwnN rfl (.there (.here)) (by rfl)) rfl ?_
  refine run_gop rfl rfl (by first | exact guard_true _ | exact guard_false _ | exact guard_if (guard_true _) | exact guard_if (guard_false _)) (fun hg => loc_call (silent_spec (bgR 3 egR egH [1, -1] egT) 1) rfl) rfl ?_
  refine run_gop rfl rfl (by first | exact guard_true _ | exact guard_false _ | exact guard_if (guard_true _) | exact guard_if (guard_false _)) (fun hg => loc_len rfl) rfl ?_
  refine run_gop rfl rfl (by first | exact guard_true _ | exact guard_false _ | exact guard_if (guard_true _) | exact guard_if (guard_false _)) (fun hg => loc_eql rfl rfl) rfl ?_
  refine run_gleave ?_
  refine run_op (loc_and rfl rfl) rfl ?_
  refine run_op (loc_assign rfl) rfl ?_
  refine run_nil ?_
  refine run_drop (.cons _ (.cons _ (.cons _ (.refl _)))) ?_
  refine run_retP Try.func26 rfl rfl ?_
  exact d_B ⟨fun _ => trivial, fun _ => ⟨⟨⟨⟨⟨hb.1, by omega⟩, h1⟩, h2⟩, h3⟩, h4⟩⟩

end Go.Q
