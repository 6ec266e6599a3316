/- The law of answers of honest servers. -/
import Derived.Test.YtjcbhnlcbdmlfaaQLaw30S
import Derived.Test.YtjcbhnlcbdmlfaaQServer8
import Derived.Test.YtjcbhnlcbdmlfaaQServer10
import Derived.Test.YtjcbhnlcbdmlfaaQPlainV8
import Derived.Test.YtjcbhnlcbdmlfaaQWalk
import Derived.ProofKit
import Derived.SizedLaws
set_option linter.unusedVariables false
set_option linter.unusedSimpArgs false
namespace Go.Q
open Go.Proofs

open Classical
theorem dice_okU {xs : List Int} (h : ∀ x ∈ xs, 0 ≤ x ∧ x ≤ 255) : okDc ⟨xs.take 300, 0⟩ := ⟨fun x hm => h x (List.mem_of_mem_take hm), by simp; omega⟩
theorem vword0_spec (v : Srv) (p : Psn) (lie : Int) (hsz : szSrv v) (hup : v.up) (hj : v.jobs.length = 0) : SpecP Try.prog 21 [dSrv v, dPsn p, dInt .i64 lie] (dTup [dSrv v, dNte nte0, dB False, dInt .i64 6]) := by
  refine specP_of_body Try.func21 rfl rfl (fun I M => ?_)
  refine run_seq ?_
  refine run_region ?_
  refine run_op (loc_boxN rfl) rfl ?_
  refine run_op (loc_boxN rfl) rfl ?_
  refine run_new (loc_allocOwn (by simp)) rfl (fun b1 _ => ?_)
  refine run_new (loc_allocOwn (by simp)) rfl (fun b2 _ => ?_)
  refine run_op (loc_assign rfl) rfl ?_
  refine run_op (loc_assign rfl) rfl ?_
  refine run_nil ?_
  refine run_seq ?_
  refine run_block ?_
  refine run_seq ?_
  refine run_region ?_
  refine run_op (loc_fieldAddr rfl) rfl ?_
  refine run_op (loc_load1 rfl) rfl ?_
  refine run_op (loc_not rfl) rfl ?_
  refine run_op (loc_assign rfl) rfl ?_
  refine run_nil ?_
  refine run_cond rfl (fun h3 => ?_) (fun h3 => ?_)
  · exfalso; exact h3 hup
  ·
    refine run_seq ?_
    refine run_region ?_
    refine run_op (loc_fieldAddr rfl) rfl ?_
    refine run_op (loc_load1 rfl) rfl ?_
    first | refine runL_fact (s := 27) rfl (fun _ _ h => dSl_len h) (fun hlen4 => ?_) | skip
    refine run_op (loc_len rfl) rfl ?_
    refine run_op (loc_eql rfl rfl) rfl ?_
    refine run_op (loc_assign rfl) rfl ?_
    refine run_nil ?_
    refine run_cond rfl (fun h5 => ?_) (fun h5 => ?_)
    ·
      refine run_seq ?_
      refine run_region ?_
      refine run_op (loc_loadN rfl rfl) rfl ?_
      refine run_op (loc_call (ownP_spec v hsz) rfl) rfl ?_
      refine run_op (loc_build (.nil)) rfl ?_
      refine run_storeN (ho := (by show OneAll [_, _, _, _, _, _, _, _]; infer_instance)) rfl rfl (.there (.here)) (by rfl) ?_
      refine run_storeN (ho := (by show OneAll [_, _, _, _, _, _, _, _]; infer_instance)) rfl rfl (.here) (by rfl) ?_
      refine run_op (loc_assign rfl) rfl ?_
      refine run_op (loc_assign rfl) rfl ?_
      refine run_nil ?_
      refine run_retGP Try.func21 rfl (.cellN rfl (by first | exact .here | exact .there .here | exact .there (.there .here) | exact .there (.there (.there .here)) | exact .there (.there (.there (.there .here))) | exact .there (.there (.there (.there (.there .here))))) (by rfl) (.cellN rfl (by first | exact .here | exact .there .here | exact .there (.there .here) | exact .there (.there (.there .here)) | exact .there (.there (.there (.there .here))) | exact .there (.there (.there (.there (.there .here))))) (by rfl) (.tmp rfl (.tmp rfl (.nil))))) ?_ (fun _ _ h => inv_tail (inv_tail (h)))
      exact d_tup4 (fun _ _ h => h) (d_toNte (by rfl) (d_aggU (.cons (d_int rfl) (.cons (d_int rfl) (.cons (d_int rfl) (.cons (d_int rfl) (.cons (d_int rfl) (.cons d_nil (.cons d_nil (.cons (d_int rfl) .nil)))))))))) (fun _ _ h => h) (fun _ _ h => h)
    · exfalso; omega

theorem serverAnswers_spec (xs : List Int) (hx : ∀ x ∈ xs, 0 ≤ x ∧ x ≤ 255) : SpecP Try.prog 5 [dBy xs] (dB True) := by
  refine specP_of_body Try.func5 rfl rfl (fun I M => ?_)
  refine run_seq ?_
  refine run_region ?_
  refine run_op (loc_assign rfl) rfl ?_
  refine run_nil ?_
  refine run_seq ?_
  refine run_seq ?_
  refine run_region ?_
  refine run_op (loc_call (sane30_spec) rfl) rfl ?_
  refine run_op (loc_not rfl) rfl ?_
  refine run_nil ?_
  refine run_cond rfl (fun h1 => ?_) (fun h1 => ?_)
  · exfalso; exact h1 trivial
  ·
    refine run_skip ?_
    refine run_seq ?_
    refine run_region ?_
    refine run_op (loc_move rfl) rfl ?_
    refine run_callN rfl (dnew_spec _) rfl (fun bd hbd => ?_)
    refine run_op (loc_assign rfl) rfl ?_
    refine run_nil ?_
    refine run_seq ?_
    refine run_region ?_
    refine run_op (loc_move rfl) rfl ?_
    refine run_callM rfl (.here) (dscheme_spec bd _ (dice_okU hx)) rfl (fun sc hsc => ?_)
    refine run_op (loc_move rfl) rfl ?_
    refine run_callM rfl (.here) (dfield_spec bd _ hsc.2) rfl (fun fd hfd => ?_)
    refine run_new (loc_allocOwn (by simp)) rfl (fun b2 _ => ?_)
    refine run_new (loc_allocOwn (by simp)) rfl (fun b3 _ => ?_)
    refine run_storeN (ho := (by show OneAll [_, _, _, _]; infer_instance)) rfl rfl (.there (.here)) (by rfl) ?_
    refine run_storeN (ho := (by show OneAll [_]; infer_instance)) rfl rfl (.here) (by rfl) ?_
    refine run_nil ?_
    refine run_seq ?_
    refine run_region ?_
    refine run_op (loc_move rfl) rfl ?_
    refine run_op (loc_loadOwnN rfl (.here) (by rfl)) rfl ?_
    refine run_callM rfl (.there (.there (.here))) (dtable_spec bd _ hfd.2 fd.1 hfd.1) rfl (fun tb htb => ?_)
    refine run_new (loc_allocOwn (by simp)) rfl (fun b4 _ => ?_)
    refine run_storeN (ho := (by show OneAll [_, _, _, _]; infer_instance)) rfl rfl (.here) (by rfl) ?_
    refine run_nil ?_
    refine run_seq ?_
    obtain ⟨hsh, hsv⟩ := hsc.1
    have hpl10 := people_len
    have htr := htb.1.2.2.1
    have htn := htb.1.2.2.2.1
    have htw := htb.1.2.2.2.2
    have htp := htb.1.2.1
    have hpok := (dieP_ok hfd.1).1
    have hpb := (dieP_ok hfd.1).2
    have hval : validS sc.1 tb.1.p := by rw [htp]; exact die_valid hsc.1 hfd.1
    have hiv := Dc.val_lt (d := tb.2) (n := sc.1.servers) (by omega)
    have hiw0 := Dc.val_nonneg (d := tb.2) (n := sc.1.servers) (by omega)
    have hd0 := Dc.next_ok htb.2
    have hd1 := Dc.next_ok hd0
    have hnv := Dc.val_lt (d := tb.2.next) (n := 3) (by omega)
    have hnw0 := Dc.val_nonneg (d := tb.2.next) (n := 3) (by omega)
    refine run_region ?_
    refine run_op (loc_move rfl) rfl ?_
    refine run_op (loc_fieldAddrOwn rfl) rfl ?_
    refine run_op (loc_loadOwn1 rfl (.there (.there (.here))) (by rfl)) rfl ?_
    refine run_callM rfl (.there (.there (.there (.here)))) (pick_spec bd _ _ htb.2 (by omega)) rfl (fun s5 hs5 => ?_)
    first | refine run_op (loc_add rfl rfl (by first | omega | assumption)) rfl ?_ | refine run_op (loc_addW rfl rfl) rfl ?_
    refine run_op (loc_assign rfl) rfl ?_
    refine run_nil ?_
    obtain ⟨sid, hide⟩ : ∃ o, o = 1 + tb.2.val sc.1.servers := ⟨_, rfl⟩
    rw [← hide]
    have hid : 1 ≤ sid ∧ sid ≤ sc.1.servers := by omega
    have hO : OkA sc.1 sid tb.1 := ⟨htb.1.1, by omega, hval, by omega, hid⟩
    have hnw : newSE sid sc.1 = 0 ∧ newS sid sc.1 = ⟨sid, sc.1, True, [], []⟩ := by
      have e : newSE sid sc.1 = 0 := by unfold newSE; rw [if_neg (Classical.not_not.2 hsh), if_neg (by omega)]
      exact ⟨e, by unfold newS; rw [if_pos e]⟩
    have hz0 : szSrv ⟨sid, sc.1, True, [], []⟩ := ⟨by simp, by simp, fun h hh => (by cases hh), fun j hj => (by cases hj)⟩
    have hld0 : loadE ⟨sid, sc.1, True, [], []⟩ tb.1 = 0 ∧ loadV ⟨sid, sc.1, True, [], []⟩ tb.1 = vA sc.1 sid tb.1 1 [] := load0 hO
    have hhz := hld_sz hval htb.1.1 (by omega) hid
    have hhe := heldA_eq hO
    have hrows : ∀ r ∈ hldL sc.1 tb.1 sid, (r.length : Int) = tb.1.width ∧ allP fd.1 r := fun r h => by have h5 := hhe.1.2.2.2 r (by rw [hhe.2.1]; exact h); rw [hhe.2.2.2, hhe.2.2.1, htp] at h5; exact h5
    have hpg : (peopleL[(sid - 1).toNat]?.getD default) = ⟨sid, 1000 + sid⟩ := by rw [people_get (by omega)]; unfold prs; rw [show (((sid - 1).toNat : Nat) : Int) = sid - 1 by omega]; simp
    refine run_seq ?_
    refine run_region ?_
    refine run_op (loc_move rfl) rfl ?_
    refine run_op (loc_loadOwnN rfl (.there (.there (.here))) (by rfl)) rfl ?_
    refine run_op (loc_call (snew_spec _ _) rfl) rfl ?_
    refine run_op (loc_move rfl) rfl ?_
    refine run_op (loc_extract rfl rfl) rfl ?_
    refine run_op (loc_extract rfl rfl) rfl ?_
    refine run_new (loc_allocOwn (by simp)) rfl (fun b8 _ => ?_)
    refine run_storeN (ho := (by show OneAll [_, _, _, _, _, _, _, _]; infer_instance)) rfl rfl (.here) (by rfl) ?_
    refine run_op (loc_assign rfl) rfl ?_
    refine run_nil ?_
    rw [hnw.2]
    refine run_seq ?_
    refine run_region ?_
    refine run_op (loc_loadOwnN rfl (.here) (by rfl)) rfl ?_
    refine run_op (loc_loadOwnN rfl (.there (.here)) (by rfl)) rfl ?_
    refine run_op (loc_call (vload_spec ⟨sid, sc.1, True, [], []⟩ tb.1 hz0) rfl) rfl ?_
    refine run_op (loc_move rfl) rfl ?_
    refine run_op (loc_extract rfl rfl) rfl ?_
    refine run_op (loc_extract rfl rfl) rfl ?_
    refine run_storeN (ho := (by show OneAll [_, _, _, _, _, _, _, _]; infer_instance)) rfl rfl (.here) (by rfl) ?_
    refine run_op (loc_assign rfl) rfl ?_
    refine run_nil ?_
    rw [hld0.2]
    refine run_seq ?_
    refine run_region ?_
    refine run_op (loc_loadOwnN rfl (.there (.there (.there (.here)))) (by rfl)) rfl ?_
    refine run_op (loc_loadOwnN rfl (.there (.here)) (by rfl)) rfl ?_
    refine run_op (loc_move rfl) rfl ?_
    refine run_op (loc_call (rhold23_spec sc.1 tb.1 sid htb.1.1 hval (by omega) hid) rfl) rfl ?_
    refine run_op (loc_move rfl) rfl ?_
    refine run_op (loc_extract rfl rfl) rfl ?_
    refine run_op (loc_extract rfl rfl) rfl ?_
    refine run_op (loc_assign rfl) rfl ?_
    refine run_op (loc_assign rfl) rfl ?_
    refine run_nil ?_
    refine run_seq ?_
    refine run_seq ?_
    refine run_region ?_
    refine run_op (loc_move rfl) rfl ?_
    refine run_op (loc_neq rfl rfl) rfl ?_
    refine run_op (loc_move rfl) rfl ?_
    refine run_gfirst rfl rfl (by first | exact guard_true _ | exact guard_false _ | exact guard_if (guard_true _) | exact guard_if (guard_false _)) (fun hg => loc_move rfl) rfl ?_
    refine run_gop rfl rfl (by first | exact guard_true _ | exact guard_false _ | exact guard_if (guard_true _) | exact guard_if (guard_false _)) (fun hg => loc_neq rfl rfl) rfl ?_
    refine run_gleave ?_
    refine run_op (loc_or rfl rfl) rfl ?_
    refine run_nil ?_
    refine run_cond rfl (fun h6 => ?_) (fun h6 => ?_)
    · exfalso; rcases h6 with h | h; (· exact h hnw.1); (· exact h hld0.1)
    ·
      refine run_skip ?_
      refine run_seq ?_
      refine run_region ?_
      refine run_op (loc_assign rfl) rfl ?_
      refine run_nil ?_
      refine run_seq ?_
      refine run_seq ?_
      refine run_region ?_
      refine run_op (loc_move rfl) rfl ?_
      refine run_callM rfl (.there (.there (.there (.there (.here))))) (pick_spec bd _ _ hd0 (by omega)) rfl (fun s7 hs7 => ?_)
      first | refine run_op (loc_add rfl rfl (by first | omega | assumption)) rfl ?_ | refine run_op (loc_addW rfl rfl) rfl ?_
      refine run_op (loc_assign rfl) rfl ?_
      refine run_nil ?_
      obtain ⟨n0, hn0⟩ : ∃ o, o = 1 + tb.2.next.val 3 := ⟨_, rfl⟩
      rw [← hn0]
      obtain ⟨d1, hdd1⟩ : ∃ o, o = tb.2.next.next := ⟨_, rfl⟩
      rw [← hdd1]
      rw [← hdd1] at hd1
      refine run_block ?_
      refine run_rowNil 35 1 fR ?_
      refine run_front (.there (.there (.there (.there (.there (.here)))))) ?_
      refine run_front (.there (.here)) ?_
      refine run_front (.there (.there (.here))) ?_
      refine run_loopF (σ := Value × List (List Int) × Dc) (ks := [3, 5, 6, 7, 8, 11]) (.cons rfl (.cons rfl (.cons rfl (.cons rfl (.cons rfl (.cons rfl (.nil))))))) (fun q => [(13, dVal q.1), (14, dInt .i64 (n0 - q.2.1.length))]) (fun q => [rCells b8 28 (cSrv (vA sc.1 sid tb.1 1 (jobL tb.1.number 0 q.2.1))), rRow q.1 35 1 fR q.2.1, rDc bd q.2.2]) (fun q => (q.2.1.length : Int) ≤ n0 ∧ (∀ x ∈ q.2.1, okQ sc.1 sid tb.1 x) ∧ okDc q.2.2) (fun q => 3 - q.2.1.length) ((.slice none 0 0, [], d1)) (⟨by simp only [List.length_nil]; omega, fun x hx => (by cases hx), hd1⟩) (.cons rfl (by first | exact fun _ _ h => h | exact d_int (by omega) | exact d_int (by simp) | exact d_intN (by omega) | exact d_any) (.cons rfl (d_int (by simp)) .nil)) (rfl) ?_
      rintro q ⟨hql, hqq, hdc⟩ ih8
      refine run_seq ?_
      refine run_seq ?_
      refine run_region ?_
      refine run_op (loc_move rfl) rfl ?_
      refine run_op (loc_gtr rfl rfl) rfl ?_
      refine run_nil ?_
      refine run_cond rfl (fun h9 => ?_) (fun h9 => ?_)
      ·
        refine run_skip ?_
        refine run_seq ?_
        refine run_block ?_
        refine run_seq ?_
        refine run_region ?_
        refine run_op (loc_move rfl) rfl ?_
        refine run_op (loc_loadOwnN rfl (.there (.there (.there (.there (.here))))) (by rfl)) rfl ?_
        refine run_op (loc_move rfl) rfl ?_
        first | refine runL_fact (s := 83) rfl (fun _ _ h => dSl_len h) (fun hlen10 => ?_) | skip
        refine run_op (loc_len rfl) rfl ?_
        refine run_callM rfl (.there (.there (.here))) (delements_spec bd _ hdc fd.1 _ ⟨by omega, by omega⟩ (by omega)) rfl (fun el hel => ?_)
        refine run_op (loc_assign rfl) rfl ?_
        refine run_nil ?_
        refine run_seq ?_
        have heq : okQ sc.1 sid tb.1 el.1 := ⟨by rw [hel.1.1]; omega, by rw [htp]; exact hel.1.2⟩
        have hell := hel.1.1
        have hsa : szSrv (vA sc.1 sid tb.1 1 (jobL tb.1.number 0 q.2.1)) := vA_sz hO (by omega) (by rw [jobL_len]; omega) (fun j hj => by obtain ⟨_, _, h5, h6⟩ := jobL_mem hj; exact ⟨by have := (hqq _ h5).1; omega, by rw [h6]; simp⟩)
        have has := vA_ask hO (by omega) heq (qs := q.2.1)
        refine run_region ?_
        refine run_op (loc_loadOwnN rfl (.here) (by rfl)) rfl ?_
        refine run_op (loc_move rfl) rfl ?_
        refine run_op (loc_lenRow rfl (.there (.here))) rfl ?_
        refine run_op (loc_move rfl) rfl ?_
        refine run_op (loc_fieldAddrOwn rfl) rfl ?_
        refine run_op (loc_loadOwn1 rfl (.there (.there (.there (.here)))) (by rfl)) rfl ?_
        refine run_op (loc_move rfl) rfl ?_
        refine run_op (LocP.imp (d' := dNte ⟨1, (q.2.1.length : Nat), 0, sid, tb.1.number, el.1, [], 0⟩) (loc_build (.one rfl rfl rfl (.one rfl rfl rfl (.one rfl rfl rfl (.one rfl rfl rfl (.one rfl rfl rfl (.nil))))))) (by exact d_aggU (.cons (fun _ _ h => h) (.cons (fun _ _ h => h) (.cons (fun _ _ h => h) (.cons (fun _ _ h => h) (.cons (fun _ _ h => h) (.cons (fun _ _ h => h) (.cons d_nil (.cons (fun _ _ h => h) (.nil))))))))))) rfl ?_
        refine run_op (loc_call (vask_spec (vA sc.1 sid tb.1 1 (jobL tb.1.number 0 q.2.1)) ⟨1, (q.2.1.length : Nat), 0, sid, tb.1.number, el.1, [], 0⟩ hsa (by show el.1.length ≤ 100000; omega)) rfl) rfl ?_
        refine run_op (loc_move rfl) rfl ?_
        refine run_op (loc_extract rfl rfl) rfl ?_
        refine run_op (loc_extract rfl rfl) rfl ?_
        refine run_new (loc_allocOwn (by simp)) rfl (fun b11 _ => ?_)
        refine run_storeN (ho := (by show OneAll [_, _, _, _, _, _, _, _]; infer_instance)) rfl rfl (.here) (by rfl) ?_
        refine run_op (loc_assign rfl) rfl ?_
        refine run_nil ?_
        refine run_seq ?_
        refine run_seq ?_
        refine run_region ?_
        refine run_op (loc_move rfl) rfl ?_
        refine run_op (loc_neq rfl rfl) rfl ?_
        refine run_nil ?_
        refine run_cond rfl (fun h12 => ?_) (fun h12 => ?_)
        · exfalso; exact h12 has.1
        ·
          refine run_skip ?_
          refine dr_start _ (.one (σ := Value) 4 (fun _ => True)) [⟨[(16, none)], [], some (0, 0, false)⟩,
              ⟨[(13, none)], [], none⟩,
              ⟨[(15, none)], [], none⟩,
              ⟨[(102, some (2, false))], [2], none⟩,
              ⟨[(101, some (1, false)), (103, some (3, false))], [1, 2, 3], some (2, 0, true)⟩,
              ⟨[(8, none), (100, some (0, false))], [0, 1, 2, 3, 4], some (1, 0, true)⟩,
              ⟨[(104, some (4, false))], [0, 1, 2, 3, 4, 5], none⟩] [_, _, _, _, _, _, _] _ rfl rfl ?_
          refine dq_read rfl (fun s => .g rfl (.nil)) rfl rfl (fun s hs _ hm => loc_loadOwnN rfl hm (by rfl)) (by exact .cons (.inr fun _ _ _ => rfl) (.nil)) ?_
          refine dq_pure rfl (fun s => .g rfl (.nil)) (fun s hs _ => loc_move rfl) (by exact .cons (.inr fun _ _ _ => rfl) (.nil)) ?_
          refine dq_pure rfl (fun s => .g rfl (.nil)) (fun s hs _ => loc_move rfl) (by exact .cons (.inr fun _ _ _ => rfl) (.nil)) ?_
          refine dq_pure rfl (fun s => .op rfl (.nil)) (fun s hs _ => loc_buildSlice rfl rfl (.one rfl (.nil)) rfl rfl) (by exact .cons (.inr fun _ _ _ => rfl) (.nil)) ?_
          refine dq_choose id (fun _ t => t) rfl (fun _ _ => ⟨rfl, id, trivial⟩) (fun s => .op rfl (.op rfl (.nil))) rfl rfl (fun s hs => loc_append1 _ rfl rfl rfl rfl (by first | omega | (unfold lenMax; omega) | assumption | (simp; omega) | (simp [lenMax]; omega)) (by first | omega | (unfold lenMax; omega) | assumption | (simp; omega) | (simp [lenMax]; omega))) (by exact .cons (.inl rfl) (.nil)) ?_
          refine dq_write0 rfl (fun s => .g rfl (.op rfl (.nil))) rfl rfl (fun s hs => loc_storeN (ho := (by show OneAll [_, _, _, _, _, _, _, _]; infer_instance)) rfl rfl rfl) (by exact .cons (.inl rfl) (.nil)) ?_
          refine dq_pure rfl (fun s => .op rfl (.nil)) (fun s hs _ => loc_assign rfl) (by exact .cons (.inl rfl) (.nil)) ?_
          refine dq_end (rs := [_, _, _, _, _, _, _]) (.bool true) rfl (fun _ => rfl) (.cons rfl (.nil)) rfl (fun v13 _ => ?_)
          dsimp only [outG, outM, List.map, List.set, id]
          refine run_inBlock ?_
          refine run_region ?_
          refine run_op (loc_move rfl) rfl ?_
          first | refine run_op (loc_sub rfl rfl (by first | omega | assumption)) rfl ?_ | refine run_op (loc_subW rfl rfl) rfl ?_
          refine run_op (loc_assign rfl) rfl ?_
          refine run_nil ?_
          refine run_drop (.cons _ (.refl _)) ?_
          exact run_againF ih8 ((v13, q.2.1 ++ [el.1], el.2)) (⟨by simp only [List.length_append, List.length_singleton]; omega, fun x hx => by rcases List.mem_append.1 hx with hx | hx; (· exact hqq x hx); (· rw [List.mem_singleton.1 hx]; exact heq), hel.2⟩) (by simp only [List.length_append, List.length_singleton]; omega) (.cons rfl (by first | exact fun _ _ h => h | exact d_int (by omega) | exact d_int (by simp) | exact d_intN (by omega) | exact d_any) (.cons rfl (d_int (by simp only [List.length_append, List.length_singleton]; omega)) .nil)) (.cons rfl (fun _ _ x => x) (.cons rfl (fun _ _ x => x) (.cons rfl (fun _ _ x => x) (.cons rfl (fun _ _ x => x) (.cons rfl (fun _ _ x => x) (.cons rfl (fun _ _ x => x) (.nil))))))) (by simp only [appR]; rw [has.2]; try rfl)
      ·
        refine run_exit rfl ?_
        refine run_seq ?_
        refine run_freezeRow (s := 13) rfl (.there (.here)) ?_
        obtain ⟨q1, qs, d2⟩ := q
        simp only at hql hqq hdc ⊢
        have hqs := hqq
        have hd2 := hdc
        refine run_region ?_
        refine run_op (loc_fieldAddrOwn rfl) rfl ?_
        refine run_op (loc_loadOwn1 rfl (.there (.there (.here))) (by rfl)) rfl ?_
        refine run_op (loc_assign rfl) rfl ?_
        refine run_nil ?_
        refine run_seq ?_
        refine run_seq ?_
        refine run_region ?_
        refine run_op (loc_move rfl) rfl ?_
        first | refine runL_fact (s := 107) rfl (fun _ _ h => dSl_len h) (fun hlen14 => ?_) | skip
        refine run_op (loc_len rfl) rfl ?_
        refine run_op (loc_move rfl) rfl ?_
        refine run_nil ?_
        refine run_block ?_
        refine run_loopF (σ := Nat × Nat × Dc) (ks := [3, 5, 6, 7, 8, 11, 107, 108]) (.cons rfl (.cons rfl (.cons rfl (.cons rfl (.cons rfl (.cons rfl (.cons rfl (.cons rfl (.nil))))))))) (fun r => [(18, dInt .i64 (tb.1.number + (r.2.1 : Nat))), (109, dInt .i64 (r.1 : Nat))]) (fun r => [rCells b8 28 (cSrv (vA sc.1 sid tb.1 (r.2.1 + 1) (jobL tb.1.number r.1 (qs.drop r.1)))), rDc bd r.2.2]) (fun r => r.1 ≤ qs.length ∧ r.2.1 ≤ 4 ∧ okDc r.2.2) (fun r => qs.length - r.1) ((0, 0, d2)) (⟨Nat.zero_le _, by simp, hd2⟩) (.cons rfl (d_int (by simp)) (.cons rfl (by first | exact fun _ _ h => h | exact d_int (by omega) | exact d_int (by simp) | exact d_intN (by omega) | exact d_any) .nil)) (rfl) ?_
        rintro ⟨m, c, dd⟩ ⟨hm, hc, hdd⟩ ih15
        simp only at hm hc hdd
        refine run_seq ?_
        refine run_region ?_
        refine run_op (loc_lss rfl rfl) rfl ?_
        refine run_nil ?_
        refine run_seq ?_
        refine run_cond rfl (fun h16 => ?_) (fun h16 => ?_)
        ·
          have hml : m < qs.length := by simp only at h16; omega
          have hqm := hqs _ (getD_mem (xs := qs) (k := m) hml)
          refine run_skip ?_
          refine run_seq ?_
          refine run_block ?_
          refine run_seq ?_
          refine run_region ?_
          first | refine run_op (loc_index rfl rfl (by first | omega | assumption)) rfl ?_ | refine run_op (loc_indexI rfl rfl (by first | omega | assumption)) rfl ?_
          refine run_op (loc_load1 rfl) rfl ?_
          refine run_op (loc_assign rfl) rfl ?_
          refine run_nil ?_
          refine run_seq ?_
          have hqmp : allP fd.1 (qs[m]?.getD default) := by rw [← htp]; exact hqm.2
          refine run_region ?_
          refine run_op (loc_loadOwnN rfl (.there (.there (.there (.here)))) (by rfl)) rfl ?_
          refine run_op (loc_fieldAddrOwn rfl) rfl ?_
          refine run_op (loc_loadOwn1 rfl (.there (.there (.here))) (by rfl)) rfl ?_
          refine run_op (loc_move rfl) rfl ?_
          refine run_op (loc_move rfl) rfl ?_
          refine run_op (loc_call (answer23_spec fd.1 tb.1.width (hldL sc.1 tb.1 sid) (qs[m]?.getD default) hpok (by omega) hqm.1 hrows hqmp) rfl) rfl ?_
          refine run_op (loc_move rfl) rfl ?_
          refine run_op (loc_extract rfl rfl) rfl ?_
          refine run_op (loc_extract rfl rfl) rfl ?_
          refine run_op (loc_assign rfl) rfl ?_
          refine run_op (loc_assign rfl) rfl ?_
          refine run_nil ?_
          rw [show combN fd.1 tb.1.width.toNat (hldL sc.1 tb.1 sid) (qs[m]?.getD default) (hldL sc.1 tb.1 sid).length = (wantA sc.1 sid tb.1 (qs[m]?.getD default)) by unfold wantA; rw [htp]]
          refine run_seq ?_
          refine run_region ?_
          refine run_op (loc_assign rfl) rfl ?_
          refine run_nil ?_
          refine run_block ?_
          refine run_loopF (σ := Nat × Nat × Dc) (ks := [3, 5, 6, 7, 8, 11, 20, 21, 107, 108, 109]) (.cons rfl (.cons rfl (.cons rfl (.cons rfl (.cons rfl (.cons rfl (.cons rfl (.cons rfl (.cons rfl (.cons rfl (.cons rfl (.nil)))))))))))) (fun r => [(18, dInt .i64 (tb.1.number + (r.2.1 : Nat))), (23, dInt .i64 (r.1 : Nat))]) (fun r => [rCells b8 28 (cSrv (vA sc.1 sid tb.1 (r.2.1 + 1) (if (r.1 : Int) < tb.1.width then (jA tb.1.number m (qs[m]?.getD default) ((wantA sc.1 sid tb.1 (qs[m]?.getD default)).take r.1) :: (jobL tb.1.number (m + 1) (qs.drop (m + 1)))) else (jobL tb.1.number (m + 1) (qs.drop (m + 1)))))), rDc bd r.2.2]) (fun r => (r.1 : Int) ≤ tb.1.width ∧ r.2.1 ≤ 4 ∧ okDc r.2.2) (fun r => tb.1.width.toNat - r.1) ((0, c, dd)) (⟨by simp only; omega, hc, hdd⟩) (.cons rfl (by first | exact fun _ _ h => h | exact d_int (by omega) | exact d_int (by simp) | exact d_intN (by omega) | exact d_any) (.cons rfl (by first | exact fun _ _ h => h | exact d_int (by omega) | exact d_int (by simp) | exact d_intN (by omega) | exact d_any) .nil)) (by simp only [appR]; rw [if_pos (by omega), List.take_zero, jobL_drop _ hml]; try rfl) ?_
          rintro ⟨i, c, dd⟩ ⟨hi, hc, hdd⟩ ih17
          simp only at hi hc hdd
          refine run_seq ?_
          refine run_seq ?_
          refine run_region ?_
          refine run_op (loc_move rfl) rfl ?_
          refine run_op (loc_fieldAddrOwn rfl) rfl ?_
          refine run_op (loc_loadOwn1 rfl (.there (.there (.here))) (by rfl)) rfl ?_
          refine run_op (loc_lss rfl rfl) rfl ?_
          refine run_nil ?_
          refine run_cond rfl (fun h18 => ?_) (fun h18 => ?_)
          ·
            have hiw : (i : Int) < tb.1.width := by simp only at h18; omega
            simp only [if_pos hiw]
            have hjo : ∀ j ∈ (jA tb.1.number m (qs[m]?.getD default) ((wantA sc.1 sid tb.1 (qs[m]?.getD default)).take i) :: (jobL tb.1.number (m + 1) (qs.drop (m + 1)))), j.version = tb.1.number ∧ okQ sc.1 sid tb.1 j.query ∧ (j.got.length : Int) < tb.1.width ∧ allP tb.1.p j.got := jobs_ok hO hqs hqm hiw
            have hjl : ((jA tb.1.number m (qs[m]?.getD default) ((wantA sc.1 sid tb.1 (qs[m]?.getD default)).take i) :: (jobL tb.1.number (m + 1) (qs.drop (m + 1))))).length ≤ 32 := by rw [List.length_cons, jobL_len, List.length_drop]; omega
            have hjz : ∀ j ∈ (jA tb.1.number m (qs[m]?.getD default) ((wantA sc.1 sid tb.1 (qs[m]?.getD default)).take i) :: (jobL tb.1.number (m + 1) (qs.drop (m + 1)))), j.query.length ≤ 100000 ∧ j.got.length ≤ 100000 := fun j hj => jobs_sz hO (hjo j hj)
            have hsz : ∀ c, c ≤ 4 → szSrv (vA sc.1 sid tb.1 (c + 1) (jA tb.1.number m (qs[m]?.getD default) ((wantA sc.1 sid tb.1 (qs[m]?.getD default)).take i) :: (jobL tb.1.number (m + 1) (qs.drop (m + 1))))) := fun c h => vA_sz hO (by omega) hjl hjz
            have hok : ∀ c, c ≤ 4 → okSrv (vA sc.1 sid tb.1 (c + 1) (jA tb.1.number m (qs[m]?.getD default) ((wantA sc.1 sid tb.1 (qs[m]?.getD default)).take i) :: (jobL tb.1.number (m + 1) (qs.drop (m + 1))))) := fun c h => vA_ok hO (by omega) hjl hjo
            have hvl : ∀ c, (vA sc.1 sid tb.1 (c + 1) (jA tb.1.number m (qs[m]?.getD default) ((wantA sc.1 sid tb.1 (qs[m]?.getD default)).take i) :: (jobL tb.1.number (m + 1) (qs.drop (m + 1))))).versions.length = c + 1 := fun c => versA_len _ _ _ _
            refine run_skip ?_
            refine run_seq ?_
            refine run_block ?_
            refine run_seq ?_
            refine run_seq ?_
            refine run_region ?_
            refine run_op (loc_move rfl) rfl ?_
            refine run_callM rfl (.there (.here)) (pick_spec bd _ _ hdd (by omega)) rfl (fun s19 hs19 => ?_)
            refine run_op (loc_eql rfl rfl) rfl ?_
            refine run_op (loc_move rfl) rfl ?_
            refine run_gfirst rfl rfl (by first | exact guard_true _ | exact guard_false _ | exact guard_if (guard_true _) | exact guard_if (guard_false _)) (fun hg => loc_fieldAddrOwn rfl) rfl ?_
            refine run_gop rfl rfl (by first | exact guard_true _ | exact guard_false _ | exact guard_if (guard_true _) | exact guard_if (guard_false _)) (fun hg => loc_loadOwn1 rfl (.here) (by rfl)) rfl ?_
            refine run_gop rfl rfl (by first | exact guard_true _ | exact guard_false _ | exact guard_if (guard_true _) | exact guard_if (guard_false _)) (fun hg => loc_len rfl) rfl ?_
            refine run_gop rfl rfl (by first | exact guard_true _ | exact guard_false _ | exact guard_if (guard_true _) | exact guard_if (guard_false _)) (fun hg => loc_lss rfl rfl) rfl ?_
            refine run_gleave ?_
            refine run_op (loc_and rfl rfl) rfl ?_
            refine run_nil ?_
            refine run_joinF (σ := Nat) (ks := [3, 5, 6, 7, 8, 11, 20, 21, 23, 107, 108, 109]) _ (.cons rfl (.cons rfl (.cons rfl (.cons rfl (.cons rfl (.cons rfl (.cons rfl (.cons rfl (.cons rfl (.cons rfl (.cons rfl (.cons rfl (.nil))))))))))))) (fun y => [(18, dInt .i64 (tb.1.number + (y : Nat)))]) (fun y => [rCells b8 28 (cSrv (vA sc.1 sid tb.1 (y + 1) (jA tb.1.number m (qs[m]?.getD default) ((wantA sc.1 sid tb.1 (qs[m]?.getD default)).take i) :: (jobL tb.1.number (m + 1) (qs.drop (m + 1)))))), rDc bd dd.next]) (fun y => y ≤ 4) ⟨[_, _], rfl⟩ (fun j20 => ?_) ?_
            ·
              refine run_cond rfl (fun h21 => ?_) (fun h21 => ?_)
              ·
                have hc3 : c ≤ 3 := by have h5 := h21.2; rw [hvl c] at h5; omega
                have hlo := vA_load hO (c := c + 1) (by omega) (jA tb.1.number m (qs[m]?.getD default) ((wantA sc.1 sid tb.1 (qs[m]?.getD default)).take i) :: (jobL tb.1.number (m + 1) (qs.drop (m + 1))))
                refine run_seq ?_
                refine run_region ?_
                refine run_op (loc_move rfl) rfl ?_
                first | refine run_op (loc_add rfl rfl (by first | omega | assumption)) rfl ?_ | refine run_op (loc_addW rfl rfl) rfl ?_
                refine runL_recast (s := 138) rfl (d_int (n := tb.1.number + ((c + 1 : Nat) : Int)) (by omega)) ?_
                refine run_op (loc_assign rfl) rfl ?_
                refine run_nil ?_
                refine run_seq ?_
                refine run_region ?_
                refine run_op (loc_loadOwnN rfl (.there (.there (.here))) (by rfl)) rfl ?_
                refine run_new (loc_allocOwn (by simp)) rfl (fun b22 _ => ?_)
                refine run_storeN (ho := (by show OneAll [_, _, _, _]; infer_instance)) rfl rfl (.here) (by rfl) ?_
                refine run_nil ?_
                refine run_seq ?_
                refine run_region ?_
                refine run_op (loc_move rfl) rfl ?_
                refine run_op (loc_fieldAddrOwn rfl) rfl ?_
                refine run_store1 rfl rfl (.here) (by rfl) ?_
                refine run_nil ?_
                refine run_seq ?_
                refine run_region ?_
                refine run_op (loc_loadOwnN rfl (.there (.here)) (by rfl)) rfl ?_
                refine run_op (loc_loadOwnN rfl (.here) (by rfl)) rfl ?_
                refine run_op (loc_call (vload_spec (vA sc.1 sid tb.1 (c + 1) (jA tb.1.number m (qs[m]?.getD default) ((wantA sc.1 sid tb.1 (qs[m]?.getD default)).take i) :: (jobL tb.1.number (m + 1) (qs.drop (m + 1))))) (numT tb.1 (c + 1)) (hsz c hc)) rfl) rfl ?_
                refine run_op (loc_move rfl) rfl ?_
                refine run_op (loc_extract rfl rfl) rfl ?_
                refine run_op (loc_extract rfl rfl) rfl ?_
                refine run_storeN (ho := (by show OneAll [_, _, _, _, _, _, _, _]; infer_instance)) rfl rfl (.there (.here)) (by rfl) ?_
                refine run_op (loc_assign rfl) rfl ?_
                refine run_nil ?_
                refine run_seq ?_
                refine run_region ?_
                refine run_op (loc_move rfl) rfl ?_
                refine run_op (loc_neq rfl rfl) rfl ?_
                refine run_nil ?_
                refine run_cond rfl (fun h23 => ?_) (fun h23 => ?_)
                · exfalso; exact h23 hlo.1
                ·
                  refine run_skip ?_
                  refine run_drop (.cons _ (.refl _)) ?_
                  exact run_atF j20 (c + 1) (by omega) (by simp only [appR]; rw [hlo.2]; try rfl) (.cons rfl (by first | exact fun _ _ h => h | exact d_int (by omega) | exact d_int (by simp) | exact d_intN (by omega) | exact d_any) .nil) (.cons rfl (fun _ _ x => x) (.cons rfl (fun _ _ x => x) (.cons rfl (fun _ _ x => x) (.cons rfl (fun _ _ x => x) (.cons rfl (fun _ _ x => x) (.cons rfl (fun _ _ x => x) (.cons rfl (fun _ _ x => x) (.cons rfl (fun _ _ x => x) (.cons rfl (fun _ _ x => x) (.cons rfl (fun _ _ x => x) (.cons rfl (fun _ _ x => x) (.cons rfl (fun _ _ x => x) (.nil)))))))))))))
              ·
                refine run_skip ?_
                exact run_atF j20 (c) (hc) (rfl) (.cons rfl (by first | exact fun _ _ h => h | exact d_int (by omega) | exact d_int (by simp) | exact d_intN (by omega) | exact d_any) .nil) (.cons rfl (fun _ _ x => x) (.cons rfl (fun _ _ x => x) (.cons rfl (fun _ _ x => x) (.cons rfl (fun _ _ x => x) (.cons rfl (fun _ _ x => x) (.cons rfl (fun _ _ x => x) (.cons rfl (fun _ _ x => x) (.cons rfl (fun _ _ x => x) (.cons rfl (fun _ _ x => x) (.cons rfl (fun _ _ x => x) (.cons rfl (fun _ _ x => x) (.cons rfl (fun _ _ x => x) (.nil)))))))))))))
            intro y hy
            refine run_seq ?_
            have hwd := vA_word hO (by omega) (c := y + 1) (by omega) hqm (m := m) hiw (jobL tb.1.number (m + 1) (qs.drop (m + 1))) rfl
            refine run_addNone ?_
            refine run_addNone ?_
            refine dr_start _ (.two (τ1 := Nat) (τ2 := Nat) 12 13 (fun _ => True) (fun _ => True)) [⟨[(8, none)], [], some (2, 0, false)⟩,
                ⟨[], [], none⟩,
                ⟨[(7, none)], [], none⟩,
                ⟨[(153, some (2, false))], [2], none⟩,
                ⟨[(152, some (1, false)), (154, some (3, false))], [1, 2, 3], none⟩,
                ⟨[(155, some (4, false))], [1, 2, 3, 4], none⟩,
                ⟨[(151, some (0, false)), (156, some (5, false))], [0, 1, 2, 3, 4, 5], none⟩,
                ⟨[(157, some (6, false))], [0, 1, 2, 3, 4, 5, 6], none⟩,
                ⟨[(150, some (7, false))], [0, 1, 2, 3, 4, 5, 6, 7], none⟩,
                ⟨[(150, some (7, false))], [0, 1, 2, 3, 4, 5, 6, 7], none⟩,
                ⟨[(150, some (7, false))], [0, 1, 2, 3, 4, 5, 6, 7], none⟩,
                ⟨[(150, some (7, false))], [0, 1, 2, 3, 4, 5, 6, 7], none⟩,
                ⟨[], [], some (1, 0, true)⟩,
                ⟨[], [], some (0, 0, true)⟩,
                ⟨[(25, some (12, false)), (158, some (8, false))], [0, 1, 2, 3, 4, 5, 6, 7, 8, 12, 13], some (1, 1, true)⟩,
                ⟨[(26, some (13, false)), (159, some (9, false))], [0, 1, 2, 3, 4, 5, 6, 7, 8, 9, 12, 13, 14], some (0, 1, true)⟩,
                ⟨[(160, some (10, false))], [0, 1, 2, 3, 4, 5, 6, 7, 8, 9, 10, 12, 13, 14, 15], none⟩,
                ⟨[(161, some (11, false))], [0, 1, 2, 3, 4, 5, 6, 7, 8, 9, 10, 11, 12, 13, 14, 15, 16], none⟩] [_, _, _, _, _, _, _] _ rfl rfl ?_
            refine dq_read rfl (fun s => .g rfl (.nil)) rfl rfl (fun s hs _ hm => loc_loadOwnN rfl hm (by rfl)) (by exact .cons (.inr fun s s' h => by obtain ⟨a, b⟩ := s; obtain ⟨c, d⟩ := s'; have h : d = b := h; subst h; exact rfl) (.cons (.inr fun s s' h => by obtain ⟨a, b⟩ := s; obtain ⟨c, d⟩ := s'; have h : c = a := h; subst h; exact rfl) (.nil))) ?_
            refine dq_pure rfl (fun s => .nil) (fun s hs _ => loc_call (people_spec) rfl) (by exact .cons (.inr fun s s' h => by obtain ⟨a, b⟩ := s; obtain ⟨c, d⟩ := s'; have h : d = b := h; subst h; exact rfl) (.cons (.inr fun s s' h => by obtain ⟨a, b⟩ := s; obtain ⟨c, d⟩ := s'; have h : c = a := h; subst h; exact rfl) (.nil))) ?_
            refine dq_pure rfl (fun s => .g rfl (.nil)) (fun s hs _ => loc_move rfl) (by exact .cons (.inr fun s s' h => by obtain ⟨a, b⟩ := s; obtain ⟨c, d⟩ := s'; have h : d = b := h; subst h; exact rfl) (.cons (.inr fun s s' h => by obtain ⟨a, b⟩ := s; obtain ⟨c, d⟩ := s'; have h : c = a := h; subst h; exact rfl) (.nil))) ?_
            first | refine dq_pure rfl (fun s => .op rfl (.nil)) (fun s hs _ => loc_sub rfl rfl (by first | omega | assumption)) (by exact .cons (.inr fun s s' h => by obtain ⟨a, b⟩ := s; obtain ⟨c, d⟩ := s'; have h : d = b := h; subst h; exact rfl) (.cons (.inr fun s s' h => by obtain ⟨a, b⟩ := s; obtain ⟨c, d⟩ := s'; have h : c = a := h; subst h; exact rfl) (.nil))) ?_ | refine dq_pure rfl (fun s => .op rfl (.nil)) (fun s hs _ => loc_subW rfl rfl) (by exact .cons (.inr fun s s' h => by obtain ⟨a, b⟩ := s; obtain ⟨c, d⟩ := s'; have h : d = b := h; subst h; exact rfl) (.cons (.inr fun s s' h => by obtain ⟨a, b⟩ := s; obtain ⟨c, d⟩ := s'; have h : c = a := h; subst h; exact rfl) (.nil))) ?_
            first | refine dq_pure rfl (fun s => .op rfl (.op rfl (.nil))) (fun s hs _ => loc_index rfl rfl (by first | omega | assumption)) (by exact .cons (.inr fun s s' h => by obtain ⟨a, b⟩ := s; obtain ⟨c, d⟩ := s'; have h : d = b := h; subst h; exact rfl) (.cons (.inr fun s s' h => by obtain ⟨a, b⟩ := s; obtain ⟨c, d⟩ := s'; have h : c = a := h; subst h; exact rfl) (.nil))) ?_ | refine dq_pure rfl (fun s => .op rfl (.op rfl (.nil))) (fun s hs _ => loc_indexI rfl rfl (by first | omega | assumption)) (by exact .cons (.inr fun s s' h => by obtain ⟨a, b⟩ := s; obtain ⟨c, d⟩ := s'; have h : d = b := h; subst h; exact rfl) (.cons (.inr fun s s' h => by obtain ⟨a, b⟩ := s; obtain ⟨c, d⟩ := s'; have h : c = a := h; subst h; exact rfl) (.nil))) ?_
            refine dq_pure rfl (fun s => .op rfl (.nil)) (fun s hs _ => loc_loadN rfl rfl) (by exact .cons (.inr fun s s' h => by obtain ⟨a, b⟩ := s; obtain ⟨c, d⟩ := s'; have h : d = b := h; subst h; exact rfl) (.cons (.inr fun s s' h => by obtain ⟨a, b⟩ := s; obtain ⟨c, d⟩ := s'; have h : c = a := h; subst h; exact rfl) (.nil))) ?_
            refine dq_pure rfl (fun s => .op rfl (.op rfl (.nil))) (fun s hs _ => loc_call (vword_spec (vA sc.1 sid tb.1 (y + 1) (jA tb.1.number m (qs[m]?.getD default) ((wantA sc.1 sid tb.1 (qs[m]?.getD default)).take i) :: (jobL tb.1.number (m + 1) (qs.drop (m + 1))))) (peopleL[(sid - 1).toNat]?.getD default) 0 (hok y hy) (hsz y hy) trivial (jA tb.1.number m (qs[m]?.getD default) ((wantA sc.1 sid tb.1 (qs[m]?.getD default)).take i)) (jobL tb.1.number (m + 1) (qs.drop (m + 1))) rfl) rfl) (by exact .cons (.inr fun s s' h => by obtain ⟨a, b⟩ := s; obtain ⟨c, d⟩ := s'; have h : d = b := h; subst h; exact rfl) (.cons (.inr fun s s' h => by obtain ⟨a, b⟩ := s; obtain ⟨c, d⟩ := s'; have h : c = a := h; subst h; exact rfl) (.nil))) ?_
            refine dq_pure rfl (fun s => .op rfl (.nil)) (fun s hs _ => loc_move rfl) (by exact .cons (.inr fun s s' h => by obtain ⟨a, b⟩ := s; obtain ⟨c, d⟩ := s'; have h : d = b := h; subst h; exact rfl) (.cons (.inr fun s s' h => by obtain ⟨a, b⟩ := s; obtain ⟨c, d⟩ := s'; have h : c = a := h; subst h; exact rfl) (.nil))) ?_
            refine dq_pure rfl (fun s => .op rfl (.nil)) (fun s hs _ => loc_extract rfl rfl) (by exact .cons (.inr fun s s' h => by obtain ⟨a, b⟩ := s; obtain ⟨c, d⟩ := s'; have h : d = b := h; subst h; exact rfl) (.cons (.inr fun s s' h => by obtain ⟨a, b⟩ := s; obtain ⟨c, d⟩ := s'; have h : c = a := h; subst h; exact rfl) (.nil))) ?_
            refine dq_pure rfl (fun s => .op rfl (.nil)) (fun s hs _ => loc_extract rfl rfl) (by exact .cons (.inr fun s s' h => by obtain ⟨a, b⟩ := s; obtain ⟨c, d⟩ := s'; have h : d = b := h; subst h; exact rfl) (.cons (.inr fun s s' h => by obtain ⟨a, b⟩ := s; obtain ⟨c, d⟩ := s'; have h : c = a := h; subst h; exact rfl) (.nil))) ?_
            refine dq_pure rfl (fun s => .op rfl (.nil)) (fun s hs _ => loc_extract rfl rfl) (by exact .cons (.inr fun s s' h => by obtain ⟨a, b⟩ := s; obtain ⟨c, d⟩ := s'; have h : d = b := h; subst h; exact rfl) (.cons (.inr fun s s' h => by obtain ⟨a, b⟩ := s; obtain ⟨c, d⟩ := s'; have h : c = a := h; subst h; exact rfl) (.nil))) ?_
            refine dq_pure rfl (fun s => .op rfl (.nil)) (fun s hs _ => loc_extract rfl rfl) (by exact .cons (.inr fun s s' h => by obtain ⟨a, b⟩ := s; obtain ⟨c, d⟩ := s'; have h : d = b := h; subst h; exact rfl) (.cons (.inr fun s s' h => by obtain ⟨a, b⟩ := s; obtain ⟨c, d⟩ := s'; have h : c = a := h; subst h; exact rfl) (.nil))) ?_
            refine dq_choose Prod.fst (fun s t => (t, s.2)) rfl (fun _ _ => ⟨rfl, id, rfl⟩) (fun s => .nil) rfl rfl (fun s hs => locM_new (loc_allocOwn (by simp))) (by exact .cons (.inl rfl) (.cons (.inr (.inr fun s s' h => by obtain ⟨a, b⟩ := s; obtain ⟨c, d⟩ := s'; have h : c = a := h; subst h; exact rfl)) (.nil))) ?_
            refine dq_choose Prod.snd (fun s t => (s.1, t)) rfl (fun _ _ => ⟨rfl, id, rfl⟩) (fun s => .nil) rfl rfl (fun s hs => locM_new (loc_allocOwn (by simp))) (by exact .cons (.inr (.inr fun s s' h => by obtain ⟨a, b⟩ := s; obtain ⟨c, d⟩ := s'; have h : d = b := h; subst h; exact rfl)) (.cons (.inl rfl) (.nil))) ?_
            refine dq_write0 rfl (fun s => .op rfl (.op rfl (.nil))) rfl rfl (fun s hs => loc_storeN (ho := (by show OneAll [_, _, _, _, _, _, _, _]; infer_instance)) rfl rfl rfl) (by exact .cons (.inl rfl) (.cons (.inl rfl) (.nil))) ?_
            refine dq_write0 rfl (fun s => .op rfl (.op rfl (.nil))) rfl rfl (fun s hs => loc_storeN (ho := (by show OneAll [_, _, _, _, _, _, _, _]; infer_instance)) rfl rfl rfl) (by exact .cons (.inl rfl) (.cons (.inl rfl) (.nil))) ?_
            refine dq_pure rfl (fun s => .op rfl (.nil)) (fun s hs _ => loc_assign rfl) (by exact .cons (.inl rfl) (.cons (.inl rfl) (.nil))) ?_
            refine dq_pure rfl (fun s => .op rfl (.nil)) (fun s hs _ => loc_assign rfl) (by exact .cons (.inl rfl) (.cons (.inl rfl) (.nil))) ?_
            refine dq_end (rs := [_, _, _, _, _, _, _]) (0, 0) rfl (fun _ => rfl) (.cons rfl (.cons rfl (.nil))) rfl (fun s9 _ => ?_)
            obtain ⟨b24, b25⟩ := s9
            dsimp only [outG, outM, List.map, List.set, id]
            rw [hpg]
            refine run_seq ?_
            refine run_seq ?_
            refine run_region ?_
            refine run_op (loc_move rfl) rfl ?_
            refine run_op (loc_neq rfl rfl) rfl ?_
            refine run_op (loc_move rfl) rfl ?_
            refine run_gfirst rfl rfl (by first | exact guard_true _ | exact guard_false _ | exact guard_if (guard_true _) | exact guard_if (guard_false _)) (fun hg => loc_move rfl) rfl ?_
            refine run_gop rfl rfl (by first | exact guard_true _ | exact guard_false _ | exact guard_if (guard_true _) | exact guard_if (guard_false _)) (fun hg => loc_move rfl) rfl ?_
            first | refine run_gop rfl rfl (by first | exact guard_true _ | exact guard_false _ | exact guard_if (guard_true _) | exact guard_if (guard_false _)) (fun hg => loc_add rfl rfl (by first | omega | assumption)) rfl ?_ | refine run_gop rfl rfl (by first | exact guard_true _ | exact guard_false _ | exact guard_if (guard_true _) | exact guard_if (guard_false _)) (fun hg => loc_addW rfl rfl) rfl ?_
            refine run_gop rfl rfl (by first | exact guard_true _ | exact guard_false _ | exact guard_if (guard_true _) | exact guard_if (guard_false _)) (fun hg => loc_fieldAddrOwn rfl) rfl ?_
            refine run_gop rfl rfl (by first | exact guard_true _ | exact guard_false _ | exact guard_if (guard_true _) | exact guard_if (guard_false _)) (fun hg => loc_loadOwn1 rfl (.there (.there (.there (.there (.here))))) (by rfl)) rfl ?_
            refine run_gop rfl rfl (by first | exact guard_true _ | exact guard_false _ | exact guard_if (guard_true _) | exact guard_if (guard_false _)) (fun hg => loc_eql rfl rfl) rfl ?_
            refine run_gop rfl rfl (by first | exact guard_true _ | exact guard_false _ | exact guard_if (guard_true _) | exact guard_if (guard_false _)) (fun hg => loc_neqB rfl rfl) rfl ?_
            refine run_gleave ?_
            refine run_op (loc_or rfl rfl) rfl ?_
            refine run_nil ?_
            refine run_cond rfl (fun h26 => ?_) (fun h26 => ?_)
            · exfalso; rcases h26 with h | h; (· exact h hwd.1); (· rw [hwd.2.1] at h; exact h Iff.rfl)
            ·
              refine run_skip ?_
              refine run_seq ?_
              refine run_region ?_
              refine run_op (loc_loadOwnN rfl (.there (.here)) (by rfl)) rfl ?_
              refine run_storeN (ho := (by show OneAll [_, _, _, _, _, _, _, _]; infer_instance)) rfl rfl (.there (.there (.here))) (by rfl) ?_
              refine run_nil ?_
              refine run_seq ?_
              have hnz := note_sz hO hqm hwd.2.2.2.2
              refine dr_start _ (.none) [⟨[(27, none)], [], none⟩,
                  ⟨[(174, some (0, false))], [0], none⟩,
                  ⟨[(26, none)], [0, 1], none⟩,
                  ⟨[(176, some (2, true))], [0, 1, 2], some (0, 0, false)⟩,
                  ⟨[(21, none)], [0, 1], none⟩,
                  ⟨[(177, some (3, true)), (178, some (4, true))], [0, 1, 2, 3, 4], none⟩,
                  ⟨[(179, some (5, true))], [0, 1, 2, 3, 4, 5], none⟩,
                  ⟨[(180, some (6, true))], [0, 1, 2, 3, 4, 5, 6], none⟩,
                  ⟨[(26, none)], [0, 1, 2, 3, 4, 5, 6, 7], none⟩,
                  ⟨[(182, some (8, true))], [0, 1, 2, 3, 4, 5, 6, 7, 8], some (0, 0, false)⟩,
                  ⟨[(20, none)], [0, 1, 2, 3, 4, 5, 6, 7], none⟩,
                  ⟨[(183, some (9, true)), (184, some (10, true))], [0, 1, 2, 3, 4, 5, 6, 7, 8, 9, 10], none⟩,
                  ⟨[(185, some (11, true))], [0, 1, 2, 3, 4, 5, 6, 7, 8, 9, 10, 11], none⟩,
                  ⟨[(181, some (7, true)), (186, some (12, false))], [0, 1, 2, 3, 4, 5, 6, 7, 8, 9, 10, 11, 12], none⟩,
                  ⟨[(187, some (13, true))], [0, 1, 2, 3, 4, 5, 6, 7, 8, 9, 10, 11, 12, 13], none⟩,
                  ⟨[(26, none)], [0, 1, 2, 3, 4, 5, 6, 7, 8, 9, 10, 11, 12, 13, 14], none⟩,
                  ⟨[(189, some (15, true))], [0, 1, 2, 3, 4, 5, 6, 7, 8, 9, 10, 11, 12, 13, 14, 15], some (0, 0, false)⟩,
                  ⟨[(7, none)], [0, 1, 2, 3, 4, 5, 6, 7, 8, 9, 10, 11, 12, 13, 14], none⟩,
                  ⟨[(190, some (16, true)), (191, some (17, true))], [0, 1, 2, 3, 4, 5, 6, 7, 8, 9, 10, 11, 12, 13, 14, 15, 16, 17], none⟩,
                  ⟨[(188, some (14, true)), (192, some (18, false))], [0, 1, 2, 3, 4, 5, 6, 7, 8, 9, 10, 11, 12, 13, 14, 15, 16, 17, 18], none⟩,
                  ⟨[(193, some (19, true))], [0, 1, 2, 3, 4, 5, 6, 7, 8, 9, 10, 11, 12, 13, 14, 15, 16, 17, 18, 19], none⟩,
                  ⟨[(26, none)], [0, 1, 2, 3, 4, 5, 6, 7, 8, 9, 10, 11, 12, 13, 14, 15, 16, 17, 18, 19, 20], none⟩,
                  ⟨[(195, some (21, true))], [0, 1, 2, 3, 4, 5, 6, 7, 8, 9, 10, 11, 12, 13, 14, 15, 16, 17, 18, 19, 20, 21], some (0, 0, false)⟩,
                  ⟨[(6, none)], [0, 1, 2, 3, 4, 5, 6, 7, 8, 9, 10, 11, 12, 13, 14, 15, 16, 17, 18, 19, 20], none⟩,
                  ⟨[(197, some (23, true))], [0, 1, 2, 3, 4, 5, 6, 7, 8, 9, 10, 11, 12, 13, 14, 15, 16, 17, 18, 19, 20, 23], some (4, 0, false)⟩,
                  ⟨[(196, some (22, true)), (198, some (24, true))], [0, 1, 2, 3, 4, 5, 6, 7, 8, 9, 10, 11, 12, 13, 14, 15, 16, 17, 18, 19, 20, 21, 22, 23, 24], none⟩,
                  ⟨[(194, some (20, true)), (199, some (25, false))], [0, 1, 2, 3, 4, 5, 6, 7, 8, 9, 10, 11, 12, 13, 14, 15, 16, 17, 18, 19, 20, 21, 22, 23, 24, 25], none⟩,
                  ⟨[(200, some (26, true))], [0, 1, 2, 3, 4, 5, 6, 7, 8, 9, 10, 11, 12, 13, 14, 15, 16, 17, 18, 19, 20, 21, 22, 23, 24, 25, 26], none⟩,
                  ⟨[], [0, 1, 2, 3, 4, 5, 6, 7, 8, 9, 10, 11, 12, 13, 14, 15, 16, 17, 18, 19, 20, 21, 22, 23, 24, 25, 26, 27], none⟩,
                  ⟨[(7, none)], [0, 1, 2, 3, 4, 5, 6, 7, 8, 9, 10, 11, 12, 13, 14, 15, 16, 17, 18, 19, 20, 21, 22, 23, 24, 25, 26, 27], none⟩,
                  ⟨[(26, none)], [0, 1, 2, 3, 4, 5, 6, 7, 8, 9, 10, 11, 12, 13, 14, 15, 16, 17, 18, 19, 20, 21, 22, 23, 24, 25, 26, 27], some (0, 0, false)⟩,
                  ⟨[(204, some (30, true))], [0, 1, 2, 3, 4, 5, 6, 7, 8, 9, 10, 11, 12, 13, 14, 15, 16, 17, 18, 19, 20, 21, 22, 23, 24, 25, 26, 27, 28, 30], none⟩,
                  ⟨[(26, none)], [0, 1, 2, 3, 4, 5, 6, 7, 8, 9, 10, 11, 12, 13, 14, 15, 16, 17, 18, 19, 20, 21, 22, 23, 24, 25, 26, 27], none⟩,
                  ⟨[(206, some (32, true))], [0, 1, 2, 3, 4, 5, 6, 7, 8, 9, 10, 11, 12, 13, 14, 15, 16, 17, 18, 19, 20, 21, 22, 23, 24, 25, 26, 27, 32], some (0, 0, false)⟩,
                  ⟨[(202, some (28, true)), (203, some (29, true)), (205, some (31, true)), (207, some (33, true))], [0, 1, 2, 3, 4, 5, 6, 7, 8, 9, 10, 11, 12, 13, 14, 15, 16, 17, 18, 19, 20, 21, 22, 23, 24, 25, 26, 27, 28, 29, 30, 31, 32, 33], none⟩,
                  ⟨[(208, some (34, true))], [0, 1, 2, 3, 4, 5, 6, 7, 8, 9, 10, 11, 12, 13, 14, 15, 16, 17, 18, 19, 20, 21, 22, 23, 24, 25, 26, 27, 28, 29, 30, 31, 32, 33, 34], none⟩,
                  ⟨[(201, some (27, true)), (209, some (35, false))], [0, 1, 2, 3, 4, 5, 6, 7, 8, 9, 10, 11, 12, 13, 14, 15, 16, 17, 18, 19, 20, 21, 22, 23, 24, 25, 26, 27, 28, 29, 30, 31, 32, 33, 34, 35], none⟩,
                  ⟨[(175, some (1, false)), (210, some (36, false))], [0, 1, 2, 3, 4, 5, 6, 7, 8, 9, 10, 11, 12, 13, 14, 15, 16, 17, 18, 19, 20, 21, 22, 23, 24, 25, 26, 27, 28, 29, 30, 31, 32, 33, 34, 35, 36], none⟩] [_, _, _, _, _, _, _] _ rfl rfl ?_
              refine dq_pure rfl (fun s => .g rfl (.nil)) (fun s hs _ => loc_move rfl) (by exact .nil) ?_
              refine dq_pure rfl (fun s => .op rfl (.nil)) (fun s hs _ => loc_move rfl) (by exact .nil) ?_
              refine dq_gpure rfl (fun s => .g rfl (.nil)) rfl (fun _ => by first | exact guard_true _ | exact guard_false _ | exact guard_if (guard_true _) | exact guard_if (guard_false _)) (fun s hs hg _ => loc_fieldAddrOwn rfl) (by exact .nil) ?_
              refine dq_gread rfl (fun s => .opU rfl (.nil)) rfl rfl rfl (fun _ => by first | exact guard_true _ | exact guard_false _ | exact guard_if (guard_true _) | exact guard_if (guard_false _)) (fun s hs hg _ hm => loc_loadOwn1 rfl hm (by rfl)) (by exact .nil) ?_
              refine dq_gpure rfl (fun s => .g rfl (.nil)) rfl (fun _ => by first | exact guard_true _ | exact guard_false _ | exact guard_if (guard_true _) | exact guard_if (guard_false _)) (fun s hs hg _ => loc_move rfl) (by exact .nil) ?_
              refine dq_gpure rfl (fun s => .opU rfl (.opU rfl (.nil))) rfl (fun _ => by first | exact guard_true _ | exact guard_false _ | exact guard_if (guard_true _) | exact guard_if (guard_false _)) (fun s hs hg _ => loc_call (ints30_spec _ _) rfl) (by exact .nil) ?_
              refine dq_gpure rfl (fun s => .opU rfl (.nil)) rfl (fun _ => by first | exact guard_true _ | exact guard_false _ | exact guard_if (guard_true _) | exact guard_if (guard_false _)) (fun s hs hg _ => loc_not rfl) (by exact .nil) ?_
              refine dq_gpure rfl (fun s => .opU rfl (.nil)) rfl (fun _ => by first | exact guard_true _ | exact guard_false _ | exact guard_if (guard_true _) | exact guard_if (guard_false _)) (fun s hs hg _ => loc_move rfl) (by exact .nil) ?_
              refine dq_gpure rfl (fun s => .g rfl (.nil)) rfl (fun _ => by first | exact guard_true _ | exact guard_false _ | exact guard_if (guard_true _) | exact guard_if (guard_false _)) (fun s hs hg _ => loc_fieldAddrOwn rfl) (by exact .nil) ?_
              refine dq_gread rfl (fun s => .opU rfl (.nil)) rfl rfl rfl (fun _ => by first | exact guard_true _ | exact guard_false _ | exact guard_if (guard_true _) | exact guard_if (guard_false _)) (fun s hs hg _ hm => loc_loadOwn1 rfl hm (by rfl)) (by exact .nil) ?_
              refine dq_gpure rfl (fun s => .g rfl (.nil)) rfl (fun _ => by first | exact guard_true _ | exact guard_false _ | exact guard_if (guard_true _) | exact guard_if (guard_false _)) (fun s hs hg _ => loc_move rfl) (by exact .nil) ?_
              refine dq_gpure rfl (fun s => .opU rfl (.opU rfl (.nil))) rfl (fun _ => by first | exact guard_true _ | exact guard_false _ | exact guard_if (guard_true _) | exact guard_if (guard_false _)) (fun s hs hg _ => loc_call (ints30_spec _ _) rfl) (by exact .nil) ?_
              refine dq_gpure rfl (fun s => .opU rfl (.nil)) rfl (fun _ => by first | exact guard_true _ | exact guard_false _ | exact guard_if (guard_true _) | exact guard_if (guard_false _)) (fun s hs hg _ => loc_not rfl) (by exact .nil) ?_
              first | refine dq_gpure rfl (fun s => .opU rfl (.op rfl (.nil))) rfl (fun _ => by first | exact guard_true _ | exact guard_false _ | exact guard_if (guard_true _) | exact guard_if (guard_false _)) (fun s hs hg _ => loc_or rfl rfl) (by exact .nil) ?_ | refine dq_gpure rfl (fun s => .opU rfl (.op rfl (.nil))) rfl (fun _ => by first | exact guard_true _ | exact guard_false _ | exact guard_if (guard_true _) | exact guard_if (guard_false _)) (fun s hs hg _ => loc_orG hg rfl rfl) (by exact .nil) ?_ | refine dq_gpure rfl (fun s => .opU rfl (.op rfl (.nil))) rfl (fun _ => by first | exact guard_true _ | exact guard_false _ | exact guard_if (guard_true _) | exact guard_if (guard_false _)) (fun s hs hg _ => loc_orH hg rfl rfl) (by exact .nil) ?_
              refine dq_gpure rfl (fun s => .opU rfl (.nil)) rfl (fun _ => by first | exact guard_true _ | exact guard_false _ | exact guard_if (guard_true _) | exact guard_if (guard_false _)) (fun s hs hg _ => loc_move rfl) (by exact .nil) ?_
              refine dq_gpure rfl (fun s => .g rfl (.nil)) rfl (fun _ => by first | exact guard_true _ | exact guard_false _ | exact guard_if (guard_true _) | exact guard_if (guard_false _)) (fun s hs hg _ => loc_fieldAddrOwn rfl) (by exact .nil) ?_
              refine dq_gread rfl (fun s => .opU rfl (.nil)) rfl rfl rfl (fun _ => by first | exact guard_true _ | exact guard_false _ | exact guard_if (guard_true _) | exact guard_if (guard_false _)) (fun s hs hg _ hm => loc_loadOwn1 rfl hm (by rfl)) (by exact .nil) ?_
              refine dq_gpure rfl (fun s => .g rfl (.nil)) rfl (fun _ => by first | exact guard_true _ | exact guard_false _ | exact guard_if (guard_true _) | exact guard_if (guard_false _)) (fun s hs hg _ => loc_move rfl) (by exact .nil) ?_
              refine dq_gpure rfl (fun s => .opU rfl (.opU rfl (.nil))) rfl (fun _ => by first | exact guard_true _ | exact guard_false _ | exact guard_if (guard_true _) | exact guard_if (guard_false _)) (fun s hs hg _ => loc_neq rfl rfl) (by exact .nil) ?_
              first | refine dq_gpure rfl (fun s => .opU rfl (.op rfl (.nil))) rfl (fun _ => by first | exact guard_true _ | exact guard_false _ | exact guard_if (guard_true _) | exact guard_if (guard_false _)) (fun s hs hg _ => loc_or rfl rfl) (by exact .nil) ?_ | refine dq_gpure rfl (fun s => .opU rfl (.op rfl (.nil))) rfl (fun _ => by first | exact guard_true _ | exact guard_false _ | exact guard_if (guard_true _) | exact guard_if (guard_false _)) (fun s hs hg _ => loc_orG hg rfl rfl) (by exact .nil) ?_ | refine dq_gpure rfl (fun s => .opU rfl (.op rfl (.nil))) rfl (fun _ => by first | exact guard_true _ | exact guard_false _ | exact guard_if (guard_true _) | exact guard_if (guard_false _)) (fun s hs hg _ => loc_orH hg rfl rfl) (by exact .nil) ?_
              refine dq_gpure rfl (fun s => .opU rfl (.nil)) rfl (fun _ => by first | exact guard_true _ | exact guard_false _ | exact guard_if (guard_true _) | exact guard_if (guard_false _)) (fun s hs hg _ => loc_move rfl) (by exact .nil) ?_
              refine dq_gpure rfl (fun s => .g rfl (.nil)) rfl (fun _ => by first | exact guard_true _ | exact guard_false _ | exact guard_if (guard_true _) | exact guard_if (guard_false _)) (fun s hs hg _ => loc_fieldAddrOwn rfl) (by exact .nil) ?_
              refine dq_gread rfl (fun s => .opU rfl (.nil)) rfl rfl rfl (fun _ => by first | exact guard_true _ | exact guard_false _ | exact guard_if (guard_true _) | exact guard_if (guard_false _)) (fun s hs hg _ hm => loc_loadOwn1 rfl hm (by rfl)) (by exact .nil) ?_
              refine dq_gpure rfl (fun s => .g rfl (.nil)) rfl (fun _ => by first | exact guard_true _ | exact guard_false _ | exact guard_if (guard_true _) | exact guard_if (guard_false _)) (fun s hs hg _ => loc_fieldAddrOwn rfl) (by exact .nil) ?_
              refine dq_gread rfl (fun s => .opU rfl (.nil)) rfl rfl rfl (fun _ => by first | exact guard_true _ | exact guard_false _ | exact guard_if (guard_true _) | exact guard_if (guard_false _)) (fun s hs hg _ hm => loc_loadOwn1 rfl hm (by rfl)) (by exact .nil) ?_
              refine dq_gpure rfl (fun s => .opU rfl (.opU rfl (.nil))) rfl (fun _ => by first | exact guard_true _ | exact guard_false _ | exact guard_if (guard_true _) | exact guard_if (guard_false _)) (fun s hs hg _ => loc_neq rfl rfl) (by exact .nil) ?_
              first | refine dq_gpure rfl (fun s => .opU rfl (.op rfl (.nil))) rfl (fun _ => by first | exact guard_true _ | exact guard_false _ | exact guard_if (guard_true _) | exact guard_if (guard_false _)) (fun s hs hg _ => loc_or rfl rfl) (by exact .nil) ?_ | refine dq_gpure rfl (fun s => .opU rfl (.op rfl (.nil))) rfl (fun _ => by first | exact guard_true _ | exact guard_false _ | exact guard_if (guard_true _) | exact guard_if (guard_false _)) (fun s hs hg _ => loc_orG hg rfl rfl) (by exact .nil) ?_ | refine dq_gpure rfl (fun s => .opU rfl (.op rfl (.nil))) rfl (fun _ => by first | exact guard_true _ | exact guard_false _ | exact guard_if (guard_true _) | exact guard_if (guard_false _)) (fun s hs hg _ => loc_orH hg rfl rfl) (by exact .nil) ?_
              refine dq_gpure rfl (fun s => .opU rfl (.nil)) rfl (fun _ => by first | exact guard_true _ | exact guard_false _ | exact guard_if (guard_true _) | exact guard_if (guard_false _)) (fun s hs hg _ => loc_move rfl) (by exact .nil) ?_
              refine dq_gpure rfl (fun s => .nil) rfl (fun _ => by first | exact guard_true _ | exact guard_false _ | exact guard_if (guard_true _) | exact guard_if (guard_false _)) (fun s hs hg _ => loc_call (people_spec) rfl) (by exact .nil) ?_
              refine dq_gpure rfl (fun s => .g rfl (.nil)) rfl (fun _ => by first | exact guard_true _ | exact guard_false _ | exact guard_if (guard_true _) | exact guard_if (guard_false _)) (fun s hs hg _ => loc_move rfl) (by exact .nil) ?_
              refine dq_gread rfl (fun s => .g rfl (.nil)) rfl rfl rfl (fun _ => by first | exact guard_true _ | exact guard_false _ | exact guard_if (guard_true _) | exact guard_if (guard_false _)) (fun s hs hg _ hm => loc_loadOwnN rfl hm (by rfl)) (by exact .nil) ?_
              refine dq_gpure rfl (fun s => .opU rfl (.nil)) rfl (fun _ => by first | exact guard_true _ | exact guard_false _ | exact guard_if (guard_true _) | exact guard_if (guard_false _)) (fun s hs hg _ => loc_call (numbers_spec _ hnz) rfl) (by exact .nil) ?_
              refine dq_gpure rfl (fun s => .g rfl (.nil)) rfl (fun _ => by first | exact guard_true _ | exact guard_false _ | exact guard_if (guard_true _) | exact guard_if (guard_false _)) (fun s hs hg _ => loc_fieldAddrOwn rfl) (by exact .nil) ?_
              refine dq_gread rfl (fun s => .opU rfl (.nil)) rfl rfl rfl (fun _ => by first | exact guard_true _ | exact guard_false _ | exact guard_if (guard_true _) | exact guard_if (guard_false _)) (fun s hs hg _ hm => loc_loadOwn1 rfl hm (by rfl)) (by exact .nil) ?_
              refine dq_gpure rfl (fun s => .opU rfl (.opU rfl (.opU rfl (.opU rfl (.nil))))) rfl (fun _ => by first | exact guard_true _ | exact guard_false _ | exact guard_if (guard_true _) | exact guard_if (guard_false _)) (fun s hs hg _ => loc_call (verify22_spec _ _ _ (by omega)) rfl) (by exact .nil) ?_
              refine dq_gpure rfl (fun s => .opU rfl (.nil)) rfl (fun _ => by first | exact guard_true _ | exact guard_false _ | exact guard_if (guard_true _) | exact guard_if (guard_false _)) (fun s hs hg _ => loc_not rfl) (by exact .nil) ?_
              first | refine dq_gpure rfl (fun s => .opU rfl (.op rfl (.nil))) rfl (fun _ => by first | exact guard_true _ | exact guard_false _ | exact guard_if (guard_true _) | exact guard_if (guard_false _)) (fun s hs hg _ => loc_or rfl rfl) (by exact .nil) ?_ | refine dq_gpure rfl (fun s => .opU rfl (.op rfl (.nil))) rfl (fun _ => by first | exact guard_true _ | exact guard_false _ | exact guard_if (guard_true _) | exact guard_if (guard_false _)) (fun s hs hg _ => loc_orG hg rfl rfl) (by exact .nil) ?_ | refine dq_gpure rfl (fun s => .opU rfl (.op rfl (.nil))) rfl (fun _ => by first | exact guard_true _ | exact guard_false _ | exact guard_if (guard_true _) | exact guard_if (guard_false _)) (fun s hs hg _ => loc_orH hg rfl rfl) (by exact .nil) ?_
              refine dq_pure rfl (fun s => .op rfl (.op rfl (.nil))) (fun s hs _ => loc_and rfl rfl) (by exact .nil) ?_
              refine dq_end (rs := [_, _, _, _, _, _, _]) () rfl (fun _ => rfl) (.nil) rfl (fun _ _ => ?_)
              dsimp only [outG, outM, List.map, List.set, id]
              refine run_cond rfl (fun h27 => ?_) (fun h27 => ?_)
              · exfalso; obtain ⟨h5, h6⟩ := h27; have h7 := hwd.2.2.2.2 h5; simp_all
              ·
                refine run_skip ?_
                refine run_inBlock ?_
                refine run_region ?_
                refine run_op (loc_move rfl) rfl ?_
                first | refine run_op (loc_add rfl rfl (by first | omega | assumption)) rfl ?_ | refine run_op (loc_addW rfl rfl) rfl ?_
                refine run_op (loc_assign rfl) rfl ?_
                refine run_nil ?_
                refine run_drop (.cons _ (.cons _ (.refl _))) ?_
                exact run_againF ih17 ((i + 1, y, dd.next)) (⟨by simp only; omega, hy, Dc.next_ok hdd⟩) (by simp only; omega) (.cons rfl (by first | exact fun _ _ h => h | exact d_int (by omega) | exact d_int (by simp) | exact d_intN (by omega) | exact d_any) (.cons rfl (by first | exact fun _ _ h => h | exact d_int (by omega) | exact d_int (by simp) | exact d_intN (by omega) | exact d_any) .nil)) (.cons rfl (fun _ _ x => x) (.cons rfl (fun _ _ x => x) (.cons rfl (fun _ _ x => x) (.cons rfl (fun _ _ x => x) (.cons rfl (fun _ _ x => x) (.cons rfl (fun _ _ x => x) (.cons rfl (fun _ _ x => x) (.cons rfl (fun _ _ x => x) (.cons rfl (fun _ _ x => x) (.cons rfl (fun _ _ x => x) (.cons rfl (fun _ _ x => x) (.nil)))))))))))) (by simp only [appR]; by_cases hl : ((i + 1 : Nat) : Int) < tb.1.width; (· rw [if_pos hl, hwd.2.2.1 (by omega)]; try rfl); (· rw [if_neg hl, hwd.2.2.2.1 (by omega)]; try rfl))
          ·
            refine run_exit rfl ?_
            refine run_inBlock ?_
            refine run_region ?_
            first | refine run_op (loc_add rfl rfl (by first | omega | assumption)) rfl ?_ | refine run_op (loc_addW rfl rfl) rfl ?_
            refine run_op (loc_move rfl) rfl ?_
            refine run_nil ?_
            exact run_againF ih15 ((m + 1, c, dd)) (⟨by simp only; omega, hc, hdd⟩) (by simp only; omega) (.cons rfl (by first | exact fun _ _ h => h | exact d_int (by omega) | exact d_int (by simp) | exact d_intN (by omega) | exact d_any) (.cons rfl (by first | exact fun _ _ h => h | exact d_int (by omega) | exact d_int (by simp) | exact d_intN (by omega) | exact d_any) .nil)) (.cons rfl (fun _ _ x => x) (.cons rfl (fun _ _ x => x) (.cons rfl (fun _ _ x => x) (.cons rfl (fun _ _ x => x) (.cons rfl (fun _ _ x => x) (.cons rfl (fun _ _ x => x) (.cons rfl (fun _ _ x => x) (.cons rfl (fun _ _ x => x) (.nil))))))))) (by simp only [appR]; rw [if_neg (by omega)]; try rfl)
        ·
          refine run_exit rfl ?_
          refine run_seq ?_
          have hme : m = qs.length := by simp only at *; omega
          subst hme
          rw [List.drop_length]
          refine run_addNone ?_
          refine run_addNone ?_
          refine dr_start _ (.two (τ1 := Nat) (τ2 := Nat) 12 13 (fun _ => True) (fun _ => True)) [⟨[(8, none)], [], some (2, 0, false)⟩,
              ⟨[], [], none⟩,
              ⟨[(7, none)], [], none⟩,
              ⟨[(216, some (2, false))], [2], none⟩,
              ⟨[(215, some (1, false)), (217, some (3, false))], [1, 2, 3], none⟩,
              ⟨[(218, some (4, false))], [1, 2, 3, 4], none⟩,
              ⟨[(214, some (0, false)), (219, some (5, false))], [0, 1, 2, 3, 4, 5], none⟩,
              ⟨[(220, some (6, false))], [0, 1, 2, 3, 4, 5, 6], none⟩,
              ⟨[(213, some (7, false))], [0, 1, 2, 3, 4, 5, 6, 7], none⟩,
              ⟨[(213, some (7, false))], [0, 1, 2, 3, 4, 5, 6, 7], none⟩,
              ⟨[(213, some (7, false))], [0, 1, 2, 3, 4, 5, 6, 7], none⟩,
              ⟨[(213, some (7, false))], [0, 1, 2, 3, 4, 5, 6, 7], none⟩,
              ⟨[], [], some (1, 0, true)⟩,
              ⟨[], [], some (0, 0, true)⟩,
              ⟨[(29, some (12, false)), (221, some (8, false))], [0, 1, 2, 3, 4, 5, 6, 7, 8, 12, 13], some (1, 1, true)⟩,
              ⟨[(30, some (13, false)), (222, some (9, false))], [0, 1, 2, 3, 4, 5, 6, 7, 8, 9, 12, 13, 14], some (0, 1, true)⟩,
              ⟨[(223, some (10, false))], [0, 1, 2, 3, 4, 5, 6, 7, 8, 9, 10, 12, 13, 14, 15], none⟩,
              ⟨[(224, some (11, false))], [0, 1, 2, 3, 4, 5, 6, 7, 8, 9, 10, 11, 12, 13, 14, 15, 16], none⟩] [_, _, _, _, _, _, _] _ rfl rfl ?_
          refine dq_read rfl (fun s => .g rfl (.nil)) rfl rfl (fun s hs _ hm => loc_loadOwnN rfl hm (by rfl)) (by exact .cons (.inr fun s s' h => by obtain ⟨a, b⟩ := s; obtain ⟨c, d⟩ := s'; have h : d = b := h; subst h; exact rfl) (.cons (.inr fun s s' h => by obtain ⟨a, b⟩ := s; obtain ⟨c, d⟩ := s'; have h : c = a := h; subst h; exact rfl) (.nil))) ?_
          refine dq_pure rfl (fun s => .nil) (fun s hs _ => loc_call (people_spec) rfl) (by exact .cons (.inr fun s s' h => by obtain ⟨a, b⟩ := s; obtain ⟨c, d⟩ := s'; have h : d = b := h; subst h; exact rfl) (.cons (.inr fun s s' h => by obtain ⟨a, b⟩ := s; obtain ⟨c, d⟩ := s'; have h : c = a := h; subst h; exact rfl) (.nil))) ?_
          refine dq_pure rfl (fun s => .g rfl (.nil)) (fun s hs _ => loc_move rfl) (by exact .cons (.inr fun s s' h => by obtain ⟨a, b⟩ := s; obtain ⟨c, d⟩ := s'; have h : d = b := h; subst h; exact rfl) (.cons (.inr fun s s' h => by obtain ⟨a, b⟩ := s; obtain ⟨c, d⟩ := s'; have h : c = a := h; subst h; exact rfl) (.nil))) ?_
          first | refine dq_pure rfl (fun s => .op rfl (.nil)) (fun s hs _ => loc_sub rfl rfl (by first | omega | assumption)) (by exact .cons (.inr fun s s' h => by obtain ⟨a, b⟩ := s; obtain ⟨c, d⟩ := s'; have h : d = b := h; subst h; exact rfl) (.cons (.inr fun s s' h => by obtain ⟨a, b⟩ := s; obtain ⟨c, d⟩ := s'; have h : c = a := h; subst h; exact rfl) (.nil))) ?_ | refine dq_pure rfl (fun s => .op rfl (.nil)) (fun s hs _ => loc_subW rfl rfl) (by exact .cons (.inr fun s s' h => by obtain ⟨a, b⟩ := s; obtain ⟨c, d⟩ := s'; have h : d = b := h; subst h; exact rfl) (.cons (.inr fun s s' h => by obtain ⟨a, b⟩ := s; obtain ⟨c, d⟩ := s'; have h : c = a := h; subst h; exact rfl) (.nil))) ?_
          first | refine dq_pure rfl (fun s => .op rfl (.op rfl (.nil))) (fun s hs _ => loc_index rfl rfl (by first | omega | assumption)) (by exact .cons (.inr fun s s' h => by obtain ⟨a, b⟩ := s; obtain ⟨c, d⟩ := s'; have h : d = b := h; subst h; exact rfl) (.cons (.inr fun s s' h => by obtain ⟨a, b⟩ := s; obtain ⟨c, d⟩ := s'; have h : c = a := h; subst h; exact rfl) (.nil))) ?_ | refine dq_pure rfl (fun s => .op rfl (.op rfl (.nil))) (fun s hs _ => loc_indexI rfl rfl (by first | omega | assumption)) (by exact .cons (.inr fun s s' h => by obtain ⟨a, b⟩ := s; obtain ⟨c, d⟩ := s'; have h : d = b := h; subst h; exact rfl) (.cons (.inr fun s s' h => by obtain ⟨a, b⟩ := s; obtain ⟨c, d⟩ := s'; have h : c = a := h; subst h; exact rfl) (.nil))) ?_
          refine dq_pure rfl (fun s => .op rfl (.nil)) (fun s hs _ => loc_loadN rfl rfl) (by exact .cons (.inr fun s s' h => by obtain ⟨a, b⟩ := s; obtain ⟨c, d⟩ := s'; have h : d = b := h; subst h; exact rfl) (.cons (.inr fun s s' h => by obtain ⟨a, b⟩ := s; obtain ⟨c, d⟩ := s'; have h : c = a := h; subst h; exact rfl) (.nil))) ?_
          refine dq_pure rfl (fun s => .op rfl (.op rfl (.nil))) (fun s hs _ => loc_call (vword0_spec (vA sc.1 sid tb.1 (c + 1) []) (peopleL[(sid - 1).toNat]?.getD default) 0 (vA_sz hO (by omega) (by simp) (fun j hj => by cases hj)) trivial rfl) rfl) (by exact .cons (.inr fun s s' h => by obtain ⟨a, b⟩ := s; obtain ⟨c, d⟩ := s'; have h : d = b := h; subst h; exact rfl) (.cons (.inr fun s s' h => by obtain ⟨a, b⟩ := s; obtain ⟨c, d⟩ := s'; have h : c = a := h; subst h; exact rfl) (.nil))) ?_
          refine dq_pure rfl (fun s => .op rfl (.nil)) (fun s hs _ => loc_move rfl) (by exact .cons (.inr fun s s' h => by obtain ⟨a, b⟩ := s; obtain ⟨c, d⟩ := s'; have h : d = b := h; subst h; exact rfl) (.cons (.inr fun s s' h => by obtain ⟨a, b⟩ := s; obtain ⟨c, d⟩ := s'; have h : c = a := h; subst h; exact rfl) (.nil))) ?_
          refine dq_pure rfl (fun s => .op rfl (.nil)) (fun s hs _ => loc_extract rfl rfl) (by exact .cons (.inr fun s s' h => by obtain ⟨a, b⟩ := s; obtain ⟨c, d⟩ := s'; have h : d = b := h; subst h; exact rfl) (.cons (.inr fun s s' h => by obtain ⟨a, b⟩ := s; obtain ⟨c, d⟩ := s'; have h : c = a := h; subst h; exact rfl) (.nil))) ?_
          refine dq_pure rfl (fun s => .op rfl (.nil)) (fun s hs _ => loc_extract rfl rfl) (by exact .cons (.inr fun s s' h => by obtain ⟨a, b⟩ := s; obtain ⟨c, d⟩ := s'; have h : d = b := h; subst h; exact rfl) (.cons (.inr fun s s' h => by obtain ⟨a, b⟩ := s; obtain ⟨c, d⟩ := s'; have h : c = a := h; subst h; exact rfl) (.nil))) ?_
          refine dq_pure rfl (fun s => .op rfl (.nil)) (fun s hs _ => loc_extract rfl rfl) (by exact .cons (.inr fun s s' h => by obtain ⟨a, b⟩ := s; obtain ⟨c, d⟩ := s'; have h : d = b := h; subst h; exact rfl) (.cons (.inr fun s s' h => by obtain ⟨a, b⟩ := s; obtain ⟨c, d⟩ := s'; have h : c = a := h; subst h; exact rfl) (.nil))) ?_
          refine dq_pure rfl (fun s => .op rfl (.nil)) (fun s hs _ => loc_extract rfl rfl) (by exact .cons (.inr fun s s' h => by obtain ⟨a, b⟩ := s; obtain ⟨c, d⟩ := s'; have h : d = b := h; subst h; exact rfl) (.cons (.inr fun s s' h => by obtain ⟨a, b⟩ := s; obtain ⟨c, d⟩ := s'; have h : c = a := h; subst h; exact rfl) (.nil))) ?_
          refine dq_choose Prod.fst (fun s t => (t, s.2)) rfl (fun _ _ => ⟨rfl, id, rfl⟩) (fun s => .nil) rfl rfl (fun s hs => locM_new (loc_allocOwn (by simp))) (by exact .cons (.inl rfl) (.cons (.inr (.inr fun s s' h => by obtain ⟨a, b⟩ := s; obtain ⟨c, d⟩ := s'; have h : c = a := h; subst h; exact rfl)) (.nil))) ?_
          refine dq_choose Prod.snd (fun s t => (s.1, t)) rfl (fun _ _ => ⟨rfl, id, rfl⟩) (fun s => .nil) rfl rfl (fun s hs => locM_new (loc_allocOwn (by simp))) (by exact .cons (.inr (.inr fun s s' h => by obtain ⟨a, b⟩ := s; obtain ⟨c, d⟩ := s'; have h : d = b := h; subst h; exact rfl)) (.cons (.inl rfl) (.nil))) ?_
          refine dq_write0 rfl (fun s => .op rfl (.op rfl (.nil))) rfl rfl (fun s hs => loc_storeN (ho := (by show OneAll [_, _, _, _, _, _, _, _]; infer_instance)) rfl rfl rfl) (by exact .cons (.inl rfl) (.cons (.inl rfl) (.nil))) ?_
          refine dq_write0 rfl (fun s => .op rfl (.op rfl (.nil))) rfl rfl (fun s hs => loc_storeN (ho := (by show OneAll [_, _, _, _, _, _, _, _]; infer_instance)) rfl rfl rfl) (by exact .cons (.inl rfl) (.cons (.inl rfl) (.nil))) ?_
          refine dq_pure rfl (fun s => .op rfl (.nil)) (fun s hs _ => loc_assign rfl) (by exact .cons (.inl rfl) (.cons (.inl rfl) (.nil))) ?_
          refine dq_pure rfl (fun s => .op rfl (.nil)) (fun s hs _ => loc_assign rfl) (by exact .cons (.inl rfl) (.cons (.inl rfl) (.nil))) ?_
          refine dq_end (rs := [_, _, _, _, _, _, _]) (0, 0) rfl (fun _ => rfl) (.cons rfl (.cons rfl (.nil))) rfl (fun s9 _ => ?_)
          obtain ⟨b28, b29⟩ := s9
          dsimp only [outG, outM, List.map, List.set, id]
          refine run_seq ?_
          refine run_region ?_
          refine run_op (loc_move rfl) rfl ?_
          refine run_op (loc_eql rfl rfl) rfl ?_
          refine run_op (loc_assign rfl) rfl ?_
          refine run_nil ?_
          refine run_drop (.cons _ (.cons _ (.cons _ (.cons _ (.cons _ (.cons _ (.cons _ (.refl _)))))))) ?_
          refine run_retP Try.func5 rfl rfl ?_
          exact d_B ⟨fun _ => trivial, fun _ => rfl⟩

end Go.Q

namespace Go.Q
open Go.ChangeShapes Go.WideShapes Go.RowKit

def immOf (w : World) : Imm := ⟨fun b => w.heap[b]?, w.os, w.tape, w.output⟩
theorem inv_of (w : World) : Inv (immOf w) [] w := ⟨rfl, rfl, rfl, fun _ _ h => h, fun r hr => (by cases hr), List.nodup_nil⟩

theorem below_of {W w' : World} {J : Imm} (hle : (immOf W).le J) (hi : Inv J [] w') : Below W.heap.size W w' := by
  have hblk : ∀ k, k < W.heap.size → w'.heap[k]? = W.heap[k]? := fun k hk => by
    have h1 : W.heap[k]? = some W.heap[k] := by simp [hk]
    rw [h1]
    exact hi.imm k _ (hle.blk k _ h1)
  refine ⟨hi.os.trans hle.os, hi.tape.trans hle.tape, hi.output.trans hle.output, ?_, hblk⟩
  by_cases h : W.heap.size ≤ w'.heap.size
  · exact h
  · have h1 := hblk w'.heap.size (by omega)
    have h2 : w'.heap[w'.heap.size]? = none := by simp
    rw [h2] at h1
    have h3 : W.heap[w'.heap.size]? = some W.heap[w'.heap.size] := by simp [show w'.heap.size < W.heap.size by omega]
    rw [h3] at h1
    cases h1

section
variable {H : Type} {enc : TypeId × Value → H} {P : Program}

theorem post_same {f : Func} {s : ChangeSpec} {apart fresh handsOn again : Bool} {W W' : World} {args : Array Value} {v : Value} {ds gs : List (DataW H)} {before pa pv : List MemPlace}
    (hW : DataW.Whole enc P f.params.toList s.vars apart W args.toList ds gs before)
    (hres : ∀ (b : Nat) (sp : Nat → Bool) (hd : Bool), DataW.TrodAll enc P W' b sp hd f.resultTypes.toList (v.resultList f.resultTypes.size) (s.fn H (ds ++ gs)).results [])
    (hargs : ∀ sp : Nat → Bool, (∀ p ∈ before, sp p.block = true) → DataW.TrodAll enc P W' 0 sp true f.params.toList args.toList (s.fn H (ds ++ gs)).args pa)
    (hvars : ∀ sp : Nat → Bool, (∀ p ∈ before, sp p.block = true) → DataW.TrodVars enc P W' sp s.vars (s.fn H (ds ++ gs)).vars pv)
    (hps : before = pa ++ pv) (hk : W.keptBut W' (· ∈ before)) (hfz : ∀ a : Addr, a.block < W.heap.size → W'.frozen? a = W.frozen? a)
    (hok : ∀ (j : Nat) (t : TypeId) (r : Value), f.resultTypes[j]? = some t → (v.resultList f.resultTypes.size)[j]? = some r → Value.okWide P W' .any 0 t r) :
    s.post enc P f apart fresh handsOn again W args v W' := by
  have hold : ∀ p ∈ before, (fun b => decide (b < W.heap.size)) p.block = true := fun p hp => by simpa using hW.lt p hp
  have hlt := hW.lt
  refine ⟨ds, gs, before, [], pa, pv, hW, hres _ _ _, hargs _ hold, hvars _ hold, World.keptBut_mono (fun p hp => ⟨hp, ?_⟩) hk, fun _ => ?_⟩
  · rw [hps, List.mem_append] at hp
    exact Or.inr hp
  · obtain ⟨_, _, _, _, _, hz, hn⟩ := hW
    refine ⟨hok, _, _, ([] ++ pa) ++ pv, ⟨[] ++ pa, pv, trodAll_append (hargs _ (fun _ _ => rfl)) (hres _ _ _), hvars _ (fun _ _ => rfl), rfl, ?_, ?_⟩, ?_⟩
    · intro b off hp
      have hm : MemPlace.cell b off ∈ before := by rw [hps]; simpa using hp
      rw [hfz _ (hlt _ hm)]
      exact hz b off hm
    · intro ha
      have := hn ha
      rw [hps] at this
      simpa using this
    · intro p hp _
      rw [hps]
      simpa using hp

theorem trodAll_stay (hl : laidOutB P = true) {W W' : World} {sp : Nat → Bool} : ∀ {ts : List TypeId} {vs : List Value} {ds : List (DataW H)} {ps : List MemPlace}, (∀ t ∈ ts, P.readableRec t = true ∧ t < P.types.size) →
    DataW.TrodAll enc P W 0 (fun _ => true) true ts vs ds ps → (∀ p ∈ ps, W.sameAt W' p) → (∀ p ∈ ps, sp p.block = true) → DataW.TrodAll enc P W' 0 sp true ts vs ds ps
  | [], _, _, _, _, h, _, _ => by
    obtain ⟨rfl, rfl, rfl⟩ := trodAll_nil h
    exact rfl
  | t :: ts, _, _, _, hr, h, hs, hp => by
    obtain ⟨v, vs, d, ds, p, q, rfl, rfl, rfl, h1, h2⟩ := trodAll_cons h
    have hrt := hr t (List.mem_cons_self ..)
    exact ⟨p, q, WideElems.Trod_stays hl hrt.1 hrt.2 h1 (fun x hx => hs x (List.mem_append_left _ hx)) (fun x hx => hp x (List.mem_append_left _ hx)),
      trodAll_stay hl (fun x hx => hr x (List.mem_cons_of_mem _ hx)) h2 (fun x hx => hs x (List.mem_append_right _ hx)) (fun x hx => hp x (List.mem_append_right _ hx)), rfl⟩

/-- A law: its contract says that it answers true, whatever the arguments are. -/
theorem law_calls {f : FuncId} {fn : Func} {s : ChangeSpec} {apart fresh handsOn again : Bool} {W : World} {args : Array Value} {ds gs : List (DataW H)} {before : List MemPlace} {tb : TypeId} {Ds : List D}
    (hl : laidOutB P = true) (hread : ∀ t ∈ fn.params.toList, P.readableRec t = true ∧ t < P.types.size) (hres : fn.resultTypes = #[tb]) (htb : P.underlying tb = some .bool) (hvars : s.vars = [])
    (hW : DataW.Whole enc P fn.params.toList s.vars apart W args.toList ds gs before) (hr : (s.fn H ds).results = [.lit (.bool true)]) (ha : (s.fn H ds).args = ds) (hv : (s.fn H ds).vars = [])
    (hsp : SpecP P f Ds (dB True)) (hrel : relL Ds (immOf W) args.toList) :
    Calls P f args W fun e W' => ∃ v, e = .returned v ∧ s.post enc P fn apart fresh handsOn again W args v W' := by
  have h := hsp (immOf W) [] W args.toList hrel (inv_of W)
  rw [Array.toArray_toList] at h
  refine h.mono ?_
  rintro e W' ⟨v, rfl, J, hle, ⟨b, rfl, hb⟩, hi⟩
  have hbt : b = true := hb.2 trivial
  subst hbt
  have hB := below_of hle hi
  have hlt := hW.lt
  have hW' := hW
  obtain ⟨p, q, hA, hV, rfl, hfz, hnd⟩ := hW'
  rw [hvars] at hV
  obtain ⟨rfl, rfl⟩ := trodVars_none hV
  rw [List.append_nil] at hlt
  refine ⟨_, rfl, post_same (pa := p) (pv := []) hW (fun b sp hd => ?_) (fun sp hs => ?_) (fun sp hs => ?_) rfl (hB.frame _) (fun a ha => hB.frozen ha) (ok_one hres rfl (okWide_bool_mk htb true))⟩
  · rw [List.append_nil, hr, hres]
    exact trodAll_mk1 (shut_bool htb true)
  · rw [List.append_nil, ha]
    exact trodAll_stay hl hread hA (fun x hx => hB.same (hlt x hx)) (fun x hx => hs x (by simpa using hx))
  · rw [List.append_nil, hv, hvars]
    exact rfl

/-! ### Arguments -/

theorem wf_u8 {n : Int} (h : (Lit.int .u8 n).wf = true) : 0 ≤ n ∧ n ≤ 255 := by
  have h1 : IntKind.u8.min ≤ n ∧ n ≤ IntKind.u8.max := by simpa [Lit.wf] using h
  exact h1

theorem at_of_cell {w : World} {a : Addr} {v : Value} {d : D} (h : w.cell? a = some v) (hd : d.rel (immOf w) v) : (immOf w).at a [d] := by
  unfold World.cell? at h
  split at h
  · rename_i cs T fz hb
    split at h
    · cases h
    · rename_i hs
      refine ⟨by simpa using hs, cs, T, fz, hb, ?_⟩
      have h1 : cs.toList[a.off]? = some v := by simpa using h
      have h2 : (cs.toList.drop a.off).take 1 = [v] := by
        rw [List.take_one, List.head?_drop, h1]; rfl
      show relL [d] _ ((cs.toList.drop a.off).take 1)
      rw [h2]
      exact ⟨hd, trivial⟩
  · cases h

variable {W : World}

theorem arg_int {r : Reach} {b0 : Nat} {t : TypeId} {k : IntKind} {v : Value} {d : DataW H} {ps : List MemPlace} (ht : P.underlying t = some (.int k)) (hval : Value.okWide P W r b0 t v) (hd : DataW.Trod enc P W 0 (fun _ => true) true t v d ps) :
    ∃ n, (dInt k n).rel (immOf W) v ∧ (Lit.int k n).wf = true := by
  obtain ⟨n, rfl, _, _, h⟩ := open_int ht hval hd
  exact ⟨n, rfl, h⟩

theorem ints_of_trod {t e : TypeId} {fuel : Nat} {cs : List Value} {d : DataW H} {ps : List MemPlace} (ht : P.underlying t = some (.slice e)) (he : P.underlying e = some (.int .i64)) (hc : P.cellsOf e = 1) (hb : P.bytesOf e = 8)
    (h : DataW.trod enc P W 0 (fun _ => true) true fuel t cs = some (d, ps)) (hsz : ∀ n ∈ d.weights P t, n ≤ reachBytes) : ∃ xs, relL [dInts xs] (immOf W) cs := by
  rcases open_ints ht he hc h with ⟨rfl, _⟩ | ⟨a, len, cap, zs, rfl, _, h1, h2, h3, h4, h5, h6⟩
  · exact ⟨[], d_nil _ _ rfl, trivial⟩
  · simp only [if_true] at h3
    injection h4 with h4 _
    subst h4
    have h7 := hsz ((lits (H := H) .i64 (zs.take len)).length + (lits (H := H) .i64 (zs.drop len)).length |>.mul (P.bytesOf e)) (by simp [DataW.weights, ht])
    rw [hb] at h7
    have h8 : zs.length * 8 ≤ reachBytes := by simpa [lits, h3, h1] using h7
    have h9 : reachBytes = 140737488351232 := rfl
    refine ⟨zs.take len, ⟨some a, cap, by rw [List.length_take, h3]; rw [Nat.min_eq_left h1], by rw [List.length_take]; omega, h2, by rw [List.length_take]; unfold lenMax; omega, fun i x hx => ?_⟩, trivial⟩
    have hi : i < len ∧ zs[i]? = some x := by
      rw [List.getElem?_take] at hx
      split at hx
      · rename_i h; exact ⟨h, hx⟩
      · cases hx
    have hcell := fun j hj => h5 j hj
    have h0 := hcell 0 (by omega)
    have hs0 : a.spot = none := (at_of_cell (d := dTop) h0 trivial).1
    refine ⟨rfl, a, rfl, hs0, ?_⟩
    rw [Nat.mul_one]
    refine at_of_cell (hcell i (by omega)) ?_
    show _ = _
    rw [List.getD_eq_getElem?_getD, hi.2]
    rfl

theorem arg_ints {r : Reach} {b0 : Nat} {t e : TypeId} {v : Value} {d : DataW H} {ps : List MemPlace} (ht : P.underlying t = some (.slice e)) (he : P.underlying e = some (.int .i64)) (hc : P.cellsOf e = 1) (hb : P.bytesOf e = 8)
    (hval : Value.okWide P W r b0 t v) (hd : DataW.Trod enc P W 0 (fun _ => true) true t v d ps) (hsz : ∀ n ∈ d.weights P t, n ≤ reachBytes) : ∃ xs, (dInts xs).rel (immOf W) v := by
  obtain ⟨a, len, cap, rfl⟩ := okWide_slice ht hval
  obtain ⟨fuel, hf⟩ := hd
  obtain ⟨xs, h, _⟩ := ints_of_trod ht he hc hb hf hsz
  exact ⟨xs, h⟩

/-- The fields of a struct of numbers, from the offset j on. -/
def intFs64 (P : Program) : Nat → List Field → Bool
  | _, [] => true
  | j, fd :: fs => Nat.beq fd.offset j && Nat.beq (P.cellsOf fd.type) 1 && (match P.underlying fd.type with | some (.int .i64) => true | _ => false) && intFs64 P (j + 1) fs

theorem ints_of_fields {n : Nat} {cs : List Value} : ∀ (fs : List Field) (j : Nat), intFs64 P j fs = true → j + fs.length = cs.length → (∀ (i : Nat) fd, fs[i]? = some fd → ∃ x, DataW.trod enc P W 0 (fun _ => true) true n fd.type ((cs.drop fd.offset).take (P.cellsOf fd.type)) = some x) →
    ∃ ns : List Int, ns.length = fs.length ∧ relL (ns.map fun m => dInt .i64 m) (immOf W) (cs.drop j)
  | [], j, _, hl, _ => ⟨[], rfl, by rw [List.drop_eq_nil_of_le (by simp at hl; omega)]; exact trivial⟩
  | fd :: fs, j, hc, hl, hf => by
    simp only [intFs64, Bool.and_eq_true] at hc
    obtain ⟨⟨⟨h1, h2⟩, h3⟩, h4⟩ := hc
    replace h1 := Nat.eq_of_beq_eq_true h1
    replace h2 := Nat.eq_of_beq_eq_true h2
    simp only [List.length_cons] at hl
    obtain ⟨ns, h5, h6⟩ := ints_of_fields fs (j + 1) h4 (by omega) (fun i fd' hfd => hf (i + 1) fd' (by simpa using hfd))
    obtain ⟨x, hx⟩ := hf 0 fd rfl
    have hu : P.underlying fd.type = some (.int .i64) := by
      split at h3
      · assumption
      · cases h3
    obtain ⟨m, hm, _⟩ := DataW.trod_int hu hx
    rw [h1, h2] at hm
    have hlt : j < cs.length := by omega
    rw [List.drop_eq_getElem_cons hlt] at hm ⊢
    simp only [List.take_succ_cons, List.take_zero, List.cons.injEq, and_true] at hm
    exact ⟨m :: ns, by simp [h5], by rw [hm]; exact ⟨rfl, h6⟩⟩

theorem arg_nums {r : Reach} {b0 : Nat} {t : TypeId} {v : Value} {d : DataW H} {ps : List MemPlace} {fs : Array Field} (ht : P.underlying t = some (.struct fs)) (hc : intFs64 P 0 fs.toList = true) (hC : P.cellsOf t = fs.size)
    (hval : Value.okWide P W r b0 t v) (hd : DataW.Trod enc P W 0 (fun _ => true) true t v d ps) : ∃ ns : List Int, ns.length = fs.size ∧ (dAgg (ns.map fun m => dInt .i64 m)).rel (immOf W) v := by
  obtain ⟨cs, rfl, hsz⟩ := okWide_struct ht hval
  obtain ⟨fuel, hf⟩ := hd
  obtain ⟨xs, n, _, _, _, hxl, hx⟩ := DataW.trod_struct ht hf
  obtain ⟨ns, h1, h2⟩ := ints_of_fields (enc := enc) (n := n) (cs := cs.toList) fs.toList 0 hc (by simp [hsz, hC]) (fun i fd hfd => by
    have h3 := hx i fd (by simpa using hfd)
    have hi : i < xs.length := by rw [hxl]; simpa using (List.getElem?_eq_some_iff.1 hfd).1
    rw [List.getElem?_eq_getElem hi] at h3
    exact ⟨_, h3⟩)
  exact ⟨ns, by simpa using h1, cs, rfl, h2⟩

def hdOk (P : Program) (t : TypeId) : Bool := match P.underlying t with
  | some (.struct fs) => intFs64 P 0 fs.toList && (Nat.beq fs.size 5 && Nat.beq (P.cellsOf t) 5)
  | _ => false

theorem arg_hd {r : Reach} {b0 : Nat} {t : TypeId} {v : Value} {d : DataW H} {ps : List MemPlace} (ho : hdOk P t = true)
    (hval : Value.okWide P W r b0 t v) (hd : DataW.Trod enc P W 0 (fun _ => true) true t v d ps) : ∃ h : Hd, (dHd h).rel (immOf W) v := by
  unfold hdOk at ho
  split at ho
  · rename_i fs ht
    simp only [Bool.and_eq_true] at ho
    have h5 := Nat.eq_of_beq_eq_true ho.2.1
    obtain ⟨ns, h1, h2⟩ := arg_nums ht ho.1 ((Nat.eq_of_beq_eq_true ho.2.2).trans h5.symm) hval hd
    match ns, h1.trans h5, h2 with
    | [a, b, c, e, f], _, h2 => exact ⟨⟨a, b, c, e, f⟩, h2⟩
  · cases ho

end
end Go.Q
