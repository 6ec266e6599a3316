/- The law of the order in which versions are loaded. -/
import Derived.Test.YtjcbhnlcbdmlfaaQLaw30S
import Derived.Test.YtjcbhnlcbdmlfaaQPlainV5
import Derived.Test.YtjcbhnlcbdmlfaaQWalk
import Derived.ProofKit
import Derived.SizedLaws
import Derived.Deep.Matrix
import Derived.Lib.SmallJoins
import Derived.Test.YtjcbhnlcbdmlfaaQBy
set_option linter.unusedVariables false
set_option linter.unusedSimpArgs false
namespace Go.Q
open Go.Proofs

open Classical
theorem dice_okV {xs : List Int} (h : ∀ x ∈ xs, 0 ≤ x ∧ x ≤ 255) : okDc ⟨xs.take 300, 0⟩ := ⟨fun x hm => h x (List.mem_of_mem_take hm), by simp; omega⟩
abbrev cTab (t : Tab) : List D := [dInt .i64 t.number, dInt .i64 t.p, dInt .i64 t.width, dRows t.rows]
/-- A table asL dice turn it. -/
def gT (t : Tab) (j : Nat) (u : Tab) : Prop := u.number = t.number + j ∧ u.p = t.p ∧ checkT u = 0 ∧ 1 ≤ u.rows.length
theorem gT_of {p : Int} {t : Tab} {j : Nat} {rows : List (List Int)} (hp : dieP p) (ht : dieT p t) (hj : j < 3) (hr : 1 ≤ rows.length ∧ rows.length ≤ 4 ∧ ∀ r ∈ rows, r.length = t.width.toNat ∧ ∀ x ∈ r, hasP p x) : gT t j ⟨t.number + j, t.p, t.width, rows⟩ := by
  have hn := ht.2.2.2.1
  have hw := ht.2.2.2.2
  refine ⟨rfl, rfl, ?_, hr.1⟩
  have e := ht.2.1
  exact checkT_zero (t := ⟨t.number + j, t.p, t.width, rows⟩) ⟨by simp only; omega, by simp only; omega⟩ (by simp only; rw [e]; exact (dieP_ok hp).1) ⟨hw.1, by simp only; omega⟩ (by simp only; omega) (fun r h => ⟨by have := (hr.2.2 r h).1; simp only; omega, by simp only; rw [e]; exact (hr.2.2 r h).2⟩)
theorem snoc_gT {t : Tab} {ts : List Tab} {u : Tab} (h : ∀ j, j < ts.length → gT t j (ts[j]?.getD default)) (hu : gT t ts.length u) : ∀ j, j < (ts ++ [u]).length → gT t j ((ts ++ [u])[j]?.getD default) := by
  intro j hj
  rw [List.length_append, List.length_singleton] at hj
  by_cases e : j = ts.length
  · subst e; simpa using hu
  · rw [List.getElem?_append_left (by omega)]; exact h j (by omega)
theorem okT3_of {p : Int} {s : Schm} {t : Tab} {ts : List Tab} (hs : dieS s) (hp : dieP p) (ht : dieT p t) (hl : ts.length = 3) (h : ∀ j, j < ts.length → gT t j (ts[j]?.getD default)) : okT3 s (fun j => ts[j]?.getD default) := by
  have g0 := h 0 (by omega)
  have g1 := h 1 (by omega)
  have g2 := h 2 (by omega)
  refine ⟨fun k hk => ?_, ?_, ?_⟩
  · have g := h k (by omega)
    exact ⟨g.2.2.1, by simp only; rw [g.2.1, ht.2.1]; exact die_valid hs hp, g.2.2.2⟩
  · simp only; rw [g0.1, g1.1]; omega
  · simp only; rw [g1.1, g2.1]; omega
theorem serverLoads_spec (xs : List Int) (hx : ∀ x ∈ xs, 0 ≤ x ∧ x ≤ 255) : SpecP Try.prog 4 [dBy xs] (dB True) := by
  refine specP_of_body Try.func4 rfl rfl (fun I M => ?_)
  refine run_seq ?_
  refine run_region ?_
  refine run_op (loc_assign rfl) rfl ?_
  refine run_nil ?_
  refine run_seq ?_
  refine run_seq ?_
  refine run_region ?_
  refine run_op (loc_call (sane30_spec) rfl) rfl ?_
  refine run_op (loc_not rfl) rfl ?_
  refine run_nil ?_
  refine run_cond rfl (fun h1 => ?_) (fun h1 => ?_)
  · exfalso; exact h1 trivial
  ·
    refine run_skip ?_
    refine run_seq ?_
    refine run_region ?_
    refine run_op (loc_move rfl) rfl ?_
    refine run_callN rfl (dnew_spec _) rfl (fun bd hbd => ?_)
    refine run_op (loc_assign rfl) rfl ?_
    refine run_nil ?_
    refine run_seq ?_
    refine run_region ?_
    refine run_op (loc_move rfl) rfl ?_
    refine run_callM rfl (.here) (dscheme_spec bd _ (dice_okV hx)) rfl (fun sc hsc => ?_)
    refine run_op (loc_move rfl) rfl ?_
    refine run_callM rfl (.here) (dfield_spec bd _ hsc.2) rfl (fun fd hfd => ?_)
    refine run_new (loc_allocOwn (by simp)) rfl (fun b2 _ => ?_)
    refine run_new (loc_allocOwn (by simp)) rfl (fun b3 _ => ?_)
    refine run_storeN (ho := (by show OneAll [_, _, _, _]; infer_instance)) rfl rfl (.there (.here)) (by rfl) ?_
    refine run_storeN (ho := (by show OneAll [_]; infer_instance)) rfl rfl (.here) (by rfl) ?_
    refine run_nil ?_
    refine run_seq ?_
    refine run_region ?_
    refine run_op (loc_move rfl) rfl ?_
    refine run_op (loc_loadOwnN rfl (.here) (by rfl)) rfl ?_
    refine run_callM rfl (.there (.there (.here))) (dtable_spec bd _ hfd.2 fd.1 hfd.1) rfl (fun tb htb => ?_)
    refine run_new (loc_allocOwn (by simp)) rfl (fun b4 _ => ?_)
    refine run_storeN (ho := (by show OneAll [_, _, _, _]; infer_instance)) rfl rfl (.here) (by rfl) ?_
    refine run_nil ?_
    refine run_seq ?_
    refine run_region ?_
    refine run_op (loc_assign rfl) rfl ?_
    refine run_nil ?_
    refine run_seq ?_
    refine run_seq ?_
    have hpb := (dieP_ok hfd.1).2
    have htn := htb.1.2.2.2.1
    have htw := htb.1.2.2.2.2
    refine run_region ?_
    refine run_op (loc_assign rfl) rfl ?_
    refine run_nil ?_
    refine run_block ?_
    refine run_rowNil 38 4 cTab ?_
    refine run_front (.there (.there (.there (.there (.here))))) ?_
    refine run_front (.there (.here)) ?_
    refine run_loopF (σ := Value × List Tab × Dc) (ks := [3, 4, 5, 6]) (.cons rfl (.cons rfl (.cons rfl (.cons rfl (.nil))))) (fun q => [(7, dVal q.1), (8, dInt .i64 (q.2.1.length : Nat))]) (fun q => [rRow q.1 38 4 cTab q.2.1, rDc bd q.2.2]) (fun q => q.2.1.length ≤ 3 ∧ (∀ j, j < q.2.1.length → gT tb.1 j (q.2.1[j]?.getD default)) ∧ okDc q.2.2) (fun q => 3 - q.2.1.length) ((.slice none 0 0, [], tb.2)) (⟨by simp, fun j hj => (by simp at hj), htb.2⟩) (.cons rfl (by first | exact fun _ _ h => h | exact d_int (by omega) | exact d_int (by simp) | exact d_intN (by omega) | exact d_any) (.cons rfl (d_int rfl) .nil)) (rfl) ?_
    rintro q ⟨hql, hqg, hdc⟩ ih5
    refine run_seq ?_
    refine run_seq ?_
    refine run_region ?_
    refine run_op (loc_move rfl) rfl ?_
    refine run_op (loc_lss rfl rfl) rfl ?_
    refine run_nil ?_
    refine run_cond rfl (fun h6 => ?_) (fun h6 => ?_)
    ·
      have hpv := Dc.val_lt (d := q.2.2) (n := 4) (by omega)
      have hpw := Dc.val_nonneg (d := q.2.2) (n := 4) (by omega)
      refine run_skip ?_
      refine run_seq ?_
      refine run_block ?_
      refine run_seq ?_
      refine run_region ?_
      refine run_op (loc_loadOwnN rfl (.there (.there (.here))) (by rfl)) rfl ?_
      refine run_new (loc_allocOwn (by simp)) rfl (fun b7 _ => ?_)
      refine run_storeN (ho := (by show OneAll [_, _, _, _]; infer_instance)) rfl rfl (.here) (by rfl) ?_
      refine run_nil ?_
      refine run_seq ?_
      refine run_region ?_
      refine run_op (loc_fieldAddrOwn rfl) rfl ?_
      refine run_op (loc_loadOwn1 rfl (.here) (by rfl)) rfl ?_
      refine run_op (loc_move rfl) rfl ?_
      first | refine run_op (loc_add rfl rfl (by first | omega | assumption)) rfl ?_ | refine run_op (loc_addW rfl rfl) rfl ?_
      refine run_op (loc_fieldAddrOwn rfl) rfl ?_
      refine run_store1 rfl rfl (.here) (by rfl) ?_
      refine run_nil ?_
      refine run_seq ?_
      refine dr_start _ (.one (σ := List (List Int) × Dc) 7 (fun s => (s.1.length = (1 + q.2.2.val 4).toNat ∧ ∀ r ∈ s.1, r.length = tb.1.width.toNat ∧ ∀ x ∈ r, hasP fd.1 x) ∧ okDc s.2)) [⟨[(3, none)], [], none⟩,
          ⟨[(5, none)], [], some (4, 0, false)⟩,
          ⟨[(3, none)], [], none⟩,
          ⟨[(46, some (2, false))], [2], some (2, 0, true)⟩,
          ⟨[(47, some (3, false))], [2, 3], none⟩,
          ⟨[(6, none)], [], none⟩,
          ⟨[(49, some (5, false))], [5], some (3, 0, false)⟩,
          ⟨[(44, some (0, false)), (45, some (1, false)), (48, some (4, false)), (50, some (6, false))], [0, 1, 2, 3, 4, 5, 6], some (2, 1, true)⟩,
          ⟨[(9, none)], [0, 1, 2, 3, 4, 5, 6, 7], none⟩,
          ⟨[(52, some (8, false)), (51, some (7, false))], [0, 1, 2, 3, 4, 5, 6, 7, 8], some (0, 0, true)⟩] [_, _, _, _, _, _] _ rfl rfl ?_
      refine dq_pure rfl (fun s => .g rfl (.nil)) (fun s hs _ => loc_move rfl) (by exact .cons (.inr fun _ _ _ => rfl) (.nil)) ?_
      refine dq_read rfl (fun s => .g rfl (.nil)) rfl rfl (fun s hs _ hm => loc_loadOwnN rfl hm (by rfl)) (by exact .cons (.inr fun _ _ _ => rfl) (.nil)) ?_
      refine dq_pure rfl (fun s => .g rfl (.nil)) (fun s hs _ => loc_move rfl) (by exact .cons (.inr fun _ _ _ => rfl) (.nil)) ?_
      refine dq_write rfl (fun s => .op rfl (.nil)) rfl rfl (fun s hs => loc_callM (pick_spec bd _ _ (by first | exact hdc | exact hdc1) (by omega)) rfl) (by exact .cons (.inr fun _ _ _ => ⟨rfl, rfl⟩) (.nil)) ?_
      first | refine dq_pure rfl (fun s => .op rfl (.nil)) (fun s hs _ => loc_add rfl rfl (by first | omega | assumption)) (by exact .cons (.inr fun _ _ _ => rfl) (.nil)) ?_ | refine dq_pure rfl (fun s => .op rfl (.nil)) (fun s hs _ => loc_addW rfl rfl) (by exact .cons (.inr fun _ _ _ => rfl) (.nil)) ?_
      refine dq_pure rfl (fun s => .g rfl (.nil)) (fun s hs _ => loc_fieldAddrOwn rfl) (by exact .cons (.inr fun _ _ _ => rfl) (.nil)) ?_
      refine dq_read rfl (fun s => .op rfl (.nil)) rfl rfl (fun s hs _ hm => loc_loadOwn1 rfl hm (by rfl)) (by exact .cons (.inr fun _ _ _ => rfl) (.nil)) ?_
      refine dq_choose id (fun _ t => t) rfl (fun _ _ => ⟨rfl, id, trivial⟩) (fun s => .op rfl (.op rfl (.op rfl (.op rfl (.nil))))) rfl rfl (fun s hs => loc_callM (drows_spec bd _ (Dc.next_ok hdc) fd.1 _ _ ⟨by omega, by omega⟩ (by omega) (by omega)) rfl) (by exact .cons (.inl rfl) (.nil)) ?_
      refine dq_pure rfl (fun s => .g rfl (.nil)) (fun s hs _ => loc_fieldAddrOwn rfl) (by exact .cons (.inl rfl) (.nil)) ?_
      refine dq_write0 rfl (fun s => .op rfl (.op rfl (.nil))) rfl rfl (fun s hs => loc_store1 rfl rfl rfl) (by exact .cons (.inl rfl) (.nil)) ?_
      refine dq_end (rs := [_, _, _, _, _, _]) ([], q.2.2) rfl (fun _ => rfl) (.cons rfl (.nil)) rfl (fun rw h9 => ?_)
      obtain hrw := Ch.one_good h9
      dsimp only [outG, outM, List.map, List.set, id]
      refine run_region ?_
      refine run_op (loc_move rfl) rfl ?_
      refine run_op (loc_loadOwnN rfl (.here) (by rfl)) rfl ?_
      refine run_op (loc_buildSlice rfl rfl (.agg rfl (.nil)) rfl rfl) rfl ?_
      refine run_append1 (e0 := ⟨tb.1.number + (q.2.1.length : Nat), tb.1.p, tb.1.width, rw.1⟩) rfl (.there (.here)) rfl (by rfl) (by rfl) (by first | omega | (unfold lenMax; omega) | assumption | (simp; omega) | (simp [lenMax]; omega)) (by first | omega | (unfold lenMax; omega) | assumption | (simp; omega) | (simp [lenMax]; omega)) rfl (fun v8 => ?_)
      refine run_op (loc_assign rfl) rfl ?_
      refine run_nil ?_
      refine run_inBlock ?_
      refine run_region ?_
      refine run_op (loc_move rfl) rfl ?_
      first | refine run_op (loc_add rfl rfl (by first | omega | assumption)) rfl ?_ | refine run_op (loc_addW rfl rfl) rfl ?_
      refine run_op (loc_assign rfl) rfl ?_
      refine run_nil ?_
      refine run_drop (.cons _ (.refl _)) ?_
      exact run_againF ih5 ((v8, q.2.1 ++ [⟨tb.1.number + (q.2.1.length : Nat), tb.1.p, tb.1.width, rw.1⟩], rw.2)) (⟨by simp only [List.length_append, List.length_singleton]; omega, snoc_gT hqg (gT_of hfd.1 htb.1 (by omega) ⟨by omega, by omega, hrw.1.2⟩), hrw.2⟩) (by simp only [List.length_append, List.length_singleton]; omega) (.cons rfl (by first | exact fun _ _ h => h | exact d_int (by omega) | exact d_int (by simp) | exact d_intN (by omega) | exact d_any) (.cons rfl (d_int (by simp only [List.length_append, List.length_singleton]; omega)) .nil)) (.cons rfl (fun _ _ x => x) (.cons rfl (fun _ _ x => x) (.cons rfl (fun _ _ x => x) (.cons rfl (fun _ _ x => x) (.nil))))) (rfl)
    ·
      refine run_exit rfl ?_
      refine run_seq ?_
      refine run_freezeRow (s := 7) rfl (.here) ?_
      have hl3 : q.2.1.length = 3 := by omega
      have hdc1 := Dc.next_ok hdc
      obtain ⟨hsh, hsv⟩ := hsc.1
      have hT := okT3_of hsc.1 hfd.1 htb.1 hl3 hqg
      obtain ⟨q1, ts, dd⟩ := q
      simp only at hl3 hT hdc hdc1 hqg ⊢
      have hiv := Dc.val_lt (d := dd) (n := sc.1.servers) (by omega)
      have hiw := Dc.val_nonneg (d := dd) (n := sc.1.servers) (by omega)
      have hov := Dc.val_lt (d := dd.next) (n := 6) (by omega)
      have how := Dc.val_nonneg (d := dd.next) (n := 6) (by omega)
      have hp6 : perms3.length = 6 := rfl
      refine run_region ?_
      refine run_op (loc_move rfl) rfl ?_
      refine run_op (loc_fieldAddrOwn rfl) rfl ?_
      refine run_op (loc_loadOwn1 rfl (.there (.there (.there (.here)))) (by rfl)) rfl ?_
      refine run_callM rfl (.here) (pick_spec bd _ _ (by first | exact hdc | exact hdc1) (by omega)) rfl (fun s9 hs9 => ?_)
      first | refine run_op (loc_add rfl rfl (by first | omega | assumption)) rfl ?_ | refine run_op (loc_addW rfl rfl) rfl ?_
      refine run_op (loc_assign rfl) rfl ?_
      refine run_nil ?_
      obtain ⟨sid, hide⟩ : ∃ o, o = 1 + dd.val sc.1.servers := ⟨_, rfl⟩
      rw [← hide]
      have hid : 1 ≤ sid ∧ sid ≤ sc.1.servers := by omega
      have hnw : newSE sid sc.1 = 0 ∧ newS sid sc.1 = ⟨sid, sc.1, True, [], []⟩ := by
        have e : newSE sid sc.1 = 0 := by unfold newSE; rw [if_neg (Classical.not_not.2 hsh), if_neg (by omega)]
        exact ⟨e, by unfold newS; rw [if_pos e]⟩
      refine run_seq ?_
      refine run_region ?_
      refine run_op (loc_move rfl) rfl ?_
      refine run_op (loc_loadOwnN rfl (.there (.there (.there (.here)))) (by rfl)) rfl ?_
      refine run_op (loc_call (snew_spec _ _) rfl) rfl ?_
      refine run_op (loc_move rfl) rfl ?_
      refine run_op (loc_extract rfl rfl) rfl ?_
      refine run_op (loc_extract rfl rfl) rfl ?_
      refine run_new (loc_allocOwn (by simp)) rfl (fun b11 _ => ?_)
      refine run_storeN (ho := (by show OneAll [_, _, _, _, _, _, _, _]; infer_instance)) rfl rfl (.here) (by rfl) ?_
      refine run_op (loc_assign rfl) rfl ?_
      refine run_nil ?_
      rw [hnw.2]
      refine run_seq ?_
      refine run_region ?_
      refine run_op (loc_loadOwnN rfl (.here) (by rfl)) rfl ?_
      refine run_new (loc_allocOwn (by simp)) rfl (fun b13 _ => ?_)
      refine run_storeN (ho := (by show OneAll [_, _, _, _, _, _, _, _]; infer_instance)) rfl rfl (.here) (by rfl) ?_
      refine run_nil ?_
      refine run_seq ?_
      refine run_region ?_
      refine run_op (loc_buildSlice rfl rfl (.one rfl (.one rfl (.one rfl (.nil)))) rfl rfl) rfl ?_
      refine runL_recast (s := 69) rfl (d_sl (ys := [0, 1, 2]) (h := fI) rfl) ?_
      refine run_op (loc_buildSlice rfl rfl (.one rfl (.one rfl (.one rfl (.nil)))) rfl rfl) rfl ?_
      refine runL_recast (s := 70) rfl (d_sl (ys := [0, 2, 1]) (h := fI) rfl) ?_
      refine run_op (loc_buildSlice rfl rfl (.one rfl (.one rfl (.one rfl (.nil)))) rfl rfl) rfl ?_
      refine runL_recast (s := 71) rfl (d_sl (ys := [1, 0, 2]) (h := fI) rfl) ?_
      refine run_op (loc_buildSlice rfl rfl (.one rfl (.one rfl (.one rfl (.nil)))) rfl rfl) rfl ?_
      refine runL_recast (s := 72) rfl (d_sl (ys := [1, 2, 0]) (h := fI) rfl) ?_
      refine run_op (loc_buildSlice rfl rfl (.one rfl (.one rfl (.one rfl (.nil)))) rfl rfl) rfl ?_
      refine runL_recast (s := 73) rfl (d_sl (ys := [2, 0, 1]) (h := fI) rfl) ?_
      refine run_op (loc_buildSlice rfl rfl (.one rfl (.one rfl (.one rfl (.nil)))) rfl rfl) rfl ?_
      refine runL_recast (s := 74) rfl (d_sl (ys := [2, 1, 0]) (h := fI) rfl) ?_
      refine run_op (loc_buildSlice rfl rfl (.one rfl (.one rfl (.one rfl (.one rfl (.one rfl (.one rfl (.nil))))))) rfl rfl) rfl ?_
      refine runL_recast (s := 75) rfl (d_sl (ys := perms3) (h := fR) rfl) ?_
      refine run_op (loc_move rfl) rfl ?_
      refine run_callM rfl (.there (.there (.here))) (pick_spec bd _ _ (by first | exact hdc | exact hdc1) (by omega)) rfl (fun s10 hs10 => ?_)
      first | refine run_op (loc_index rfl rfl (by first | omega | assumption)) rfl ?_ | refine run_op (loc_indexI rfl rfl (by first | omega | assumption)) rfl ?_
      refine run_op (loc_load1 rfl) rfl ?_
      refine run_op (loc_assign rfl) rfl ?_
      refine run_nil ?_
      have ho := getD_mem (xs := perms3) (k := (dd.next.val 6).toNat) (by omega)
      generalize perms3[(dd.next.val 6).toNat]?.getD default = ord at ho ⊢
      have hol := perm_len ord ho
      refine run_seq ?_
      refine run_seq ?_
      refine run_region ?_
      refine run_op (loc_assign rfl) rfl ?_
      refine run_nil ?_
      refine run_block ?_
      refine run_front (.here) ?_
      refine run_front (.there (.here)) ?_
      refine run_loopF (σ := Nat) (ks := [7, 11, 12, 13, 14]) (.cons rfl (.cons rfl (.cons rfl (.cons rfl (.cons rfl (.nil)))))) (fun k => [(15, dInt .i64 (k : Nat))]) (fun k => [rCells b11 28 (cSrv (vM sc.1 sid (fun j : Nat => ts[j]?.getD default) (ma k))), rCells b13 28 (cSrv (vM sc.1 sid (fun j : Nat => ts[j]?.getD default) (mb ord k)))]) (fun k => k ≤ 3) (fun k => 3 - k) (0) (Nat.zero_le _) (.cons rfl (by first | exact fun _ _ h => h | exact d_int (by omega) | exact d_int (by simp) | exact d_intN (by omega) | exact d_any) .nil) (rfl) ?_
      intro k hk ih11
      refine run_seq ?_
      refine run_seq ?_
      refine run_region ?_
      refine run_op (loc_move rfl) rfl ?_
      refine run_op (loc_lss rfl rfl) rfl ?_
      refine run_nil ?_
      refine run_cond rfl (fun h12 => ?_) (fun h12 => ?_)
      ·
        have hla := load_a (n := k) hT hid (by omega)
        have hlb := load_b (n := k) hT hid ho (by omega)
        have hst := perm_step ord ho k (by omega)
        have hs0 := hst.1
        replace hs0 : 0 ≤ ord[k]?.getD default ∧ ord[k]?.getD default < 3 := hs0
        have hza : szSrv (vM sc.1 sid (fun j : Nat => ts[j]?.getD default) (ma k)) := vM_sz hT hid
        have hzb : szSrv (vM sc.1 sid (fun j : Nat => ts[j]?.getD default) (mb ord k)) := vM_sz hT hid
        refine run_skip ?_
        refine run_seq ?_
        refine run_block ?_
        refine run_seq ?_
        refine run_addNone ?_
        refine dr_start _ (.one (σ := Nat) 9 (fun _ => True)) [⟨[(11, none)], [], some (1, 0, false)⟩,
            ⟨[(7, none)], [], none⟩,
            ⟨[(15, none)], [], none⟩,
            ⟨[(86, some (1, false)), (87, some (2, false))], [1, 2], none⟩,
            ⟨[(88, some (3, false))], [1, 2, 3], none⟩,
            ⟨[(85, some (0, false)), (89, some (4, false))], [0, 1, 2, 3, 4], none⟩,
            ⟨[(90, some (5, false))], [0, 1, 2, 3, 4, 5], none⟩,
            ⟨[(84, some (6, false))], [0, 1, 2, 3, 4, 5, 6], none⟩,
            ⟨[(84, some (6, false))], [0, 1, 2, 3, 4, 5, 6], none⟩,
            ⟨[], [], some (0, 0, true)⟩,
            ⟨[(16, some (9, false)), (91, some (7, false))], [0, 1, 2, 3, 4, 5, 6, 7, 9], some (0, 1, true)⟩,
            ⟨[(92, some (8, false))], [0, 1, 2, 3, 4, 5, 6, 7, 8, 9, 10], none⟩] [_, _, _, _, _, _, _] _ rfl rfl ?_
        refine dq_read rfl (fun s => .g rfl (.nil)) rfl rfl (fun s hs _ hm => loc_loadOwnN rfl hm (by rfl)) (by exact .cons (.inr fun _ _ _ => rfl) (.nil)) ?_
        refine dq_pure rfl (fun s => .g rfl (.nil)) (fun s hs _ => loc_move rfl) (by exact .cons (.inr fun _ _ _ => rfl) (.nil)) ?_
        refine dq_pure rfl (fun s => .g rfl (.nil)) (fun s hs _ => loc_move rfl) (by exact .cons (.inr fun _ _ _ => rfl) (.nil)) ?_
        first | refine dq_pure rfl (fun s => .op rfl (.op rfl (.nil))) (fun s hs _ => loc_index rfl rfl (by first | omega | assumption)) (by exact .cons (.inr fun _ _ _ => rfl) (.nil)) ?_ | refine dq_pure rfl (fun s => .op rfl (.op rfl (.nil))) (fun s hs _ => loc_indexI rfl rfl (by first | omega | assumption)) (by exact .cons (.inr fun _ _ _ => rfl) (.nil)) ?_
        refine dq_pure rfl (fun s => .op rfl (.nil)) (fun s hs _ => loc_loadN rfl rfl) (by exact .cons (.inr fun _ _ _ => rfl) (.nil)) ?_
        refine dq_pure rfl (fun s => .op rfl (.op rfl (.nil))) (fun s hs _ => loc_call (vload_spec (vM sc.1 sid (fun j : Nat => ts[j]?.getD default) (ma k)) (ts[k]?.getD default) hza) rfl) (by exact .cons (.inr fun _ _ _ => rfl) (.nil)) ?_
        refine dq_pure rfl (fun s => .op rfl (.nil)) (fun s hs _ => loc_move rfl) (by exact .cons (.inr fun _ _ _ => rfl) (.nil)) ?_
        refine dq_pure rfl (fun s => .op rfl (.nil)) (fun s hs _ => loc_extract rfl rfl) (by exact .cons (.inr fun _ _ _ => rfl) (.nil)) ?_
        refine dq_pure rfl (fun s => .op rfl (.nil)) (fun s hs _ => loc_extract rfl rfl) (by exact .cons (.inr fun _ _ _ => rfl) (.nil)) ?_
        refine dq_choose id (fun _ t => t) rfl (fun _ _ => ⟨rfl, id, trivial⟩) (fun s => .nil) rfl rfl (fun s hs => locM_new (loc_allocOwn (by simp))) (by exact .cons (.inl rfl) (.nil)) ?_
        refine dq_write0 rfl (fun s => .op rfl (.op rfl (.nil))) rfl rfl (fun s hs => loc_storeN (ho := (by show OneAll [_, _, _, _, _, _, _, _]; infer_instance)) rfl rfl rfl) (by exact .cons (.inl rfl) (.nil)) ?_
        refine dq_pure rfl (fun s => .op rfl (.nil)) (fun s hs _ => loc_assign rfl) (by exact .cons (.inl rfl) (.nil)) ?_
        refine dq_end (rs := [_, _, _, _, _, _, _]) 0 rfl (fun _ => rfl) (.cons rfl (.nil)) rfl (fun b13 _ => ?_)
        dsimp only [outG, outM, List.map, List.set, id]
        refine run_seq ?_
        refine run_addNone ?_
        refine dr_start _ (.one (σ := Nat) 12 (fun _ => True)) [⟨[(13, none)], [], some (3, 0, false)⟩,
            ⟨[(7, none)], [], none⟩,
            ⟨[(14, none)], [], none⟩,
            ⟨[(15, none)], [], none⟩,
            ⟨[(96, some (2, false)), (97, some (3, false))], [2, 3], none⟩,
            ⟨[(98, some (4, false))], [2, 3, 4], none⟩,
            ⟨[(95, some (1, false)), (99, some (5, false))], [1, 2, 3, 4, 5], none⟩,
            ⟨[(100, some (6, false))], [1, 2, 3, 4, 5, 6], none⟩,
            ⟨[(94, some (0, false)), (101, some (7, false))], [0, 1, 2, 3, 4, 5, 6, 7], none⟩,
            ⟨[(102, some (8, false))], [0, 1, 2, 3, 4, 5, 6, 7, 8], none⟩,
            ⟨[(93, some (9, false))], [0, 1, 2, 3, 4, 5, 6, 7, 8, 9], none⟩,
            ⟨[(93, some (9, false))], [0, 1, 2, 3, 4, 5, 6, 7, 8, 9], none⟩,
            ⟨[], [], some (0, 0, true)⟩,
            ⟨[(18, some (12, false)), (103, some (10, false))], [0, 1, 2, 3, 4, 5, 6, 7, 8, 9, 10, 12], some (0, 1, true)⟩,
            ⟨[(104, some (11, false))], [0, 1, 2, 3, 4, 5, 6, 7, 8, 9, 10, 11, 12, 13], none⟩] [_, _, _, _, _, _, _, _] _ rfl rfl ?_
        refine dq_read rfl (fun s => .g rfl (.nil)) rfl rfl (fun s hs _ hm => loc_loadOwnN rfl hm (by rfl)) (by exact .cons (.inr fun _ _ _ => rfl) (.nil)) ?_
        refine dq_pure rfl (fun s => .g rfl (.nil)) (fun s hs _ => loc_move rfl) (by exact .cons (.inr fun _ _ _ => rfl) (.nil)) ?_
        refine dq_pure rfl (fun s => .g rfl (.nil)) (fun s hs _ => loc_move rfl) (by exact .cons (.inr fun _ _ _ => rfl) (.nil)) ?_
        refine dq_pure rfl (fun s => .g rfl (.nil)) (fun s hs _ => loc_move rfl) (by exact .cons (.inr fun _ _ _ => rfl) (.nil)) ?_
        first | refine dq_pure rfl (fun s => .op rfl (.op rfl (.nil))) (fun s hs _ => loc_index rfl rfl (by first | omega | assumption)) (by exact .cons (.inr fun _ _ _ => rfl) (.nil)) ?_ | refine dq_pure rfl (fun s => .op rfl (.op rfl (.nil))) (fun s hs _ => loc_indexI rfl rfl (by first | omega | assumption)) (by exact .cons (.inr fun _ _ _ => rfl) (.nil)) ?_
        refine dq_pure rfl (fun s => .op rfl (.nil)) (fun s hs _ => loc_load1 rfl) (by exact .cons (.inr fun _ _ _ => rfl) (.nil)) ?_
        first | refine dq_pure rfl (fun s => .op rfl (.op rfl (.nil))) (fun s hs _ => loc_index rfl rfl (by first | omega | assumption)) (by exact .cons (.inr fun _ _ _ => rfl) (.nil)) ?_ | refine dq_pure rfl (fun s => .op rfl (.op rfl (.nil))) (fun s hs _ => loc_indexI rfl rfl (by first | omega | assumption)) (by exact .cons (.inr fun _ _ _ => rfl) (.nil)) ?_
        refine dq_pure rfl (fun s => .op rfl (.nil)) (fun s hs _ => loc_loadN rfl rfl) (by exact .cons (.inr fun _ _ _ => rfl) (.nil)) ?_
        refine dq_pure rfl (fun s => .op rfl (.op rfl (.nil))) (fun s hs _ => loc_call (vload_spec (vM sc.1 sid (fun j : Nat => ts[j]?.getD default) (mb ord k)) (ts[(ord[k]?.getD default).toNat]?.getD default) hzb) rfl) (by exact .cons (.inr fun _ _ _ => rfl) (.nil)) ?_
        refine dq_pure rfl (fun s => .op rfl (.nil)) (fun s hs _ => loc_move rfl) (by exact .cons (.inr fun _ _ _ => rfl) (.nil)) ?_
        refine dq_pure rfl (fun s => .op rfl (.nil)) (fun s hs _ => loc_extract rfl rfl) (by exact .cons (.inr fun _ _ _ => rfl) (.nil)) ?_
        refine dq_pure rfl (fun s => .op rfl (.nil)) (fun s hs _ => loc_extract rfl rfl) (by exact .cons (.inr fun _ _ _ => rfl) (.nil)) ?_
        refine dq_choose id (fun _ t => t) rfl (fun _ _ => ⟨rfl, id, trivial⟩) (fun s => .nil) rfl rfl (fun s hs => locM_new (loc_allocOwn (by simp))) (by exact .cons (.inl rfl) (.nil)) ?_
        refine dq_write0 rfl (fun s => .op rfl (.op rfl (.nil))) rfl rfl (fun s hs => loc_storeN (ho := (by show OneAll [_, _, _, _, _, _, _, _]; infer_instance)) rfl rfl rfl) (by exact .cons (.inl rfl) (.nil)) ?_
        refine dq_pure rfl (fun s => .op rfl (.nil)) (fun s hs _ => loc_assign rfl) (by exact .cons (.inl rfl) (.nil)) ?_
        refine dq_end (rs := [_, _, _, _, _, _, _, _]) 0 rfl (fun _ => rfl) (.cons rfl (.nil)) rfl (fun b14 _ => ?_)
        dsimp only [outG, outM, List.map, List.set, id]
        refine run_seq ?_
        refine run_seq ?_
        refine run_region ?_
        refine run_op (loc_move rfl) rfl ?_
        refine run_op (loc_neq rfl rfl) rfl ?_
        refine run_op (loc_move rfl) rfl ?_
        refine run_gfirst rfl rfl (by first | exact guard_true _ | exact guard_false _ | exact guard_if (guard_true _) | exact guard_if (guard_false _)) (fun hg => loc_move rfl) rfl ?_
        refine run_gop rfl rfl (by first | exact guard_true _ | exact guard_false _ | exact guard_if (guard_true _) | exact guard_if (guard_false _)) (fun hg => loc_neq rfl rfl) rfl ?_
        refine run_gleave ?_
        refine run_op (loc_or rfl rfl) rfl ?_
        refine run_nil ?_
        refine run_cond rfl (fun h15 => ?_) (fun h15 => ?_)
        · exfalso; rcases h15 with h | h; (· exact h hla.1); (· exact h hlb.1)
        ·
          refine run_skip ?_
          refine dr_start _ (.none) [⟨[(16, none)], [], some (1, 0, false)⟩,
              ⟨[(18, none)], [], some (0, 0, false)⟩,
              ⟨[(11, none), (111, some (0, false))], [0], some (2, 0, true)⟩,
              ⟨[(13, none), (112, some (1, false))], [0, 1, 2], some (3, 0, true)⟩] [_, _, _, _, _, _, _, _] _ rfl rfl ?_
          refine dq_read rfl (fun s => .g rfl (.nil)) rfl rfl (fun s hs _ hm => loc_loadOwnN rfl hm (by rfl)) (by exact .nil) ?_
          refine dq_read rfl (fun s => .g rfl (.nil)) rfl rfl (fun s hs _ hm => loc_loadOwnN rfl hm (by rfl)) (by exact .nil) ?_
          refine dq_write0 rfl (fun s => .g rfl (.op rfl (.nil))) rfl rfl (fun s hs => loc_storeN (ho := (by show OneAll [_, _, _, _, _, _, _, _]; infer_instance)) rfl rfl rfl) (by exact .nil) ?_
          refine dq_write0 rfl (fun s => .g rfl (.op rfl (.nil))) rfl rfl (fun s hs => loc_storeN (ho := (by show OneAll [_, _, _, _, _, _, _, _]; infer_instance)) rfl rfl rfl) (by exact .nil) ?_
          refine dq_end (rs := [_, _, _, _, _, _, _, _]) () rfl (fun _ => rfl) (.nil) rfl (fun _ _ => ?_)
          dsimp only [outG, outM, List.map, List.set, id]
          refine run_inBlock ?_
          refine run_region ?_
          refine run_op (loc_move rfl) rfl ?_
          first | refine run_op (loc_add rfl rfl (by first | omega | assumption)) rfl ?_ | refine run_op (loc_addW rfl rfl) rfl ?_
          refine run_op (loc_assign rfl) rfl ?_
          refine run_nil ?_
          refine run_drop (.cons _ (.cons _ (.refl _))) ?_
          exact run_againF ih11 (k + 1) (by omega) (by omega) (.cons rfl (by first | exact fun _ _ h => h | exact d_int (by omega) | exact d_int (by simp) | exact d_intN (by omega) | exact d_any) .nil) (.cons rfl (fun _ _ x => x) (.cons rfl (fun _ _ x => x) (.cons rfl (fun _ _ x => x) (.cons rfl (fun _ _ x => x) (.cons rfl (fun _ _ x => x) (.nil)))))) (by simp only [appR]; rw [show loadV (vM sc.1 sid (fun j : Nat => ts[j]?.getD default) (ma k)) (ts[k]?.getD default) = _ from hla.2, show loadV (vM sc.1 sid (fun j : Nat => ts[j]?.getD default) (mb ord k)) (ts[(ord[k]?.getD default).toNat]?.getD default) = _ from hlb.2]; rfl)
      ·
        refine run_exit rfl ?_
        refine run_seq ?_
        refine run_seq ?_
        obtain rfl : k = 3 := by omega
        refine run_region ?_
        refine run_op (loc_move rfl) rfl ?_
        refine run_op (loc_neq rfl rfl) rfl ?_
        refine run_op (loc_move rfl) rfl ?_
        refine run_gfirst rfl rfl (by first | exact guard_true _ | exact guard_false _ | exact guard_if (guard_true _) | exact guard_if (guard_false _)) (fun hg => loc_loadOwnN rfl (.here) (by rfl)) rfl ?_
        refine run_gop rfl rfl (by first | exact guard_true _ | exact guard_false _ | exact guard_if (guard_true _) | exact guard_if (guard_false _)) (fun hg => loc_loadOwnN rfl (.there (.here)) (by rfl)) rfl ?_
        refine run_gop rfl rfl (by first | exact guard_true _ | exact guard_false _ | exact guard_if (guard_true _) | exact guard_if (guard_false _)) (fun hg => loc_call (vsame_spec _ _) rfl) rfl ?_
        refine run_gop rfl rfl (by first | exact guard_true _ | exact guard_false _ | exact guard_if (guard_true _) | exact guard_if (guard_false _)) (fun hg => loc_not rfl) rfl ?_
        refine run_gleave ?_
        refine run_op (loc_or rfl rfl) rfl ?_
        refine run_op (loc_move rfl) rfl ?_
        refine run_gfirst rfl rfl (by first | exact guard_true _ | exact guard_false _ | exact guard_if (guard_true _) | exact guard_if (guard_false _)) (fun hg => loc_fieldAddrOwn rfl) rfl ?_
        refine run_gop rfl rfl (by first | exact guard_true _ | exact guard_false _ | exact guard_if (guard_true _) | exact guard_if (guard_false _)) (fun hg => loc_loadOwn1 rfl (.here) (by rfl)) rfl ?_
        refine run_gop rfl rfl (by first | exact guard_true _ | exact guard_false _ | exact guard_if (guard_true _) | exact guard_if (guard_false _)) (fun hg => loc_len rfl) rfl ?_
        refine run_gop rfl rfl (by first | exact guard_true _ | exact guard_false _ | exact guard_if (guard_true _) | exact guard_if (guard_false _)) (fun hg => loc_neq rfl rfl) rfl ?_
        refine run_gleave ?_
        refine run_op (loc_or rfl rfl) rfl ?_
        refine run_nil ?_
        refine run_cond rfl (fun h16 => ?_) (fun h16 => ?_)
        · exfalso; rcases h16 with (h | h) | h; (· exact h hnw.1); (· exact h (end_ab ho)); (· exact h rfl)
        ·
          refine run_skip ?_
          refine run_seq ?_
          have hdm : dropE (vM sc.1 sid (fun j : Nat => ts[j]?.getD default) (ma 3)) (ts[1]?.getD default).number = 0 ∧ dropV (vM sc.1 sid (fun j : Nat => ts[j]?.getD default) (ma 3)) (ts[1]?.getD default).number = vM sc.1 sid (fun j : Nat => ts[j]?.getD default) mc := drop_mid hT
          have hlm : loadE (vM sc.1 sid (fun j : Nat => ts[j]?.getD default) mc) (ts[1]?.getD default) = 0 ∧ loadV (vM sc.1 sid (fun j : Nat => ts[j]?.getD default) mc) (ts[1]?.getD default) = vM sc.1 sid (fun j : Nat => ts[j]?.getD default) (ma 3) := load_mid hT hid
          have hz3 : szSrv (vM sc.1 sid (fun j : Nat => ts[j]?.getD default) (ma 3)) := vM_sz hT hid
          have hzc : szSrv (vM sc.1 sid (fun j : Nat => ts[j]?.getD default) mc) := vM_sz hT hid
          refine run_addNone ?_
          refine dr_start _ (.one (σ := Nat) 9 (fun _ => True)) [⟨[(11, none)], [], some (1, 0, false)⟩,
              ⟨[(7, none)], [], none⟩,
              ⟨[(129, some (1, false))], [1], none⟩,
              ⟨[(130, some (2, false))], [1, 2], none⟩,
              ⟨[(131, some (3, false))], [1, 2, 3], none⟩,
              ⟨[(128, some (0, false)), (132, some (4, false))], [0, 1, 2, 3, 4], none⟩,
              ⟨[(133, some (5, false))], [0, 1, 2, 3, 4, 5], none⟩,
              ⟨[(127, some (6, false))], [0, 1, 2, 3, 4, 5, 6], none⟩,
              ⟨[(127, some (6, false))], [0, 1, 2, 3, 4, 5, 6], none⟩,
              ⟨[], [], some (0, 0, true)⟩,
              ⟨[(20, some (9, false)), (134, some (7, false))], [0, 1, 2, 3, 4, 5, 6, 7, 9], some (0, 1, true)⟩,
              ⟨[(135, some (8, false))], [0, 1, 2, 3, 4, 5, 6, 7, 8, 9, 10], none⟩] [_, _, _, _, _, _, _] _ rfl rfl ?_
          refine dq_read rfl (fun s => .g rfl (.nil)) rfl rfl (fun s hs _ hm => loc_loadOwnN rfl hm (by rfl)) (by exact .cons (.inr fun _ _ _ => rfl) (.nil)) ?_
          refine dq_pure rfl (fun s => .g rfl (.nil)) (fun s hs _ => loc_move rfl) (by exact .cons (.inr fun _ _ _ => rfl) (.nil)) ?_
          first | refine dq_pure rfl (fun s => .op rfl (.nil)) (fun s hs _ => loc_index rfl rfl (by first | omega | assumption)) (by exact .cons (.inr fun _ _ _ => rfl) (.nil)) ?_ | refine dq_pure rfl (fun s => .op rfl (.nil)) (fun s hs _ => loc_indexI rfl rfl (by first | omega | assumption)) (by exact .cons (.inr fun _ _ _ => rfl) (.nil)) ?_
          refine dq_pure rfl (fun s => .op rfl (.nil)) (fun s hs _ => loc_fieldAddr rfl) (by exact .cons (.inr fun _ _ _ => rfl) (.nil)) ?_
          refine dq_pure rfl (fun s => .op rfl (.nil)) (fun s hs _ => loc_load1 rfl) (by exact .cons (.inr fun _ _ _ => rfl) (.nil)) ?_
          refine dq_pure rfl (fun s => .op rfl (.op rfl (.nil))) (fun s hs _ => loc_call (vdrop_spec (vM sc.1 sid (fun j : Nat => ts[j]?.getD default) (ma 3)) (ts[1]?.getD default).number hz3) rfl) (by exact .cons (.inr fun _ _ _ => rfl) (.nil)) ?_
          refine dq_pure rfl (fun s => .op rfl (.nil)) (fun s hs _ => loc_move rfl) (by exact .cons (.inr fun _ _ _ => rfl) (.nil)) ?_
          refine dq_pure rfl (fun s => .op rfl (.nil)) (fun s hs _ => loc_extract rfl rfl) (by exact .cons (.inr fun _ _ _ => rfl) (.nil)) ?_
          refine dq_pure rfl (fun s => .op rfl (.nil)) (fun s hs _ => loc_extract rfl rfl) (by exact .cons (.inr fun _ _ _ => rfl) (.nil)) ?_
          refine dq_choose id (fun _ t => t) rfl (fun _ _ => ⟨rfl, id, trivial⟩) (fun s => .nil) rfl rfl (fun s hs => locM_new (loc_allocOwn (by simp))) (by exact .cons (.inl rfl) (.nil)) ?_
          refine dq_write0 rfl (fun s => .op rfl (.op rfl (.nil))) rfl rfl (fun s hs => loc_storeN (ho := (by show OneAll [_, _, _, _, _, _, _, _]; infer_instance)) rfl rfl rfl) (by exact .cons (.inl rfl) (.nil)) ?_
          refine dq_pure rfl (fun s => .op rfl (.nil)) (fun s hs _ => loc_assign rfl) (by exact .cons (.inl rfl) (.nil)) ?_
          refine dq_end (rs := [_, _, _, _, _, _, _]) 0 rfl (fun _ => rfl) (.cons rfl (.nil)) rfl (fun b17 _ => ?_)
          dsimp only [outG, outM, List.map, List.set, id]
          rw [hdm.2]
          refine run_seq ?_
          refine dr_start _ (.none) [⟨[(20, none)], [], some (0, 0, false)⟩,
              ⟨[(7, none)], [], none⟩,
              ⟨[(138, some (1, false))], [1], none⟩,
              ⟨[(139, some (2, false))], [1, 2], none⟩,
              ⟨[(137, some (0, false)), (140, some (3, false))], [0, 1, 2, 3], none⟩,
              ⟨[(141, some (4, false))], [0, 1, 2, 3, 4], none⟩,
              ⟨[(136, some (5, false))], [0, 1, 2, 3, 4, 5], none⟩,
              ⟨[(136, some (5, false))], [0, 1, 2, 3, 4, 5], none⟩,
              ⟨[(20, none), (142, some (6, false))], [0, 1, 2, 3, 4, 5, 6], some (0, 0, true)⟩,
              ⟨[(143, some (7, false))], [0, 1, 2, 3, 4, 5, 6, 7, 8], none⟩] [_, _, _, _, _, _, _] _ rfl rfl ?_
          refine dq_read rfl (fun s => .g rfl (.nil)) rfl rfl (fun s hs _ hm => loc_loadOwnN rfl hm (by rfl)) (by exact .nil) ?_
          refine dq_pure rfl (fun s => .g rfl (.nil)) (fun s hs _ => loc_move rfl) (by exact .nil) ?_
          first | refine dq_pure rfl (fun s => .op rfl (.nil)) (fun s hs _ => loc_index rfl rfl (by first | omega | assumption)) (by exact .nil) ?_ | refine dq_pure rfl (fun s => .op rfl (.nil)) (fun s hs _ => loc_indexI rfl rfl (by first | omega | assumption)) (by exact .nil) ?_
          refine dq_pure rfl (fun s => .op rfl (.nil)) (fun s hs _ => loc_loadN rfl rfl) (by exact .nil) ?_
          refine dq_pure rfl (fun s => .op rfl (.op rfl (.nil))) (fun s hs _ => loc_call (vload_spec (vM sc.1 sid (fun j : Nat => ts[j]?.getD default) mc) (ts[1]?.getD default) hzc) rfl) (by exact .nil) ?_
          refine dq_pure rfl (fun s => .op rfl (.nil)) (fun s hs _ => loc_move rfl) (by exact .nil) ?_
          refine dq_pure rfl (fun s => .op rfl (.nil)) (fun s hs _ => loc_extract rfl rfl) (by exact .nil) ?_
          refine dq_pure rfl (fun s => .op rfl (.nil)) (fun s hs _ => loc_extract rfl rfl) (by exact .nil) ?_
          refine dq_write0 rfl (fun s => .g rfl (.op rfl (.nil))) rfl rfl (fun s hs => loc_storeN (ho := (by show OneAll [_, _, _, _, _, _, _, _]; infer_instance)) rfl rfl rfl) (by exact .nil) ?_
          refine dq_pure rfl (fun s => .op rfl (.nil)) (fun s hs _ => loc_assign rfl) (by exact .nil) ?_
          refine dq_end (rs := [_, _, _, _, _, _, _]) () rfl (fun _ => rfl) (.nil) rfl (fun _ _ => ?_)
          dsimp only [outG, outM, List.map, List.set, id]
          rw [hlm.2]
          refine run_seq ?_
          refine run_region ?_
          refine run_op (loc_move rfl) rfl ?_
          refine run_op (loc_eql rfl rfl) rfl ?_
          refine run_op (loc_move rfl) rfl ?_
          refine run_gfirst rfl rfl (by first | exact guard_true _ | exact guard_false _ | exact guard_if (guard_true _) | exact guard_if (guard_false _)) (fun hg => loc_move rfl) rfl ?_
          refine run_gop rfl rfl (by first | exact guard_true _ | exact guard_false _ | exact guard_if (guard_true _) | exact guard_if (guard_false _)) (fun hg => loc_eql rfl rfl) rfl ?_
          refine run_gleave ?_
          refine run_op (loc_and rfl rfl) rfl ?_
          refine run_op (loc_move rfl) rfl ?_
          refine run_gfirst rfl rfl (by first | exact guard_true _ | exact guard_false _ | exact guard_if (guard_true _) | exact guard_if (guard_false _)) (fun hg => loc_loadOwnN rfl (.there (.here)) (by rfl)) rfl ?_
          refine run_gop rfl rfl (by first | exact guard_true _ | exact guard_false _ | exact guard_if (guard_true _) | exact guard_if (guard_false _)) (fun hg => loc_loadOwnN rfl (.here) (by rfl)) rfl ?_
          refine run_gop rfl rfl (by first | exact guard_true _ | exact guard_false _ | exact guard_if (guard_true _) | exact guard_if (guard_false _)) (fun hg => loc_call (vsame_spec _ _) rfl) rfl ?_
          refine run_gleave ?_
          refine run_op (loc_and rfl rfl) rfl ?_
          refine run_op (loc_assign rfl) rfl ?_
          refine run_nil ?_
          refine run_drop (.cons _ (.cons _ (.cons _ (.cons _ (.cons _ (.cons _ (.cons _ (.refl _)))))))) ?_
          refine run_retP Try.func4 rfl rfl ?_
          exact d_B ⟨fun _ => trivial, fun _ => ⟨⟨hdm.1, hlm.1⟩, rfl⟩⟩

end Go.Q

namespace Go.Q
open Go.ChangeShapes Go.WideShapes Go.RowKit

def immOf (w : World) : Imm := ⟨fun b => w.heap[b]?, w.os, w.tape, w.output⟩
theorem inv_of (w : World) : Inv (immOf w) [] w := ⟨rfl, rfl, rfl, fun _ _ h => h, fun r hr => (by cases hr), List.nodup_nil⟩

theorem below_of {W w' : World} {J : Imm} (hle : (immOf W).le J) (hi : Inv J [] w') : Below W.heap.size W w' := by
  have hblk : ∀ k, k < W.heap.size → w'.heap[k]? = W.heap[k]? := fun k hk => by
    have h1 : W.heap[k]? = some W.heap[k] := by simp [hk]
    rw [h1]
    exact hi.imm k _ (hle.blk k _ h1)
  refine ⟨hi.os.trans hle.os, hi.tape.trans hle.tape, hi.output.trans hle.output, ?_, hblk⟩
  by_cases h : W.heap.size ≤ w'.heap.size
  · exact h
  · have h1 := hblk w'.heap.size (by omega)
    have h2 : w'.heap[w'.heap.size]? = none := by simp
    rw [h2] at h1
    have h3 : W.heap[w'.heap.size]? = some W.heap[w'.heap.size] := by simp [show w'.heap.size < W.heap.size by omega]
    rw [h3] at h1
    cases h1

section
variable {H : Type} {enc : TypeId × Value → H} {P : Program}

theorem post_same {f : Func} {s : ChangeSpec} {apart fresh handsOn again : Bool} {W W' : World} {args : Array Value} {v : Value} {ds gs : List (DataW H)} {before pa pv : List MemPlace}
    (hW : DataW.Whole enc P f.params.toList s.vars apart W args.toList ds gs before)
    (hres : ∀ (b : Nat) (sp : Nat → Bool) (hd : Bool), DataW.TrodAll enc P W' b sp hd f.resultTypes.toList (v.resultList f.resultTypes.size) (s.fn H (ds ++ gs)).results [])
    (hargs : ∀ sp : Nat → Bool, (∀ p ∈ before, sp p.block = true) → DataW.TrodAll enc P W' 0 sp true f.params.toList args.toList (s.fn H (ds ++ gs)).args pa)
    (hvars : ∀ sp : Nat → Bool, (∀ p ∈ before, sp p.block = true) → DataW.TrodVars enc P W' sp s.vars (s.fn H (ds ++ gs)).vars pv)
    (hps : before = pa ++ pv) (hk : W.keptBut W' (· ∈ before)) (hfz : ∀ a : Addr, a.block < W.heap.size → W'.frozen? a = W.frozen? a)
    (hok : ∀ (j : Nat) (t : TypeId) (r : Value), f.resultTypes[j]? = some t → (v.resultList f.resultTypes.size)[j]? = some r → Value.okWide P W' .any 0 t r) :
    s.post enc P f apart fresh handsOn again W args v W' := by
  have hold : ∀ p ∈ before, (fun b => decide (b < W.heap.size)) p.block = true := fun p hp => by simpa using hW.lt p hp
  have hlt := hW.lt
  refine ⟨ds, gs, before, [], pa, pv, hW, hres _ _ _, hargs _ hold, hvars _ hold, World.keptBut_mono (fun p hp => ⟨hp, ?_⟩) hk, fun _ => ?_⟩
  · rw [hps, List.mem_append] at hp
    exact Or.inr hp
  · obtain ⟨_, _, _, _, _, hz, hn⟩ := hW
    refine ⟨hok, _, _, ([] ++ pa) ++ pv, ⟨[] ++ pa, pv, trodAll_append (hargs _ (fun _ _ => rfl)) (hres _ _ _), hvars _ (fun _ _ => rfl), rfl, ?_, ?_⟩, ?_⟩
    · intro b off hp
      have hm : MemPlace.cell b off ∈ before := by rw [hps]; simpa using hp
      rw [hfz _ (hlt _ hm)]
      exact hz b off hm
    · intro ha
      have := hn ha
      rw [hps] at this
      simpa using this
    · intro p hp _
      rw [hps]
      simpa using hp

theorem trodAll_stay (hl : laidOutB P = true) {W W' : World} {sp : Nat → Bool} : ∀ {ts : List TypeId} {vs : List Value} {ds : List (DataW H)} {ps : List MemPlace}, (∀ t ∈ ts, P.readableRec t = true ∧ t < P.types.size) →
    DataW.TrodAll enc P W 0 (fun _ => true) true ts vs ds ps → (∀ p ∈ ps, W.sameAt W' p) → (∀ p ∈ ps, sp p.block = true) → DataW.TrodAll enc P W' 0 sp true ts vs ds ps
  | [], _, _, _, _, h, _, _ => by
    obtain ⟨rfl, rfl, rfl⟩ := trodAll_nil h
    exact rfl
  | t :: ts, _, _, _, hr, h, hs, hp => by
    obtain ⟨v, vs, d, ds, p, q, rfl, rfl, rfl, h1, h2⟩ := trodAll_cons h
    have hrt := hr t (List.mem_cons_self ..)
    exact ⟨p, q, WideElems.Trod_stays hl hrt.1 hrt.2 h1 (fun x hx => hs x (List.mem_append_left _ hx)) (fun x hx => hp x (List.mem_append_left _ hx)),
      trodAll_stay hl (fun x hx => hr x (List.mem_cons_of_mem _ hx)) h2 (fun x hx => hs x (List.mem_append_right _ hx)) (fun x hx => hp x (List.mem_append_right _ hx)), rfl⟩

/-- A law: its contract says that it answers true, whatever the arguments are. -/
theorem law_calls {f : FuncId} {fn : Func} {s : ChangeSpec} {apart fresh handsOn again : Bool} {W : World} {args : Array Value} {ds gs : List (DataW H)} {before : List MemPlace} {tb : TypeId} {Ds : List D}
    (hl : laidOutB P = true) (hread : ∀ t ∈ fn.params.toList, P.readableRec t = true ∧ t < P.types.size) (hres : fn.resultTypes = #[tb]) (htb : P.underlying tb = some .bool) (hvars : s.vars = [])
    (hW : DataW.Whole enc P fn.params.toList s.vars apart W args.toList ds gs before) (hr : (s.fn H ds).results = [.lit (.bool true)]) (ha : (s.fn H ds).args = ds) (hv : (s.fn H ds).vars = [])
    (hsp : SpecP P f Ds (dB True)) (hrel : relL Ds (immOf W) args.toList) :
    Calls P f args W fun e W' => ∃ v, e = .returned v ∧ s.post enc P fn apart fresh handsOn again W args v W' := by
  have h := hsp (immOf W) [] W args.toList hrel (inv_of W)
  rw [Array.toArray_toList] at h
  refine h.mono ?_
  rintro e W' ⟨v, rfl, J, hle, ⟨b, rfl, hb⟩, hi⟩
  have hbt : b = true := hb.2 trivial
  subst hbt
  have hB := below_of hle hi
  have hlt := hW.lt
  have hW' := hW
  obtain ⟨p, q, hA, hV, rfl, hfz, hnd⟩ := hW'
  rw [hvars] at hV
  obtain ⟨rfl, rfl⟩ := trodVars_none hV
  rw [List.append_nil] at hlt
  refine ⟨_, rfl, post_same (pa := p) (pv := []) hW (fun b sp hd => ?_) (fun sp hs => ?_) (fun sp hs => ?_) rfl (hB.frame _) (fun a ha => hB.frozen ha) (ok_one hres rfl (okWide_bool_mk htb true))⟩
  · rw [List.append_nil, hr, hres]
    exact trodAll_mk1 (shut_bool htb true)
  · rw [List.append_nil, ha]
    exact trodAll_stay hl hread hA (fun x hx => hB.same (hlt x hx)) (fun x hx => hs x (by simpa using hx))
  · rw [List.append_nil, hv, hvars]
    exact rfl

/-! ### Arguments -/

theorem wf_u8 {n : Int} (h : (Lit.int .u8 n).wf = true) : 0 ≤ n ∧ n ≤ 255 := by
  have h1 : IntKind.u8.min ≤ n ∧ n ≤ IntKind.u8.max := by simpa [Lit.wf] using h
  exact h1

theorem at_of_cell {w : World} {a : Addr} {v : Value} {d : D} (h : w.cell? a = some v) (hd : d.rel (immOf w) v) : (immOf w).at a [d] := by
  unfold World.cell? at h
  split at h
  · rename_i cs T fz hb
    split at h
    · cases h
    · rename_i hs
      refine ⟨by simpa using hs, cs, T, fz, hb, ?_⟩
      have h1 : cs.toList[a.off]? = some v := by simpa using h
      have h2 : (cs.toList.drop a.off).take 1 = [v] := by
        rw [List.take_one, List.head?_drop, h1]; rfl
      show relL [d] _ ((cs.toList.drop a.off).take 1)
      rw [h2]
      exact ⟨hd, trivial⟩
  · cases h

variable {W : World}

theorem arg_int {r : Reach} {b0 : Nat} {t : TypeId} {k : IntKind} {v : Value} {d : DataW H} {ps : List MemPlace} (ht : P.underlying t = some (.int k)) (hval : Value.okWide P W r b0 t v) (hd : DataW.Trod enc P W 0 (fun _ => true) true t v d ps) :
    ∃ n, (dInt k n).rel (immOf W) v ∧ (Lit.int k n).wf = true := by
  obtain ⟨n, rfl, _, _, h⟩ := open_int ht hval hd
  exact ⟨n, rfl, h⟩

theorem ints_of_trod {t e : TypeId} {fuel : Nat} {cs : List Value} {d : DataW H} {ps : List MemPlace} (ht : P.underlying t = some (.slice e)) (he : P.underlying e = some (.int .i64)) (hc : P.cellsOf e = 1) (hb : P.bytesOf e = 8)
    (h : DataW.trod enc P W 0 (fun _ => true) true fuel t cs = some (d, ps)) (hsz : ∀ n ∈ d.weights P t, n ≤ reachBytes) : ∃ xs, relL [dInts xs] (immOf W) cs := by
  rcases open_ints ht he hc h with ⟨rfl, _⟩ | ⟨a, len, cap, zs, rfl, _, h1, h2, h3, h4, h5, h6⟩
  · exact ⟨[], d_nil _ _ rfl, trivial⟩
  · simp only [if_true] at h3
    injection h4 with h4 _
    subst h4
    have h7 := hsz ((lits (H := H) .i64 (zs.take len)).length + (lits (H := H) .i64 (zs.drop len)).length |>.mul (P.bytesOf e)) (by simp [DataW.weights, ht])
    rw [hb] at h7
    have h8 : zs.length * 8 ≤ reachBytes := by simpa [lits, h3, h1] using h7
    have h9 : reachBytes = 140737488351232 := rfl
    refine ⟨zs.take len, ⟨some a, cap, by rw [List.length_take, h3]; rw [Nat.min_eq_left h1], by rw [List.length_take]; omega, h2, by rw [List.length_take]; unfold lenMax; omega, fun i x hx => ?_⟩, trivial⟩
    have hi : i < len ∧ zs[i]? = some x := by
      rw [List.getElem?_take] at hx
      split at hx
      · rename_i h; exact ⟨h, hx⟩
      · cases hx
    have hcell := fun j hj => h5 j hj
    have h0 := hcell 0 (by omega)
    have hs0 : a.spot = none := (at_of_cell (d := dTop) h0 trivial).1
    refine ⟨rfl, a, rfl, hs0, ?_⟩
    rw [Nat.mul_one]
    refine at_of_cell (hcell i (by omega)) ?_
    show _ = _
    rw [List.getD_eq_getElem?_getD, hi.2]
    rfl

theorem arg_ints {r : Reach} {b0 : Nat} {t e : TypeId} {v : Value} {d : DataW H} {ps : List MemPlace} (ht : P.underlying t = some (.slice e)) (he : P.underlying e = some (.int .i64)) (hc : P.cellsOf e = 1) (hb : P.bytesOf e = 8)
    (hval : Value.okWide P W r b0 t v) (hd : DataW.Trod enc P W 0 (fun _ => true) true t v d ps) (hsz : ∀ n ∈ d.weights P t, n ≤ reachBytes) : ∃ xs, (dInts xs).rel (immOf W) v := by
  obtain ⟨a, len, cap, rfl⟩ := okWide_slice ht hval
  obtain ⟨fuel, hf⟩ := hd
  obtain ⟨xs, h, _⟩ := ints_of_trod ht he hc hb hf hsz
  exact ⟨xs, h⟩

/-- The fields of a struct of numbers, from the offset j on. -/
def intFs64 (P : Program) : Nat → List Field → Bool
  | _, [] => true
  | j, fd :: fs => Nat.beq fd.offset j && Nat.beq (P.cellsOf fd.type) 1 && (match P.underlying fd.type with | some (.int .i64) => true | _ => false) && intFs64 P (j + 1) fs

theorem ints_of_fields {n : Nat} {cs : List Value} : ∀ (fs : List Field) (j : Nat), intFs64 P j fs = true → j + fs.length = cs.length → (∀ (i : Nat) fd, fs[i]? = some fd → ∃ x, DataW.trod enc P W 0 (fun _ => true) true n fd.type ((cs.drop fd.offset).take (P.cellsOf fd.type)) = some x) →
    ∃ ns : List Int, ns.length = fs.length ∧ relL (ns.map fun m => dInt .i64 m) (immOf W) (cs.drop j)
  | [], j, _, hl, _ => ⟨[], rfl, by rw [List.drop_eq_nil_of_le (by simp at hl; omega)]; exact trivial⟩
  | fd :: fs, j, hc, hl, hf => by
    simp only [intFs64, Bool.and_eq_true] at hc
    obtain ⟨⟨⟨h1, h2⟩, h3⟩, h4⟩ := hc
    replace h1 := Nat.eq_of_beq_eq_true h1
    replace h2 := Nat.eq_of_beq_eq_true h2
    simp only [List.length_cons] at hl
    obtain ⟨ns, h5, h6⟩ := ints_of_fields fs (j + 1) h4 (by omega) (fun i fd' hfd => hf (i + 1) fd' (by simpa using hfd))
    obtain ⟨x, hx⟩ := hf 0 fd rfl
    have hu : P.underlying fd.type = some (.int .i64) := by
      split at h3
      · assumption
      · cases h3
    obtain ⟨m, hm, _⟩ := DataW.trod_int hu hx
    rw [h1, h2] at hm
    have hlt : j < cs.length := by omega
    rw [List.drop_eq_getElem_cons hlt] at hm ⊢
    simp only [List.take_succ_cons, List.take_zero, List.cons.injEq, and_true] at hm
    exact ⟨m :: ns, by simp [h5], by rw [hm]; exact ⟨rfl, h6⟩⟩

theorem arg_nums {r : Reach} {b0 : Nat} {t : TypeId} {v : Value} {d : DataW H} {ps : List MemPlace} {fs : Array Field} (ht : P.underlying t = some (.struct fs)) (hc : intFs64 P 0 fs.toList = true) (hC : P.cellsOf t = fs.size)
    (hval : Value.okWide P W r b0 t v) (hd : DataW.Trod enc P W 0 (fun _ => true) true t v d ps) : ∃ ns : List Int, ns.length = fs.size ∧ (dAgg (ns.map fun m => dInt .i64 m)).rel (immOf W) v := by
  obtain ⟨cs, rfl, hsz⟩ := okWide_struct ht hval
  obtain ⟨fuel, hf⟩ := hd
  obtain ⟨xs, n, _, _, _, hxl, hx⟩ := DataW.trod_struct ht hf
  obtain ⟨ns, h1, h2⟩ := ints_of_fields (enc := enc) (n := n) (cs := cs.toList) fs.toList 0 hc (by simp [hsz, hC]) (fun i fd hfd => by
    have h3 := hx i fd (by simpa using hfd)
    have hi : i < xs.length := by rw [hxl]; simpa using (List.getElem?_eq_some_iff.1 hfd).1
    rw [List.getElem?_eq_getElem hi] at h3
    exact ⟨_, h3⟩)
  exact ⟨ns, by simpa using h1, cs, rfl, h2⟩

def hdOk (P : Program) (t : TypeId) : Bool := match P.underlying t with
  | some (.struct fs) => intFs64 P 0 fs.toList && (Nat.beq fs.size 5 && Nat.beq (P.cellsOf t) 5)
  | _ => false

theorem arg_hd {r : Reach} {b0 : Nat} {t : TypeId} {v : Value} {d : DataW H} {ps : List MemPlace} (ho : hdOk P t = true)
    (hval : Value.okWide P W r b0 t v) (hd : DataW.Trod enc P W 0 (fun _ => true) true t v d ps) : ∃ h : Hd, (dHd h).rel (immOf W) v := by
  unfold hdOk at ho
  split at ho
  · rename_i fs ht
    simp only [Bool.and_eq_true] at ho
    have h5 := Nat.eq_of_beq_eq_true ho.2.1
    obtain ⟨ns, h1, h2⟩ := arg_nums ht ho.1 ((Nat.eq_of_beq_eq_true ho.2.2).trans h5.symm) hval hd
    match ns, h1.trans h5, h2 with
    | [a, b, c, e, f], _, h2 => exact ⟨⟨a, b, c, e, f⟩, h2⟩
  · cases ho

end
end Go.Q

namespace Go.Q
open Go.ChangeShapes Go.WideShapes Go.RowKit Go.Joins

section
variable {H : Type} {enc : TypeId × Value → H} {P : Program} {W : World}

theorem weights_all {e : TypeId} {l : List (DataW H)} {d : DataW H} (hd : d ∈ l) {n : Nat} (hn : n ∈ d.weights P e) : n ∈ DataW.weightsAll P e l := by
  induction l with
  | nil => cases hd
  | cons x l ih =>
    rw [DataW.weightsAll]
    rcases List.mem_cons.1 hd with rfl | hd
    · exact List.mem_append_left _ hn
    · exact List.mem_append_right _ (ih hd)

theorem rows_of_trod {t e q : TypeId} {fuel : Nat} {cs : List Value} {d : DataW H} {ps : List MemPlace} (ht : P.underlying t = some (.slice e)) (he : P.underlying e = some (.slice q)) (hq : P.underlying q = some (.int .i64)) (ce : P.cellsOf e = 1) (cq : P.cellsOf q = 1) (be : P.bytesOf e = 24) (bq : P.bytesOf q = 8)
    (h : DataW.trod enc P W 0 (fun _ => true) true fuel t cs = some (d, ps)) (hsz : ∀ n ∈ d.weights P t, n ≤ reachBytes) : ∃ xs, relL [dRows xs] (immOf W) cs := by
  rcases Go.Deep.open_int_rows ht he hq ce cq h with ⟨rfl, _⟩ | ⟨a, len, cap, A, L, C, Z, rfl, _, h1, h2, h4, h5⟩
  · exact ⟨[], d_nil _ _ rfl, trivial⟩
  · injection h4 with h4 _
    subst h4
    have h9 : reachBytes = 140737488351232 := rfl
    have h7 := hsz ((len + (cap - len)) * P.bytesOf e) (by simp [DataW.weights, ht])
    rw [be] at h7
    have hrow : ∀ r, r < len → (dInts ((Z r).take (L r))).rel (immOf W) (.slice (A r) (L r) (C r)) := by
      intro r hr
      obtain ⟨g1, g2, g3, g4, _, g6, g7⟩ := h5 r (by omega)
      cases hA : A r with
      | none =>
        have hC := g6 hA
        have hL : L r = 0 := by omega
        rw [hL, hC]
        exact d_nil _ _ rfl
      | some a' =>
        have hw : ((Z r).length) * 8 ≤ reachBytes := by
          refine hsz _ ?_
          simp only [DataW.weights, ht, List.mem_cons, List.mem_append]
          refine .inr (.inl (weights_all (d := Go.Deep.intRow .i64 (A r) (L r) (Z r)) (List.mem_map.2 ⟨r, List.mem_range.2 hr, rfl⟩) ?_))
          rw [hA]
          have hll : (lits (H := H) .i64 ((Z r).take (L r))).length + (lits (H := H) .i64 ((Z r).drop (L r))).length = (Z r).length := by simp [lits]; omega
          simp only [Go.Deep.intRow, DataW.weights, he, List.mem_cons]
          exact .inl (by rw [hll, bq])
        obtain ⟨_, hcell⟩ := g7 a' hA
        refine ⟨some a', C r, by rw [List.length_take, g4, Nat.min_eq_left g2], by rw [List.length_take]; omega, g3, by rw [List.length_take]; unfold lenMax; omega, fun i x hx => ?_⟩
        have hi : i < L r ∧ (Z r)[i]? = some x := by
          rw [List.getElem?_take] at hx
          split at hx
          · rename_i h; exact ⟨h, hx⟩
          · cases hx
        have hs0 : a'.spot = none := (at_of_cell (d := dTop) (hcell 0 (by omega)) trivial).1
        refine ⟨rfl, a', rfl, hs0, ?_⟩
        rw [Nat.mul_one]
        refine at_of_cell (hcell i (by omega)) ?_
        show _ = _
        rw [List.getD_eq_getElem?_getD, hi.2]
        rfl
    refine ⟨(List.range len).map fun r => (Z r).take (L r), ⟨some a, cap, by simp, by simp; omega, h2, by simp; unfold lenMax; omega, fun i x hx => ?_⟩, trivial⟩
    have hi : i < len ∧ x = (Z i).take (L i) := by
      rw [List.getElem?_map] at hx
      have hlt : i < len := by
        by_cases c : i < len
        · exact c
        · rw [List.getElem?_eq_none (by simp; omega)] at hx; cases hx
      rw [List.getElem?_range hlt] at hx
      exact ⟨hlt, by simpa using hx.symm⟩
    have hs0 : a.spot = none := (at_of_cell (d := dTop) (h5 0 (by omega)).1 trivial).1
    refine ⟨rfl, a, rfl, hs0, ?_⟩
    rw [Nat.mul_one, hi.2]
    exact at_of_cell (h5 i (by omega)).1 (hrow i hi.1)

theorem arg_rows {r : Reach} {b0 : Nat} {t e q : TypeId} {v : Value} {d : DataW H} {ps : List MemPlace} (ht : P.underlying t = some (.slice e)) (he : P.underlying e = some (.slice q)) (hq : P.underlying q = some (.int .i64)) (ce : P.cellsOf e = 1) (cq : P.cellsOf q = 1) (be : P.bytesOf e = 24) (bq : P.bytesOf q = 8)
    (hval : Value.okWide P W r b0 t v) (hd : DataW.Trod enc P W 0 (fun _ => true) true t v d ps) (hsz : ∀ n ∈ d.weights P t, n ≤ reachBytes) : ∃ xs, (dRows xs).rel (immOf W) v := by
  obtain ⟨a, len, cap, rfl⟩ := okWide_slice ht hval
  obtain ⟨fuel, hf⟩ := hd
  obtain ⟨xs, h, _⟩ := rows_of_trod ht he hq ce cq be bq hf hsz
  exact ⟨xs, h⟩

/-- The rows of a table's type: a number, a struct of one number, a number, rows of rows. -/
structure TabTy (P : Program) (t e q : TypeId) (f0 f1 f2 f3 g : Field) : Prop where
  s : P.underlying t = some (.struct #[f0, f1, f2, f3])
  c : P.cellsOf t = 4
  i0 : P.underlying f0.type = some (.int .i64) ∧ f0.offset = 0 ∧ P.cellsOf f0.type = 1
  i1 : P.underlying f1.type = some (.struct #[g]) ∧ f1.offset = 1 ∧ P.cellsOf f1.type = 1
  i2 : P.underlying f2.type = some (.int .i64) ∧ f2.offset = 2 ∧ P.cellsOf f2.type = 1
  i3 : P.underlying f3.type = some (.slice e) ∧ f3.offset = 3 ∧ P.cellsOf f3.type = 1
  ig : P.underlying g.type = some (.int .i64) ∧ g.offset = 0 ∧ P.cellsOf g.type = 1
  he : P.underlying e = some (.slice q)
  hq : P.underlying q = some (.int .i64)
  ce : P.cellsOf e = 1
  cq : P.cellsOf q = 1
  be : P.bytesOf e = 24
  bq : P.bytesOf q = 8

theorem arg_tab {r : Reach} {b0 : Nat} {t e q : TypeId} {f0 f1 f2 f3 g : Field} {v : Value} {d : DataW H} {ps : List MemPlace} (ho : TabTy P t e q f0 f1 f2 f3 g)
    (hval : Value.okWide P W r b0 t v) (hd : DataW.Trod enc P W 0 (fun _ => true) true t v d ps) (hsz : ∀ n ∈ d.weights P t, n ≤ reachBytes) : ∃ x : Tab, (dTab x).rel (immOf W) v := by
  obtain ⟨cs, rfl, hc⟩ := okWide_struct ho.s hval
  obtain ⟨c0, c1, c2, c3, rfl⟩ := array4 (hc.trans ho.c)
  obtain ⟨fuel, hf⟩ := hd
  obtain ⟨y0, y1, y2, y3, n, hx, _, h0, h1, h2, h3⟩ := trod_struct4 ho.s hf
  simp only [Prod.mk.injEq] at hx
  obtain ⟨rfl, _⟩ := hx
  rw [ho.i0.2.1, ho.i0.2.2] at h0
  rw [ho.i1.2.1, ho.i1.2.2] at h1
  rw [ho.i2.2.1, ho.i2.2.2] at h2
  rw [ho.i3.2.1, ho.i3.2.2] at h3
  obtain ⟨a, ha, _⟩ := DataW.trod_int ho.i0.1 h0
  obtain ⟨w, hw, _⟩ := DataW.trod_int ho.i2.1 h2
  obtain ⟨xs, m, _, _, _, hl, hg⟩ := DataW.trod_struct ho.i1.1 h1
  have hg0 := hg 0 g rfl
  rw [ho.ig.2.1, ho.ig.2.2, List.getElem?_eq_getElem (by rw [hl]; exact Nat.one_pos)] at hg0
  obtain ⟨p, hp, _⟩ := DataW.trod_int ho.ig.1 hg0
  obtain ⟨rows, hrows⟩ := rows_of_trod (enc := enc) (d := y3.1) (ps := y3.2) ho.i3.1 ho.he ho.hq ho.ce ho.cq ho.be ho.bq h3 (fun n hn => hsz n (by
    simp only [DataW.weights, ho.s]
    exact DataW.weights_mem_each (j := 3) rfl rfl n hn))
  simp [Value.cells] at ha hw hp hrows
  refine ⟨⟨a, p, w, rows⟩, _, rfl, ?_⟩
  exact ⟨ha, hp, hw, hrows⟩

def isI (P : Program) (fd : Field) (j : Nat) : Bool := (match P.underlying fd.type with | some (.int .i64) => true | _ => false) && Nat.beq fd.offset j && Nat.beq (P.cellsOf fd.type) 1
theorem isI_ok {fd : Field} {j : Nat} (h : isI P fd j = true) : P.underlying fd.type = some (.int .i64) ∧ fd.offset = j ∧ P.cellsOf fd.type = 1 := by
  simp only [isI, Bool.and_eq_true] at h
  refine ⟨?_, Nat.eq_of_beq_eq_true h.1.2, Nat.eq_of_beq_eq_true h.2⟩
  have h1 := h.1.1
  split at h1
  · assumption
  · cases h1

def fieldsOf (P : Program) (t : TypeId) : List Field := match P.underlying t with | some (.struct fs) => fs.toList | _ => []
def elemOf (P : Program) (t : TypeId) : Option TypeId := match P.underlying t with | some (.slice e) => some e | _ => none
theorem fieldsOf_ok {t : TypeId} {f : Field} {fs : List Field} (h : fieldsOf P t = f :: fs) : P.underlying t = some (.struct (f :: fs).toArray) := by
  unfold fieldsOf at h
  split at h
  · rename_i gs hg
    rw [hg, ← h]
  · cases h
theorem elemOf_ok {t e : TypeId} (h : elemOf P t = some e) : P.underlying t = some (.slice e) := by
  unfold elemOf at h
  split at h
  · rename_i e' he; injection h with h; rw [he, h]
  · cases h

def tabOk (P : Program) (t : TypeId) : Bool :=
  match fieldsOf P t with
  | [f0, f1, f2, f3] =>
    match fieldsOf P f1.type with
    | [g] =>
      match elemOf P f3.type with
      | some e =>
        match elemOf P e with
        | some q =>
          (match P.underlying q with | some (.int .i64) => true | _ => false) && (isI P f0 0 && (isI P f2 2 && (isI P g 0 && (Nat.beq f1.offset 1 && (Nat.beq (P.cellsOf f1.type) 1 && (Nat.beq f3.offset 3 && (Nat.beq (P.cellsOf f3.type) 1 &&
            (Nat.beq (P.cellsOf t) 4 && (Nat.beq (P.cellsOf e) 1 && (Nat.beq (P.cellsOf q) 1 && (Nat.beq (P.bytesOf e) 24 && Nat.beq (P.bytesOf q) 8)))))))))))
        | none => false
      | none => false
    | _ => false
  | _ => false

theorem arg_table {r : Reach} {b0 : Nat} {t : TypeId} {v : Value} {d : DataW H} {ps : List MemPlace} (ho : tabOk P t = true)
    (hval : Value.okWide P W r b0 t v) (hd : DataW.Trod enc P W 0 (fun _ => true) true t v d ps) (hsz : ∀ n ∈ d.weights P t, n ≤ reachBytes) : ∃ x : Tab, (dTab x).rel (immOf W) v := by
  unfold tabOk at ho
  split at ho
  · rename_i f0 f1 f2 f3 h1
    split at ho
    · rename_i g h2
      split at ho
      · rename_i e h3
        split at ho
        · rename_i q h4
          simp only [Bool.and_eq_true] at ho
          obtain ⟨a1, a2, a3, a4, a5, a6, a7, a8, a9, a10, a11, a12, a13⟩ := ho
          have hq : P.underlying q = some (.int .i64) := by
            split at a1
            · assumption
            · cases a1
          have n := @Nat.eq_of_beq_eq_true
          exact arg_tab ⟨fieldsOf_ok h1, n a9, isI_ok a2, ⟨fieldsOf_ok h2, n a5, n a6⟩, isI_ok a3, ⟨elemOf_ok h3, n a7, n a8⟩, isI_ok a4, elemOf_ok h4, hq, n a10, n a11, n a12, n a13⟩ hval hd hsz
        · cases ho
      · cases ho
    · cases ho
  · cases ho

end
end Go.Q

namespace Go.Q
open Go.ChangeShapes Go.WideShapes Go.RowKit

/-- A value of the type t, however it was laid, is told by some x. -/
def ArgOk (P : Program) (t : TypeId) {α : Type} (p : α → Prop) (c : α → List D) : Prop :=
  ∀ (H : Type) (enc : TypeId × Value → H) (W : World) (fuel : Nat) (cs : List Value) (d : DataW H) (ps : List MemPlace), DataW.trod enc P W 0 (fun _ => true) true fuel t cs = some (d, ps) →
    (∀ n ∈ d.weights P t, n ≤ reachBytes) → ∃ x, p x ∧ relL (c x) (immOf W) cs

variable {P : Program} {t e : TypeId} {α β : Type}

theorem ArgOk.map {p : α → Prop} {c : α → List D} {q : β → Prop} {c' : β → List D} (h : ArgOk P t p c) (f : α → β) (hp : ∀ x, p x → q (f x)) (hc : ∀ x, c x = c' (f x)) : ArgOk P t q c' := fun H enc W fuel cs d ps ht hw =>
  let ⟨x, h1, h2⟩ := h H enc W fuel cs d ps ht hw
  ⟨f x, hp x h1, hc x ▸ h2⟩

theorem ArgOk.int {k : IntKind} (ht : P.underlying t = some (.int k)) : ArgOk P t (fun n => (Lit.int k n).wf = true) (fun n => [dInt k n]) := fun H enc W fuel cs d ps h hw => by
  obtain ⟨n, rfl, _, hn⟩ := DataW.trod_int ht h
  exact ⟨n, hn, rfl, trivial⟩

theorem ArgOk.bool (ht : P.underlying t = some .bool) : ArgOk P t (fun _ => True) (fun b : Bool => [dB (b = true)]) := fun H enc W fuel cs d ps h hw => by
  obtain ⟨b, rfl, _⟩ := DataW.trod_bool ht h
  exact ⟨b, trivial, ⟨b, rfl, Iff.rfl⟩, trivial⟩

theorem cells_of {W : World} {a : Addr} {n : Nat} {vs : List Value} (h : W.cells? 0 a n = some vs) : vs.length = n ∧ ∀ i v, vs[i]? = some v → W.cell? (a.add i) = some v := by
  unfold World.cells? at h
  rw [if_pos (Nat.zero_le _)] at h
  have h1 := mapM_some_length h
  rw [List.length_range] at h1
  refine ⟨h1, fun i v hv => ?_⟩
  have hi : i < n := by rw [← h1]; exact (List.getElem?_eq_some_iff.1 hv).1
  have := mapM_some_get h i i (by simp [hi])
  rw [← hv, ← this]

theorem add_add (a : Addr) (h : a.spot = none) (i j : Nat) : (a.add i).add j = a.add (i + j) := by
  obtain ⟨b, o, s⟩ := a
  simp only at h
  subst h
  rw [Addr.add_lit, Addr.add_lit, Addr.add_lit]
  congr 1
  omega

/-- Cells that are there, one behind the other. -/
theorem at_of_cells {w : World} {a : Addr} {ds : List D} {vs : List Value} (hs : a.spot = none) (hl : vs ≠ []) (hv : ∀ i v, vs[i]? = some v → w.cell? (a.add i) = some v) (hr : relL ds (immOf w) vs) : (immOf w).at a ds := by
  obtain ⟨b, o, s⟩ := a
  simp only at hs
  subst hs
  have hcell : ∀ i v, vs[i]? = some v → w.cell? ⟨b, o + i, none⟩ = some v := fun i v h => by have := hv i v h; rwa [Addr.add_lit] at this
  cases vs with
  | nil => exact absurd rfl hl
  | cons v0 vs =>
    have h0 := hcell 0 v0 rfl
    unfold World.cell? at h0
    simp only at h0
    split at h0
    · rename_i cs T fz hb
      refine ⟨rfl, cs, T, fz, hb, ?_⟩
      have hlen := relL_length hr
      have : (cs.toList.drop o).take ds.length = v0 :: vs := by
        apply List.ext_getElem?
        intro i
        by_cases hi : i < (v0 :: vs).length
        · have h1 := hcell i ((v0 :: vs)[i]) (List.getElem?_eq_getElem hi)
          simp only [World.cell?, hb] at h1
          rw [List.getElem?_take, if_pos (by omega), List.getElem?_drop, Array.getElem?_toList, List.getElem?_eq_getElem hi]
          simpa using h1
        · rw [List.getElem?_eq_none (by rw [List.length_take]; omega), List.getElem?_eq_none (by omega)]
      show relL ds _ ((cs.toList.drop o).take ds.length)
      rw [this]
      exact hr
    · cases h0

theorem list_choose {Q : Nat → α → Prop} {n : Nat} (h : ∀ i, i < n → ∃ x, Q i x) : ∃ xs : List α, xs.length = n ∧ ∀ i x, xs[i]? = some x → Q i x := by
  refine ⟨List.ofFn fun i : Fin n => Classical.choose (h i.1 i.2), by simp, fun i x hx => ?_⟩
  have hi : i < n := by have := (List.getElem?_eq_some_iff.1 hx).1; simpa using this
  rw [List.getElem?_ofFn, dif_pos hi] at hx
  injection hx with hx
  rw [← hx]
  exact Classical.choose_spec (h i hi)

theorem spot_add (a : Addr) (h : a.spot = none) (i : Nat) : (a.add i).spot = none := by
  obtain ⟨b, o, s⟩ := a
  simp only at h
  subst h
  rw [Addr.add_lit]

/-- A slice, whatever its elements are. -/
theorem ArgOk.slice {p : α → Prop} {c : α → List D} {n : Nat} (ht : P.underlying t = some (.slice e)) (he : ArgOk P e p c) (hn : P.cellsOf e = n) (hn0 : n ≠ 0) (hb : 8 ≤ P.bytesOf e) (hc : ∀ x, (c x).length = n) :
    ArgOk P t (fun xs : List α => ∀ x ∈ xs, p x) (fun xs => [dSl n c xs]) := fun H enc W fuel cs d ps h hw => by
  subst hn
  rcases DataW.trod_slice ht h with ⟨rfl, _⟩ | ⟨a, len, cap, elems, rest, m, _, rfl, hx, _, h1, h2, h3, h4, _, _⟩
  · exact ⟨[], (fun x hx => by cases hx), d_nil _ _ rfl, trivial⟩
  · injection hx with hx _
    subst hx
    have hlen : len ≤ lenMax := by
      have h7 := hw ((elems.length + rest.length) * P.bytesOf e) (by simp [DataW.weights, ht])
      have h9 : reachBytes = 140737488351232 := rfl
      have h10 := Nat.mul_le_mul_left (elems.length + rest.length) hb
      unfold lenMax
      omega
    have hel : ∀ i, i < len → ∃ x, p x ∧ ∃ vs, W.cells? 0 (a.add (i * P.cellsOf e)) (P.cellsOf e) = some vs ∧ relL (c x) (immOf W) vs := by
      intro i hi
      have h5 := h4 i hi
      rw [List.getElem?_eq_getElem (by omega)] at h5
      obtain ⟨vs, h6, h7⟩ := Option.bind_eq_some_iff.1 h5
      obtain ⟨x, h8, h9⟩ := he H enc W m vs _ _ h7 (fun k hk => hw k (by
        simp only [DataW.weights, ht, List.mem_cons, List.mem_append]
        exact .inr (.inl (weights_all (d := elems[i].1) (List.mem_map.2 ⟨elems[i], List.getElem_mem .., rfl⟩) hk))))
      exact ⟨x, h8, vs, h6, h9⟩
    obtain ⟨xs, hxl, hxs⟩ := list_choose hel
    subst hxl
    refine ⟨xs, fun x hx => by obtain ⟨i, hi⟩ := List.getElem?_of_mem hx; exact (hxs i x hi).1, ⟨some a, cap, rfl, h1, h2, hlen, fun i x hi => ?_⟩, trivial⟩
    obtain ⟨_, vs, g1, g2⟩ := hxs i x hi
    have hne : ∀ {vs : List Value}, vs.length = P.cellsOf e → vs ≠ [] := fun h e0 => hn0 (by rw [← h, e0]; rfl)
    have hspot : a.spot = none := by
      have h0 : 0 < xs.length := by have := (List.getElem?_eq_some_iff.1 hi).1; omega
      obtain ⟨_, us, u1, _⟩ := hxs 0 xs[0] (List.getElem?_eq_getElem h0)
      obtain ⟨u2, u3⟩ := cells_of u1
      have := hne u2
      cases us with
      | nil => exact absurd rfl this
      | cons u us =>
        have := u3 0 u rfl
        rw [Nat.zero_mul, Addr.add_zero', Addr.add_zero'] at this
        exact (at_of_cell (d := dTop) this trivial).1
    obtain ⟨g3, g4⟩ := cells_of g1
    exact ⟨hc x, a, rfl, hspot, at_of_cells (spot_add a hspot _) (hne g3) g4 g2⟩

/-- The fields of a struct: place, cells, type. -/
def structB (P : Program) (t : TypeId) (l : List (Nat × Nat × TypeId)) : Bool :=
  match P.underlying t with
  | some (.struct fs) => (fs.toList.map fun f => (f.offset, P.cellsOf f.type, f.type)) == l && Nat.beq (P.cellsOf t) (l.foldr (fun x n => x.2.1 + n) 0)
  | _ => false

inductive FieldsOk (P : Program) : List (Nat × Nat × TypeId) → Nat → {α : Type} → (α → Prop) → (α → List D) → Prop where
  | nil {off : Nat} : FieldsOk P [] off (fun _ : Unit => True) (fun _ => [])
  | cons {off n : Nat} {t : TypeId} {l : List (Nat × Nat × TypeId)} {α β : Type} {p : α → Prop} {c : α → List D} {q : β → Prop} {c' : β → List D} : ArgOk P t p c → FieldsOk P l (off + n) q c' → FieldsOk P ((off, n, t) :: l) off (fun x : α × β => p x.1 ∧ q x.2) (fun x => c x.1 ++ c' x.2)

theorem FieldsOk.run {l : List (Nat × Nat × TypeId)} {off : Nat} {α : Type} {p : α → Prop} {c : α → List D} (h : FieldsOk P l off p c) (H : Type) (enc : TypeId × Value → H) (W : World) (m : Nat) (cs : List Value) (xs : List (DataW H × List MemPlace)) (hl : xs.length = l.length)
    (hx : ∀ (i o n : Nat) (t : TypeId), l[i]? = some (o, n, t) → DataW.trod enc P W 0 (fun _ => true) true m t ((cs.drop o).take n) = xs[i]?) (hw : ∀ (i o n : Nat) (t : TypeId) (y : DataW H × List MemPlace), l[i]? = some (o, n, t) → xs[i]? = some y → ∀ k ∈ y.1.weights P t, k ≤ reachBytes)
    (hsz : cs.length = off + l.foldr (fun x n => x.2.1 + n) 0) : ∃ x, p x ∧ relL (c x) (immOf W) (cs.drop off) := by
  induction h generalizing xs with
  | nil => exact ⟨(), trivial, by rw [List.drop_eq_nil_of_le (by simp at hsz; omega)]; trivial⟩
  | @cons off n t l α β p c q c' h1 _ ih =>
    cases xs with
    | nil => simp at hl
    | cons y ys =>
      have e1 := hx 0 off n t rfl
      obtain ⟨x, g1, g2⟩ := h1 H enc W m _ y.1 y.2 e1 (hw 0 off n t y rfl rfl)
      obtain ⟨x', g3, g4⟩ := ih ys (by simpa using hl) (fun i o n t hi => by have := hx (i + 1) o n t (by simpa using hi); simpa using this) (fun i o n t y hi hy => hw (i + 1) o n t y (by simpa using hi) (by simpa using hy)) (by rw [hsz]; simp only [List.foldr_cons]; omega)
      refine ⟨(x, x'), ⟨g1, g3⟩, ?_⟩
      have : cs.drop off = (cs.drop off).take n ++ cs.drop (off + n) := by rw [← List.drop_drop, List.take_append_drop]
      rw [this]
      exact relL_append g2 g4

theorem ArgOk.struct {l : List (Nat × Nat × TypeId)} {p : α → Prop} {c : α → List D} (hs : structB P t l = true) (hf : FieldsOk P l 0 p c) : ArgOk P t p c := fun H enc W fuel cs d ps h hw => by
  unfold structB at hs
  split at hs
  · rename_i fs ht
    simp only [Bool.and_eq_true] at hs
    have hl : (fs.toList.map fun (f : Field) => (f.offset, P.cellsOf f.type, f.type)) = l := eq_of_beq hs.1
    obtain ⟨xs, m, _, hx, hcl, hxl, hget⟩ := DataW.trod_struct ht h
    injection hx with hx _
    subst hx
    have hfl : ∀ (i o n : Nat) (t' : TypeId), l[i]? = some (o, n, t') → ∃ f : Field, fs[i]? = some f ∧ f.offset = o ∧ P.cellsOf f.type = n ∧ f.type = t' := by
      intro i o n t' hi
      rw [← hl, List.getElem?_map] at hi
      cases hf' : fs.toList[i]? with
      | none => rw [hf'] at hi; cases hi
      | some f =>
        rw [hf'] at hi
        simp only [Option.map_some, Option.some.injEq, Prod.mk.injEq] at hi
        exact ⟨f, by simpa using hf', hi.1, hi.2.1, hi.2.2⟩
    have := hf.run H enc W m cs xs (by rw [hxl, ← hl]; simp) (fun i o n t' hi => by
      obtain ⟨f, f1, f2, f3, f4⟩ := hfl i o n t' hi
      have := hget i f f1
      rwa [f2, f3, f4] at this) (fun i o n t' y hi hy k hk => by
      obtain ⟨f, f1, f2, f3, f4⟩ := hfl i o n t' hi
      refine hw k ?_
      simp only [DataW.weights, ht]
      refine DataW.weights_mem_each (j := i) (t := t') (d := y.1) ?_ ?_ k hk
      · rw [List.getElem?_map]; rw [show fs.toList[i]? = some f by simpa using f1]; rw [← f4]; rfl
      · rw [List.getElem?_map, hy]; rfl) (by rw [hcl, Nat.eq_of_beq_eq_true hs.2, Nat.zero_add])
    rwa [List.drop_zero] at this
  · cases hs

/-! ### At a law's argument -/

theorem arg_one {H : Type} {enc : TypeId × Value → H} {W : World} {r : Reach} {b0 : Nat} {v : Value} {d : DataW H} {ps : List MemPlace} {p : α → Prop} {dd : α → D} (h : ArgOk P t p (fun x => [dd x])) (ht : P.underlying t = some (.slice e))
    (hval : Value.okWide P W r b0 t v) (hd : DataW.Trod enc P W 0 (fun _ => true) true t v d ps) (hsz : ∀ n ∈ d.weights P t, n ≤ reachBytes) : ∃ x, p x ∧ (dd x).rel (immOf W) v := by
  obtain ⟨a, len, cap, rfl⟩ := okWide_slice ht hval
  obtain ⟨fuel, hf⟩ := hd
  obtain ⟨x, h1, h2, _⟩ := h H enc W fuel _ d ps hf hsz
  exact ⟨x, h1, h2⟩

def isStruct (P : Program) (t : TypeId) : Bool := match P.underlying t with | some (.struct _) => true | _ => false
theorem arg_struct {H : Type} {enc : TypeId × Value → H} {W : World} {r : Reach} {b0 : Nat} {v : Value} {d : DataW H} {ps : List MemPlace} {p : α → Prop} {c : α → List D} (h : ArgOk P t p c) (ht : isStruct P t = true)
    (hval : Value.okWide P W r b0 t v) (hd : DataW.Trod enc P W 0 (fun _ => true) true t v d ps) (hsz : ∀ n ∈ d.weights P t, n ≤ reachBytes) : ∃ x, p x ∧ (dAgg (c x)).rel (immOf W) v := by
  unfold isStruct at ht
  split at ht
  · rename_i fs hfs
    obtain ⟨cs, rfl, _⟩ := okWide_struct hfs hval
    obtain ⟨fuel, hf⟩ := hd
    obtain ⟨x, h1, h2⟩ := h H enc W fuel _ d ps hf hsz
    exact ⟨x, h1, cs, rfl, h2⟩
  · cases ht

/-! ### Bytes -/

theorem arg_bytes {H : Type} {enc : TypeId × Value → H} {W : World} {r : Reach} {b0 : Nat} {v : Value} {d : DataW H} {ps : List MemPlace} (ht : P.underlying t = some (.slice e)) (he : P.underlying e = some (.int .u8)) (hn : P.cellsOf e = 1) (hb : P.bytesOf e = 1)
    (hval : Value.okWide P W r b0 t v) (hd : DataW.Trod enc P W 0 (fun _ => true) true t v d ps) (hsz : ∀ n ∈ d.weights P t, n ≤ reachBytes) : ∃ xs : List Int, (∀ x ∈ xs, 0 ≤ x ∧ x ≤ 255) ∧ (dBy xs).rel (immOf W) v := by
  obtain ⟨a0, l0, c0, rfl⟩ := okWide_slice ht hval
  obtain ⟨fuel, hf⟩ := hd
  rcases DataW.trod_slice ht hf with ⟨h0, _⟩ | ⟨a, len, cap, elems, rest, m, _, h0, hx, _, h1, h2, h3, h4, _, _⟩
  · simp only [Value.cells, List.cons.injEq, and_true] at h0
    exact ⟨[], (fun x hx => by cases hx), none, 0, h0, Nat.le_refl _, Nat.zero_le _, Nat.zero_le _, fun i x hx => by simp at hx⟩
  · simp only [Value.cells, List.cons.injEq, and_true] at h0
    injection hx with hx _
    subst hx
    have hlen : len ≤ 140737488355328 := by
      have h7 := hsz ((elems.length + rest.length) * P.bytesOf e) (by simp [DataW.weights, ht])
      have h9 : reachBytes = 140737488351232 := rfl
      rw [hb] at h7
      omega
    have hel : ∀ i, i < len → ∃ x, (0 ≤ x ∧ x ≤ 255) ∧ W.cell? ((a.add i).add 0) = some (.int .u8 x) := by
      intro i hi
      have h5 := h4 i hi
      rw [List.getElem?_eq_getElem (by omega)] at h5
      obtain ⟨vs, h6, h7⟩ := Option.bind_eq_some_iff.1 h5
      obtain ⟨n, rfl, _, hw⟩ := DataW.trod_int he h7
      rw [hn, Nat.mul_one] at h6
      exact ⟨n, wf_u8 hw, (cells_of h6).2 0 _ rfl⟩
    obtain ⟨xs, hxl, hxs⟩ := list_choose hel
    subst hxl
    refine ⟨xs, fun x hx => by obtain ⟨i, hi⟩ := List.getElem?_of_mem hx; exact (hxs i x hi).1, some a, cap, h0, h1, h2, hlen, fun i x hi => ?_⟩
    have hspot : a.spot = none := by
      have h0 : 0 < xs.length := by have := (List.getElem?_eq_some_iff.1 hi).1; omega
      have := (hxs 0 xs[0] (List.getElem?_eq_getElem h0)).2
      rw [Addr.add_zero', Addr.add_zero'] at this
      exact (at_of_cell (d := dTop) this trivial).1
    refine ⟨a, rfl, hspot, ?_⟩
    have := (hxs i x hi).2
    rw [Addr.add_zero'] at this
    rw [Nat.mul_one]
    exact at_of_cell this rfl

end Go.Q
