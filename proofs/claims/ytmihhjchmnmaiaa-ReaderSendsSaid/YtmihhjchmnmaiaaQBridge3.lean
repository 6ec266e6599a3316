/- The law of what reads send. -/
import Derived.Test.YtmihhjchmnmaiaaQLaw32S
import Derived.Test.YtmihhjchmnmaiaaQOwn
import Derived.ProofKit
import Derived.SizedLaws
import Derived.Deep.Matrix
import Derived.Lib.SmallJoins
import Derived.Test.YtmihhjchmnmaiaaQRes
set_option linter.unusedVariables false
set_option linter.unusedSimpArgs false
namespace Go.Q
open Go.Proofs

open Classical
theorem dice_okR {xs : List Int} (h : ∀ x ∈ xs, 0 ≤ x ∧ x ≤ 255) : okDc ⟨xs.take 300, 0⟩ := ⟨fun x hm => h x (List.mem_of_mem_take hm), by simp; omega⟩
theorem readerSends_spec (xs : List Int) (hx : ∀ x ∈ xs, 0 ≤ x ∧ x ≤ 255) : SpecP Try.prog 4 [dBy xs] (dB True) := by
  refine specP_of_body Try.func4 rfl rfl (fun I M => ?_)
  refine run_seq ?_
  refine run_region ?_
  refine run_op (loc_assign rfl) rfl ?_
  refine run_nil ?_
  refine run_seq ?_
  refine run_seq ?_
  refine run_region ?_
  refine run_op (loc_call (sane32_spec) rfl) rfl ?_
  refine run_op (loc_not rfl) rfl ?_
  refine run_nil ?_
  refine run_cond rfl (fun h1 => ?_) (fun h1 => ?_)
  · exfalso; exact h1 trivial
  ·
    refine run_skip ?_
    refine run_seq ?_
    refine run_region ?_
    refine run_op (loc_move rfl) rfl ?_
    refine run_callN rfl (dnew_spec _) rfl (fun bd hbd => ?_)
    refine run_op (loc_assign rfl) rfl ?_
    refine run_nil ?_
    refine run_seq ?_
    refine run_region ?_
    refine run_op (loc_move rfl) rfl ?_
    refine run_callM rfl (.here) (dscheme_spec bd _ (dice_okR hx)) rfl (fun sc hsc => ?_)
    refine run_new (loc_allocOwn (by simp)) rfl (fun b2 _ => ?_)
    refine run_storeN (ho := (by show OneAll [_, _, _, _]; infer_instance)) rfl rfl (.here) (by rfl) ?_
    refine run_nil ?_
    refine run_seq ?_
    refine run_region ?_
    refine run_op (loc_move rfl) rfl ?_
    refine run_op (loc_move rfl) rfl ?_
    refine run_callM rfl (.there (.here)) (dfield_spec bd _ hsc.2) rfl (fun fd hfd => ?_)
    refine run_callM rfl (.there (.here)) (dtable_spec bd _ hfd.2 fd.1 hfd.1) rfl (fun tb htb => ?_)
    refine run_new (loc_allocOwn (by simp)) rfl (fun b3 _ => ?_)
    refine run_storeN (ho := (by show OneAll [_, _, _, _]; infer_instance)) rfl rfl (.here) (by rfl) ?_
    refine run_nil ?_
    refine run_seq ?_
    have htr := htb.1.2.2.1
    refine run_region ?_
    refine run_op (loc_loadOwnN rfl (.here) (by rfl)) rfl ?_
    refine run_op (loc_call (rhead_spec _) rfl) rfl ?_
    refine run_op (loc_move rfl) rfl ?_
    refine run_op (loc_extract rfl rfl) rfl ?_
    refine run_op (loc_extract rfl rfl) rfl ?_
    refine run_new (loc_allocOwn (by simp)) rfl (fun b4 _ => ?_)
    refine run_storeN (ho := (by show OneAll [_, _, _, _, _]; infer_instance)) rfl rfl (.here) (by rfl) ?_
    refine run_op (loc_assign rfl) rfl ?_
    refine run_nil ?_
    have hhd := head_ok htb.1.1
    generalize headT tb.1 = hd at hhd ⊢
    have hh1 : hd.p = fd.1 := by rw [hhd]; exact htb.1.2.1
    have hh2 : hd.count = (tb.1.rows.length : Int) := by rw [hhd]
    have hh3 : hd.number = tb.1.number := by rw [hhd]
    have hh4 : 1 ≤ hd.width ∧ hd.width ≤ 64 := by rw [hhd]; exact (checkT_ok htb.1.1).2.2.1
    refine run_seq ?_
    refine run_region ?_
    refine run_op (loc_move rfl) rfl ?_
    refine run_op (loc_fieldAddrOwn rfl) rfl ?_
    refine run_op (loc_loadOwn1 rfl (.there (.here)) (by rfl)) rfl ?_
    first | refine runL_fact (s := 40) rfl (fun _ _ h => dSl_len h) (fun hlen5 => ?_) | skip
    refine run_op (loc_len rfl) rfl ?_
    refine run_callM rfl (.there (.there (.there (.here)))) (dwish_spec bd _ htb.2 _ (by omega)) rfl (fun wa hwa => ?_)
    refine run_op (loc_assign rfl) rfl ?_
    refine run_nil ?_
    refine run_seq ?_
    have hla := hwa.1.1
    refine run_region ?_
    refine run_new (loc_build0 fI) rfl (fun b6 _ => ?_)
    refine run_op (loc_move rfl) rfl ?_
    refine run_append rfl (.here) rfl (by rfl) (by first | omega | (unfold lenMax; omega) | assumption | (simp; omega) | (simp [lenMax]; omega)) (by first | omega | (unfold lenMax; omega) | assumption | (simp; omega) | (simp [lenMax]; omega)) rfl (fun v7 => ?_)
    refine run_op (loc_assign rfl) rfl ?_
    refine run_nil ?_
    rw [List.nil_append]
    refine run_seq ?_
    refine run_seq ?_
    refine run_region ?_
    refine run_op (loc_move rfl) rfl ?_
    refine run_op (loc_lenRow rfl (.here)) rfl ?_
    refine run_op (loc_move rfl) rfl ?_
    refine run_nil ?_
    refine run_block ?_
    refine run_front (.there (.there (.there (.there (.here))))) ?_
    refine run_front (.there (.here)) ?_
    refine run_loopF (σ := List Int × Dc × Nat) (ks := [3, 4, 5, 6, 8, 9, 47]) (.cons rfl (.cons rfl (.cons rfl (.cons rfl (.cons rfl (.cons rfl (.cons rfl (.nil)))))))) (fun q => [(48, dInt .i64 (q.2.2 : Nat))]) (fun q => [rRow v7 3 1 fI q.1, rDc bd q.2.1]) (fun q => (q.1.length = wa.1.length ∧ ∀ x ∈ q.1, -1 ≤ x ∧ x < (tb.1.rows.length : Int)) ∧ okDc q.2.1 ∧ q.2.2 ≤ wa.1.length) (fun q => wa.1.length - q.2.2) ((wa.1, wa.2, 0)) (⟨⟨rfl, hwa.1.2⟩, hwa.2, Nat.zero_le _⟩) (.cons rfl (by first | exact fun _ _ h => h | exact d_int (by omega) | exact d_int (by simp) | exact d_intN (by omega) | exact d_any) .nil) (rfl) ?_
    rintro q ⟨⟨hbl, hba⟩, hdc, hk2⟩ ih8
    refine run_seq ?_
    refine run_region ?_
    refine run_op (loc_lss rfl rfl) rfl ?_
    refine run_nil ?_
    refine run_seq ?_
    refine run_cond rfl (fun h9 => ?_) (fun h9 => ?_)
    ·
      refine run_skip ?_
      refine run_seq ?_
      refine run_block ?_
      refine run_seq ?_
      refine run_region ?_
      refine run_op (loc_move rfl) rfl ?_
      refine run_op (loc_assign rfl) rfl ?_
      refine run_nil ?_
      have hvp := Dc.val_lt (d := q.2.1) (n := (tb.1.rows.length : Int) + 1) (by omega)
      have hvq := Dc.val_nonneg (d := q.2.1) (n := (tb.1.rows.length : Int) + 1) (by omega)
      refine run_rowForm (.here) (by omega) (fun b cap hv => ?_)
      subst hv
      refine run_region ?_
      refine run_op (loc_move rfl) rfl ?_
      refine run_op (loc_move rfl) rfl ?_
      refine run_op (loc_move rfl) rfl ?_
      refine run_op (loc_fieldAddrOwn rfl) rfl ?_
      refine run_op (loc_loadOwn1 rfl (.there (.there (.there (.here)))) (by rfl)) rfl ?_
      first | refine runL_fact (s := 55) rfl (fun _ _ h => dSl_len h) (fun hlen10 => ?_) | skip
      refine run_op (loc_len rfl) rfl ?_
      first | refine run_op (loc_add rfl rfl (by first | omega | assumption)) rfl ?_ | refine run_op (loc_addW rfl rfl) rfl ?_
      refine run_callM rfl (.there (.here)) (pick_spec bd _ _ hdc (by omega)) rfl (fun s11 hs11 => ?_)
      first | refine run_op (loc_sub rfl rfl (by first | omega | assumption)) rfl ?_ | refine run_op (loc_subW rfl rfl) rfl ?_
      first | refine run_op (loc_indexRow rfl rfl (by first | omega | assumption)) rfl ?_ | refine run_op (loc_indexRowI rfl rfl (by first | omega | assumption)) rfl ?_
      refine run_storeRow1 rfl (.here) rfl (by rfl) (by first | omega | assumption) ?_
      refine run_nil ?_
      refine run_inBlock ?_
      refine run_region ?_
      first | refine run_op (loc_add rfl rfl (by first | omega | assumption)) rfl ?_ | refine run_op (loc_addW rfl rfl) rfl ?_
      refine run_op (loc_move rfl) rfl ?_
      refine run_nil ?_
      exact run_againF ih8 ((q.1.set q.2.2 (q.2.1.val ((tb.1.rows.length : Int) + 1) - 1), q.2.1.next, q.2.2 + 1)) (⟨⟨by rw [List.length_set]; exact hbl, fun x hx => by rcases List.mem_or_eq_of_mem_set hx with hx | rfl; (· exact hba x hx); (· omega)⟩, Dc.next_ok hdc, by simp only; omega⟩) (by simp only; omega) (.cons rfl (by first | exact fun _ _ h => h | exact d_int (by omega) | exact d_int (by simp) | exact d_intN (by omega) | exact d_any) .nil) (.cons rfl (fun _ _ x => x) (.cons rfl (fun _ _ x => x) (.cons rfl (fun _ _ x => x) (.cons rfl (fun _ _ x => x) (.cons rfl (fun _ _ x => x) (.cons rfl (fun _ _ x => x) (.cons rfl (fun _ _ x => x) (.nil)))))))) (rfl)
    ·
      refine run_exit rfl ?_
      refine run_seq ?_
      refine run_freezeRow (s := 9) rfl (.here) ?_
      have hla := hwa.1.1
      have hk : 1 ≤ (wa.1.length : Int) ∧ (wa.1.length : Int) ≤ 3 := by omega
      have hn : 1 ≤ (tb.1.rows.length : Int) ∧ (tb.1.rows.length : Int) ≤ 5 := by omega
      have hsv := hsc.1.2
      have hva := die_valid hsc.1 hfd.1
      have htp := htb.1.2.1
      have hlm := wlim_ok (k := (wa.1.length : Int)) hva (by omega : 1 ≤ (tb.1.rows.length : Int) ∧ (tb.1.rows.length : Int) ≤ 1024) (by omega)
      have hli := limN_die hsc.1 hn
      have hmb := mul_bd (a := (wa.1.length : Int)) (b := limN sc.1 (tb.1.rows.length : Int)) (A := 3) (B := 30) (by omega) (by omega) (by omega) (by omega)
      have hms := mul_bd (a := (wa.1.length : Int)) (b := sc.1.servers) (A := 3) (B := 6) (by omega) (by omega) (by omega) (by omega)
      rw [← htp] at hlm
      have hlen : ((wlimL sc.1 tb.1.p (tb.1.rows.length : Int) (wa.1.length : Int)).length : Int) = (wa.1.length : Int) * limN sc.1 (tb.1.rows.length : Int) := by rw [hlm.2, List.length_replicate]; omega
      have hpp := (dieP_ok hfd.1).2
      have hll : (wlimL sc.1 tb.1.p (tb.1.rows.length : Int) (wa.1.length : Int)).length ≤ 100000 := by omega
      have hlo : ∀ l ∈ (wlimL sc.1 tb.1.p (tb.1.rows.length : Int) (wa.1.length : Int)), 1 ≤ l := by intro l hl; rw [hlm.2] at hl; rw [List.eq_of_mem_replicate hl]; omega
      refine run_region ?_
      refine run_op (loc_loadOwnN rfl (.there (.there (.there (.here)))) (by rfl)) rfl ?_
      refine run_op (loc_fieldAddrOwn rfl) rfl ?_
      refine run_op (loc_loadOwnN rfl (.there (.there (.here))) (by rfl)) rfl ?_
      refine run_op (loc_fieldAddrOwn rfl) rfl ?_
      refine run_op (loc_loadOwn1 rfl (.there (.there (.here))) (by rfl)) rfl ?_
      first | refine runL_fact (s := 67) rfl (fun _ _ h => dSl_len h) (fun hlen12 => ?_) | skip
      refine run_op (loc_len rfl) rfl ?_
      refine run_op (loc_move rfl) rfl ?_
      first | refine runL_fact (s := 69) rfl (fun _ _ h => dSl_len h) (fun hlen13 => ?_) | skip
      refine run_op (loc_len rfl) rfl ?_
      refine run_op (loc_call (rwlim_spec _ _ _ _) rfl) rfl ?_
      refine run_op (loc_move rfl) rfl ?_
      refine run_op (loc_extract rfl rfl) rfl ?_
      refine run_op (loc_extract rfl rfl) rfl ?_
      refine run_op (loc_assign rfl) rfl ?_
      refine run_op (loc_assign rfl) rfl ?_
      refine run_nil ?_
      refine run_seq ?_
      refine run_region ?_
      refine run_op (loc_move rfl) rfl ?_
      refine run_op (loc_move rfl) rfl ?_
      refine run_callM rfl (.here) (dtape_spec bd _ hdc _ hll hlo) rfl (fun tq htq => ?_)
      refine run_new (loc_allocOwn (by simp)) rfl (fun b14 _ => ?_)
      refine run_storeN (ho := (by show OneAll [_, _]; infer_instance)) rfl rfl (.here) (by rfl) ?_
      refine run_nil ?_
      have ht1 := htq.1
      rw [htp] at ht1
      have hfa := die_bg (rd := 1) hsc.1 hfd.1 hh1 hh2 hh4 hn hwa.1.2 rfl hk ht1 (by omega)
      have hfb := die_bg (rd := 1) hsc.1 hfd.1 hh1 hh2 hh4 hn hba (by omega : (q.1.length : Int) = (wa.1.length : Int)) hk ht1 (by omega)
      have hub := units_bd (n := (tb.1.rows.length : Int)) hsc.1.1 (by omega)
      refine run_seq ?_
      refine run_region ?_
      refine run_op (loc_loadOwnN rfl (.there (.there (.there (.there (.here))))) (by rfl)) rfl ?_
      refine run_op (loc_loadOwnN rfl (.there (.there (.here))) (by rfl)) rfl ?_
      refine run_op (loc_move rfl) rfl ?_
      refine run_op (loc_loadOwnN rfl (.here) (by rfl)) rfl ?_
      refine run_op (loc_call (begin_spec _ _ _ _ _) rfl) rfl ?_
      refine run_op (loc_move rfl) rfl ?_
      refine run_op (loc_extract rfl rfl) rfl ?_
      refine run_op (loc_extract rfl rfl) rfl ?_
      refine run_op (loc_extract rfl rfl) rfl ?_
      refine run_new (loc_allocOwn (by simp)) rfl (fun b15 _ => ?_)
      refine run_new (loc_allocOwn (by simp)) rfl (fun b16 _ => ?_)
      refine run_storeN (ho := (by show OneAll [_, _, _, _, _, _, _, _, _, _, _, _, _, _, _]; infer_instance)) rfl rfl (.there (.here)) (by rfl) ?_
      refine run_storeN (ho := (by show OneAll [_, _]; infer_instance)) rfl rfl (.here) (by rfl) ?_
      refine run_op (loc_assign rfl) rfl ?_
      refine run_nil ?_
      refine run_seq ?_
      refine run_region ?_
      refine run_op (loc_loadOwnN rfl (.there (.there (.there (.there (.there (.there (.here))))))) (by rfl)) rfl ?_
      refine run_op (loc_loadOwnN rfl (.there (.there (.there (.there (.here))))) (by rfl)) rfl ?_
      refine run_op (loc_move rfl) rfl ?_
      refine run_op (loc_loadOwnN rfl (.there (.there (.here))) (by rfl)) rfl ?_
      refine run_op (loc_call (begin_spec _ _ _ _ _) rfl) rfl ?_
      refine run_op (loc_move rfl) rfl ?_
      refine run_op (loc_extract rfl rfl) rfl ?_
      refine run_op (loc_extract rfl rfl) rfl ?_
      refine run_op (loc_extract rfl rfl) rfl ?_
      refine run_new (loc_allocOwn (by simp)) rfl (fun b17 _ => ?_)
      refine run_new (loc_allocOwn (by simp)) rfl (fun b18 _ => ?_)
      refine run_storeN (ho := (by show OneAll [_, _, _, _, _, _, _, _, _, _, _, _, _, _, _]; infer_instance)) rfl rfl (.there (.here)) (by rfl) ?_
      refine run_storeN (ho := (by show OneAll [_, _]; infer_instance)) rfl rfl (.here) (by rfl) ?_
      refine run_op (loc_assign rfl) rfl ?_
      refine run_nil ?_
      refine run_seq ?_
      generalize bgR 1 sc.1 hd wa.1 tq.1 = ra at hfa ⊢
      generalize bgR 1 sc.1 hd q.1 tq.1 = rb at hfb ⊢
      obtain ⟨ha1, ha2, ha3, ha4, ha5, ha6⟩ := hfa
      obtain ⟨hb1, hb2, hb3, hb4, hb5, hb6⟩ := hfb
      have hra : ra.queries.length ≤ 1000 ∧ ∀ q ∈ ra.queries, q.length ≤ 1000 ∧ ∀ x ∈ q, x.length ≤ 100000 := ⟨by omega, fun q h => ⟨by have := (ha6 q h).1; omega, fun x hx => by have := (ha6 q h).2 x hx; omega⟩⟩
      have hrb : rb.queries.length ≤ 1000 ∧ ∀ q ∈ rb.queries, q.length ≤ 1000 ∧ ∀ x ∈ q, x.length ≤ 100000 := ⟨by omega, fun q h => ⟨by have := (hb6 q h).1; omega, fun x hx => by have := (hb6 q h).2 x hx; omega⟩⟩
      have hna := notes_facts (rd := ra.read) (ver := ra.head.number) (by omega) ha6
      have hnb := notes_facts (rd := rb.read) (ver := rb.head.number) (by omega) hb6
      have hna1 := hna.1
      have hnb1 := hnb.1
      rw [ha5] at hna1
      rw [hb5] at hnb1
      refine dr_start _ (.none) [⟨[(14, none)], [], some (3, 0, false)⟩,
          ⟨[(95, some (0, false))], [0], none⟩,
          ⟨[(17, none)], [], some (1, 0, false)⟩,
          ⟨[(97, some (2, false))], [0, 1, 2], none⟩,
          ⟨[(96, some (1, false))], [0, 1, 2, 3], none⟩,
          ⟨[(98, some (3, false))], [0, 1, 2, 3, 4], none⟩] [_, _, _, _, _, _, _, _, _] _ rfl rfl ?_
      refine dq_read rfl (fun s => .g rfl (.nil)) rfl rfl (fun s hs _ hm => loc_loadOwnN rfl hm (by rfl)) (by exact .nil) ?_
      refine dq_pure rfl (fun s => .op rfl (.nil)) (fun s hs _ => loc_call (notes_spec ra hra) rfl) (by exact .nil) ?_
      refine dq_read rfl (fun s => .g rfl (.nil)) rfl rfl (fun s hs _ hm => loc_loadOwnN rfl hm (by rfl)) (by exact .nil) ?_
      refine dq_pure rfl (fun s => .op rfl (.nil)) (fun s hs _ => loc_call (notes_spec rb hrb) rfl) (by exact .nil) ?_
      refine dq_pure rfl (fun s => .op rfl (.nil)) (fun s hs _ => loc_assign rfl) (by exact .nil) ?_
      refine dq_pure rfl (fun s => .op rfl (.nil)) (fun s hs _ => loc_assign rfl) (by exact .nil) ?_
      refine dq_end (rs := [_, _, _, _, _, _, _, _, _]) () rfl (fun _ => rfl) (.nil) rfl (fun _ _ => ?_)
      dsimp only [outG, outM, List.map, List.set, id]
      refine run_seq ?_
      refine run_seq ?_
      refine run_region ?_
      refine run_op (loc_move rfl) rfl ?_
      refine run_op (loc_neq rfl rfl) rfl ?_
      refine run_op (loc_move rfl) rfl ?_
      refine run_gfirst rfl rfl (by first | exact guard_true _ | exact guard_false _ | exact guard_if (guard_true _) | exact guard_if (guard_false _)) (fun hg => loc_move rfl) rfl ?_
      refine run_gop rfl rfl (by first | exact guard_true _ | exact guard_false _ | exact guard_if (guard_true _) | exact guard_if (guard_false _)) (fun hg => loc_neq rfl rfl) rfl ?_
      refine run_gleave ?_
      refine run_op (loc_or rfl rfl) rfl ?_
      refine run_op (loc_move rfl) rfl ?_
      refine run_gfirst rfl rfl (by first | exact guard_true _ | exact guard_false _ | exact guard_if (guard_true _) | exact guard_if (guard_false _)) (fun hg => loc_fieldAddrOwn rfl) rfl ?_
      refine run_gop rfl rfl (by first | exact guard_true _ | exact guard_false _ | exact guard_if (guard_true _) | exact guard_if (guard_false _)) (fun hg => loc_loadOwn1 rfl (.there (.there (.here))) (by rfl)) rfl ?_
      refine run_gop rfl rfl (by first | exact guard_true _ | exact guard_false _ | exact guard_if (guard_true _) | exact guard_if (guard_false _)) (fun hg => loc_fieldAddrOwn rfl) rfl ?_
      refine run_gop rfl rfl (by first | exact guard_true _ | exact guard_false _ | exact guard_if (guard_true _) | exact guard_if (guard_false _)) (fun hg => loc_loadOwn1 rfl (.here) (by rfl)) rfl ?_
      refine run_gop rfl rfl (by first | exact guard_true _ | exact guard_false _ | exact guard_if (guard_true _) | exact guard_if (guard_false _)) (fun hg => loc_neq rfl rfl) rfl ?_
      refine run_gleave ?_
      refine run_op (loc_or rfl rfl) rfl ?_
      refine run_op (loc_move rfl) rfl ?_
      refine run_gfirst rfl rfl (by first | exact guard_true _ | exact guard_false _ | exact guard_if (guard_true _) | exact guard_if (guard_false _)) (fun hg => loc_move rfl) rfl ?_
      refine run_gop rfl rfl (by first | exact guard_true _ | exact guard_false _ | exact guard_if (guard_true _) | exact guard_if (guard_false _)) (fun hg => loc_len rfl) rfl ?_
      refine run_gop rfl rfl (by first | exact guard_true _ | exact guard_false _ | exact guard_if (guard_true _) | exact guard_if (guard_false _)) (fun hg => loc_move rfl) rfl ?_
      refine run_gop rfl rfl (by first | exact guard_true _ | exact guard_false _ | exact guard_if (guard_true _) | exact guard_if (guard_false _)) (fun hg => loc_len rfl) rfl ?_
      refine run_gop rfl rfl (by first | exact guard_true _ | exact guard_false _ | exact guard_if (guard_true _) | exact guard_if (guard_false _)) (fun hg => loc_neq rfl rfl) rfl ?_
      refine run_gleave ?_
      refine run_op (loc_or rfl rfl) rfl ?_
      refine run_op (loc_move rfl) rfl ?_
      refine run_gfirst rfl rfl (by first | exact guard_true _ | exact guard_false _ | exact guard_if (guard_true _) | exact guard_if (guard_false _)) (fun hg => loc_move rfl) rfl ?_
      refine run_gop rfl rfl (by first | exact guard_true _ | exact guard_false _ | exact guard_if (guard_true _) | exact guard_if (guard_false _)) (fun hg => loc_len rfl) rfl ?_
      refine run_gop rfl rfl (by first | exact guard_true _ | exact guard_false _ | exact guard_if (guard_true _) | exact guard_if (guard_false _)) (fun hg => loc_move rfl) rfl ?_
      refine run_gop rfl rfl (by first | exact guard_true _ | exact guard_false _ | exact guard_if (guard_true _) | exact guard_if (guard_false _)) (fun hg => loc_len rfl) rfl ?_
      refine run_gop rfl rfl (by first | exact guard_true _ | exact guard_false _ | exact guard_if (guard_true _) | exact guard_if (guard_false _)) (fun hg => loc_fieldAddrOwn rfl) rfl ?_
      refine run_gop rfl rfl (by first | exact guard_true _ | exact guard_false _ | exact guard_if (guard_true _) | exact guard_if (guard_false _)) (fun hg => loc_loadOwn1 rfl (.there (.there (.there (.there (.there (.there (.there (.there (.here))))))))) (by rfl)) rfl ?_
      first | refine run_gop rfl rfl (by first | exact guard_true _ | exact guard_false _ | exact guard_if (guard_true _) | exact guard_if (guard_false _)) (fun hg => loc_mul rfl rfl (by first | omega | assumption)) rfl ?_ | refine run_gop rfl rfl (by first | exact guard_true _ | exact guard_false _ | exact guard_if (guard_true _) | exact guard_if (guard_false _)) (fun hg => loc_mulW rfl rfl) rfl ?_
      refine run_gop rfl rfl (by first | exact guard_true _ | exact guard_false _ | exact guard_if (guard_true _) | exact guard_if (guard_false _)) (fun hg => loc_neq rfl rfl) rfl ?_
      refine run_gleave ?_
      refine run_op (loc_or rfl rfl) rfl ?_
      refine run_nil ?_
      refine run_cond rfl (fun h19 => ?_) (fun h19 => ?_)
      · exfalso; have := h19; omega
      ·
        refine run_skip ?_
        refine run_seq ?_
        refine run_seq ?_
        refine run_region ?_
        refine run_op (loc_move rfl) rfl ?_
        first | refine runL_fact (s := 129) rfl (fun _ _ h => dSl_len h) (fun hlen20 => ?_) | skip
        refine run_op (loc_len rfl) rfl ?_
        refine run_op (loc_move rfl) rfl ?_
        refine run_nil ?_
        refine run_block ?_
        refine run_loopC (σ := Nat) (ks := [4, 5, 20, 21, 130]) (.cons rfl (.cons rfl (.cons rfl (.cons rfl (.cons rfl (.nil)))))) (fun k => [(131, dInt .i64 (k : Nat))]) (fun k => k ≤ (notesN ra.read ra.head.number ra.queries ra.queries.length).length) (fun k => (notesN ra.read ra.head.number ra.queries ra.queries.length).length - k) (0) ((by omega)) (.cons rfl (by first | exact fun _ _ h => h | exact d_int (by omega) | exact d_int (by simp) | exact d_intN (by omega) | exact d_any) .nil) ?_
        intro k hk ih21
        refine run_seq ?_
        refine run_region ?_
        refine run_op (loc_lss rfl rfl) rfl ?_
        refine run_nil ?_
        refine run_seq ?_
        refine run_cond rfl (fun h22 => ?_) (fun h22 => ?_)
        ·
          refine run_skip ?_
          refine run_seq ?_
          refine run_block ?_
          refine run_seq ?_
          refine run_region ?_
          refine run_op (loc_move rfl) rfl ?_
          refine run_op (loc_assign rfl) rfl ?_
          refine run_nil ?_
          refine run_seq ?_
          have hmo := mod_bd (k : Int) (show 0 < sc.1.servers by omega)
          obtain ⟨g1, g2, g3, g4, g5, g6, g7⟩ := hna.2 k (by omega)
          obtain ⟨_, _, _, _, _, g8, _⟩ := hnb.2 k (by omega)
          have g9 : ((notesN ra.read ra.head.number ra.queries ra.queries.length)[k]?.getD default).values.length = 0 := by rw [g7]; rfl
          replace g5 := g5.trans (show ra.head.number = tb.1.number by rw [ha4, hh3])
          refine dr_start _ (.none) [⟨[(20, none)], [], none⟩,
              ⟨[(22, none)], [], none⟩,
              ⟨[(134, some (0, false)), (135, some (1, false))], [0, 1], none⟩,
              ⟨[(136, some (2, false))], [0, 1, 2], none⟩,
              ⟨[(137, some (3, false))], [0, 1, 2, 3], none⟩,
              ⟨[(138, some (4, false))], [0, 1, 2, 3, 4], none⟩,
              ⟨[(139, some (5, false))], [0, 1, 2, 3, 4, 5], none⟩,
              ⟨[(20, none)], [0, 1, 2, 3, 4, 5, 6], none⟩,
              ⟨[(22, none)], [0, 1, 2, 3, 4, 5, 6], none⟩,
              ⟨[(141, some (7, true)), (142, some (8, true))], [0, 1, 2, 3, 4, 5, 6, 7, 8], none⟩,
              ⟨[(143, some (9, true))], [0, 1, 2, 3, 4, 5, 6, 7, 8, 9], none⟩,
              ⟨[(144, some (10, true))], [0, 1, 2, 3, 4, 5, 6, 7, 8, 9, 10], none⟩,
              ⟨[(22, none)], [0, 1, 2, 3, 4, 5, 6], none⟩,
              ⟨[(4, none)], [0, 1, 2, 3, 4, 5, 6], none⟩,
              ⟨[(147, some (13, true))], [0, 1, 2, 3, 4, 5, 6, 13], some (8, 0, false)⟩,
              ⟨[(146, some (12, true)), (148, some (14, true))], [0, 1, 2, 3, 4, 5, 6, 12, 13, 14], none⟩,
              ⟨[(145, some (11, true)), (149, some (15, true))], [0, 1, 2, 3, 4, 5, 6, 7, 8, 9, 10, 11, 12, 13, 14, 15], none⟩,
              ⟨[(140, some (6, false)), (150, some (16, false))], [0, 1, 2, 3, 4, 5, 6, 7, 8, 9, 10, 11, 12, 13, 14, 15, 16], none⟩,
              ⟨[(151, some (17, false))], [0, 1, 2, 3, 4, 5, 6, 7, 8, 9, 10, 11, 12, 13, 14, 15, 16, 17], none⟩,
              ⟨[(20, none)], [0, 1, 2, 3, 4, 5, 6, 7, 8, 9, 10, 11, 12, 13, 14, 15, 16, 17, 18], none⟩,
              ⟨[(22, none)], [0, 1, 2, 3, 4, 5, 6, 7, 8, 9, 10, 11, 12, 13, 14, 15, 16, 17, 18], none⟩,
              ⟨[(153, some (19, true)), (154, some (20, true))], [0, 1, 2, 3, 4, 5, 6, 7, 8, 9, 10, 11, 12, 13, 14, 15, 16, 17, 18, 19, 20], none⟩,
              ⟨[(155, some (21, true))], [0, 1, 2, 3, 4, 5, 6, 7, 8, 9, 10, 11, 12, 13, 14, 15, 16, 17, 18, 19, 20, 21], none⟩,
              ⟨[(156, some (22, true))], [0, 1, 2, 3, 4, 5, 6, 7, 8, 9, 10, 11, 12, 13, 14, 15, 16, 17, 18, 19, 20, 21, 22], none⟩,
              ⟨[(22, none)], [0, 1, 2, 3, 4, 5, 6, 7, 8, 9, 10, 11, 12, 13, 14, 15, 16, 17, 18], none⟩,
              ⟨[(4, none)], [0, 1, 2, 3, 4, 5, 6, 7, 8, 9, 10, 11, 12, 13, 14, 15, 16, 17, 18], none⟩,
              ⟨[(159, some (25, true))], [0, 1, 2, 3, 4, 5, 6, 7, 8, 9, 10, 11, 12, 13, 14, 15, 16, 17, 18, 25], some (8, 0, false)⟩,
              ⟨[(158, some (24, true)), (160, some (26, true))], [0, 1, 2, 3, 4, 5, 6, 7, 8, 9, 10, 11, 12, 13, 14, 15, 16, 17, 18, 24, 25, 26], none⟩,
              ⟨[(161, some (27, true))], [0, 1, 2, 3, 4, 5, 6, 7, 8, 9, 10, 11, 12, 13, 14, 15, 16, 17, 18, 24, 25, 26, 27], none⟩,
              ⟨[(157, some (23, true)), (162, some (28, true))], [0, 1, 2, 3, 4, 5, 6, 7, 8, 9, 10, 11, 12, 13, 14, 15, 16, 17, 18, 19, 20, 21, 22, 23, 24, 25, 26, 27, 28], none⟩,
              ⟨[(152, some (18, false)), (163, some (29, false))], [0, 1, 2, 3, 4, 5, 6, 7, 8, 9, 10, 11, 12, 13, 14, 15, 16, 17, 18, 19, 20, 21, 22, 23, 24, 25, 26, 27, 28, 29], none⟩,
              ⟨[(164, some (30, false))], [0, 1, 2, 3, 4, 5, 6, 7, 8, 9, 10, 11, 12, 13, 14, 15, 16, 17, 18, 19, 20, 21, 22, 23, 24, 25, 26, 27, 28, 29, 30], none⟩,
              ⟨[(20, none)], [0, 1, 2, 3, 4, 5, 6, 7, 8, 9, 10, 11, 12, 13, 14, 15, 16, 17, 18, 19, 20, 21, 22, 23, 24, 25, 26, 27, 28, 29, 30, 31], none⟩,
              ⟨[(22, none)], [0, 1, 2, 3, 4, 5, 6, 7, 8, 9, 10, 11, 12, 13, 14, 15, 16, 17, 18, 19, 20, 21, 22, 23, 24, 25, 26, 27, 28, 29, 30, 31], none⟩,
              ⟨[(166, some (32, true)), (167, some (33, true))], [0, 1, 2, 3, 4, 5, 6, 7, 8, 9, 10, 11, 12, 13, 14, 15, 16, 17, 18, 19, 20, 21, 22, 23, 24, 25, 26, 27, 28, 29, 30, 31, 32, 33], none⟩,
              ⟨[(168, some (34, true))], [0, 1, 2, 3, 4, 5, 6, 7, 8, 9, 10, 11, 12, 13, 14, 15, 16, 17, 18, 19, 20, 21, 22, 23, 24, 25, 26, 27, 28, 29, 30, 31, 32, 33, 34], none⟩,
              ⟨[(169, some (35, true))], [0, 1, 2, 3, 4, 5, 6, 7, 8, 9, 10, 11, 12, 13, 14, 15, 16, 17, 18, 19, 20, 21, 22, 23, 24, 25, 26, 27, 28, 29, 30, 31, 32, 33, 34, 35], none⟩,
              ⟨[(5, none)], [0, 1, 2, 3, 4, 5, 6, 7, 8, 9, 10, 11, 12, 13, 14, 15, 16, 17, 18, 19, 20, 21, 22, 23, 24, 25, 26, 27, 28, 29, 30, 31], none⟩,
              ⟨[(171, some (37, true))], [0, 1, 2, 3, 4, 5, 6, 7, 8, 9, 10, 11, 12, 13, 14, 15, 16, 17, 18, 19, 20, 21, 22, 23, 24, 25, 26, 27, 28, 29, 30, 31, 37], some (7, 0, false)⟩,
              ⟨[(170, some (36, true)), (172, some (38, true))], [0, 1, 2, 3, 4, 5, 6, 7, 8, 9, 10, 11, 12, 13, 14, 15, 16, 17, 18, 19, 20, 21, 22, 23, 24, 25, 26, 27, 28, 29, 30, 31, 32, 33, 34, 35, 36, 37, 38], none⟩,
              ⟨[(165, some (31, false)), (173, some (39, false))], [0, 1, 2, 3, 4, 5, 6, 7, 8, 9, 10, 11, 12, 13, 14, 15, 16, 17, 18, 19, 20, 21, 22, 23, 24, 25, 26, 27, 28, 29, 30, 31, 32, 33, 34, 35, 36, 37, 38, 39], none⟩,
              ⟨[(174, some (40, false))], [0, 1, 2, 3, 4, 5, 6, 7, 8, 9, 10, 11, 12, 13, 14, 15, 16, 17, 18, 19, 20, 21, 22, 23, 24, 25, 26, 27, 28, 29, 30, 31, 32, 33, 34, 35, 36, 37, 38, 39, 40], none⟩,
              ⟨[(20, none)], [0, 1, 2, 3, 4, 5, 6, 7, 8, 9, 10, 11, 12, 13, 14, 15, 16, 17, 18, 19, 20, 21, 22, 23, 24, 25, 26, 27, 28, 29, 30, 31, 32, 33, 34, 35, 36, 37, 38, 39, 40, 41], none⟩,
              ⟨[(22, none)], [0, 1, 2, 3, 4, 5, 6, 7, 8, 9, 10, 11, 12, 13, 14, 15, 16, 17, 18, 19, 20, 21, 22, 23, 24, 25, 26, 27, 28, 29, 30, 31, 32, 33, 34, 35, 36, 37, 38, 39, 40, 41], none⟩,
              ⟨[(176, some (42, true)), (177, some (43, true))], [0, 1, 2, 3, 4, 5, 6, 7, 8, 9, 10, 11, 12, 13, 14, 15, 16, 17, 18, 19, 20, 21, 22, 23, 24, 25, 26, 27, 28, 29, 30, 31, 32, 33, 34, 35, 36, 37, 38, 39, 40, 41, 42, 43], none⟩,
              ⟨[(178, some (44, true))], [0, 1, 2, 3, 4, 5, 6, 7, 8, 9, 10, 11, 12, 13, 14, 15, 16, 17, 18, 19, 20, 21, 22, 23, 24, 25, 26, 27, 28, 29, 30, 31, 32, 33, 34, 35, 36, 37, 38, 39, 40, 41, 42, 43, 44], none⟩,
              ⟨[(179, some (45, true))], [0, 1, 2, 3, 4, 5, 6, 7, 8, 9, 10, 11, 12, 13, 14, 15, 16, 17, 18, 19, 20, 21, 22, 23, 24, 25, 26, 27, 28, 29, 30, 31, 32, 33, 34, 35, 36, 37, 38, 39, 40, 41, 42, 43, 44, 45], none⟩,
              ⟨[(180, some (46, true))], [0, 1, 2, 3, 4, 5, 6, 7, 8, 9, 10, 11, 12, 13, 14, 15, 16, 17, 18, 19, 20, 21, 22, 23, 24, 25, 26, 27, 28, 29, 30, 31, 32, 33, 34, 35, 36, 37, 38, 39, 40, 41, 42, 43, 44, 45, 46], none⟩,
              ⟨[(21, none)], [0, 1, 2, 3, 4, 5, 6, 7, 8, 9, 10, 11, 12, 13, 14, 15, 16, 17, 18, 19, 20, 21, 22, 23, 24, 25, 26, 27, 28, 29, 30, 31, 32, 33, 34, 35, 36, 37, 38, 39, 40, 41], none⟩,
              ⟨[(22, none)], [0, 1, 2, 3, 4, 5, 6, 7, 8, 9, 10, 11, 12, 13, 14, 15, 16, 17, 18, 19, 20, 21, 22, 23, 24, 25, 26, 27, 28, 29, 30, 31, 32, 33, 34, 35, 36, 37, 38, 39, 40, 41], none⟩,
              ⟨[(182, some (48, true)), (183, some (49, true))], [0, 1, 2, 3, 4, 5, 6, 7, 8, 9, 10, 11, 12, 13, 14, 15, 16, 17, 18, 19, 20, 21, 22, 23, 24, 25, 26, 27, 28, 29, 30, 31, 32, 33, 34, 35, 36, 37, 38, 39, 40, 41, 48, 49], none⟩,
              ⟨[(184, some (50, true))], [0, 1, 2, 3, 4, 5, 6, 7, 8, 9, 10, 11, 12, 13, 14, 15, 16, 17, 18, 19, 20, 21, 22, 23, 24, 25, 26, 27, 28, 29, 30, 31, 32, 33, 34, 35, 36, 37, 38, 39, 40, 41, 48, 49, 50], none⟩,
              ⟨[(185, some (51, true))], [0, 1, 2, 3, 4, 5, 6, 7, 8, 9, 10, 11, 12, 13, 14, 15, 16, 17, 18, 19, 20, 21, 22, 23, 24, 25, 26, 27, 28, 29, 30, 31, 32, 33, 34, 35, 36, 37, 38, 39, 40, 41, 48, 49, 50, 51], none⟩,
              ⟨[(186, some (52, true))], [0, 1, 2, 3, 4, 5, 6, 7, 8, 9, 10, 11, 12, 13, 14, 15, 16, 17, 18, 19, 20, 21, 22, 23, 24, 25, 26, 27, 28, 29, 30, 31, 32, 33, 34, 35, 36, 37, 38, 39, 40, 41, 48, 49, 50, 51, 52], none⟩,
              ⟨[(181, some (47, true)), (187, some (53, true))], [0, 1, 2, 3, 4, 5, 6, 7, 8, 9, 10, 11, 12, 13, 14, 15, 16, 17, 18, 19, 20, 21, 22, 23, 24, 25, 26, 27, 28, 29, 30, 31, 32, 33, 34, 35, 36, 37, 38, 39, 40, 41, 42, 43, 44, 45, 46, 47, 48, 49, 50, 51, 52, 53], none⟩,
              ⟨[(175, some (41, false)), (188, some (54, false))], [0, 1, 2, 3, 4, 5, 6, 7, 8, 9, 10, 11, 12, 13, 14, 15, 16, 17, 18, 19, 20, 21, 22, 23, 24, 25, 26, 27, 28, 29, 30, 31, 32, 33, 34, 35, 36, 37, 38, 39, 40, 41, 42, 43, 44, 45, 46, 47, 48, 49, 50, 51, 52, 53, 54], none⟩,
              ⟨[(189, some (55, false))], [0, 1, 2, 3, 4, 5, 6, 7, 8, 9, 10, 11, 12, 13, 14, 15, 16, 17, 18, 19, 20, 21, 22, 23, 24, 25, 26, 27, 28, 29, 30, 31, 32, 33, 34, 35, 36, 37, 38, 39, 40, 41, 42, 43, 44, 45, 46, 47, 48, 49, 50, 51, 52, 53, 54, 55], none⟩,
              ⟨[(20, none)], [0, 1, 2, 3, 4, 5, 6, 7, 8, 9, 10, 11, 12, 13, 14, 15, 16, 17, 18, 19, 20, 21, 22, 23, 24, 25, 26, 27, 28, 29, 30, 31, 32, 33, 34, 35, 36, 37, 38, 39, 40, 41, 42, 43, 44, 45, 46, 47, 48, 49, 50, 51, 52, 53, 54, 55, 56], none⟩,
              ⟨[(22, none)], [0, 1, 2, 3, 4, 5, 6, 7, 8, 9, 10, 11, 12, 13, 14, 15, 16, 17, 18, 19, 20, 21, 22, 23, 24, 25, 26, 27, 28, 29, 30, 31, 32, 33, 34, 35, 36, 37, 38, 39, 40, 41, 42, 43, 44, 45, 46, 47, 48, 49, 50, 51, 52, 53, 54, 55, 56], none⟩,
              ⟨[(191, some (57, true)), (192, some (58, true))], [0, 1, 2, 3, 4, 5, 6, 7, 8, 9, 10, 11, 12, 13, 14, 15, 16, 17, 18, 19, 20, 21, 22, 23, 24, 25, 26, 27, 28, 29, 30, 31, 32, 33, 34, 35, 36, 37, 38, 39, 40, 41, 42, 43, 44, 45, 46, 47, 48, 49, 50, 51, 52, 53, 54, 55, 56, 57, 58], none⟩,
              ⟨[(193, some (59, true))], [0, 1, 2, 3, 4, 5, 6, 7, 8, 9, 10, 11, 12, 13, 14, 15, 16, 17, 18, 19, 20, 21, 22, 23, 24, 25, 26, 27, 28, 29, 30, 31, 32, 33, 34, 35, 36, 37, 38, 39, 40, 41, 42, 43, 44, 45, 46, 47, 48, 49, 50, 51, 52, 53, 54, 55, 56, 57, 58, 59], none⟩,
              ⟨[(194, some (60, true))], [0, 1, 2, 3, 4, 5, 6, 7, 8, 9, 10, 11, 12, 13, 14, 15, 16, 17, 18, 19, 20, 21, 22, 23, 24, 25, 26, 27, 28, 29, 30, 31, 32, 33, 34, 35, 36, 37, 38, 39, 40, 41, 42, 43, 44, 45, 46, 47, 48, 49, 50, 51, 52, 53, 54, 55, 56, 57, 58, 59, 60], none⟩,
              ⟨[(195, some (61, true))], [0, 1, 2, 3, 4, 5, 6, 7, 8, 9, 10, 11, 12, 13, 14, 15, 16, 17, 18, 19, 20, 21, 22, 23, 24, 25, 26, 27, 28, 29, 30, 31, 32, 33, 34, 35, 36, 37, 38, 39, 40, 41, 42, 43, 44, 45, 46, 47, 48, 49, 50, 51, 52, 53, 54, 55, 56, 57, 58, 59, 60, 61], none⟩,
              ⟨[(196, some (62, true))], [0, 1, 2, 3, 4, 5, 6, 7, 8, 9, 10, 11, 12, 13, 14, 15, 16, 17, 18, 19, 20, 21, 22, 23, 24, 25, 26, 27, 28, 29, 30, 31, 32, 33, 34, 35, 36, 37, 38, 39, 40, 41, 42, 43, 44, 45, 46, 47, 48, 49, 50, 51, 52, 53, 54, 55, 56, 57, 58, 59, 60, 61, 62], none⟩,
              ⟨[(190, some (56, false)), (197, some (63, false))], [0, 1, 2, 3, 4, 5, 6, 7, 8, 9, 10, 11, 12, 13, 14, 15, 16, 17, 18, 19, 20, 21, 22, 23, 24, 25, 26, 27, 28, 29, 30, 31, 32, 33, 34, 35, 36, 37, 38, 39, 40, 41, 42, 43, 44, 45, 46, 47, 48, 49, 50, 51, 52, 53, 54, 55, 56, 57, 58, 59, 60, 61, 62, 63], none⟩] [_, _, _, _, _, _, _, _, _] _ rfl rfl ?_
          refine dq_pure rfl (fun s => .g rfl (.nil)) (fun s hs _ => loc_move rfl) (by exact .nil) ?_
          refine dq_pure rfl (fun s => .g rfl (.nil)) (fun s hs _ => loc_move rfl) (by exact .nil) ?_
          first | refine dq_pure rfl (fun s => .op rfl (.op rfl (.nil))) (fun s hs _ => loc_index rfl rfl (by first | omega | assumption)) (by exact .nil) ?_ | refine dq_pure rfl (fun s => .op rfl (.op rfl (.nil))) (fun s hs _ => loc_indexI rfl rfl (by first | omega | assumption)) (by exact .nil) ?_
          refine dq_pure rfl (fun s => .op rfl (.nil)) (fun s hs _ => loc_fieldAddr rfl) (by exact .nil) ?_
          refine dq_pure rfl (fun s => .op rfl (.nil)) (fun s hs _ => loc_load1 rfl) (by exact .nil) ?_
          refine dq_pure rfl (fun s => .op rfl (.nil)) (fun s hs _ => loc_neq rfl rfl) (by exact .nil) ?_
          refine dq_pure rfl (fun s => .op rfl (.nil)) (fun s hs _ => loc_move rfl) (by exact .nil) ?_
          refine dq_gpure rfl (fun s => .g rfl (.nil)) rfl (fun _ => by first | exact guard_true _ | exact guard_false _ | exact guard_if (guard_true _) | exact guard_if (guard_false _)) (fun s hs hg _ => loc_move rfl) (by exact .nil) ?_
          refine dq_gpure rfl (fun s => .g rfl (.nil)) rfl (fun _ => by first | exact guard_true _ | exact guard_false _ | exact guard_if (guard_true _) | exact guard_if (guard_false _)) (fun s hs hg _ => loc_move rfl) (by exact .nil) ?_
          first | refine dq_gpure rfl (fun s => .opU rfl (.opU rfl (.nil))) rfl (fun _ => by first | exact guard_true _ | exact guard_false _ | exact guard_if (guard_true _) | exact guard_if (guard_false _)) (fun s hs hg _ => loc_index rfl rfl (by first | omega | assumption)) (by exact .nil) ?_ | refine dq_gpure rfl (fun s => .opU rfl (.opU rfl (.nil))) rfl (fun _ => by first | exact guard_true _ | exact guard_false _ | exact guard_if (guard_true _) | exact guard_if (guard_false _)) (fun s hs hg _ => loc_indexI rfl rfl (by first | omega | assumption)) (by exact .nil) ?_
          refine dq_gpure rfl (fun s => .opU rfl (.nil)) rfl (fun _ => by first | exact guard_true _ | exact guard_false _ | exact guard_if (guard_true _) | exact guard_if (guard_false _)) (fun s hs hg _ => loc_fieldAddr rfl) (by exact .nil) ?_
          refine dq_gpure rfl (fun s => .opU rfl (.nil)) rfl (fun _ => by first | exact guard_true _ | exact guard_false _ | exact guard_if (guard_true _) | exact guard_if (guard_false _)) (fun s hs hg _ => loc_load1 rfl) (by exact .nil) ?_
          refine dq_gpure rfl (fun s => .g rfl (.nil)) rfl (fun _ => by first | exact guard_true _ | exact guard_false _ | exact guard_if (guard_true _) | exact guard_if (guard_false _)) (fun s hs hg _ => loc_move rfl) (by exact .nil) ?_
          refine dq_gpure rfl (fun s => .g rfl (.nil)) rfl (fun _ => by first | exact guard_true _ | exact guard_false _ | exact guard_if (guard_true _) | exact guard_if (guard_false _)) (fun s hs hg _ => loc_fieldAddrOwn rfl) (by exact .nil) ?_
          refine dq_gread rfl (fun s => .opU rfl (.nil)) rfl rfl rfl (fun _ => by first | exact guard_true _ | exact guard_false _ | exact guard_if (guard_true _) | exact guard_if (guard_false _)) (fun s hs hg _ hm => loc_loadOwn1 rfl hm (by rfl)) (by exact .nil) ?_
          first | refine dq_gpure rfl (fun s => .opU rfl (.opU rfl (.nil))) rfl (fun _ => by first | exact guard_true _ | exact guard_false _ | exact guard_if (guard_true _) | exact guard_if (guard_false _)) (fun s hs hg _ => loc_quo rfl rfl (by first | omega | assumption)) (by exact .nil) ?_ | refine dq_gpure rfl (fun s => .opU rfl (.opU rfl (.nil))) rfl (fun _ => by first | exact guard_true _ | exact guard_false _ | exact guard_if (guard_true _) | exact guard_if (guard_false _)) (fun s hs hg _ => loc_quoW rfl rfl (by first | omega | assumption)) (by exact .nil) ?_
          refine dq_gpure rfl (fun s => .opU rfl (.opU rfl (.nil))) rfl (fun _ => by first | exact guard_true _ | exact guard_false _ | exact guard_if (guard_true _) | exact guard_if (guard_false _)) (fun s hs hg _ => loc_neq rfl rfl) (by exact .nil) ?_
          refine dq_pure rfl (fun s => .op rfl (.op rfl (.nil))) (fun s hs _ => loc_or rfl rfl) (by exact .nil) ?_
          refine dq_pure rfl (fun s => .op rfl (.nil)) (fun s hs _ => loc_move rfl) (by exact .nil) ?_
          refine dq_gpure rfl (fun s => .g rfl (.nil)) rfl (fun _ => by first | exact guard_true _ | exact guard_false _ | exact guard_if (guard_true _) | exact guard_if (guard_false _)) (fun s hs hg _ => loc_move rfl) (by exact .nil) ?_
          refine dq_gpure rfl (fun s => .g rfl (.nil)) rfl (fun _ => by first | exact guard_true _ | exact guard_false _ | exact guard_if (guard_true _) | exact guard_if (guard_false _)) (fun s hs hg _ => loc_move rfl) (by exact .nil) ?_
          first | refine dq_gpure rfl (fun s => .opU rfl (.opU rfl (.nil))) rfl (fun _ => by first | exact guard_true _ | exact guard_false _ | exact guard_if (guard_true _) | exact guard_if (guard_false _)) (fun s hs hg _ => loc_index rfl rfl (by first | omega | assumption)) (by exact .nil) ?_ | refine dq_gpure rfl (fun s => .opU rfl (.opU rfl (.nil))) rfl (fun _ => by first | exact guard_true _ | exact guard_false _ | exact guard_if (guard_true _) | exact guard_if (guard_false _)) (fun s hs hg _ => loc_indexI rfl rfl (by first | omega | assumption)) (by exact .nil) ?_
          refine dq_gpure rfl (fun s => .opU rfl (.nil)) rfl (fun _ => by first | exact guard_true _ | exact guard_false _ | exact guard_if (guard_true _) | exact guard_if (guard_false _)) (fun s hs hg _ => loc_fieldAddr rfl) (by exact .nil) ?_
          refine dq_gpure rfl (fun s => .opU rfl (.nil)) rfl (fun _ => by first | exact guard_true _ | exact guard_false _ | exact guard_if (guard_true _) | exact guard_if (guard_false _)) (fun s hs hg _ => loc_load1 rfl) (by exact .nil) ?_
          refine dq_gpure rfl (fun s => .g rfl (.nil)) rfl (fun _ => by first | exact guard_true _ | exact guard_false _ | exact guard_if (guard_true _) | exact guard_if (guard_false _)) (fun s hs hg _ => loc_move rfl) (by exact .nil) ?_
          refine dq_gpure rfl (fun s => .g rfl (.nil)) rfl (fun _ => by first | exact guard_true _ | exact guard_false _ | exact guard_if (guard_true _) | exact guard_if (guard_false _)) (fun s hs hg _ => loc_fieldAddrOwn rfl) (by exact .nil) ?_
          refine dq_gread rfl (fun s => .opU rfl (.nil)) rfl rfl rfl (fun _ => by first | exact guard_true _ | exact guard_false _ | exact guard_if (guard_true _) | exact guard_if (guard_false _)) (fun s hs hg _ hm => loc_loadOwn1 rfl hm (by rfl)) (by exact .nil) ?_
          first | refine dq_gpure rfl (fun s => .opU rfl (.opU rfl (.nil))) rfl (fun _ => by first | exact guard_true _ | exact guard_false _ | exact guard_if (guard_true _) | exact guard_if (guard_false _)) (fun s hs hg _ => loc_rem rfl rfl (by first | omega | assumption)) (by exact .nil) ?_ | refine dq_gpure rfl (fun s => .opU rfl (.opU rfl (.nil))) rfl (fun _ => by first | exact guard_true _ | exact guard_false _ | exact guard_if (guard_true _) | exact guard_if (guard_false _)) (fun s hs hg _ => loc_remW rfl rfl (by first | omega | assumption)) (by exact .nil) ?_
          first | refine dq_gpure rfl (fun s => .opU rfl (.nil)) rfl (fun _ => by first | exact guard_true _ | exact guard_false _ | exact guard_if (guard_true _) | exact guard_if (guard_false _)) (fun s hs hg _ => loc_add rfl rfl (by first | omega | assumption)) (by exact .nil) ?_ | refine dq_gpure rfl (fun s => .opU rfl (.nil)) rfl (fun _ => by first | exact guard_true _ | exact guard_false _ | exact guard_if (guard_true _) | exact guard_if (guard_false _)) (fun s hs hg _ => loc_addW rfl rfl) (by exact .nil) ?_
          refine dq_gpure rfl (fun s => .opU rfl (.opU rfl (.nil))) rfl (fun _ => by first | exact guard_true _ | exact guard_false _ | exact guard_if (guard_true _) | exact guard_if (guard_false _)) (fun s hs hg _ => loc_neq rfl rfl) (by exact .nil) ?_
          refine dq_pure rfl (fun s => .op rfl (.op rfl (.nil))) (fun s hs _ => loc_or rfl rfl) (by exact .nil) ?_
          refine dq_pure rfl (fun s => .op rfl (.nil)) (fun s hs _ => loc_move rfl) (by exact .nil) ?_
          refine dq_gpure rfl (fun s => .g rfl (.nil)) rfl (fun _ => by first | exact guard_true _ | exact guard_false _ | exact guard_if (guard_true _) | exact guard_if (guard_false _)) (fun s hs hg _ => loc_move rfl) (by exact .nil) ?_
          refine dq_gpure rfl (fun s => .g rfl (.nil)) rfl (fun _ => by first | exact guard_true _ | exact guard_false _ | exact guard_if (guard_true _) | exact guard_if (guard_false _)) (fun s hs hg _ => loc_move rfl) (by exact .nil) ?_
          first | refine dq_gpure rfl (fun s => .opU rfl (.opU rfl (.nil))) rfl (fun _ => by first | exact guard_true _ | exact guard_false _ | exact guard_if (guard_true _) | exact guard_if (guard_false _)) (fun s hs hg _ => loc_index rfl rfl (by first | omega | assumption)) (by exact .nil) ?_ | refine dq_gpure rfl (fun s => .opU rfl (.opU rfl (.nil))) rfl (fun _ => by first | exact guard_true _ | exact guard_false _ | exact guard_if (guard_true _) | exact guard_if (guard_false _)) (fun s hs hg _ => loc_indexI rfl rfl (by first | omega | assumption)) (by exact .nil) ?_
          refine dq_gpure rfl (fun s => .opU rfl (.nil)) rfl (fun _ => by first | exact guard_true _ | exact guard_false _ | exact guard_if (guard_true _) | exact guard_if (guard_false _)) (fun s hs hg _ => loc_fieldAddr rfl) (by exact .nil) ?_
          refine dq_gpure rfl (fun s => .opU rfl (.nil)) rfl (fun _ => by first | exact guard_true _ | exact guard_false _ | exact guard_if (guard_true _) | exact guard_if (guard_false _)) (fun s hs hg _ => loc_load1 rfl) (by exact .nil) ?_
          refine dq_gpure rfl (fun s => .g rfl (.nil)) rfl (fun _ => by first | exact guard_true _ | exact guard_false _ | exact guard_if (guard_true _) | exact guard_if (guard_false _)) (fun s hs hg _ => loc_fieldAddrOwn rfl) (by exact .nil) ?_
          refine dq_gread rfl (fun s => .opU rfl (.nil)) rfl rfl rfl (fun _ => by first | exact guard_true _ | exact guard_false _ | exact guard_if (guard_true _) | exact guard_if (guard_false _)) (fun s hs hg _ hm => loc_loadOwn1 rfl hm (by rfl)) (by exact .nil) ?_
          refine dq_gpure rfl (fun s => .opU rfl (.opU rfl (.nil))) rfl (fun _ => by first | exact guard_true _ | exact guard_false _ | exact guard_if (guard_true _) | exact guard_if (guard_false _)) (fun s hs hg _ => loc_neq rfl rfl) (by exact .nil) ?_
          refine dq_pure rfl (fun s => .op rfl (.op rfl (.nil))) (fun s hs _ => loc_or rfl rfl) (by exact .nil) ?_
          refine dq_pure rfl (fun s => .op rfl (.nil)) (fun s hs _ => loc_move rfl) (by exact .nil) ?_
          refine dq_gpure rfl (fun s => .g rfl (.nil)) rfl (fun _ => by first | exact guard_true _ | exact guard_false _ | exact guard_if (guard_true _) | exact guard_if (guard_false _)) (fun s hs hg _ => loc_move rfl) (by exact .nil) ?_
          refine dq_gpure rfl (fun s => .g rfl (.nil)) rfl (fun _ => by first | exact guard_true _ | exact guard_false _ | exact guard_if (guard_true _) | exact guard_if (guard_false _)) (fun s hs hg _ => loc_move rfl) (by exact .nil) ?_
          first | refine dq_gpure rfl (fun s => .opU rfl (.opU rfl (.nil))) rfl (fun _ => by first | exact guard_true _ | exact guard_false _ | exact guard_if (guard_true _) | exact guard_if (guard_false _)) (fun s hs hg _ => loc_index rfl rfl (by first | omega | assumption)) (by exact .nil) ?_ | refine dq_gpure rfl (fun s => .opU rfl (.opU rfl (.nil))) rfl (fun _ => by first | exact guard_true _ | exact guard_false _ | exact guard_if (guard_true _) | exact guard_if (guard_false _)) (fun s hs hg _ => loc_indexI rfl rfl (by first | omega | assumption)) (by exact .nil) ?_
          refine dq_gpure rfl (fun s => .opU rfl (.nil)) rfl (fun _ => by first | exact guard_true _ | exact guard_false _ | exact guard_if (guard_true _) | exact guard_if (guard_false _)) (fun s hs hg _ => loc_fieldAddr rfl) (by exact .nil) ?_
          refine dq_gpure rfl (fun s => .opU rfl (.nil)) rfl (fun _ => by first | exact guard_true _ | exact guard_false _ | exact guard_if (guard_true _) | exact guard_if (guard_false _)) (fun s hs hg _ => loc_load1 rfl) (by exact .nil) ?_
          refine dq_gpure rfl (fun s => .opU rfl (.nil)) rfl (fun _ => by first | exact guard_true _ | exact guard_false _ | exact guard_if (guard_true _) | exact guard_if (guard_false _)) (fun s hs hg _ => loc_len rfl) (by exact .nil) ?_
          refine dq_gpure rfl (fun s => .g rfl (.nil)) rfl (fun _ => by first | exact guard_true _ | exact guard_false _ | exact guard_if (guard_true _) | exact guard_if (guard_false _)) (fun s hs hg _ => loc_move rfl) (by exact .nil) ?_
          refine dq_gpure rfl (fun s => .g rfl (.nil)) rfl (fun _ => by first | exact guard_true _ | exact guard_false _ | exact guard_if (guard_true _) | exact guard_if (guard_false _)) (fun s hs hg _ => loc_move rfl) (by exact .nil) ?_
          first | refine dq_gpure rfl (fun s => .opU rfl (.opU rfl (.nil))) rfl (fun _ => by first | exact guard_true _ | exact guard_false _ | exact guard_if (guard_true _) | exact guard_if (guard_false _)) (fun s hs hg _ => loc_index rfl rfl (by first | omega | assumption)) (by exact .nil) ?_ | refine dq_gpure rfl (fun s => .opU rfl (.opU rfl (.nil))) rfl (fun _ => by first | exact guard_true _ | exact guard_false _ | exact guard_if (guard_true _) | exact guard_if (guard_false _)) (fun s hs hg _ => loc_indexI rfl rfl (by first | omega | assumption)) (by exact .nil) ?_
          refine dq_gpure rfl (fun s => .opU rfl (.nil)) rfl (fun _ => by first | exact guard_true _ | exact guard_false _ | exact guard_if (guard_true _) | exact guard_if (guard_false _)) (fun s hs hg _ => loc_fieldAddr rfl) (by exact .nil) ?_
          refine dq_gpure rfl (fun s => .opU rfl (.nil)) rfl (fun _ => by first | exact guard_true _ | exact guard_false _ | exact guard_if (guard_true _) | exact guard_if (guard_false _)) (fun s hs hg _ => loc_load1 rfl) (by exact .nil) ?_
          refine dq_gpure rfl (fun s => .opU rfl (.nil)) rfl (fun _ => by first | exact guard_true _ | exact guard_false _ | exact guard_if (guard_true _) | exact guard_if (guard_false _)) (fun s hs hg _ => loc_len rfl) (by exact .nil) ?_
          refine dq_gpure rfl (fun s => .opU rfl (.opU rfl (.nil))) rfl (fun _ => by first | exact guard_true _ | exact guard_false _ | exact guard_if (guard_true _) | exact guard_if (guard_false _)) (fun s hs hg _ => loc_neq rfl rfl) (by exact .nil) ?_
          refine dq_pure rfl (fun s => .op rfl (.op rfl (.nil))) (fun s hs _ => loc_or rfl rfl) (by exact .nil) ?_
          refine dq_pure rfl (fun s => .op rfl (.nil)) (fun s hs _ => loc_move rfl) (by exact .nil) ?_
          refine dq_gpure rfl (fun s => .g rfl (.nil)) rfl (fun _ => by first | exact guard_true _ | exact guard_false _ | exact guard_if (guard_true _) | exact guard_if (guard_false _)) (fun s hs hg _ => loc_move rfl) (by exact .nil) ?_
          refine dq_gpure rfl (fun s => .g rfl (.nil)) rfl (fun _ => by first | exact guard_true _ | exact guard_false _ | exact guard_if (guard_true _) | exact guard_if (guard_false _)) (fun s hs hg _ => loc_move rfl) (by exact .nil) ?_
          first | refine dq_gpure rfl (fun s => .opU rfl (.opU rfl (.nil))) rfl (fun _ => by first | exact guard_true _ | exact guard_false _ | exact guard_if (guard_true _) | exact guard_if (guard_false _)) (fun s hs hg _ => loc_index rfl rfl (by first | omega | assumption)) (by exact .nil) ?_ | refine dq_gpure rfl (fun s => .opU rfl (.opU rfl (.nil))) rfl (fun _ => by first | exact guard_true _ | exact guard_false _ | exact guard_if (guard_true _) | exact guard_if (guard_false _)) (fun s hs hg _ => loc_indexI rfl rfl (by first | omega | assumption)) (by exact .nil) ?_
          refine dq_gpure rfl (fun s => .opU rfl (.nil)) rfl (fun _ => by first | exact guard_true _ | exact guard_false _ | exact guard_if (guard_true _) | exact guard_if (guard_false _)) (fun s hs hg _ => loc_fieldAddr rfl) (by exact .nil) ?_
          refine dq_gpure rfl (fun s => .opU rfl (.nil)) rfl (fun _ => by first | exact guard_true _ | exact guard_false _ | exact guard_if (guard_true _) | exact guard_if (guard_false _)) (fun s hs hg _ => loc_load1 rfl) (by exact .nil) ?_
          refine dq_gpure rfl (fun s => .opU rfl (.nil)) rfl (fun _ => by first | exact guard_true _ | exact guard_false _ | exact guard_if (guard_true _) | exact guard_if (guard_false _)) (fun s hs hg _ => loc_len rfl) (by exact .nil) ?_
          refine dq_gpure rfl (fun s => .opU rfl (.nil)) rfl (fun _ => by first | exact guard_true _ | exact guard_false _ | exact guard_if (guard_true _) | exact guard_if (guard_false _)) (fun s hs hg _ => loc_neq rfl rfl) (by exact .nil) ?_
          refine dq_pure rfl (fun s => .op rfl (.op rfl (.nil))) (fun s hs _ => loc_or rfl rfl) (by exact .nil) ?_
          refine dq_end (rs := [_, _, _, _, _, _, _, _, _]) () rfl (fun _ => rfl) (.nil) rfl (fun _ _ => ?_)
          dsimp only [outG, outM, List.map, List.set, id]
          refine run_cond rfl (fun h23 => ?_) (fun h23 => ?_)
          · exfalso; have := h23; omega
          ·
            refine run_skip ?_
            refine run_inBlock ?_
            refine run_region ?_
            first | refine run_op (loc_add rfl rfl (by first | omega | assumption)) rfl ?_ | refine run_op (loc_addW rfl rfl) rfl ?_
            refine run_op (loc_move rfl) rfl ?_
            refine run_nil ?_
            exact run_againC ih21 (k + 1) (by omega) (by omega) (.cons rfl (by first | exact fun _ _ h => h | exact d_int (by omega) | exact d_int (by simp) | exact d_intN (by omega) | exact d_any) .nil) (.cons rfl (fun _ _ x => x) (.cons rfl (fun _ _ x => x) (.cons rfl (fun _ _ x => x) (.cons rfl (fun _ _ x => x) (.cons rfl (fun _ _ x => x) (.nil))))))
        ·
          refine run_exit rfl ?_
          refine run_seq ?_
          refine run_region ?_
          refine run_op (loc_assign rfl) rfl ?_
          refine run_nil ?_
          refine run_drop (.cons _ (.cons _ (.cons _ (.cons _ (.cons _ (.cons _ (.cons _ (.cons _ (.cons _ (.refl _)))))))))) ?_
          refine run_retP Try.func4 rfl rfl ?_
          exact d_B (by simp)

end Go.Q

namespace Go.Q
open Go.ChangeShapes Go.WideShapes Go.RowKit

def immOf (w : World) : Imm := ⟨fun b => w.heap[b]?, w.os, w.tape, w.output⟩
theorem inv_of (w : World) : Inv (immOf w) [] w := ⟨rfl, rfl, rfl, fun _ _ h => h, fun r hr => (by cases hr), List.nodup_nil⟩

theorem below_of {W w' : World} {J : Imm} (hle : (immOf W).le J) (hi : Inv J [] w') : Below W.heap.size W w' := by
  have hblk : ∀ k, k < W.heap.size → w'.heap[k]? = W.heap[k]? := fun k hk => by
    have h1 : W.heap[k]? = some W.heap[k] := by simp [hk]
    rw [h1]
    exact hi.imm k _ (hle.blk k _ h1)
  refine ⟨hi.os.trans hle.os, hi.tape.trans hle.tape, hi.output.trans hle.output, ?_, hblk⟩
  by_cases h : W.heap.size ≤ w'.heap.size
  · exact h
  · have h1 := hblk w'.heap.size (by omega)
    have h2 : w'.heap[w'.heap.size]? = none := by simp
    rw [h2] at h1
    have h3 : W.heap[w'.heap.size]? = some W.heap[w'.heap.size] := by simp [show w'.heap.size < W.heap.size by omega]
    rw [h3] at h1
    cases h1

section
variable {H : Type} {enc : TypeId × Value → H} {P : Program}

theorem post_same {f : Func} {s : ChangeSpec} {apart fresh handsOn again : Bool} {W W' : World} {args : Array Value} {v : Value} {ds gs : List (DataW H)} {before pa pv : List MemPlace}
    (hW : DataW.Whole enc P f.params.toList s.vars apart W args.toList ds gs before)
    (hres : ∀ (b : Nat) (sp : Nat → Bool) (hd : Bool), DataW.TrodAll enc P W' b sp hd f.resultTypes.toList (v.resultList f.resultTypes.size) (s.fn H (ds ++ gs)).results [])
    (hargs : ∀ sp : Nat → Bool, (∀ p ∈ before, sp p.block = true) → DataW.TrodAll enc P W' 0 sp true f.params.toList args.toList (s.fn H (ds ++ gs)).args pa)
    (hvars : ∀ sp : Nat → Bool, (∀ p ∈ before, sp p.block = true) → DataW.TrodVars enc P W' sp s.vars (s.fn H (ds ++ gs)).vars pv)
    (hps : before = pa ++ pv) (hk : W.keptBut W' (· ∈ before)) (hfz : ∀ a : Addr, a.block < W.heap.size → W'.frozen? a = W.frozen? a)
    (hok : ∀ (j : Nat) (t : TypeId) (r : Value), f.resultTypes[j]? = some t → (v.resultList f.resultTypes.size)[j]? = some r → Value.okWide P W' .any 0 t r) :
    s.post enc P f apart fresh handsOn again W args v W' := by
  have hold : ∀ p ∈ before, (fun b => decide (b < W.heap.size)) p.block = true := fun p hp => by simpa using hW.lt p hp
  have hlt := hW.lt
  refine ⟨ds, gs, before, [], pa, pv, hW, hres _ _ _, hargs _ hold, hvars _ hold, World.keptBut_mono (fun p hp => ⟨hp, ?_⟩) hk, fun _ => ?_⟩
  · rw [hps, List.mem_append] at hp
    exact Or.inr hp
  · obtain ⟨_, _, _, _, _, hz, hn⟩ := hW
    refine ⟨hok, _, _, ([] ++ pa) ++ pv, ⟨[] ++ pa, pv, trodAll_append (hargs _ (fun _ _ => rfl)) (hres _ _ _), hvars _ (fun _ _ => rfl), rfl, ?_, ?_⟩, ?_⟩
    · intro b off hp
      have hm : MemPlace.cell b off ∈ before := by rw [hps]; simpa using hp
      rw [hfz _ (hlt _ hm)]
      exact hz b off hm
    · intro ha
      have := hn ha
      rw [hps] at this
      simpa using this
    · intro p hp _
      rw [hps]
      simpa using hp

theorem trodAll_stay (hl : laidOutB P = true) {W W' : World} {sp : Nat → Bool} : ∀ {ts : List TypeId} {vs : List Value} {ds : List (DataW H)} {ps : List MemPlace}, (∀ t ∈ ts, P.readableRec t = true ∧ t < P.types.size) →
    DataW.TrodAll enc P W 0 (fun _ => true) true ts vs ds ps → (∀ p ∈ ps, W.sameAt W' p) → (∀ p ∈ ps, sp p.block = true) → DataW.TrodAll enc P W' 0 sp true ts vs ds ps
  | [], _, _, _, _, h, _, _ => by
    obtain ⟨rfl, rfl, rfl⟩ := trodAll_nil h
    exact rfl
  | t :: ts, _, _, _, hr, h, hs, hp => by
    obtain ⟨v, vs, d, ds, p, q, rfl, rfl, rfl, h1, h2⟩ := trodAll_cons h
    have hrt := hr t (List.mem_cons_self ..)
    exact ⟨p, q, WideElems.Trod_stays hl hrt.1 hrt.2 h1 (fun x hx => hs x (List.mem_append_left _ hx)) (fun x hx => hp x (List.mem_append_left _ hx)),
      trodAll_stay hl (fun x hx => hr x (List.mem_cons_of_mem _ hx)) h2 (fun x hx => hs x (List.mem_append_right _ hx)) (fun x hx => hp x (List.mem_append_right _ hx)), rfl⟩

/-- A law: its contract says that it answers true, whatever the arguments are. -/
theorem law_calls {f : FuncId} {fn : Func} {s : ChangeSpec} {apart fresh handsOn again : Bool} {W : World} {args : Array Value} {ds gs : List (DataW H)} {before : List MemPlace} {tb : TypeId} {Ds : List D}
    (hl : laidOutB P = true) (hread : ∀ t ∈ fn.params.toList, P.readableRec t = true ∧ t < P.types.size) (hres : fn.resultTypes = #[tb]) (htb : P.underlying tb = some .bool) (hvars : s.vars = [])
    (hW : DataW.Whole enc P fn.params.toList s.vars apart W args.toList ds gs before) (hr : (s.fn H ds).results = [.lit (.bool true)]) (ha : (s.fn H ds).args = ds) (hv : (s.fn H ds).vars = [])
    (hsp : SpecP P f Ds (dB True)) (hrel : relL Ds (immOf W) args.toList) :
    Calls P f args W fun e W' => ∃ v, e = .returned v ∧ s.post enc P fn apart fresh handsOn again W args v W' := by
  have h := hsp (immOf W) [] W args.toList hrel (inv_of W)
  rw [Array.toArray_toList] at h
  refine h.mono ?_
  rintro e W' ⟨v, rfl, J, hle, ⟨b, rfl, hb⟩, hi⟩
  have hbt : b = true := hb.2 trivial
  subst hbt
  have hB := below_of hle hi
  have hlt := hW.lt
  have hW' := hW
  obtain ⟨p, q, hA, hV, rfl, hfz, hnd⟩ := hW'
  rw [hvars] at hV
  obtain ⟨rfl, rfl⟩ := trodVars_none hV
  rw [List.append_nil] at hlt
  refine ⟨_, rfl, post_same (pa := p) (pv := []) hW (fun b sp hd => ?_) (fun sp hs => ?_) (fun sp hs => ?_) rfl (hB.frame _) (fun a ha => hB.frozen ha) (ok_one hres rfl (okWide_bool_mk htb true))⟩
  · rw [List.append_nil, hr, hres]
    exact trodAll_mk1 (shut_bool htb true)
  · rw [List.append_nil, ha]
    exact trodAll_stay hl hread hA (fun x hx => hB.same (hlt x hx)) (fun x hx => hs x (by simpa using hx))
  · rw [List.append_nil, hv, hvars]
    exact rfl

/-! ### Arguments -/

theorem wf_u8 {n : Int} (h : (Lit.int .u8 n).wf = true) : 0 ≤ n ∧ n ≤ 255 := by
  have h1 : IntKind.u8.min ≤ n ∧ n ≤ IntKind.u8.max := by simpa [Lit.wf] using h
  exact h1

theorem at_of_cell {w : World} {a : Addr} {v : Value} {d : D} (h : w.cell? a = some v) (hd : d.rel (immOf w) v) : (immOf w).at a [d] := by
  unfold World.cell? at h
  split at h
  · rename_i cs T fz hb
    split at h
    · cases h
    · rename_i hs
      refine ⟨by simpa using hs, cs, T, fz, hb, ?_⟩
      have h1 : cs.toList[a.off]? = some v := by simpa using h
      have h2 : (cs.toList.drop a.off).take 1 = [v] := by
        rw [List.take_one, List.head?_drop, h1]; rfl
      show relL [d] _ ((cs.toList.drop a.off).take 1)
      rw [h2]
      exact ⟨hd, trivial⟩
  · cases h

variable {W : World}

theorem arg_int {r : Reach} {b0 : Nat} {t : TypeId} {k : IntKind} {v : Value} {d : DataW H} {ps : List MemPlace} (ht : P.underlying t = some (.int k)) (hval : Value.okWide P W r b0 t v) (hd : DataW.Trod enc P W 0 (fun _ => true) true t v d ps) :
    ∃ n, (dInt k n).rel (immOf W) v ∧ (Lit.int k n).wf = true := by
  obtain ⟨n, rfl, _, _, h⟩ := open_int ht hval hd
  exact ⟨n, rfl, h⟩

theorem ints_of_trod {t e : TypeId} {fuel : Nat} {cs : List Value} {d : DataW H} {ps : List MemPlace} (ht : P.underlying t = some (.slice e)) (he : P.underlying e = some (.int .i64)) (hc : P.cellsOf e = 1) (hb : P.bytesOf e = 8)
    (h : DataW.trod enc P W 0 (fun _ => true) true fuel t cs = some (d, ps)) (hsz : ∀ n ∈ d.weights P t, n ≤ reachBytes) : ∃ xs, relL [dInts xs] (immOf W) cs := by
  rcases open_ints ht he hc h with ⟨rfl, _⟩ | ⟨a, len, cap, zs, rfl, _, h1, h2, h3, h4, h5, h6⟩
  · exact ⟨[], d_nil _ _ rfl, trivial⟩
  · simp only [if_true] at h3
    injection h4 with h4 _
    subst h4
    have h7 := hsz ((lits (H := H) .i64 (zs.take len)).length + (lits (H := H) .i64 (zs.drop len)).length |>.mul (P.bytesOf e)) (by simp [DataW.weights, ht])
    rw [hb] at h7
    have h8 : zs.length * 8 ≤ reachBytes := by simpa [lits, h3, h1] using h7
    have h9 : reachBytes = 140737488351232 := rfl
    refine ⟨zs.take len, ⟨some a, cap, by rw [List.length_take, h3]; rw [Nat.min_eq_left h1], by rw [List.length_take]; omega, h2, by rw [List.length_take]; unfold lenMax; omega, fun i x hx => ?_⟩, trivial⟩
    have hi : i < len ∧ zs[i]? = some x := by
      rw [List.getElem?_take] at hx
      split at hx
      · rename_i h; exact ⟨h, hx⟩
      · cases hx
    have hcell := fun j hj => h5 j hj
    have h0 := hcell 0 (by omega)
    have hs0 : a.spot = none := (at_of_cell (d := dTop) h0 trivial).1
    refine ⟨rfl, a, rfl, hs0, ?_⟩
    rw [Nat.mul_one]
    refine at_of_cell (hcell i (by omega)) ?_
    show _ = _
    rw [List.getD_eq_getElem?_getD, hi.2]
    rfl

theorem arg_ints {r : Reach} {b0 : Nat} {t e : TypeId} {v : Value} {d : DataW H} {ps : List MemPlace} (ht : P.underlying t = some (.slice e)) (he : P.underlying e = some (.int .i64)) (hc : P.cellsOf e = 1) (hb : P.bytesOf e = 8)
    (hval : Value.okWide P W r b0 t v) (hd : DataW.Trod enc P W 0 (fun _ => true) true t v d ps) (hsz : ∀ n ∈ d.weights P t, n ≤ reachBytes) : ∃ xs, (dInts xs).rel (immOf W) v := by
  obtain ⟨a, len, cap, rfl⟩ := okWide_slice ht hval
  obtain ⟨fuel, hf⟩ := hd
  obtain ⟨xs, h, _⟩ := ints_of_trod ht he hc hb hf hsz
  exact ⟨xs, h⟩

/-- The fields of a struct of numbers, from the offset j on. -/
def intFs64 (P : Program) : Nat → List Field → Bool
  | _, [] => true
  | j, fd :: fs => Nat.beq fd.offset j && Nat.beq (P.cellsOf fd.type) 1 && (match P.underlying fd.type with | some (.int .i64) => true | _ => false) && intFs64 P (j + 1) fs

theorem ints_of_fields {n : Nat} {cs : List Value} : ∀ (fs : List Field) (j : Nat), intFs64 P j fs = true → j + fs.length = cs.length → (∀ (i : Nat) fd, fs[i]? = some fd → ∃ x, DataW.trod enc P W 0 (fun _ => true) true n fd.type ((cs.drop fd.offset).take (P.cellsOf fd.type)) = some x) →
    ∃ ns : List Int, ns.length = fs.length ∧ relL (ns.map fun m => dInt .i64 m) (immOf W) (cs.drop j)
  | [], j, _, hl, _ => ⟨[], rfl, by rw [List.drop_eq_nil_of_le (by simp at hl; omega)]; exact trivial⟩
  | fd :: fs, j, hc, hl, hf => by
    simp only [intFs64, Bool.and_eq_true] at hc
    obtain ⟨⟨⟨h1, h2⟩, h3⟩, h4⟩ := hc
    replace h1 := Nat.eq_of_beq_eq_true h1
    replace h2 := Nat.eq_of_beq_eq_true h2
    simp only [List.length_cons] at hl
    obtain ⟨ns, h5, h6⟩ := ints_of_fields fs (j + 1) h4 (by omega) (fun i fd' hfd => hf (i + 1) fd' (by simpa using hfd))
    obtain ⟨x, hx⟩ := hf 0 fd rfl
    have hu : P.underlying fd.type = some (.int .i64) := by
      split at h3
      · assumption
      · cases h3
    obtain ⟨m, hm, _⟩ := DataW.trod_int hu hx
    rw [h1, h2] at hm
    have hlt : j < cs.length := by omega
    rw [List.drop_eq_getElem_cons hlt] at hm ⊢
    simp only [List.take_succ_cons, List.take_zero, List.cons.injEq, and_true] at hm
    exact ⟨m :: ns, by simp [h5], by rw [hm]; exact ⟨rfl, h6⟩⟩

theorem arg_nums {r : Reach} {b0 : Nat} {t : TypeId} {v : Value} {d : DataW H} {ps : List MemPlace} {fs : Array Field} (ht : P.underlying t = some (.struct fs)) (hc : intFs64 P 0 fs.toList = true) (hC : P.cellsOf t = fs.size)
    (hval : Value.okWide P W r b0 t v) (hd : DataW.Trod enc P W 0 (fun _ => true) true t v d ps) : ∃ ns : List Int, ns.length = fs.size ∧ (dAgg (ns.map fun m => dInt .i64 m)).rel (immOf W) v := by
  obtain ⟨cs, rfl, hsz⟩ := okWide_struct ht hval
  obtain ⟨fuel, hf⟩ := hd
  obtain ⟨xs, n, _, _, _, hxl, hx⟩ := DataW.trod_struct ht hf
  obtain ⟨ns, h1, h2⟩ := ints_of_fields (enc := enc) (n := n) (cs := cs.toList) fs.toList 0 hc (by simp [hsz, hC]) (fun i fd hfd => by
    have h3 := hx i fd (by simpa using hfd)
    have hi : i < xs.length := by rw [hxl]; simpa using (List.getElem?_eq_some_iff.1 hfd).1
    rw [List.getElem?_eq_getElem hi] at h3
    exact ⟨_, h3⟩)
  exact ⟨ns, by simpa using h1, cs, rfl, h2⟩

def hdOk (P : Program) (t : TypeId) : Bool := match P.underlying t with
  | some (.struct fs) => intFs64 P 0 fs.toList && (Nat.beq fs.size 5 && Nat.beq (P.cellsOf t) 5)
  | _ => false

theorem arg_hd {r : Reach} {b0 : Nat} {t : TypeId} {v : Value} {d : DataW H} {ps : List MemPlace} (ho : hdOk P t = true)
    (hval : Value.okWide P W r b0 t v) (hd : DataW.Trod enc P W 0 (fun _ => true) true t v d ps) : ∃ h : Hd, (dHd h).rel (immOf W) v := by
  unfold hdOk at ho
  split at ho
  · rename_i fs ht
    simp only [Bool.and_eq_true] at ho
    have h5 := Nat.eq_of_beq_eq_true ho.2.1
    obtain ⟨ns, h1, h2⟩ := arg_nums ht ho.1 ((Nat.eq_of_beq_eq_true ho.2.2).trans h5.symm) hval hd
    match ns, h1.trans h5, h2 with
    | [a, b, c, e, f], _, h2 => exact ⟨⟨a, b, c, e, f⟩, h2⟩
  · cases ho

end
end Go.Q

namespace Go.Q
open Go.ChangeShapes Go.WideShapes Go.RowKit Go.Joins

section
variable {H : Type} {enc : TypeId × Value → H} {P : Program} {W : World}

theorem weights_all {e : TypeId} {l : List (DataW H)} {d : DataW H} (hd : d ∈ l) {n : Nat} (hn : n ∈ d.weights P e) : n ∈ DataW.weightsAll P e l := by
  induction l with
  | nil => cases hd
  | cons x l ih =>
    rw [DataW.weightsAll]
    rcases List.mem_cons.1 hd with rfl | hd
    · exact List.mem_append_left _ hn
    · exact List.mem_append_right _ (ih hd)

theorem rows_of_trod {t e q : TypeId} {fuel : Nat} {cs : List Value} {d : DataW H} {ps : List MemPlace} (ht : P.underlying t = some (.slice e)) (he : P.underlying e = some (.slice q)) (hq : P.underlying q = some (.int .i64)) (ce : P.cellsOf e = 1) (cq : P.cellsOf q = 1) (be : P.bytesOf e = 24) (bq : P.bytesOf q = 8)
    (h : DataW.trod enc P W 0 (fun _ => true) true fuel t cs = some (d, ps)) (hsz : ∀ n ∈ d.weights P t, n ≤ reachBytes) : ∃ xs, relL [dRows xs] (immOf W) cs := by
  rcases Go.Deep.open_int_rows ht he hq ce cq h with ⟨rfl, _⟩ | ⟨a, len, cap, A, L, C, Z, rfl, _, h1, h2, h4, h5⟩
  · exact ⟨[], d_nil _ _ rfl, trivial⟩
  · injection h4 with h4 _
    subst h4
    have h9 : reachBytes = 140737488351232 := rfl
    have h7 := hsz ((len + (cap - len)) * P.bytesOf e) (by simp [DataW.weights, ht])
    rw [be] at h7
    have hrow : ∀ r, r < len → (dInts ((Z r).take (L r))).rel (immOf W) (.slice (A r) (L r) (C r)) := by
      intro r hr
      obtain ⟨g1, g2, g3, g4, _, g6, g7⟩ := h5 r (by omega)
      cases hA : A r with
      | none =>
        have hC := g6 hA
        have hL : L r = 0 := by omega
        rw [hL, hC]
        exact d_nil _ _ rfl
      | some a' =>
        have hw : ((Z r).length) * 8 ≤ reachBytes := by
          refine hsz _ ?_
          simp only [DataW.weights, ht, List.mem_cons, List.mem_append]
          refine .inr (.inl (weights_all (d := Go.Deep.intRow .i64 (A r) (L r) (Z r)) (List.mem_map.2 ⟨r, List.mem_range.2 hr, rfl⟩) ?_))
          rw [hA]
          have hll : (lits (H := H) .i64 ((Z r).take (L r))).length + (lits (H := H) .i64 ((Z r).drop (L r))).length = (Z r).length := by simp [lits]; omega
          simp only [Go.Deep.intRow, DataW.weights, he, List.mem_cons]
          exact .inl (by rw [hll, bq])
        obtain ⟨_, hcell⟩ := g7 a' hA
        refine ⟨some a', C r, by rw [List.length_take, g4, Nat.min_eq_left g2], by rw [List.length_take]; omega, g3, by rw [List.length_take]; unfold lenMax; omega, fun i x hx => ?_⟩
        have hi : i < L r ∧ (Z r)[i]? = some x := by
          rw [List.getElem?_take] at hx
          split at hx
          · rename_i h; exact ⟨h, hx⟩
          · cases hx
        have hs0 : a'.spot = none := (at_of_cell (d := dTop) (hcell 0 (by omega)) trivial).1
        refine ⟨rfl, a', rfl, hs0, ?_⟩
        rw [Nat.mul_one]
        refine at_of_cell (hcell i (by omega)) ?_
        show _ = _
        rw [List.getD_eq_getElem?_getD, hi.2]
        rfl
    refine ⟨(List.range len).map fun r => (Z r).take (L r), ⟨some a, cap, by simp, by simp; omega, h2, by simp; unfold lenMax; omega, fun i x hx => ?_⟩, trivial⟩
    have hi : i < len ∧ x = (Z i).take (L i) := by
      rw [List.getElem?_map] at hx
      have hlt : i < len := by
        by_cases c : i < len
        · exact c
        · rw [List.getElem?_eq_none (by simp; omega)] at hx; cases hx
      rw [List.getElem?_range hlt] at hx
      exact ⟨hlt, by simpa using hx.symm⟩
    have hs0 : a.spot = none := (at_of_cell (d := dTop) (h5 0 (by omega)).1 trivial).1
    refine ⟨rfl, a, rfl, hs0, ?_⟩
    rw [Nat.mul_one, hi.2]
    exact at_of_cell (h5 i (by omega)).1 (hrow i hi.1)

theorem arg_rows {r : Reach} {b0 : Nat} {t e q : TypeId} {v : Value} {d : DataW H} {ps : List MemPlace} (ht : P.underlying t = some (.slice e)) (he : P.underlying e = some (.slice q)) (hq : P.underlying q = some (.int .i64)) (ce : P.cellsOf e = 1) (cq : P.cellsOf q = 1) (be : P.bytesOf e = 24) (bq : P.bytesOf q = 8)
    (hval : Value.okWide P W r b0 t v) (hd : DataW.Trod enc P W 0 (fun _ => true) true t v d ps) (hsz : ∀ n ∈ d.weights P t, n ≤ reachBytes) : ∃ xs, (dRows xs).rel (immOf W) v := by
  obtain ⟨a, len, cap, rfl⟩ := okWide_slice ht hval
  obtain ⟨fuel, hf⟩ := hd
  obtain ⟨xs, h, _⟩ := rows_of_trod ht he hq ce cq be bq hf hsz
  exact ⟨xs, h⟩

/-- The rows of a table's type: a number, a struct of one number, a number, rows of rows. -/
structure TabTy (P : Program) (t e q : TypeId) (f0 f1 f2 f3 g : Field) : Prop where
  s : P.underlying t = some (.struct #[f0, f1, f2, f3])
  c : P.cellsOf t = 4
  i0 : P.underlying f0.type = some (.int .i64) ∧ f0.offset = 0 ∧ P.cellsOf f0.type = 1
  i1 : P.underlying f1.type = some (.struct #[g]) ∧ f1.offset = 1 ∧ P.cellsOf f1.type = 1
  i2 : P.underlying f2.type = some (.int .i64) ∧ f2.offset = 2 ∧ P.cellsOf f2.type = 1
  i3 : P.underlying f3.type = some (.slice e) ∧ f3.offset = 3 ∧ P.cellsOf f3.type = 1
  ig : P.underlying g.type = some (.int .i64) ∧ g.offset = 0 ∧ P.cellsOf g.type = 1
  he : P.underlying e = some (.slice q)
  hq : P.underlying q = some (.int .i64)
  ce : P.cellsOf e = 1
  cq : P.cellsOf q = 1
  be : P.bytesOf e = 24
  bq : P.bytesOf q = 8

theorem arg_tab {r : Reach} {b0 : Nat} {t e q : TypeId} {f0 f1 f2 f3 g : Field} {v : Value} {d : DataW H} {ps : List MemPlace} (ho : TabTy P t e q f0 f1 f2 f3 g)
    (hval : Value.okWide P W r b0 t v) (hd : DataW.Trod enc P W 0 (fun _ => true) true t v d ps) (hsz : ∀ n ∈ d.weights P t, n ≤ reachBytes) : ∃ x : Tab, (dTab x).rel (immOf W) v := by
  obtain ⟨cs, rfl, hc⟩ := okWide_struct ho.s hval
  obtain ⟨c0, c1, c2, c3, rfl⟩ := array4 (hc.trans ho.c)
  obtain ⟨fuel, hf⟩ := hd
  obtain ⟨y0, y1, y2, y3, n, hx, _, h0, h1, h2, h3⟩ := trod_struct4 ho.s hf
  simp only [Prod.mk.injEq] at hx
  obtain ⟨rfl, _⟩ := hx
  rw [ho.i0.2.1, ho.i0.2.2] at h0
  rw [ho.i1.2.1, ho.i1.2.2] at h1
  rw [ho.i2.2.1, ho.i2.2.2] at h2
  rw [ho.i3.2.1, ho.i3.2.2] at h3
  obtain ⟨a, ha, _⟩ := DataW.trod_int ho.i0.1 h0
  obtain ⟨w, hw, _⟩ := DataW.trod_int ho.i2.1 h2
  obtain ⟨xs, m, _, _, _, hl, hg⟩ := DataW.trod_struct ho.i1.1 h1
  have hg0 := hg 0 g rfl
  rw [ho.ig.2.1, ho.ig.2.2, List.getElem?_eq_getElem (by rw [hl]; exact Nat.one_pos)] at hg0
  obtain ⟨p, hp, _⟩ := DataW.trod_int ho.ig.1 hg0
  obtain ⟨rows, hrows⟩ := rows_of_trod (enc := enc) (d := y3.1) (ps := y3.2) ho.i3.1 ho.he ho.hq ho.ce ho.cq ho.be ho.bq h3 (fun n hn => hsz n (by
    simp only [DataW.weights, ho.s]
    exact DataW.weights_mem_each (j := 3) rfl rfl n hn))
  simp [Value.cells] at ha hw hp hrows
  refine ⟨⟨a, p, w, rows⟩, _, rfl, ?_⟩
  exact ⟨ha, hp, hw, hrows⟩

def isI (P : Program) (fd : Field) (j : Nat) : Bool := (match P.underlying fd.type with | some (.int .i64) => true | _ => false) && Nat.beq fd.offset j && Nat.beq (P.cellsOf fd.type) 1
theorem isI_ok {fd : Field} {j : Nat} (h : isI P fd j = true) : P.underlying fd.type = some (.int .i64) ∧ fd.offset = j ∧ P.cellsOf fd.type = 1 := by
  simp only [isI, Bool.and_eq_true] at h
  refine ⟨?_, Nat.eq_of_beq_eq_true h.1.2, Nat.eq_of_beq_eq_true h.2⟩
  have h1 := h.1.1
  split at h1
  · assumption
  · cases h1

def fieldsOf (P : Program) (t : TypeId) : List Field := match P.underlying t with | some (.struct fs) => fs.toList | _ => []
def elemOf (P : Program) (t : TypeId) : Option TypeId := match P.underlying t with | some (.slice e) => some e | _ => none
theorem fieldsOf_ok {t : TypeId} {f : Field} {fs : List Field} (h : fieldsOf P t = f :: fs) : P.underlying t = some (.struct (f :: fs).toArray) := by
  unfold fieldsOf at h
  split at h
  · rename_i gs hg
    rw [hg, ← h]
  · cases h
theorem elemOf_ok {t e : TypeId} (h : elemOf P t = some e) : P.underlying t = some (.slice e) := by
  unfold elemOf at h
  split at h
  · rename_i e' he; injection h with h; rw [he, h]
  · cases h

def tabOk (P : Program) (t : TypeId) : Bool :=
  match fieldsOf P t with
  | [f0, f1, f2, f3] =>
    match fieldsOf P f1.type with
    | [g] =>
      match elemOf P f3.type with
      | some e =>
        match elemOf P e with
        | some q =>
          (match P.underlying q with | some (.int .i64) => true | _ => false) && (isI P f0 0 && (isI P f2 2 && (isI P g 0 && (Nat.beq f1.offset 1 && (Nat.beq (P.cellsOf f1.type) 1 && (Nat.beq f3.offset 3 && (Nat.beq (P.cellsOf f3.type) 1 &&
            (Nat.beq (P.cellsOf t) 4 && (Nat.beq (P.cellsOf e) 1 && (Nat.beq (P.cellsOf q) 1 && (Nat.beq (P.bytesOf e) 24 && Nat.beq (P.bytesOf q) 8)))))))))))
        | none => false
      | none => false
    | _ => false
  | _ => false

theorem arg_table {r : Reach} {b0 : Nat} {t : TypeId} {v : Value} {d : DataW H} {ps : List MemPlace} (ho : tabOk P t = true)
    (hval : Value.okWide P W r b0 t v) (hd : DataW.Trod enc P W 0 (fun _ => true) true t v d ps) (hsz : ∀ n ∈ d.weights P t, n ≤ reachBytes) : ∃ x : Tab, (dTab x).rel (immOf W) v := by
  unfold tabOk at ho
  split at ho
  · rename_i f0 f1 f2 f3 h1
    split at ho
    · rename_i g h2
      split at ho
      · rename_i e h3
        split at ho
        · rename_i q h4
          simp only [Bool.and_eq_true] at ho
          obtain ⟨a1, a2, a3, a4, a5, a6, a7, a8, a9, a10, a11, a12, a13⟩ := ho
          have hq : P.underlying q = some (.int .i64) := by
            split at a1
            · assumption
            · cases a1
          have n := @Nat.eq_of_beq_eq_true
          exact arg_tab ⟨fieldsOf_ok h1, n a9, isI_ok a2, ⟨fieldsOf_ok h2, n a5, n a6⟩, isI_ok a3, ⟨elemOf_ok h3, n a7, n a8⟩, isI_ok a4, elemOf_ok h4, hq, n a10, n a11, n a12, n a13⟩ hval hd hsz
        · cases ho
      · cases ho
    · cases ho
  · cases ho

end
end Go.Q

namespace Go.Q
open Go.ChangeShapes Go.WideShapes Go.RowKit

/-- A value of the type t, however it was laid, is told by some x. -/
def ArgOk (P : Program) (t : TypeId) {α : Type} (p : α → Prop) (c : α → List D) : Prop :=
  ∀ (H : Type) (enc : TypeId × Value → H) (W : World) (fuel : Nat) (cs : List Value) (d : DataW H) (ps : List MemPlace), DataW.trod enc P W 0 (fun _ => true) true fuel t cs = some (d, ps) →
    (∀ n ∈ d.weights P t, n ≤ reachBytes) → ∃ x, p x ∧ relL (c x) (immOf W) cs

variable {P : Program} {t e : TypeId} {α β : Type}

theorem ArgOk.map {p : α → Prop} {c : α → List D} {q : β → Prop} {c' : β → List D} (h : ArgOk P t p c) (f : α → β) (hp : ∀ x, p x → q (f x)) (hc : ∀ x, c x = c' (f x)) : ArgOk P t q c' := fun H enc W fuel cs d ps ht hw =>
  let ⟨x, h1, h2⟩ := h H enc W fuel cs d ps ht hw
  ⟨f x, hp x h1, hc x ▸ h2⟩

theorem ArgOk.int {k : IntKind} (ht : P.underlying t = some (.int k)) : ArgOk P t (fun n => (Lit.int k n).wf = true) (fun n => [dInt k n]) := fun H enc W fuel cs d ps h hw => by
  obtain ⟨n, rfl, _, hn⟩ := DataW.trod_int ht h
  exact ⟨n, hn, rfl, trivial⟩

theorem ArgOk.bool (ht : P.underlying t = some .bool) : ArgOk P t (fun _ => True) (fun b : Bool => [dB (b = true)]) := fun H enc W fuel cs d ps h hw => by
  obtain ⟨b, rfl, _⟩ := DataW.trod_bool ht h
  exact ⟨b, trivial, ⟨b, rfl, Iff.rfl⟩, trivial⟩

theorem cells_of {W : World} {a : Addr} {n : Nat} {vs : List Value} (h : W.cells? 0 a n = some vs) : vs.length = n ∧ ∀ i v, vs[i]? = some v → W.cell? (a.add i) = some v := by
  unfold World.cells? at h
  rw [if_pos (Nat.zero_le _)] at h
  have h1 := mapM_some_length h
  rw [List.length_range] at h1
  refine ⟨h1, fun i v hv => ?_⟩
  have hi : i < n := by rw [← h1]; exact (List.getElem?_eq_some_iff.1 hv).1
  have := mapM_some_get h i i (by simp [hi])
  rw [← hv, ← this]

theorem add_add (a : Addr) (h : a.spot = none) (i j : Nat) : (a.add i).add j = a.add (i + j) := by
  obtain ⟨b, o, s⟩ := a
  simp only at h
  subst h
  rw [Addr.add_lit, Addr.add_lit, Addr.add_lit]
  congr 1
  omega

/-- Cells that are there, one behind the other. -/
theorem at_of_cells {w : World} {a : Addr} {ds : List D} {vs : List Value} (hs : a.spot = none) (hl : vs ≠ []) (hv : ∀ i v, vs[i]? = some v → w.cell? (a.add i) = some v) (hr : relL ds (immOf w) vs) : (immOf w).at a ds := by
  obtain ⟨b, o, s⟩ := a
  simp only at hs
  subst hs
  have hcell : ∀ i v, vs[i]? = some v → w.cell? ⟨b, o + i, none⟩ = some v := fun i v h => by have := hv i v h; rwa [Addr.add_lit] at this
  cases vs with
  | nil => exact absurd rfl hl
  | cons v0 vs =>
    have h0 := hcell 0 v0 rfl
    unfold World.cell? at h0
    simp only at h0
    split at h0
    · rename_i cs T fz hb
      refine ⟨rfl, cs, T, fz, hb, ?_⟩
      have hlen := relL_length hr
      have : (cs.toList.drop o).take ds.length = v0 :: vs := by
        apply List.ext_getElem?
        intro i
        by_cases hi : i < (v0 :: vs).length
        · have h1 := hcell i ((v0 :: vs)[i]) (List.getElem?_eq_getElem hi)
          simp only [World.cell?, hb] at h1
          rw [List.getElem?_take, if_pos (by omega), List.getElem?_drop, Array.getElem?_toList, List.getElem?_eq_getElem hi]
          simpa using h1
        · rw [List.getElem?_eq_none (by rw [List.length_take]; omega), List.getElem?_eq_none (by omega)]
      show relL ds _ ((cs.toList.drop o).take ds.length)
      rw [this]
      exact hr
    · cases h0

theorem list_choose {Q : Nat → α → Prop} {n : Nat} (h : ∀ i, i < n → ∃ x, Q i x) : ∃ xs : List α, xs.length = n ∧ ∀ i x, xs[i]? = some x → Q i x := by
  refine ⟨List.ofFn fun i : Fin n => Classical.choose (h i.1 i.2), by simp, fun i x hx => ?_⟩
  have hi : i < n := by have := (List.getElem?_eq_some_iff.1 hx).1; simpa using this
  rw [List.getElem?_ofFn, dif_pos hi] at hx
  injection hx with hx
  rw [← hx]
  exact Classical.choose_spec (h i hi)

theorem spot_add (a : Addr) (h : a.spot = none) (i : Nat) : (a.add i).spot = none := by
  obtain ⟨b, o, s⟩ := a
  simp only at h
  subst h
  rw [Addr.add_lit]

/-- A slice, whatever its elements are. -/
theorem ArgOk.slice {p : α → Prop} {c : α → List D} {n : Nat} (ht : P.underlying t = some (.slice e)) (he : ArgOk P e p c) (hn : P.cellsOf e = n) (hn0 : n ≠ 0) (hb : 8 ≤ P.bytesOf e) (hc : ∀ x, (c x).length = n) :
    ArgOk P t (fun xs : List α => ∀ x ∈ xs, p x) (fun xs => [dSl n c xs]) := fun H enc W fuel cs d ps h hw => by
  subst hn
  rcases DataW.trod_slice ht h with ⟨rfl, _⟩ | ⟨a, len, cap, elems, rest, m, _, rfl, hx, _, h1, h2, h3, h4, _, _⟩
  · exact ⟨[], (fun x hx => by cases hx), d_nil _ _ rfl, trivial⟩
  · injection hx with hx _
    subst hx
    have hlen : len ≤ lenMax := by
      have h7 := hw ((elems.length + rest.length) * P.bytesOf e) (by simp [DataW.weights, ht])
      have h9 : reachBytes = 140737488351232 := rfl
      have h10 := Nat.mul_le_mul_left (elems.length + rest.length) hb
      unfold lenMax
      omega
    have hel : ∀ i, i < len → ∃ x, p x ∧ ∃ vs, W.cells? 0 (a.add (i * P.cellsOf e)) (P.cellsOf e) = some vs ∧ relL (c x) (immOf W) vs := by
      intro i hi
      have h5 := h4 i hi
      rw [List.getElem?_eq_getElem (by omega)] at h5
      obtain ⟨vs, h6, h7⟩ := Option.bind_eq_some_iff.1 h5
      obtain ⟨x, h8, h9⟩ := he H enc W m vs _ _ h7 (fun k hk => hw k (by
        simp only [DataW.weights, ht, List.mem_cons, List.mem_append]
        exact .inr (.inl (weights_all (d := elems[i].1) (List.mem_map.2 ⟨elems[i], List.getElem_mem .., rfl⟩) hk))))
      exact ⟨x, h8, vs, h6, h9⟩
    obtain ⟨xs, hxl, hxs⟩ := list_choose hel
    subst hxl
    refine ⟨xs, fun x hx => by obtain ⟨i, hi⟩ := List.getElem?_of_mem hx; exact (hxs i x hi).1, ⟨some a, cap, rfl, h1, h2, hlen, fun i x hi => ?_⟩, trivial⟩
    obtain ⟨_, vs, g1, g2⟩ := hxs i x hi
    have hne : ∀ {vs : List Value}, vs.length = P.cellsOf e → vs ≠ [] := fun h e0 => hn0 (by rw [← h, e0]; rfl)
    have hspot : a.spot = none := by
      have h0 : 0 < xs.length := by have := (List.getElem?_eq_some_iff.1 hi).1; omega
      obtain ⟨_, us, u1, _⟩ := hxs 0 xs[0] (List.getElem?_eq_getElem h0)
      obtain ⟨u2, u3⟩ := cells_of u1
      have := hne u2
      cases us with
      | nil => exact absurd rfl this
      | cons u us =>
        have := u3 0 u rfl
        rw [Nat.zero_mul, Addr.add_zero', Addr.add_zero'] at this
        exact (at_of_cell (d := dTop) this trivial).1
    obtain ⟨g3, g4⟩ := cells_of g1
    exact ⟨hc x, a, rfl, hspot, at_of_cells (spot_add a hspot _) (hne g3) g4 g2⟩

/-- The fields of a struct: place, cells, type. -/
def structB (P : Program) (t : TypeId) (l : List (Nat × Nat × TypeId)) : Bool :=
  match P.underlying t with
  | some (.struct fs) => (fs.toList.map fun f => (f.offset, P.cellsOf f.type, f.type)) == l && Nat.beq (P.cellsOf t) (l.foldr (fun x n => x.2.1 + n) 0)
  | _ => false

inductive FieldsOk (P : Program) : List (Nat × Nat × TypeId) → Nat → {α : Type} → (α → Prop) → (α → List D) → Prop where
  | nil {off : Nat} : FieldsOk P [] off (fun _ : Unit => True) (fun _ => [])
  | cons {off n : Nat} {t : TypeId} {l : List (Nat × Nat × TypeId)} {α β : Type} {p : α → Prop} {c : α → List D} {q : β → Prop} {c' : β → List D} : ArgOk P t p c → FieldsOk P l (off + n) q c' → FieldsOk P ((off, n, t) :: l) off (fun x : α × β => p x.1 ∧ q x.2) (fun x => c x.1 ++ c' x.2)

theorem FieldsOk.run {l : List (Nat × Nat × TypeId)} {off : Nat} {α : Type} {p : α → Prop} {c : α → List D} (h : FieldsOk P l off p c) (H : Type) (enc : TypeId × Value → H) (W : World) (m : Nat) (cs : List Value) (xs : List (DataW H × List MemPlace)) (hl : xs.length = l.length)
    (hx : ∀ (i o n : Nat) (t : TypeId), l[i]? = some (o, n, t) → DataW.trod enc P W 0 (fun _ => true) true m t ((cs.drop o).take n) = xs[i]?) (hw : ∀ (i o n : Nat) (t : TypeId) (y : DataW H × List MemPlace), l[i]? = some (o, n, t) → xs[i]? = some y → ∀ k ∈ y.1.weights P t, k ≤ reachBytes)
    (hsz : cs.length = off + l.foldr (fun x n => x.2.1 + n) 0) : ∃ x, p x ∧ relL (c x) (immOf W) (cs.drop off) := by
  induction h generalizing xs with
  | nil => exact ⟨(), trivial, by rw [List.drop_eq_nil_of_le (by simp at hsz; omega)]; trivial⟩
  | @cons off n t l α β p c q c' h1 _ ih =>
    cases xs with
    | nil => simp at hl
    | cons y ys =>
      have e1 := hx 0 off n t rfl
      obtain ⟨x, g1, g2⟩ := h1 H enc W m _ y.1 y.2 e1 (hw 0 off n t y rfl rfl)
      obtain ⟨x', g3, g4⟩ := ih ys (by simpa using hl) (fun i o n t hi => by have := hx (i + 1) o n t (by simpa using hi); simpa using this) (fun i o n t y hi hy => hw (i + 1) o n t y (by simpa using hi) (by simpa using hy)) (by rw [hsz]; simp only [List.foldr_cons]; omega)
      refine ⟨(x, x'), ⟨g1, g3⟩, ?_⟩
      have : cs.drop off = (cs.drop off).take n ++ cs.drop (off + n) := by rw [← List.drop_drop, List.take_append_drop]
      rw [this]
      exact relL_append g2 g4

theorem ArgOk.struct {l : List (Nat × Nat × TypeId)} {p : α → Prop} {c : α → List D} (hs : structB P t l = true) (hf : FieldsOk P l 0 p c) : ArgOk P t p c := fun H enc W fuel cs d ps h hw => by
  unfold structB at hs
  split at hs
  · rename_i fs ht
    simp only [Bool.and_eq_true] at hs
    have hl : (fs.toList.map fun (f : Field) => (f.offset, P.cellsOf f.type, f.type)) = l := eq_of_beq hs.1
    obtain ⟨xs, m, _, hx, hcl, hxl, hget⟩ := DataW.trod_struct ht h
    injection hx with hx _
    subst hx
    have hfl : ∀ (i o n : Nat) (t' : TypeId), l[i]? = some (o, n, t') → ∃ f : Field, fs[i]? = some f ∧ f.offset = o ∧ P.cellsOf f.type = n ∧ f.type = t' := by
      intro i o n t' hi
      rw [← hl, List.getElem?_map] at hi
      cases hf' : fs.toList[i]? with
      | none => rw [hf'] at hi; cases hi
      | some f =>
        rw [hf'] at hi
        simp only [Option.map_some, Option.some.injEq, Prod.mk.injEq] at hi
        exact ⟨f, by simpa using hf', hi.1, hi.2.1, hi.2.2⟩
    have := hf.run H enc W m cs xs (by rw [hxl, ← hl]; simp) (fun i o n t' hi => by
      obtain ⟨f, f1, f2, f3, f4⟩ := hfl i o n t' hi
      have := hget i f f1
      rwa [f2, f3, f4] at this) (fun i o n t' y hi hy k hk => by
      obtain ⟨f, f1, f2, f3, f4⟩ := hfl i o n t' hi
      refine hw k ?_
      simp only [DataW.weights, ht]
      refine DataW.weights_mem_each (j := i) (t := t') (d := y.1) ?_ ?_ k hk
      · rw [List.getElem?_map]; rw [show fs.toList[i]? = some f by simpa using f1]; rw [← f4]; rfl
      · rw [List.getElem?_map, hy]; rfl) (by rw [hcl, Nat.eq_of_beq_eq_true hs.2, Nat.zero_add])
    rwa [List.drop_zero] at this
  · cases hs

/-! ### At a law's argument -/

theorem arg_one {H : Type} {enc : TypeId × Value → H} {W : World} {r : Reach} {b0 : Nat} {v : Value} {d : DataW H} {ps : List MemPlace} {p : α → Prop} {dd : α → D} (h : ArgOk P t p (fun x => [dd x])) (ht : P.underlying t = some (.slice e))
    (hval : Value.okWide P W r b0 t v) (hd : DataW.Trod enc P W 0 (fun _ => true) true t v d ps) (hsz : ∀ n ∈ d.weights P t, n ≤ reachBytes) : ∃ x, p x ∧ (dd x).rel (immOf W) v := by
  obtain ⟨a, len, cap, rfl⟩ := okWide_slice ht hval
  obtain ⟨fuel, hf⟩ := hd
  obtain ⟨x, h1, h2, _⟩ := h H enc W fuel _ d ps hf hsz
  exact ⟨x, h1, h2⟩

def isStruct (P : Program) (t : TypeId) : Bool := match P.underlying t with | some (.struct _) => true | _ => false
theorem arg_struct {H : Type} {enc : TypeId × Value → H} {W : World} {r : Reach} {b0 : Nat} {v : Value} {d : DataW H} {ps : List MemPlace} {p : α → Prop} {c : α → List D} (h : ArgOk P t p c) (ht : isStruct P t = true)
    (hval : Value.okWide P W r b0 t v) (hd : DataW.Trod enc P W 0 (fun _ => true) true t v d ps) (hsz : ∀ n ∈ d.weights P t, n ≤ reachBytes) : ∃ x, p x ∧ (dAgg (c x)).rel (immOf W) v := by
  unfold isStruct at ht
  split at ht
  · rename_i fs hfs
    obtain ⟨cs, rfl, _⟩ := okWide_struct hfs hval
    obtain ⟨fuel, hf⟩ := hd
    obtain ⟨x, h1, h2⟩ := h H enc W fuel _ d ps hf hsz
    exact ⟨x, h1, cs, rfl, h2⟩
  · cases ht

/-! ### Bytes -/

theorem arg_bytes {H : Type} {enc : TypeId × Value → H} {W : World} {r : Reach} {b0 : Nat} {v : Value} {d : DataW H} {ps : List MemPlace} (ht : P.underlying t = some (.slice e)) (he : P.underlying e = some (.int .u8)) (hn : P.cellsOf e = 1) (hb : P.bytesOf e = 1)
    (hval : Value.okWide P W r b0 t v) (hd : DataW.Trod enc P W 0 (fun _ => true) true t v d ps) (hsz : ∀ n ∈ d.weights P t, n ≤ reachBytes) : ∃ xs : List Int, (∀ x ∈ xs, 0 ≤ x ∧ x ≤ 255) ∧ (dBy xs).rel (immOf W) v := by
  obtain ⟨a0, l0, c0, rfl⟩ := okWide_slice ht hval
  obtain ⟨fuel, hf⟩ := hd
  rcases DataW.trod_slice ht hf with ⟨h0, _⟩ | ⟨a, len, cap, elems, rest, m, _, h0, hx, _, h1, h2, h3, h4, _, _⟩
  · simp only [Value.cells, List.cons.injEq, and_true] at h0
    exact ⟨[], (fun x hx => by cases hx), none, 0, h0, Nat.le_refl _, Nat.zero_le _, Nat.zero_le _, fun i x hx => by simp at hx⟩
  · simp only [Value.cells, List.cons.injEq, and_true] at h0
    injection hx with hx _
    subst hx
    have hlen : len ≤ 140737488355328 := by
      have h7 := hsz ((elems.length + rest.length) * P.bytesOf e) (by simp [DataW.weights, ht])
      have h9 : reachBytes = 140737488351232 := rfl
      rw [hb] at h7
      omega
    have hel : ∀ i, i < len → ∃ x, (0 ≤ x ∧ x ≤ 255) ∧ W.cell? ((a.add i).add 0) = some (.int .u8 x) := by
      intro i hi
      have h5 := h4 i hi
      rw [List.getElem?_eq_getElem (by omega)] at h5
      obtain ⟨vs, h6, h7⟩ := Option.bind_eq_some_iff.1 h5
      obtain ⟨n, rfl, _, hw⟩ := DataW.trod_int he h7
      rw [hn, Nat.mul_one] at h6
      exact ⟨n, wf_u8 hw, (cells_of h6).2 0 _ rfl⟩
    obtain ⟨xs, hxl, hxs⟩ := list_choose hel
    subst hxl
    refine ⟨xs, fun x hx => by obtain ⟨i, hi⟩ := List.getElem?_of_mem hx; exact (hxs i x hi).1, some a, cap, h0, h1, h2, hlen, fun i x hi => ?_⟩
    have hspot : a.spot = none := by
      have h0 : 0 < xs.length := by have := (List.getElem?_eq_some_iff.1 hi).1; omega
      have := (hxs 0 xs[0] (List.getElem?_eq_getElem h0)).2
      rw [Addr.add_zero', Addr.add_zero'] at this
      exact (at_of_cell (d := dTop) this trivial).1
    refine ⟨a, rfl, hspot, ?_⟩
    have := (hxs i x hi).2
    rw [Addr.add_zero'] at this
    rw [Nat.mul_one]
    exact at_of_cell this rfl

end Go.Q
