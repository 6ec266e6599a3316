/- Contracts of the search of the reference. -/
import Derived.Test.YtmofkofgpeibiaaQRefA
import Derived.Test.YtmofkofgpeibiaaQMap
import Derived.Test.YtmofkofgpeibiaaQOwn5
import Derived.ProofKit
import Derived.SizedLaws
import Derived.Deep.Matrix
import Derived.Lib.SmallJoins
set_option linter.unusedVariables false
set_option linter.unusedSimpArgs false
namespace Go.Q
open Go.Proofs
open Classical
theorem rplace_spec {m : Nat} {H : List (List Int)} (hH : HOk m H) (hm : 1 ≤ m ∧ m ≤ 64) : ∀ (n : Nat) (i : Int) (bk : List Int) (sn : List Bool) (fa : List (Value × List Int)) (vi vs : Value), fa.map (·.2) = inR bk → (0 ≤ i ∧ i < (H.length : Int)) → PlOk m H.length n bk sn →
    Spec Try.prog 44 [dRows H, dVal vi, dInts (List.replicate m 0), dInt .i64 1, dInt .i64 i, dVal vs] (rRow vi 31 1 (fun u => [dSlV u]) (fa.map (·.1)) :: rRow vs 4 1 fBo sn :: fam 3 1 fI fa) (σ := List (Value × List Int)) (fun fb => fb.map (·.2) = inR (placeR (hsF H) n i bk sn).2.1) (fun _ => dB ((placeR (hsF H) n i bk sn).1 = true)) (fun fb => rRow vi 31 1 (fun u => [dSlV u]) (fb.map (·.1)) :: rRow vs 4 1 fBo (placeR (hsF H) n i bk sn).2.2 :: fam 3 1 fI fb) := by
  intro n
  induction n using Nat.strongRecOn with
  | _ n ih =>
  intro i bk sn fa vi vs hfa hi hpl
  have hbl0 := hpl.bl
  have hsl0 := hpl.sl
  have hfl0 : fa.length = m := by rw [← hbl0, ← List.length_map (f := (·.2)), hfa]; simp [inR]
  refine spec_of_body Try.func44 rfl rfl (fun I F => ?_)
  show Run _ _ _ _ _ _ (rRow vi 31 1 (fun u => [dSlV u]) (fa.map (·.1)) :: rRow vs 4 1 fBo sn :: (fam 3 1 fI fa ++ F)) _
  refine run_rowForm .here (by rw [List.length_map]; omega) (fun b1 c1 e1 => ?_)
  refine run_rowForm (.there .here) (by omega) (fun b3 c3 e3 => ?_)
  rw [List.length_map] at e1
  subst e1 e3
  refine au 15 ?_
  refine run_loopE (σ := Nat × List (Value × List Int) × List Int × List Bool) (ks := [0, 1, 2, 3, 4, 5, 20, 21]) (.cons rfl (.cons rfl (.cons rfl (.cons rfl (.cons rfl (.cons rfl (.cons rfl (.cons rfl (.nil))))))))) (fun s => [(22, dInt .i64 (s.1 : Nat))]) (fun s => rRow (.slice (some ⟨b1, 0, none⟩) fa.length c1) 31 1 (fun u => [dSlV u]) (s.2.1.map (·.1)) :: rRow (.slice (some ⟨b3, 0, none⟩) sn.length c3) 4 1 fBo s.2.2.2 :: (fam 3 1 fI s.2.1 ++ F)) (fun s => s.1 ≤ (H[i.toNat]?.getD default).length ∧ s.2.1.map (·.2) = inR s.2.2.1 ∧ PlOk m H.length n s.2.2.1 s.2.2.2 ∧ placeR (hsF H) n i bk sn = placeRL (placeR (hsF H) (n - 1)) i ((hsF H i).drop s.1) s.2.2.1 s.2.2.2) (fun s => (H[i.toNat]?.getD default).length - s.1) ((0, fa, bk, sn)) (⟨Nat.zero_le _, hfa, hpl, placeR_eq (hsF_bd hH) hpl.sl hpl.un⟩) (.cons rfl (by first | exact fun _ _ h => h | exact d_int (by omega) | exact d_int (by simp) | exact d_intN (by omega) | exact d_any) .nil) (rfl) ?_
  rintro s ⟨hk, hsf, hok, he⟩ ih1
  have hbl := hok.bl
  have hsl := hok.sl
  have h4 := (hH.at (i := i.toNat) (by omega)).1
  have hfl : s.2.1.length = m := by rw [← hbl, ← List.length_map (f := (·.2)), hsf]; simp [inR]
  refine au 5 ?_
  refine run_cond rfl (fun h2 => ?_) (fun h2 => ?_)
  ·
   have hbd := hH.home (i := i.toNat) (k := s.1) (by omega) (by omega)
   have hN := homes_next (H := H) (i := i) (k := s.1) (by omega)
   have hq := hok.at (b := ((H[i.toNat]?.getD default)[s.1]?.getD default).toNat) (by omega)
   obtain ⟨pk, hpk⟩ : ∃ pk, s.2.1[((H[i.toNat]?.getD default)[s.1]?.getD default).toNat]? = some pk := ⟨s.2.1[((H[i.toNat]?.getD default)[s.1]?.getD default).toNat]'(by omega), List.getElem?_eq_getElem (by omega)⟩
   have hpk1 : (s.2.1.map (·.1))[((H[i.toNat]?.getD default)[s.1]?.getD default).toNat]?.getD default = pk.1 := by rw [List.getElem?_map, hpk]; rfl
   have hpk2 : pk.2 = inR1 (s.2.2.1[((H[i.toNat]?.getD default)[s.1]?.getD default).toNat]?.getD default) := by have h0 := inR_get (bk := s.2.2.1) (b := ((H[i.toNat]?.getD default)[s.1]?.getD default).toNat) (by omega); rw [← hsf, List.getElem?_map, hpk] at h0; injection h0
   have hml : (s.2.1.map (·.1)).length = m := by rw [List.length_map]; exact hfl
   refine au 17 ?_
   refine run_cond rfl (fun h3 => ?_) (fun h3 => ?_)
   ·
    have hg := h3
    refine au 5 ?_
    exact run_againE ih1 ((s.1 + 1, s.2)) (⟨by simp only; omega, hsf, hok, by rw [he, hN, placeRL, if_pos hg]⟩) (by simp only; omega) (.cons rfl (by first | exact fun _ _ h => h | exact d_int (by omega) | exact d_int (by simp) | exact d_intN (by omega) | exact d_any) .nil) (.cons rfl (fun _ _ x => x) (.cons rfl (fun _ _ x => x) (.cons rfl (fun _ _ x => x) (.cons rfl (fun _ _ x => x) (.cons rfl (fun _ _ x => x) (.cons rfl (fun _ _ x => x) (.cons rfl (fun _ _ x => x) (.cons rfl (fun _ _ x => x) (.nil))))))))) (rfl)
   ·
    have hg := h3
    refine au 6 ?_
    refine run_storeRow1 (e0 := true) rfl (.there .here) rfl dBo_true (by first | omega | assumption) ?_
    refine au 3 ?_
    have hrl : (List.replicate m (0 : Int)).length = m := List.length_replicate
    have hrz : (List.replicate m (0 : Int))[((H[i.toNat]?.getD default)[s.1]?.getD default).toNat]?.getD default = 0 := by rw [List.getElem?_replicate, if_pos (by omega)]; rfl
    have hpl1 : pk.2.length ≤ 1 := by rw [hpk2]; unfold inR1; split <;> simp
    have hplm : pk.2.length + 1 ≤ lenMax := by unfold lenMax; omega
    refine run_inv (fun I w h => fam_out [_, _] ((H[i.toNat]?.getD default)[s.1]?.getD default).toNat hpk h) ?_
    refine dr_start _ (.none) [⟨[(1, none)], [], none⟩,
        ⟨[(14, none)], [], none⟩,
        ⟨[(33, some (0, false)), (34, some (1, false))], [0, 1], none⟩,
        ⟨[(35, some (2, false))], [0, 1, 2], some (1, 0, false)⟩,
        ⟨[(36, some (3, false))], [0, 1, 2, 3], some (0, 0, false)⟩,
        ⟨[(2, none)], [], none⟩,
        ⟨[(14, none)], [], none⟩,
        ⟨[(38, some (5, false)), (39, some (6, false))], [5, 6], none⟩,
        ⟨[(40, some (7, false))], [5, 6, 7], none⟩,
        ⟨[(37, some (4, false)), (41, some (8, false))], [0, 1, 2, 3, 4, 5, 6, 7, 8], none⟩,
        ⟨[(3, none)], [], none⟩,
        ⟨[(42, some (9, false)), (43, some (10, false))], [0, 1, 2, 3, 4, 5, 6, 7, 8, 9, 10], none⟩] [_, _, _] _ rfl rfl ?_
    refine da 3 ?_
    refine dq_read rfl (fun s => .op rfl (.nil)) rfl rfl (fun s hs _ hm => LocP.conv (LocP.upV (loc_loadRow1 rfl hm (by omega))) (congrArg dVal hpk1)) (by exact .nil) ?_
    refine da 8 ?_
    refine dq_end (rs := [_, _, _]) () rfl (fun _ => rfl) (.nil) rfl (fun _ => rfl) (fun _ _ => ?_)
    dsimp only [outG, outM, List.map, List.set, id]
    rw [hrz]
    refine run_cond rfl (fun h4 => ?_) (fun h4 => ?_)
    ·
     have hz : (s.2.2.1[((H[i.toNat]?.getD default)[s.1]?.getD default).toNat]?.getD default) < 0 := by rw [hpk2] at h4; unfold inR1 at h4; by_cases e : (s.2.2.1[((H[i.toNat]?.getD default)[s.1]?.getD default).toNat]?.getD default) < 0; (· exact e); (· rw [if_neg e] at h4; simp only [List.length_singleton] at h4; omega)
     have hp0 : pk.2 = [] := by rw [hpk2]; unfold inR1; rw [if_pos hz]
     have hE : placeR (hsF H) n i bk sn = (true, s.2.2.1.set ((H[i.toNat]?.getD default)[s.1]?.getD default).toNat i, (s.2.2.2.set ((H[i.toNat]?.getD default)[s.1]?.getD default).toNat true)) := by rw [he, hN, placeRL, if_neg hg, if_pos hz]
     refine au 7 ?_
     refine run_op (LocP.conv (LocP.upV (loc_loadRow1 rfl (.there .here) (by omega))) (congrArg dVal hpk1)) rfl ?_
     refine au 1 ?_
     refine run_op (loc_buildSlice rfl rfl (.one rfl (.nil)) rfl rfl) rfl ?_
     refine run_append1 rfl (.here) rfl (by rfl) (by rfl) (by first | omega | (simp [lenMax]; omega) | (simp [lenMax]; done) | assumption) (by first | omega | (simp [lenMax]; omega) | (simp [lenMax]; done) | assumption) rfl (fun v5 => ?_)
     refine runL_rowV (s := 53) rfl (.here) ?_
     refine au 1 ?_
     refine run_storeRow1 rfl (.there (.here)) rfl (by rfl) (by first | omega | assumption) ?_
     refine au 5 ?_
     refine run_inv (M' := rRow (.slice (some ⟨b1, 0, none⟩) fa.length c1) 31 1 (fun u => [dSlV u]) ((s.2.1.set ((H[i.toNat]?.getD default)[s.1]?.getD default).toNat (v5, pk.2 ++ [i])).map (·.1)) :: rRow (.slice (some ⟨b3, 0, none⟩) sn.length c3) 4 1 fBo (s.2.2.2.set ((H[i.toNat]?.getD default)[s.1]?.getD default).toNat true) :: (fam 3 1 fI (s.2.1.set ((H[i.toNat]?.getD default)[s.1]?.getD default).toNat (v5, pk.2 ++ [i])) ++ F)) (fun I w h => by have h2 := fam_in [_, _] ((H[i.toNat]?.getD default)[s.1]?.getD default).toNat (p := (v5, pk.2 ++ [i])) (by omega) h; rw [List.map_set]; exact h2) ?_
     refine run_ret (s.2.1.set ((H[i.toNat]?.getD default)[s.1]?.getD default).toNat (v5, pk.2 ++ [i])) Try.func44 rfl rfl ?_ (by rw [hE, List.map_set, hsf, inR_set hi.1, hp0]; rfl) (fun _ _ h => by rw [hE]; exact h)
     exact d_B (by rw [hE]; simp)
    ·
     have hz : ¬ (s.2.2.1[((H[i.toNat]?.getD default)[s.1]?.getD default).toNat]?.getD default) < 0 := fun e => by rw [hpk2] at h4; unfold inR1 at h4; rw [if_pos e] at h4; simp only [List.length_nil] at h4; omega
     have hp1 : pk.2 = [(s.2.2.1[((H[i.toNat]?.getD default)[s.1]?.getD default).toNat]?.getD default)] := by rw [hpk2]; unfold inR1; rw [if_neg hz]
     obtain ⟨hok1, hn0⟩ := hok.seen (b := ((H[i.toNat]?.getD default)[s.1]?.getD default).toNat) (by omega) hg
     refine run_inv (M' := rRow (.slice (some ⟨b1, 0, none⟩) fa.length c1) 31 1 (fun u => [dSlV u]) (s.2.1.map (·.1)) :: rRow (.slice (some ⟨b3, 0, none⟩) sn.length c3) 4 1 fBo (s.2.2.2.set ((H[i.toNat]?.getD default)[s.1]?.getD default).toNat true) :: (fam 3 1 fI s.2.1 ++ F)) (fun I w h => by have h2 := fam_in [_, _] ((H[i.toNat]?.getD default)[s.1]?.getD default).toNat (p := pk) (by omega) h; rw [set_get hpk] at h2; exact h2) ?_
     refine au 6 ?_
     refine run_op (LocP.conv (LocP.upV (loc_loadRow1 rfl .here (by omega))) (congrArg dVal hpk1)) rfl ?_
     refine run_op (loc_lenRow rfl (in_fam [_, _] hpk)) rfl ?_
     refine au 3 ?_
     refine run_loopE (σ := Nat × List (Value × List Int) × List Int × List Bool) (ks := [0, 1, 2, 3, 4, 5, 14, 20, 21, 22, 58, 59]) (.cons rfl (.cons rfl (.cons rfl (.cons rfl (.cons rfl (.cons rfl (.cons rfl (.cons rfl (.cons rfl (.cons rfl (.cons rfl (.cons rfl (.nil))))))))))))) (fun u => [(60, dInt .i64 (u.1 : Nat))]) (fun u => rRow (.slice (some ⟨b1, 0, none⟩) fa.length c1) 31 1 (fun u => [dSlV u]) (u.2.1.map (·.1)) :: rRow (.slice (some ⟨b3, 0, none⟩) sn.length c3) 4 1 fBo u.2.2.2 :: (fam 3 1 fI u.2.1 ++ F)) (fun u => (u.1 = 0 ∧ u.2 = (s.2.1, s.2.2.1, (s.2.2.2.set ((H[i.toNat]?.getD default)[s.1]?.getD default).toNat true))) ∨ (u.1 = 1 ∧ ¬ ((placeR (hsF H) (n - 1)) (s.2.2.1[((H[i.toNat]?.getD default)[s.1]?.getD default).toNat]?.getD default) s.2.2.1 (s.2.2.2.set ((H[i.toNat]?.getD default)[s.1]?.getD default).toNat true)).1 = true ∧ u.2.1.map (·.2) = inR ((placeR (hsF H) (n - 1)) (s.2.2.1[((H[i.toNat]?.getD default)[s.1]?.getD default).toNat]?.getD default) s.2.2.1 (s.2.2.2.set ((H[i.toNat]?.getD default)[s.1]?.getD default).toNat true)).2.1 ∧ u.2.2 = ((placeR (hsF H) (n - 1)) (s.2.2.1[((H[i.toNat]?.getD default)[s.1]?.getD default).toNat]?.getD default) s.2.2.1 (s.2.2.2.set ((H[i.toNat]?.getD default)[s.1]?.getD default).toNat true)).2)) (fun u => 1 - u.1) ((0, s.2.1, s.2.2.1, (s.2.2.2.set ((H[i.toNat]?.getD default)[s.1]?.getD default).toNat true))) (.inl ⟨rfl, rfl⟩) (.cons rfl (by first | exact fun _ _ h => h | exact d_int (by omega) | exact d_int (by simp) | exact d_intN (by omega) | exact d_any) .nil) (rfl) ?_
     intro u hu ih6
     refine au 5 ?_
     refine run_cond rfl (fun h7 => ?_) (fun h7 => ?_)
     ·
      have hu1 : u.1 = 0 := by rw [hp1] at h7; simp only [List.length_singleton] at h7; omega
      obtain ⟨_, hu2⟩ | ⟨hu2, _⟩ := hu; rotate_left; (· omega)
      obtain ⟨u1, u2, u3, u4⟩ := u
      simp only [Prod.mk.injEq] at hu1 hu2
      obtain ⟨rfl, rfl, rfl⟩ := hu2
      subst hu1
      refine au 4 ?_
      have hp1l : pk.2.length = 1 := by rw [hp1]; rfl
      refine au 2 ?_
      refine run_op (loc_indexEl rfl rfl (in_fam [_, _] hpk) (by omega)) rfl ?_
      refine run_op (LocP.conv (loc_loadEl1 rfl (in_fam [_, _] hpk) (by omega)) (congrArg (dInt .i64) (show _ = (s.2.2.1[((H[i.toNat]?.getD default)[s.1]?.getD default).toNat]?.getD default) by rw [hp1]; rfl))) rfl ?_
      refine au 11 ?_
      refine run_opFam rfl (loc_callM (ih (n - 1) (by omega) (s.2.2.1[((H[i.toNat]?.getD default)[s.1]?.getD default).toNat]?.getD default) s.2.2.1 (s.2.2.2.set ((H[i.toNat]?.getD default)[s.1]?.getD default).toNat true) s.2.1 (.slice (some ⟨b1, 0, none⟩) fa.length c1) (.slice (some ⟨b3, 0, none⟩) sn.length c3) hsf ⟨by omega, hq⟩ hok1) rfl) (fun fb hfb => ?_)
      refine au 1 ?_
      have hk2l : ((placeR (hsF H) (n - 1)) (s.2.2.1[((H[i.toNat]?.getD default)[s.1]?.getD default).toNat]?.getD default) s.2.2.1 (s.2.2.2.set ((H[i.toNat]?.getD default)[s.1]?.getD default).toNat true)).2.1.length = m := (placeR_len (m := m)).trans hbl
      have hfbl : fb.length = m := by rw [← hk2l, ← List.length_map (f := (·.2)), hfb]; simp [inR]
      refine run_cond rfl (fun h8 => ?_) (fun h8 => ?_)
      ·
       have hr := h8
       refine au 1 ?_
       have hsame := placeR_same (hsF_bd hH) hok1.bl hok1.sl hr (b := ((H[i.toNat]?.getD default)[s.1]?.getD default).toNat) (by rw [List.getElem?_set_self (by omega)]; rfl)
       obtain ⟨qk, hqk⟩ : ∃ qk, fb[((H[i.toNat]?.getD default)[s.1]?.getD default).toNat]? = some qk := ⟨fb[((H[i.toNat]?.getD default)[s.1]?.getD default).toNat]'(by omega), List.getElem?_eq_getElem (by omega)⟩
       have hqk1 : (fb.map (·.1))[((H[i.toNat]?.getD default)[s.1]?.getD default).toNat]?.getD default = qk.1 := by rw [List.getElem?_map, hqk]; rfl
       have hqk2 : qk.2 = [(s.2.2.1[((H[i.toNat]?.getD default)[s.1]?.getD default).toNat]?.getD default)] := by have h0 := inR_get (bk := ((placeR (hsF H) (n - 1)) (s.2.2.1[((H[i.toNat]?.getD default)[s.1]?.getD default).toNat]?.getD default) s.2.2.1 (s.2.2.2.set ((H[i.toNat]?.getD default)[s.1]?.getD default).toNat true)).2.1) (b := ((H[i.toNat]?.getD default)[s.1]?.getD default).toNat) (by omega); rw [← hfb, List.getElem?_map, hqk, hsame] at h0; have h1 : qk.2 = inR1 (s.2.2.1[((H[i.toNat]?.getD default)[s.1]?.getD default).toNat]?.getD default) := (by injection h0); rw [h1]; unfold inR1; rw [if_neg hz]
       have hqkl : qk.2.length = 1 := by rw [hqk2]; rfl
       have hq2 : qk.2.set 0 i = [i] := by rw [hqk2]; rfl
       refine run_inv (fun I w h => fam_out [_, _] ((H[i.toNat]?.getD default)[s.1]?.getD default).toNat hqk h) ?_
       refine au 4 ?_
       refine run_op (LocP.conv (LocP.upV (loc_loadRow1 rfl (.there .here) (by rw [List.length_map]; omega))) (congrArg dVal hqk1)) rfl ?_
       refine au 2 ?_
       refine run_op (loc_indexEl rfl rfl .here (by omega)) rfl ?_
       refine run_updS0 .here (loc_storeEl i rfl rfl (by intro v hv; cases hv; decide) rfl (by omega)) (fun _ _ => ?_)
       refine au 5 ?_
       have hE : placeR (hsF H) n i bk sn = (true, ((placeR (hsF H) (n - 1)) (s.2.2.1[((H[i.toNat]?.getD default)[s.1]?.getD default).toNat]?.getD default) s.2.2.1 (s.2.2.2.set ((H[i.toNat]?.getD default)[s.1]?.getD default).toNat true)).2.1.set ((H[i.toNat]?.getD default)[s.1]?.getD default).toNat i, ((placeR (hsF H) (n - 1)) (s.2.2.1[((H[i.toNat]?.getD default)[s.1]?.getD default).toNat]?.getD default) s.2.2.1 (s.2.2.2.set ((H[i.toNat]?.getD default)[s.1]?.getD default).toNat true)).2.2) := by rw [he, hN, placeRL, if_neg hg, if_neg hz]; dsimp only; rw [if_pos hr]
       refine run_inv (M' := rRow (.slice (some ⟨b1, 0, none⟩) fa.length c1) 31 1 (fun u => [dSlV u]) ((fb.set ((H[i.toNat]?.getD default)[s.1]?.getD default).toNat (qk.1, [i])).map (·.1)) :: rRow (.slice (some ⟨b3, 0, none⟩) sn.length c3) 4 1 fBo ((placeR (hsF H) (n - 1)) (s.2.2.1[((H[i.toNat]?.getD default)[s.1]?.getD default).toNat]?.getD default) s.2.2.1 (s.2.2.2.set ((H[i.toNat]?.getD default)[s.1]?.getD default).toNat true)).2.2 :: (fam 3 1 fI (fb.set ((H[i.toNat]?.getD default)[s.1]?.getD default).toNat (qk.1, [i])) ++ F)) (fun I w h => by have h1 : Inv I (rRow qk.1 3 1 fI [i] :: _) w := (by rw [← hq2]; exact h); have h2 := fam_in [_, _] ((H[i.toNat]?.getD default)[s.1]?.getD default).toNat (p := (qk.1, [i])) (by omega) h1; rw [List.map_set, set_get (by rw [List.getElem?_map, hqk]; rfl)]; exact h2) ?_
       refine run_ret (fb.set ((H[i.toNat]?.getD default)[s.1]?.getD default).toNat (qk.1, [i])) Try.func44 rfl rfl ?_ (by rw [hE, List.map_set, hfb, inR_set hi.1]) (fun _ _ h => by rw [hE]; exact h)
       exact d_B (by rw [hE]; simp)
      ·
       have hr := h8
       refine au 6 ?_
       exact run_againE ih6 ((1, fb, ((placeR (hsF H) (n - 1)) (s.2.2.1[((H[i.toNat]?.getD default)[s.1]?.getD default).toNat]?.getD default) s.2.2.1 (s.2.2.2.set ((H[i.toNat]?.getD default)[s.1]?.getD default).toNat true)).2)) (.inr ⟨rfl, hr, hfb, rfl⟩) (by simp only; omega) (.cons rfl (by first | exact fun _ _ h => h | exact d_int (by omega) | exact d_int (by simp) | exact d_intN (by omega) | exact d_any) .nil) (.cons rfl (fun _ _ x => x) (.cons rfl (fun _ _ x => x) (.cons rfl (fun _ _ x => x) (.cons rfl (fun _ _ x => x) (.cons rfl (fun _ _ x => x) (.cons rfl (fun _ _ x => x) (.cons rfl (fun _ _ x => x) (.cons rfl (fun _ _ x => x) (.cons rfl (fun _ _ x => x) (.cons rfl (fun _ _ x => x) (.cons rfl (fun _ _ x => x) (.cons rfl (fun _ _ x => x) (.nil))))))))))))) (rfl)
     ·
      have hu1 : u.1 ≠ 0 := by intro e; rw [hp1, e] at h7; simp at h7
      obtain ⟨hu2, _⟩ | ⟨_, hr, hu3, hu4⟩ := hu; (· omega)
      refine au 6 ?_
      exact run_againE ih1 ((s.1 + 1, u.2)) (⟨by simp only; omega, by rw [hu4]; exact hu3, by rw [hu4]; exact (placeR_plok (hsF_bd hH) hq hok1 hr).more (by omega), by rw [hu4, he, hN, placeRL, if_neg hg, if_neg hz]; dsimp only; rw [if_neg hr]⟩) (by simp only; omega) (.cons rfl (by first | exact fun _ _ h => h | exact d_int (by omega) | exact d_int (by simp) | exact d_intN (by omega) | exact d_any) .nil) (.cons rfl (fun _ _ x => x) (.cons rfl (fun _ _ x => x) (.cons rfl (fun _ _ x => x) (.cons rfl (fun _ _ x => x) (.cons rfl (fun _ _ x => x) (.cons rfl (fun _ _ x => x) (.cons rfl (fun _ _ x => x) (.cons rfl (fun _ _ x => x) (.nil))))))))) (rfl)
  ·
   have hN := homes_end (H := H) (i := i) (k := s.1) (by omega)
   refine au 5 ?_
   refine run_ret (s.2.1) Try.func44 rfl rfl ?_ (by rw [he, hN]; exact hsf) (fun _ _ h => by rw [he, hN]; exact h)
   exact d_B (by rw [he, hN]; simp [placeRL])
end Go.Q

namespace Go.Q
open Go.Proofs
open Classical
theorem possible_spec {m : Nat} {H : List (List Int)} (hH : HOk m H) (hm : 1 ≤ m ∧ m ≤ 64) (hq : H.length ≤ 64) : SpecP Try.prog 35 [dRows H, dInt .i64 (m : Nat), dInt .i64 1, dInts (List.replicate m 0)] (dB ((posR (hsF H) m (itsN 0 H.length) (List.replicate m (-1))).1 = true)) := by
  refine specP_of_body Try.func35 rfl rfl (fun I M => ?_)
  refine au 7 ?_
  refine run_new (loc_makeSlice rfl rfl (by first | omega | assumption) (by first | omega | assumption) _ _ rfl (by simp)) rfl (fun b13 _ => ?_)
  refine au 2 ?_
  rw [Int.toNat_natCast]
  refine run_inv (M' := rRow (.slice (some ⟨b13, 0, none⟩) m m) 31 1 (fun u => [dSlV u]) ((List.replicate m ((.slice none 0 0 : Value), ([] : List Int))).map (·.1)) :: (fam 3 1 fI (List.replicate m ((.slice none 0 0 : Value), ([] : List Int))) ++ M)) (fun I w h => fam_nils [_] m (by rw [List.map_replicate]; exact row_nilV h)) ?_
  refine au 4 ?_
  first | refine runL_fact (s := 14) rfl (fun _ _ h => dSl_len h) (fun hlen1 => ?_) | skip
  refine au 4 ?_
  refine run_loopE (σ := Nat × List (Value × List Int) × List Int) (ks := [0, 1, 2, 3, 9, 15]) (.cons rfl (.cons rfl (.cons rfl (.cons rfl (.cons rfl (.cons rfl (.nil))))))) (fun s => [(16, dInt .i64 (s.1 : Nat))]) (fun s => rRow (.slice (some ⟨b13, 0, none⟩) m m) 31 1 (fun u => [dSlV u]) (s.2.1.map (·.1)) :: (fam 3 1 fI s.2.1 ++ M)) (fun s => s.1 ≤ H.length ∧ s.2.1.map (·.2) = inR s.2.2 ∧ BkB m H.length s.2.2 ∧ (posR (hsF H) m (itsN 0 H.length) (List.replicate m (-1))) = posR (hsF H) m (itsN s.1 H.length) s.2.2) (fun s => H.length - s.1) ((0, (List.replicate m ((.slice none 0 0 : Value), ([] : List Int))), List.replicate m (-1))) (⟨Nat.zero_le _, by rw [inR_new, List.map_replicate], fs_start.toBkB, rfl⟩) (.cons rfl (by first | exact fun _ _ h => h | exact d_int (by omega) | exact d_int (by simp) | exact d_intN (by omega) | exact d_any) .nil) (rfl) ?_
  rintro s ⟨hk, hsf, hbk, he⟩ ih2
  have hfl : s.2.1.length = m := by rw [← hbk.bl, ← List.length_map (f := (·.2)), hsf]; simp [inR]
  refine au 5 ?_
  refine run_cond rfl (fun h3 => ?_) (fun h3 => ?_)
  ·
   have hsH : s.1 < H.length := by omega
   refine au 11 ?_
   refine run_new (loc_makeSlice rfl rfl (by omega) (by omega) (fun b : Bool => dB (b = true)) false (by simp [zeroDs, dBo_false]) (by simp)) rfl (fun b20 _ => ?_)
   refine au 3 ?_
   rw [Int.toNat_natCast]
   refine run_front (.there (.here)) ?_
   refine au 7 ?_
   refine run_opFam rfl (loc_callM (rplace_spec hH hm m (s.1 : Nat) s.2.2 (List.replicate m false) s.2.1 _ _ hsf ⟨by omega, by omega⟩ hbk.new) rfl) (fun fb hfb => ?_)
   refine au 2 ?_
   refine run_inv (M' := rRow (.slice (some ⟨b13, 0, none⟩) m m) 31 1 (fun u => [dSlV u]) (fb.map (·.1)) :: (fam 3 1 fI fb ++ M)) (fun I w h => h.sub (.cons_cons _ (.cons _ (.refl _)))) ?_
   refine run_cond rfl (fun h4 => ?_) (fun h4 => ?_)
   ·
    have hr := h4
    refine au 1 ?_
    refine run_inv (M' := M) (fun I w h => h.sub (.cons _ (List.sublist_append_right ..))) ?_
    refine au 3 ?_
    refine run_retP Try.func35 rfl rfl ?_
    exact d_B (by rw [he, posR_no hsH hr]; simp)
   ·
    have hr := Classical.not_not.1 h4
    refine au 6 ?_
    exact run_againE ih2 ((s.1 + 1, fb, (placeR (hsF H) m s.1 s.2.2 (List.replicate m false)).2.1)) (⟨by simp only; omega, hfb, BkB.placeR (hsF_bd hH) (by omega) hbk, by rw [he, posR_yes hsH hr]⟩) (by simp only; omega) (.cons rfl (by first | exact fun _ _ h => h | exact d_int (by omega) | exact d_int (by simp) | exact d_intN (by omega) | exact d_any) .nil) (.cons rfl (fun _ _ x => x) (.cons rfl (fun _ _ x => x) (.cons rfl (fun _ _ x => x) (.cons rfl (fun _ _ x => x) (.cons rfl (fun _ _ x => x) (.cons rfl (fun _ _ x => x) (.nil))))))) (rfl)
  ·
   refine au 2 ?_
   refine run_inv (M' := M) (fun I w h => h.sub (.cons _ (List.sublist_append_right ..))) ?_
   refine au 3 ?_
   refine run_retP Try.func35 rfl rfl ?_
   exact d_B (by rw [he, its_end (by omega)]; simp [posR])
theorem rfirst_spec {m : Nat} {H : List (List Int)} (hH : HOk m H) (hm : 1 ≤ m ∧ m ≤ 64) (hq : H.length ≤ 64) (hno : ¬ (posR (hsF H) m (itsN 0 H.length) (List.replicate m (-1))).1 = true) : SpecP Try.prog 22 [dRows H, dInt .i64 (m : Nat), dInt .i64 1] (dTup [dInts [], dB False]) := by
  refine specP_of_body Try.func22 rfl rfl (fun I M => ?_)
  refine au 8 ?_
  refine run_new (loc_makeSlice rfl rfl (by first | omega | assumption) (by first | omega | assumption) _ _ rfl (by simp)) rfl (fun b1 _ => ?_)
  refine au 4 ?_
  rw [Int.toNat_natCast]
  refine run_freezeRow (s := 8) rfl (.here) ?_
  refine au 5 ?_
  refine run_op (loc_call (possible_spec hH hm hq) rfl) rfl ?_
  refine au 2 ?_
  refine run_cond rfl (fun h2 => ?_) (fun h2 => ?_)
  ·
   refine au 5 ?_
   refine run_ret2P Try.func22 rfl rfl rfl ?_
   exact d_tup2 d_nil (fun _ _ h => h)
  · exfalso; exact h2 hno
theorem rassign_spec (h : Hsh) (hh : okH h) (its : List Int) (hi : ∀ n ∈ its, okIt n) (hl : its.length ≤ 64) (he : asgE h its ≠ 0) : SpecP Try.prog 10 [dHsh h, dInts its] (dTup [dAgg [dInts []], dInt .i64 (asgE h its)]) := by
  have hm1 := hh.1
  have hp1 := hh.2.1
  have hq1 := hh.2.2
  refine specP_of_body Try.func10 rfl rfl (fun I M => ?_)
  refine au 3 ?_
  refine run_new (loc_allocOwn (by simp)) rfl (fun b1 _ => ?_)
  refine au 6 ?_
  refine run_op (loc_call (rall_spec h hh its hi (by omega)) rfl) rfl ?_
  refine au 12 ?_
  refine run_cond rfl (fun h2 => ?_) (fun h2 => ?_)
  · exfalso; exact h2 rfl
  ·
   refine au 5 ?_
   first | refine runL_fact (s := 24) rfl (fun _ _ h => dSl_len h) (fun hlen3 => ?_) | skip
   refine au 5 ?_
   refine run_cond rfl (fun h4 => ?_) (fun h4 => ?_)
   ·
    have hE : asgE h its = 4 := by unfold asgE; rw [if_pos (by omega)]
    refine au 6 ?_
    refine run_retGP Try.func10 rfl (.cellN rfl (.here) (by rfl) (.tmp rfl (.nil))) ?_ (fun _ _ h => inv_tail (h))
    exact d_tup2 (d_aggU (.cons d_nil .nil)) (d_int hE.symm)
   ·
    have hE : asgE h its = 15 ∧ ¬ (firstH h its).1 = true := by unfold asgE at he ⊢; rw [if_neg (by omega)] at he ⊢; split at he; (· exact absurd rfl he); (· rename_i g; exact ⟨by rw [if_neg g], g⟩)
    refine au 6 ?_
    refine runL_recast (s := 33) rfl (d_int (n := ((h.m.toNat : Nat) : Int)) (by omega)) ?_
    refine run_op (loc_call (rfirst_spec (homes_ok hh its) (by omega) (by rw [List.length_map]; exact hl) (by rw [List.length_map]; exact first_pos hh hE.2)) rfl) rfl ?_
    refine au 12 ?_
    refine run_cond rfl (fun h5 => ?_) (fun h5 => ?_)
    ·
     refine au 6 ?_
     refine run_retGP Try.func10 rfl (.cellN rfl (.here) (by rfl) (.tmp rfl (.nil))) ?_ (fun _ _ h => inv_tail (h))
     exact d_tup2 (d_aggU (.cons d_nil .nil)) (d_int hE.1.symm)
    · exfalso; exact h5 (fun h => h)
end Go.Q

namespace Go.Q
structure PlanF (h : Hsh) (n : Nat) (rows : List Int) (B : Bat) : Prop where
 ok : BatOk B
 put : ∀ i : Nat, i < B.it.length → 0 ≤ B.it[i]?.getD default → B.it[i]?.getD default < (rows.length : Int) ∧ (0 ≤ B.pr[i]?.getD default ∧ B.pr[i]?.getD default < ((B.bk[i]?.getD default).length : Int)) ∧ (B.bk[i]?.getD default)[(B.pr[i]?.getD default).toNat]?.getD default = rows[(B.it[i]?.getD default).toNat]?.getD default
 low : ∀ i : Nat, i < B.it.length → ¬ 0 ≤ B.it[i]?.getD default → B.it[i]?.getD default = -1
 one : ∀ j : Nat, j < rows.length → B.it.count (j : Int) = 1
 home : ∀ r : Nat, r < n → ∀ b ∈ homesI h (r : Nat), (0 ≤ b ∧ b < (B.bk.length : Int)) ∧ ((r : Nat) : Int) ∈ B.bk[b.toNat]?.getD default
theorem plan_facts {h : Hsh} (hh : okH h) {n : Nat} (hn : n ≤ 1024) {rows : List Int} (hr : ∀ r ∈ rows, 0 ≤ r ∧ r < (n : Int)) (hl : 1 ≤ rows.length ∧ rows.length ≤ 12) (he : asgE h rows = 0) : PlanF h n rows (planB h n rows) := by
 have hA := asg_ok hh he
 have hok := plan_ok hh hn hr hl he
 have hll := layF_len h n
 have hB : planB h n rows = ⟨layF h n, prK (layF h n) rows (asgB h rows) (layF h n).length, asgB h rows⟩ := by unfold planB; rw [if_pos he]
 rw [hB] at hok ⊢
 have hit : ∀ i : Nat, i < (asgB h rows).length → ∃ x, (asgB h rows)[i]? = some x ∧ (asgB h rows)[i]?.getD default = x ∧ (x = -1 ∨ (0 ≤ x ∧ x < (rows.length : Int))) := fun i hi => ⟨(asgB h rows)[i], List.getElem?_eq_getElem hi, by rw [List.getElem?_eq_getElem hi]; rfl, hA.low _ (List.getElem_mem hi)⟩
 refine ⟨hok, fun i hi h0 => ?_, fun i hi h0 => ?_, hA.all, fun r hr' b hb => ?_⟩
 ·simp only at hi h0 ⊢
  obtain ⟨x, h1, h2, h3⟩ := hit i hi
  rw [h2] at h0 ⊢
  have hi' : i < (layF h n).length := by rw [hll, ← hA.len]; exact hi
  rw [prK_get hi', h2]
  have h4 := plan_at hh hr he (i := i) (j := x.toNat) (by rw [h1]; congr 1; omega) (by omega)
  rw [show ((x.toNat : Nat) : Int) = x by omega] at h4
  exact ⟨by omega, ⟨h4.1, h4.2.1⟩, h4.2.2⟩
 ·simp only at hi h0 ⊢
  obtain ⟨x, h1, h2, h3⟩ := hit i hi
  rw [h2] at h0 ⊢
  omega
 ·have hbd := homesI_bd hh _ b hb
  exact ⟨⟨hbd.1, by simp only [hll]; omega⟩, layF_home hh n hr' b hb⟩
def cntL (l : List Int) (q : Nat) : List Int := (List.range q).map fun j => ((l.count ((j : Nat) : Int) : Nat) : Int)
theorem cntL_len (l : List Int) (q : Nat) : (cntL l q).length = q := by simp [cntL]
theorem cntL_nil (q : Nat) : cntL [] q = List.replicate q 0 := by
 unfold cntL
 refine List.ext_getElem (by simp) fun i h1 h2 => ?_
 simp
theorem cntL_get {l : List Int} {q j : Nat} (h : j < q) : (cntL l q)[j]?.getD default = ((l.count ((j : Nat) : Int) : Nat) : Int) := by
 unfold cntL; rw [List.getElem?_map, List.getElem?_range h]; rfl
theorem cntL_at {l : List Int} {q i : Nat} (h : i < (cntL l q).length) : (cntL l q)[i] = ((l.count ((i : Nat) : Int) : Nat) : Int) := by simp [cntL]
theorem cntL_bd (l : List Int) {q j : Nat} (h : j < q) : 0 ≤ (cntL l q)[j]?.getD default ∧ (cntL l q)[j]?.getD default ≤ (l.length : Int) := by
 have := List.count_le_length (a := ((j : Nat) : Int)) (l := l)
 rw [cntL_get h]; omega
theorem cntL_yes {l : List Int} {q k : Nat} (hk : k < l.length) (h0 : 0 ≤ l[k]?.getD default) (hq : l[k]?.getD default < (q : Int)) : cntL (l.take (k + 1)) q = (cntL (l.take k) q).set (l[k]?.getD default).toNat ((cntL (l.take k) q)[(l[k]?.getD default).toNat]?.getD default + 1) := by
 rw [cntL_get (by omega)]
 obtain ⟨v, hv⟩ : ∃ v, l[k]? = some v := ⟨l[k], List.getElem?_eq_getElem hk⟩
 rw [hv] at h0 hq ⊢
 simp only [Option.getD_some] at h0 hq ⊢
 refine List.ext_getElem (by rw [List.length_set, cntL_len, cntL_len]) fun i h1 h2 => ?_
 rw [List.getElem_set, cntL_at, cntL_at, List.take_add_one, hv, List.count_append]
 split
 ·rename_i hi
  have e1 : v = ((i : Nat) : Int) := by omega
  rw [show ((v.toNat : Nat) : Int) = ((i : Nat) : Int) by omega, e1]
  simp
 ·rename_i hi
  have e1 : ¬ v = ((i : Nat) : Int) := by omega
  simp [e1]
theorem cntL_no {l : List Int} {q k : Nat} (hk : k < l.length) (h0 : l[k]?.getD default = -1) : cntL (l.take (k + 1)) q = cntL (l.take k) q := by
 have e : l[k]?.getD default = l[k] := by rw [List.getElem?_eq_getElem hk]; rfl
 unfold cntL
 refine List.map_congr_left fun i hi => ?_
 rw [List.take_add_one, List.getElem?_eq_getElem hk, List.count_append]
 have : ¬ l[k] = ((i : Nat) : Int) := by omega
 simp [this]
theorem ex_takeE {l : List Int} {k : Nat} {r : Int} (h : k < l.length) : (∃ x ∈ l.take (k + 1), x = r) ↔ (∃ x ∈ l.take k, x = r) ∨ l[k]?.getD default = r := by
 rw [List.take_add_one, List.getElem?_eq_getElem h]
 simp only [List.mem_append, Option.toList_some, List.mem_singleton, Option.getD_some]
 constructor
 ·rintro ⟨x, h1 | h1, h2⟩
  ·exact .inl ⟨x, h1, h2⟩
  ·subst h1; exact .inr h2
 ·rintro (⟨x, h1, h2⟩ | h2)
  ·exact ⟨x, .inl h1, h2⟩
  ·exact ⟨_, .inr rfl, h2⟩
end Go.Q

namespace Go.Q
open Go.Proofs
open Classical
theorem dice_okP {xs : List Int} (h : ∀ x ∈ xs, 0 ≤ x ∧ x ≤ 255) : okDc ⟨xs.take 300, 0⟩ := ⟨fun x hm => h x (List.mem_of_mem_take hm), by simp; omega⟩
theorem batchPlaces_spec (xs : List Int) (hx : ∀ x ∈ xs, 0 ≤ x ∧ x ≤ 255) : SpecP Try.prog 3 [dBy xs] (dB True) := by
  refine specP_of_body Try.func3 rfl rfl (fun I M => ?_)
  refine au 7 ?_
  refine run_op (loc_call (sane34_spec) rfl) rfl ?_
  refine au 2 ?_
  refine run_cond rfl (fun h1 => ?_) (fun h1 => ?_)
  · exfalso; exact h1 trivial
  ·
   refine au 4 ?_
   refine run_callN rfl (dnew_spec _) rfl (fun bd hbd => ?_)
   refine au 5 ?_
   refine run_callM rfl (.here) (dhashing_spec bd _ (dice_okP hx)) rfl (fun hs hhs => ?_)
   refine run_new (loc_allocOwn (by simp)) rfl (fun b2 _ => ?_)
   refine au 2 ?_
   have hs9 := hhs
   refine au 1 ?_
   have hv6 := Dc.val_lt (d := hs.2) (n := 6) (by omega)
   have hw6 := Dc.val_nonneg (d := hs.2) (n := 6) (by omega)
   obtain ⟨N, hN⟩ : ∃ N : Nat, (N : Int) = 1 + hs.2.val 6 := ⟨(1 + hs.2.val 6).toNat, by omega⟩
   refine au 2 ?_
   refine run_callM rfl (.there (.here)) (pick_spec bd _ _ hs9.2.2 (by omega)) rfl (fun s3 hs3 => ?_)
   refine au 3 ?_
   rw [← hN]
   refine au 4 ?_
   refine run_callM rfl (.there (.here)) (drows34_spec bd _ (Dc.next_ok hs9.2.2) _ (by omega)) rfl (fun rw9 hrw9 => ?_)
   refine au 2 ?_
   have hr9 := hrw9
   have hrl := hr9.1.1
   refine au 5 ?_
   refine run_op (loc_call (plan_spec hs.1 hs9.1 N (by omega) rw9.1 hr9.1.2 (by omega)) rfl) rfl ?_
   refine au 3 ?_
   refine run_new (loc_allocOwn (by simp)) rfl (fun b4 _ => ?_)
   refine au 9 ?_
   refine run_cond rfl (fun h5 => ?_) (fun h5 => ?_)
   ·
    have c1 := h5
    refine au 4 ?_
    refine run_op (loc_call (rassign_spec hs.1 hs9.1 rw9.1 (fun x hx => by have := hr9.1.2 x hx; unfold okIt; omega) (by omega) c1) rfl) rfl ?_
    refine au 3 ?_
    refine run_new (loc_allocOwn (by simp)) rfl (fun b6 _ => ?_)
    refine au 10 ?_
    refine run_drop (.cons _ (.cons _ (.cons _ (.cons _ (.refl _))))) ?_
    refine run_retP Try.func3 rfl rfl ?_
    exact d_B (by simp)
   ·
    have c1 : asgE hs.1 rw9.1 = 0 := Classical.not_not.1 h5
    have hF := plan_facts hs9.1 (by omega) hr9.1.2 (by omega) c1
    generalize planB hs.1 N rw9.1 = B at *
    have hbm := hF.ok.most
    have hpl := hF.ok.prl
    have hil := hF.ok.itl
    refine au 4 ?_
    first | refine runL_fact (s := 53) rfl (fun _ _ h => dSl_len h) (fun hlen7 => ?_) | skip
    refine au 1 ?_
    refine run_new (loc_makeSlice rfl rfl (by first | omega | assumption) (by first | omega | assumption) _ _ rfl (by simp)) rfl (fun b55 _ => ?_)
    refine au 7 ?_
    first | refine runL_fact (s := 57) rfl (fun _ _ h => dSl_len h) (fun hlen8 => ?_) | skip
    refine au 4 ?_
    rw [Int.toNat_natCast, ← cntL_nil]
    refine run_loopF (σ := Nat) (ks := [4, 5, 6, 7, 11, 58]) (.cons rfl (.cons rfl (.cons rfl (.cons rfl (.cons rfl (.cons rfl (.nil))))))) (fun k => [(59, dInt .i64 (k : Nat))]) (fun k => [rRow (.slice (some ⟨b55, 0, none⟩) rw9.1.length rw9.1.length) 3 1 fI (cntL (B.it.take k) rw9.1.length)]) (fun k => k ≤ B.it.length) (fun k => B.it.length - k) (0) ((by omega)) (.cons rfl (by first | exact fun _ _ h => h | exact d_int (by omega) | exact d_int (by simp) | exact d_intN (by omega) | exact d_any) .nil) (rfl) ?_
    intro k hk ih9
    have hcl := cntL_len (B.it.take k) rw9.1.length
    refine au 5 ?_
    refine run_cond rfl (fun h10 => ?_) (fun h10 => ?_)
    ·
     have hki : k < B.it.length := by omega
     refine au 22 ?_
     refine run_cond rfl (fun h11 => ?_) (fun h11 => ?_)
     ·
      have hp := hF.put k hki h11
      have hcv := cntL_bd (B.it.take k) (q := rw9.1.length) (j := (B.it[k]?.getD default).toNat) (by omega)
      rw [List.length_take] at hcv
      refine au 2 ?_
      refine dr_start _ (.none) [⟨[(13, none)], [], none⟩,
          ⟨[(6, none)], [], none⟩,
          ⟨[(70, some (1, false))], [1], none⟩,
          ⟨[(69, some (0, false)), (71, some (2, false))], [0, 1, 2], none⟩,
          ⟨[(72, some (3, false))], [0, 1, 2, 3], none⟩,
          ⟨[(7, none)], [0, 1, 2, 3, 4], none⟩,
          ⟨[(74, some (5, true))], [0, 1, 2, 3, 4, 5], some (1, 0, false)⟩,
          ⟨[(12, none)], [0, 1, 2, 3, 4], none⟩,
          ⟨[(75, some (6, true)), (76, some (7, true))], [0, 1, 2, 3, 4, 5, 6, 7], none⟩,
          ⟨[(77, some (8, true))], [0, 1, 2, 3, 4, 5, 6, 7, 8], none⟩,
          ⟨[(78, some (9, true))], [0, 1, 2, 3, 4, 5, 6, 7, 8, 9], none⟩,
          ⟨[(73, some (4, false)), (79, some (10, false))], [0, 1, 2, 3, 4, 5, 6, 7, 8, 9, 10], none⟩,
          ⟨[(80, some (11, false))], [0, 1, 2, 3, 4, 5, 6, 7, 8, 9, 10, 11], none⟩,
          ⟨[(7, none)], [0, 1, 2, 3, 4, 5, 6, 7, 8, 9, 10, 11, 12], none⟩,
          ⟨[(82, some (13, true))], [0, 1, 2, 3, 4, 5, 6, 7, 8, 9, 10, 11, 12, 13], some (1, 0, false)⟩,
          ⟨[(12, none)], [0, 1, 2, 3, 4, 5, 6, 7, 8, 9, 10, 11, 12], none⟩,
          ⟨[(83, some (14, true)), (84, some (15, true))], [0, 1, 2, 3, 4, 5, 6, 7, 8, 9, 10, 11, 12, 13, 14, 15], none⟩,
          ⟨[(85, some (16, true))], [0, 1, 2, 3, 4, 5, 6, 7, 8, 9, 10, 11, 12, 13, 14, 15, 16], none⟩,
          ⟨[(7, none)], [0, 1, 2, 3, 4, 5, 6, 7, 8, 9, 10, 11, 12], none⟩,
          ⟨[(87, some (18, true))], [0, 1, 2, 3, 4, 5, 6, 7, 8, 9, 10, 11, 12, 18], some (1, 0, false)⟩,
          ⟨[(12, none)], [0, 1, 2, 3, 4, 5, 6, 7, 8, 9, 10, 11, 12], none⟩,
          ⟨[(88, some (19, true)), (89, some (20, true))], [0, 1, 2, 3, 4, 5, 6, 7, 8, 9, 10, 11, 12, 18, 19, 20], none⟩,
          ⟨[(90, some (21, true))], [0, 1, 2, 3, 4, 5, 6, 7, 8, 9, 10, 11, 12, 18, 19, 20, 21], none⟩,
          ⟨[(91, some (22, true))], [0, 1, 2, 3, 4, 5, 6, 7, 8, 9, 10, 11, 12, 18, 19, 20, 21, 22], none⟩,
          ⟨[(86, some (17, true)), (92, some (23, true))], [0, 1, 2, 3, 4, 5, 6, 7, 8, 9, 10, 11, 12, 13, 14, 15, 16, 17, 18, 19, 20, 21, 22, 23], none⟩,
          ⟨[(81, some (12, false)), (93, some (24, false))], [0, 1, 2, 3, 4, 5, 6, 7, 8, 9, 10, 11, 12, 13, 14, 15, 16, 17, 18, 19, 20, 21, 22, 23, 24], none⟩,
          ⟨[(94, some (25, false))], [0, 1, 2, 3, 4, 5, 6, 7, 8, 9, 10, 11, 12, 13, 14, 15, 16, 17, 18, 19, 20, 21, 22, 23, 24, 25], none⟩,
          ⟨[(7, none)], [0, 1, 2, 3, 4, 5, 6, 7, 8, 9, 10, 11, 12, 13, 14, 15, 16, 17, 18, 19, 20, 21, 22, 23, 24, 25, 26], none⟩,
          ⟨[(96, some (27, true))], [0, 1, 2, 3, 4, 5, 6, 7, 8, 9, 10, 11, 12, 13, 14, 15, 16, 17, 18, 19, 20, 21, 22, 23, 24, 25, 26, 27], some (1, 0, false)⟩,
          ⟨[(12, none)], [0, 1, 2, 3, 4, 5, 6, 7, 8, 9, 10, 11, 12, 13, 14, 15, 16, 17, 18, 19, 20, 21, 22, 23, 24, 25, 26], none⟩,
          ⟨[(97, some (28, true)), (98, some (29, true))], [0, 1, 2, 3, 4, 5, 6, 7, 8, 9, 10, 11, 12, 13, 14, 15, 16, 17, 18, 19, 20, 21, 22, 23, 24, 25, 26, 27, 28, 29], none⟩,
          ⟨[(99, some (30, true))], [0, 1, 2, 3, 4, 5, 6, 7, 8, 9, 10, 11, 12, 13, 14, 15, 16, 17, 18, 19, 20, 21, 22, 23, 24, 25, 26, 27, 28, 29, 30], none⟩,
          ⟨[(7, none)], [0, 1, 2, 3, 4, 5, 6, 7, 8, 9, 10, 11, 12, 13, 14, 15, 16, 17, 18, 19, 20, 21, 22, 23, 24, 25, 26], none⟩,
          ⟨[(101, some (32, true))], [0, 1, 2, 3, 4, 5, 6, 7, 8, 9, 10, 11, 12, 13, 14, 15, 16, 17, 18, 19, 20, 21, 22, 23, 24, 25, 26, 32], some (1, 0, false)⟩,
          ⟨[(12, none)], [0, 1, 2, 3, 4, 5, 6, 7, 8, 9, 10, 11, 12, 13, 14, 15, 16, 17, 18, 19, 20, 21, 22, 23, 24, 25, 26], none⟩,
          ⟨[(102, some (33, true)), (103, some (34, true))], [0, 1, 2, 3, 4, 5, 6, 7, 8, 9, 10, 11, 12, 13, 14, 15, 16, 17, 18, 19, 20, 21, 22, 23, 24, 25, 26, 32, 33, 34], none⟩,
          ⟨[(104, some (35, true))], [0, 1, 2, 3, 4, 5, 6, 7, 8, 9, 10, 11, 12, 13, 14, 15, 16, 17, 18, 19, 20, 21, 22, 23, 24, 25, 26, 32, 33, 34, 35], none⟩,
          ⟨[(100, some (31, true)), (105, some (36, true))], [0, 1, 2, 3, 4, 5, 6, 7, 8, 9, 10, 11, 12, 13, 14, 15, 16, 17, 18, 19, 20, 21, 22, 23, 24, 25, 26, 27, 28, 29, 30, 31, 32, 33, 34, 35, 36], none⟩,
          ⟨[(106, some (37, true))], [0, 1, 2, 3, 4, 5, 6, 7, 8, 9, 10, 11, 12, 13, 14, 15, 16, 17, 18, 19, 20, 21, 22, 23, 24, 25, 26, 27, 28, 29, 30, 31, 32, 33, 34, 35, 36, 37], none⟩,
          ⟨[(6, none)], [0, 1, 2, 3, 4, 5, 6, 7, 8, 9, 10, 11, 12, 13, 14, 15, 16, 17, 18, 19, 20, 21, 22, 23, 24, 25, 26], none⟩,
          ⟨[(13, none)], [0, 1, 2, 3, 4, 5, 6, 7, 8, 9, 10, 11, 12, 13, 14, 15, 16, 17, 18, 19, 20, 21, 22, 23, 24, 25, 26], none⟩,
          ⟨[(108, some (39, true)), (109, some (40, true))], [0, 1, 2, 3, 4, 5, 6, 7, 8, 9, 10, 11, 12, 13, 14, 15, 16, 17, 18, 19, 20, 21, 22, 23, 24, 25, 26, 39, 40], none⟩,
          ⟨[(110, some (41, true))], [0, 1, 2, 3, 4, 5, 6, 7, 8, 9, 10, 11, 12, 13, 14, 15, 16, 17, 18, 19, 20, 21, 22, 23, 24, 25, 26, 39, 40, 41], none⟩,
          ⟨[(107, some (38, true)), (111, some (42, true))], [0, 1, 2, 3, 4, 5, 6, 7, 8, 9, 10, 11, 12, 13, 14, 15, 16, 17, 18, 19, 20, 21, 22, 23, 24, 25, 26, 27, 28, 29, 30, 31, 32, 33, 34, 35, 36, 37, 38, 39, 40, 41, 42], none⟩,
          ⟨[(95, some (26, false)), (112, some (43, false))], [0, 1, 2, 3, 4, 5, 6, 7, 8, 9, 10, 11, 12, 13, 14, 15, 16, 17, 18, 19, 20, 21, 22, 23, 24, 25, 26, 27, 28, 29, 30, 31, 32, 33, 34, 35, 36, 37, 38, 39, 40, 41, 42, 43], none⟩] [_, _, _, _] _ rfl rfl ?_
      refine da 6 ?_
      refine dq_gread rfl (fun s => .opU rfl (.nil)) rfl rfl rfl (fun _ => gdI.ok) (fun s hs hg _ hm => loc_loadOwn1 rfl hm (by rfl)) (by exact .nil) ?_
      refine da 7 ?_
      refine dq_gread rfl (fun s => .opU rfl (.nil)) rfl rfl rfl (fun _ => gdI.ok) (fun s hs hg _ hm => loc_loadOwn1 rfl hm (by rfl)) (by exact .nil) ?_
      refine da 4 ?_
      refine dq_gread rfl (fun s => .opU rfl (.nil)) rfl rfl rfl (fun _ => gdI.ok) (fun s hs hg _ hm => loc_loadOwn1 rfl hm (by rfl)) (by exact .nil) ?_
      refine da 8 ?_
      refine dq_gread rfl (fun s => .opU rfl (.nil)) rfl rfl rfl (fun _ => gdI.ok) (fun s hs hg _ hm => loc_loadOwn1 rfl hm (by rfl)) (by exact .nil) ?_
      refine da 4 ?_
      refine dq_gread rfl (fun s => .opU rfl (.nil)) rfl rfl rfl (fun _ => gdI.ok) (fun s hs hg _ hm => loc_loadOwn1 rfl hm (by rfl)) (by exact .nil) ?_
      refine da 11 ?_
      refine dq_end (rs := [_, _, _, _]) () rfl (fun _ => rfl) (.nil) rfl (fun _ => rfl) (fun _ _ => ?_)
      dsimp only [outG, outM, List.map, List.set, id]
      refine run_cond rfl (fun h12 => ?_) (fun h12 => ?_)
      · exfalso; have := h12; omega
      ·
       refine au 8 ?_
       refine run_storeRow1 rfl (.here) rfl (by rfl) (by first | omega | assumption) ?_
       refine au 6 ?_
       exact run_againF ih9 (k + 1) (by omega) (by omega) (.cons rfl (by first | exact fun _ _ h => h | exact d_int (by omega) | exact d_int (by simp) | exact d_intN (by omega) | exact d_any) .nil) (.cons rfl (fun _ _ x => x) (.cons rfl (fun _ _ x => x) (.cons rfl (fun _ _ x => x) (.cons rfl (fun _ _ x => x) (.cons rfl (fun _ _ x => x) (.cons rfl (fun _ _ x => x) (.nil))))))) (by simp only [appR]; rw [cntL_yes hki (by omega) hp.1]; try rfl)
     ·
      have hlo := hF.low k hki h11
      refine au 6 ?_
      exact run_againF ih9 (k + 1) (by omega) (by omega) (.cons rfl (by first | exact fun _ _ h => h | exact d_int (by omega) | exact d_int (by simp) | exact d_intN (by omega) | exact d_any) .nil) (.cons rfl (fun _ _ x => x) (.cons rfl (fun _ _ x => x) (.cons rfl (fun _ _ x => x) (.cons rfl (fun _ _ x => x) (.cons rfl (fun _ _ x => x) (.cons rfl (fun _ _ x => x) (.nil))))))) (by simp only [appR]; rw [cntL_no hki hlo])
    ·
     refine au 3 ?_
     have hall : B.it.take k = B.it := List.take_of_length_le (by omega)
     rw [hall]
     refine au 5 ?_
     rw [cntL_len]
     refine au 1 ?_
     refine run_loopC (σ := Nat) (ks := [4, 5, 7, 11, 122]) (.cons rfl (.cons rfl (.cons rfl (.cons rfl (.cons rfl (.nil)))))) (fun j => [(123, dInt .i64 (j : Nat))]) (fun j => j ≤ rw9.1.length) (fun j => rw9.1.length - j) (0) ((by omega)) (.cons rfl (by first | exact fun _ _ h => h | exact d_int (by omega) | exact d_int (by simp) | exact d_intN (by omega) | exact d_any) .nil) ?_
     intro j hj ih13
     refine au 5 ?_
     refine run_cond rfl (fun h14 => ?_) (fun h14 => ?_)
     ·
      have hjn : j < rw9.1.length := by omega
      have hcl2 := cntL_len B.it rw9.1.length
      have hj1 := hF.one j hjn
      have hjc : (cntL B.it rw9.1.length)[j]?.getD default = 1 := by rw [cntL_get hjn, hj1]; rfl
      refine au 16 ?_
      refine run_cond rfl (fun h15 => ?_) (fun h15 => ?_)
      · exfalso; exact h15 hjc
      ·
       refine au 6 ?_
       exact run_againC ih13 (j + 1) (by omega) (by omega) (.cons rfl (by first | exact fun _ _ h => h | exact d_int (by omega) | exact d_int (by simp) | exact d_intN (by omega) | exact d_any) .nil) (.cons rfl (fun _ _ x => x) (.cons rfl (fun _ _ x => x) (.cons rfl (fun _ _ x => x) (.cons rfl (fun _ _ x => x) (.cons rfl (fun _ _ x => x) (.nil))))))
     ·
      refine au 7 ?_
      refine run_loopC (σ := Nat) (ks := [4, 5, 7]) (.cons rfl (.cons rfl (.cons rfl (.nil)))) (fun r => [(15, dInt .i64 (r : Nat))]) (fun r => r ≤ N) (fun r => N - r) (0) (Nat.zero_le _) (.cons rfl (by first | exact fun _ _ h => h | exact d_int (by omega) | exact d_int (by simp) | exact d_intN (by omega) | exact d_any) .nil) ?_
      intro r hrN ih16
      refine au 7 ?_
      refine run_cond rfl (fun h17 => ?_) (fun h17 => ?_)
      ·
       have hrn : r < N := by omega
       have hol := homesI_len hs.1 (r : Nat)
       have hps := hs9.1.2.1
       refine au 7 ?_
       refine run_op (loc_call (rhomes_spec hs.1 hs9.1 _ ⟨by omega, by omega⟩) rfl) rfl ?_
       refine au 9 ?_
       first | refine runL_fact (s := 143) rfl (fun _ _ h => dSl_len h) (fun hlen18 => ?_) | skip
       refine au 4 ?_
       refine run_loopC (σ := Nat) (ks := [4, 5, 7, 15, 143, 144]) (.cons rfl (.cons rfl (.cons rfl (.cons rfl (.cons rfl (.cons rfl (.nil))))))) (fun u => [(145, dInt .i64 (u : Nat))]) (fun u => u ≤ (homesI hs.1 (r : Nat)).length) (fun u => (homesI hs.1 (r : Nat)).length - u) (0) ((by omega)) (.cons rfl (by first | exact fun _ _ h => h | exact d_int (by omega) | exact d_int (by simp) | exact d_intN (by omega) | exact d_any) .nil) ?_
       intro u hu ih19
       refine au 5 ?_
       refine run_cond rfl (fun h20 => ?_) (fun h20 => ?_)
       ·
        have hhm := hF.home r hrn _ (getD_mem (xs := homesI hs.1 (r : Nat)) (k := u) (by omega))
        refine au 21 ?_
        first | refine runL_fact (s := 153) rfl (fun _ _ h => dSl_len h) (fun hlen21 => ?_) | skip
        refine au 4 ?_
        refine run_loopC (σ := Nat) (ks := [4, 5, 7, 15, 143, 144, 145, 153, 154]) (.cons rfl (.cons rfl (.cons rfl (.cons rfl (.cons rfl (.cons rfl (.cons rfl (.cons rfl (.cons rfl (.nil)))))))))) (fun z => [(20, dB (∃ x ∈ (B.bk[((homesI hs.1 (r : Nat))[u]?.getD default).toNat]?.getD default).take z, x = (r : Nat))), (155, dInt .i64 (z : Nat))]) (fun z => z ≤ (B.bk[((homesI hs.1 (r : Nat))[u]?.getD default).toNat]?.getD default).length) (fun z => (B.bk[((homesI hs.1 (r : Nat))[u]?.getD default).toNat]?.getD default).length - z) (0) (Nat.zero_le _) (.cons rfl (d_B (by simp)) (.cons rfl (by first | exact fun _ _ h => h | exact d_int (by omega) | exact d_int (by simp) | exact d_intN (by omega) | exact d_any) .nil)) ?_
        intro z hz ih22
        refine au 5 ?_
        refine run_cond rfl (fun h23 => ?_) (fun h23 => ?_)
        ·
         refine au 24 ?_
         exact run_againC ih22 (z + 1) (by omega) (by omega) (.cons rfl (d_B (ex_takeE (by omega)).symm) (.cons rfl (by first | exact fun _ _ h => h | exact d_int (by omega) | exact d_int (by simp) | exact d_intN (by omega) | exact d_any) .nil)) (.cons rfl (fun _ _ x => x) (.cons rfl (fun _ _ x => x) (.cons rfl (fun _ _ x => x) (.cons rfl (fun _ _ x => x) (.cons rfl (fun _ _ x => x) (.cons rfl (fun _ _ x => x) (.cons rfl (fun _ _ x => x) (.cons rfl (fun _ _ x => x) (.cons rfl (fun _ _ x => x) (.nil))))))))))
        ·
         refine au 6 ?_
         refine run_cond rfl (fun h24 => ?_) (fun h24 => ?_)
         · exfalso; exact h24 ⟨_, by rw [List.take_of_length_le (by omega)]; exact hhm.2, rfl⟩
         ·
          refine au 6 ?_
          exact run_againC ih19 (u + 1) (by omega) (by omega) (.cons rfl (by first | exact fun _ _ h => h | exact d_int (by omega) | exact d_int (by simp) | exact d_intN (by omega) | exact d_any) .nil) (.cons rfl (fun _ _ x => x) (.cons rfl (fun _ _ x => x) (.cons rfl (fun _ _ x => x) (.cons rfl (fun _ _ x => x) (.cons rfl (fun _ _ x => x) (.cons rfl (fun _ _ x => x) (.nil)))))))
       ·
        refine au 7 ?_
        exact run_againC ih16 (r + 1) (by omega) (by omega) (.cons rfl (by first | exact fun _ _ h => h | exact d_int (by omega) | exact d_int (by simp) | exact d_intN (by omega) | exact d_any) .nil) (.cons rfl (fun _ _ x => x) (.cons rfl (fun _ _ x => x) (.cons rfl (fun _ _ x => x) (.nil))))
      ·
       refine au 4 ?_
       refine run_op (loc_call (bvalid_spec B hF.ok) rfl) rfl ?_
       refine au 2 ?_
       refine run_drop (.cons _ (.cons _ (.cons _ (.cons _ (.refl _))))) ?_
       refine run_retP Try.func3 rfl rfl ?_
       exact fun _ _ h => h
end Go.Q

namespace Go.Q
open Go.ChangeShapes Go.WideShapes Go.RowKit
def immOf (w : World) : Imm := ⟨fun b => w.heap[b]?, w.os, w.tape, w.output⟩
theorem inv_of (w : World) : Inv (immOf w) [] w := ⟨rfl, rfl, rfl, fun _ _ h => h, fun r hr => (by cases hr), List.nodup_nil⟩
theorem below_of {W w' : World} {J : Imm} (hle : (immOf W).le J) (hi : Inv J [] w') : Below W.heap.size W w' := by
 have hblk : ∀ k, k < W.heap.size → w'.heap[k]? = W.heap[k]? := fun k hk => by
  have h1 : W.heap[k]? = some W.heap[k] := by simp [hk]
  rw [h1]
  exact hi.imm k _ (hle.blk k _ h1)
 refine ⟨hi.os.trans hle.os, hi.tape.trans hle.tape, hi.output.trans hle.output, ?_, hblk⟩
 by_cases h : W.heap.size ≤ w'.heap.size
 ·exact h
 ·have h1 := hblk w'.heap.size (by omega)
  have h2 : w'.heap[w'.heap.size]? = none := by simp
  rw [h2] at h1
  have h3 : W.heap[w'.heap.size]? = some W.heap[w'.heap.size] := by simp [show w'.heap.size < W.heap.size by omega]
  rw [h3] at h1
  cases h1
section
variable {H : Type} {enc : TypeId × Value → H} {P : Program}
theorem post_same {f : Func} {s : ChangeSpec} {apart fresh handsOn again : Bool} {W W' : World} {args : Array Value} {v : Value} {ds gs : List (DataW H)} {before pa pv : List MemPlace}
  (hW : DataW.Whole enc P f.params.toList s.vars apart W args.toList ds gs before)
  (hres : ∀ (b : Nat) (sp : Nat → Bool) (hd : Bool), DataW.TrodAll enc P W' b sp hd f.resultTypes.toList (v.resultList f.resultTypes.size) (s.fn H (ds ++ gs)).results [])
  (hargs : ∀ sp : Nat → Bool, (∀ p ∈ before, sp p.block = true) → DataW.TrodAll enc P W' 0 sp true f.params.toList args.toList (s.fn H (ds ++ gs)).args pa)
  (hvars : ∀ sp : Nat → Bool, (∀ p ∈ before, sp p.block = true) → DataW.TrodVars enc P W' sp s.vars (s.fn H (ds ++ gs)).vars pv)
  (hps : before = pa ++ pv) (hk : W.keptBut W' (· ∈ before)) (hfz : ∀ a : Addr, a.block < W.heap.size → W'.frozen? a = W.frozen? a)
  (hok : ∀ (j : Nat) (t : TypeId) (r : Value), f.resultTypes[j]? = some t → (v.resultList f.resultTypes.size)[j]? = some r → Value.okWide P W' .any 0 t r) :
  s.post enc P f apart fresh handsOn again W args v W' := by
 have hold : ∀ p ∈ before, (fun b => decide (b < W.heap.size)) p.block = true := fun p hp => by simpa using hW.lt p hp
 have hlt := hW.lt
 refine ⟨ds, gs, before, [], pa, pv, hW, hres _ _ _, hargs _ hold, hvars _ hold, World.keptBut_mono (fun p hp => ⟨hp, ?_⟩) hk, fun _ => ?_⟩
 ·rw [hps, List.mem_append] at hp
  exact Or.inr hp
 ·obtain ⟨_, _, _, _, _, hz, hn⟩ := hW
  refine ⟨hok, _, _, ([] ++ pa) ++ pv, ⟨[] ++ pa, pv, trodAll_append (hargs _ (fun _ _ => rfl)) (hres _ _ _), hvars _ (fun _ _ => rfl), rfl, ?_, ?_⟩, ?_⟩
  ·intro b off hp
   have hm : MemPlace.cell b off ∈ before := by rw [hps]; simpa using hp
   rw [hfz _ (hlt _ hm)]
   exact hz b off hm
  ·intro ha
   have := hn ha
   rw [hps] at this
   simpa using this
  ·intro p hp _
   rw [hps]
   simpa using hp
theorem trodAll_stay (hl : laidOutB P = true) {W W' : World} {sp : Nat → Bool} : ∀ {ts : List TypeId} {vs : List Value} {ds : List (DataW H)} {ps : List MemPlace}, (∀ t ∈ ts, P.readableRec t = true ∧ t < P.types.size) →
  DataW.TrodAll enc P W 0 (fun _ => true) true ts vs ds ps → (∀ p ∈ ps, W.sameAt W' p) → (∀ p ∈ ps, sp p.block = true) → DataW.TrodAll enc P W' 0 sp true ts vs ds ps
 | [], _, _, _, _, h, _, _ => by
  obtain ⟨rfl, rfl, rfl⟩ := trodAll_nil h
  exact rfl
 | t :: ts, _, _, _, hr, h, hs, hp => by
  obtain ⟨v, vs, d, ds, p, q, rfl, rfl, rfl, h1, h2⟩ := trodAll_cons h
  have hrt := hr t (List.mem_cons_self ..)
  exact ⟨p, q, WideElems.Trod_stays hl hrt.1 hrt.2 h1 (fun x hx => hs x (List.mem_append_left _ hx)) (fun x hx => hp x (List.mem_append_left _ hx)),
   trodAll_stay hl (fun x hx => hr x (List.mem_cons_of_mem _ hx)) h2 (fun x hx => hs x (List.mem_append_right _ hx)) (fun x hx => hp x (List.mem_append_right _ hx)), rfl⟩
theorem law_calls {f : FuncId} {fn : Func} {s : ChangeSpec} {apart fresh handsOn again : Bool} {W : World} {args : Array Value} {ds gs : List (DataW H)} {before : List MemPlace} {tb : TypeId} {Ds : List D}
  (hl : laidOutB P = true) (hread : ∀ t ∈ fn.params.toList, P.readableRec t = true ∧ t < P.types.size) (hres : fn.resultTypes = #[tb]) (htb : P.underlying tb = some .bool) (hvars : s.vars = [])
  (hW : DataW.Whole enc P fn.params.toList s.vars apart W args.toList ds gs before) (hr : (s.fn H ds).results = [.lit (.bool true)]) (ha : (s.fn H ds).args = ds) (hv : (s.fn H ds).vars = [])
  (hsp : SpecP P f Ds (dB True)) (hrel : relL Ds (immOf W) args.toList) :
  Calls P f args W fun e W' => ∃ v, e = .returned v ∧ s.post enc P fn apart fresh handsOn again W args v W' := by
 have h := hsp (immOf W) [] W args.toList hrel (inv_of W)
 rw [Array.toArray_toList] at h
 refine h.mono ?_
 rintro e W' ⟨v, rfl, J, hle, ⟨b, rfl, hb⟩, hi⟩
 have hbt : b = true := hb.2 trivial
 subst hbt
 have hB := below_of hle hi
 have hlt := hW.lt
 have hW' := hW
 obtain ⟨p, q, hA, hV, rfl, hfz, hnd⟩ := hW'
 rw [hvars] at hV
 obtain ⟨rfl, rfl⟩ := trodVars_none hV
 rw [List.append_nil] at hlt
 refine ⟨_, rfl, post_same (pa := p) (pv := []) hW (fun b sp hd => ?_) (fun sp hs => ?_) (fun sp hs => ?_) rfl (hB.frame _) (fun a ha => hB.frozen ha) (ok_one hres rfl (okWide_bool_mk htb true))⟩
 ·rw [List.append_nil, hr, hres]
  exact trodAll_mk1 (shut_bool htb true)
 ·rw [List.append_nil, ha]
  exact trodAll_stay hl hread hA (fun x hx => hB.same (hlt x hx)) (fun x hx => hs x (by simpa using hx))
 ·rw [List.append_nil, hv, hvars]
  exact rfl

theorem wf_u8 {n : Int} (h : (Lit.int .u8 n).wf = true) : 0 ≤ n ∧ n ≤ 255 := by
 have h1 : IntKind.u8.min ≤ n ∧ n ≤ IntKind.u8.max := by simpa [Lit.wf] using h
 exact h1
theorem at_of_cell {w : World} {a : Addr} {v : Value} {d : D} (h : w.cell? a = some v) (hd : d.rel (immOf w) v) : (immOf w).at a [d] := by
 unfold World.cell? at h
 split at h
 ·rename_i cs T fz hb
  split at h
  ·cases h
  ·rename_i hs
   refine ⟨by simpa using hs, cs, T, fz, hb, ?_⟩
   have h1 : cs.toList[a.off]? = some v := by simpa using h
   have h2 : (cs.toList.drop a.off).take 1 = [v] := by
    rw [List.take_one, List.head?_drop, h1]; rfl
   show relL [d] _ ((cs.toList.drop a.off).take 1)
   rw [h2]
   exact ⟨hd, trivial⟩
 ·cases h
variable {W : World}
end
end Go.Q

namespace Go.Q
open Go.ChangeShapes Go.WideShapes Go.RowKit Go.Joins
section
variable {H : Type} {enc : TypeId × Value → H} {P : Program} {W : World}
theorem weights_all {e : TypeId} {l : List (DataW H)} {d : DataW H} (hd : d ∈ l) {n : Nat} (hn : n ∈ d.weights P e) : n ∈ DataW.weightsAll P e l := by
 induction l with
 | nil => cases hd
 | cons x l ih =>
  rw [DataW.weightsAll]
  rcases List.mem_cons.1 hd with rfl | hd
  ·exact List.mem_append_left _ hn
  ·exact List.mem_append_right _ (ih hd)
structure TabTy (P : Program) (t e q : TypeId) (f0 f1 f2 f3 g : Field) : Prop where
 s : P.underlying t = some (.struct #[f0, f1, f2, f3])
 c : P.cellsOf t = 4
 i0 : P.underlying f0.type = some (.int .i64) ∧ f0.offset = 0 ∧ P.cellsOf f0.type = 1
 i1 : P.underlying f1.type = some (.struct #[g]) ∧ f1.offset = 1 ∧ P.cellsOf f1.type = 1
 i2 : P.underlying f2.type = some (.int .i64) ∧ f2.offset = 2 ∧ P.cellsOf f2.type = 1
 i3 : P.underlying f3.type = some (.slice e) ∧ f3.offset = 3 ∧ P.cellsOf f3.type = 1
 ig : P.underlying g.type = some (.int .i64) ∧ g.offset = 0 ∧ P.cellsOf g.type = 1
 he : P.underlying e = some (.slice q)
 hq : P.underlying q = some (.int .i64)
 ce : P.cellsOf e = 1
 cq : P.cellsOf q = 1
 be : P.bytesOf e = 24
 bq : P.bytesOf q = 8
end
end Go.Q

namespace Go.Q
open Go.ChangeShapes Go.WideShapes Go.RowKit
def ArgOk (P : Program) (t : TypeId) {α : Type} (p : α → Prop) (c : α → List D) : Prop :=
 ∀ (H : Type) (enc : TypeId × Value → H) (W : World) (fuel : Nat) (cs : List Value) (d : DataW H) (ps : List MemPlace), DataW.trod enc P W 0 (fun _ => true) true fuel t cs = some (d, ps) →
  (∀ n ∈ d.weights P t, n ≤ reachBytes) → ∃ x, p x ∧ relL (c x) (immOf W) cs
variable {P : Program} {t e : TypeId} {α β : Type}
theorem ArgOk.map {p : α → Prop} {c : α → List D} {q : β → Prop} {c' : β → List D} (h : ArgOk P t p c) (f : α → β) (hp : ∀ x, p x → q (f x)) (hc : ∀ x, c x = c' (f x)) : ArgOk P t q c' := fun H enc W fuel cs d ps ht hw =>
 let ⟨x, h1, h2⟩ := h H enc W fuel cs d ps ht hw
 ⟨f x, hp x h1, hc x ▸ h2⟩
theorem ArgOk.int {k : IntKind} (ht : P.underlying t = some (.int k)) : ArgOk P t (fun n => (Lit.int k n).wf = true) (fun n => [dInt k n]) := fun H enc W fuel cs d ps h hw => by
 obtain ⟨n, rfl, _, hn⟩ := DataW.trod_int ht h
 exact ⟨n, hn, rfl, trivial⟩
theorem ArgOk.bool (ht : P.underlying t = some .bool) : ArgOk P t (fun _ => True) (fun b : Bool => [dB (b = true)]) := fun H enc W fuel cs d ps h hw => by
 obtain ⟨b, rfl, _⟩ := DataW.trod_bool ht h
 exact ⟨b, trivial, ⟨b, rfl, Iff.rfl⟩, trivial⟩
theorem cells_of {W : World} {a : Addr} {n : Nat} {vs : List Value} (h : W.cells? 0 a n = some vs) : vs.length = n ∧ ∀ i v, vs[i]? = some v → W.cell? (a.add i) = some v := by
 unfold World.cells? at h
 rw [if_pos (Nat.zero_le _)] at h
 have h1 := mapM_some_length h
 rw [List.length_range] at h1
 refine ⟨h1, fun i v hv => ?_⟩
 have hi : i < n := by rw [← h1]; exact (List.getElem?_eq_some_iff.1 hv).1
 have := mapM_some_get h i i (by simp [hi])
 rw [← hv, ← this]
theorem at_of_cells {w : World} {a : Addr} {ds : List D} {vs : List Value} (hs : a.spot = none) (hl : vs ≠ []) (hv : ∀ i v, vs[i]? = some v → w.cell? (a.add i) = some v) (hr : relL ds (immOf w) vs) : (immOf w).at a ds := by
 obtain ⟨b, o, s⟩ := a
 simp only at hs
 subst hs
 have hcell : ∀ i v, vs[i]? = some v → w.cell? ⟨b, o + i, none⟩ = some v := fun i v h => by have := hv i v h; rwa [Addr.add_lit] at this
 cases vs with
 | nil => exact absurd rfl hl
 | cons v0 vs =>
  have h0 := hcell 0 v0 rfl
  unfold World.cell? at h0
  simp only at h0
  split at h0
  ·rename_i cs T fz hb
   refine ⟨rfl, cs, T, fz, hb, ?_⟩
   have hlen := relL_length hr
   have : (cs.toList.drop o).take ds.length = v0 :: vs := by
    apply List.ext_getElem?
    intro i
    by_cases hi : i < (v0 :: vs).length
    ·have h1 := hcell i ((v0 :: vs)[i]) (List.getElem?_eq_getElem hi)
     simp only [World.cell?, hb] at h1
     rw [List.getElem?_take, if_pos (by omega), List.getElem?_drop, Array.getElem?_toList, List.getElem?_eq_getElem hi]
     simpa using h1
    ·rw [List.getElem?_eq_none (by rw [List.length_take]; omega), List.getElem?_eq_none (by omega)]
   show relL ds _ ((cs.toList.drop o).take ds.length)
   rw [this]
   exact hr
  ·cases h0
theorem list_choose {Q : Nat → α → Prop} {n : Nat} (h : ∀ i, i < n → ∃ x, Q i x) : ∃ xs : List α, xs.length = n ∧ ∀ i x, xs[i]? = some x → Q i x := by
 refine ⟨List.ofFn fun i : Fin n => Classical.choose (h i.1 i.2), by simp, fun i x hx => ?_⟩
 have hi : i < n := by have := (List.getElem?_eq_some_iff.1 hx).1; simpa using this
 rw [List.getElem?_ofFn, dif_pos hi] at hx
 injection hx with hx
 rw [← hx]
 exact Classical.choose_spec (h i hi)
theorem spot_add (a : Addr) (h : a.spot = none) (i : Nat) : (a.add i).spot = none := by
 obtain ⟨b, o, s⟩ := a
 simp only at h
 subst h
 rw [Addr.add_lit]
theorem ArgOk.slice {p : α → Prop} {c : α → List D} {n : Nat} (ht : P.underlying t = some (.slice e)) (he : ArgOk P e p c) (hn : P.cellsOf e = n) (hn0 : n ≠ 0) (hb : 8 ≤ P.bytesOf e) (hc : ∀ x, (c x).length = n) :
  ArgOk P t (fun xs : List α => ∀ x ∈ xs, p x) (fun xs => [dSl n c xs]) := fun H enc W fuel cs d ps h hw => by
 subst hn
 rcases DataW.trod_slice ht h with ⟨rfl, _⟩ | ⟨a, len, cap, elems, rest, m, _, rfl, hx, _, h1, h2, h3, h4, _, _⟩
 ·exact ⟨[], (fun x hx => by cases hx), d_nil _ _ rfl, trivial⟩
 ·injection hx with hx _
  subst hx
  have hlen : len ≤ lenMax := by
   have h7 := hw ((elems.length + rest.length) * P.bytesOf e) (by simp [DataW.weights, ht])
   have h9 : reachBytes = 140737488351232 := rfl
   have h10 := Nat.mul_le_mul_left (elems.length + rest.length) hb
   unfold lenMax
   omega
  have hel : ∀ i, i < len → ∃ x, p x ∧ ∃ vs, W.cells? 0 (a.add (i * P.cellsOf e)) (P.cellsOf e) = some vs ∧ relL (c x) (immOf W) vs := by
   intro i hi
   have h5 := h4 i hi
   rw [List.getElem?_eq_getElem (by omega)] at h5
   obtain ⟨vs, h6, h7⟩ := Option.bind_eq_some_iff.1 h5
   obtain ⟨x, h8, h9⟩ := he H enc W m vs _ _ h7 (fun k hk => hw k (by
    simp only [DataW.weights, ht, List.mem_cons, List.mem_append]
    exact .inr (.inl (weights_all (d := elems[i].1) (List.mem_map.2 ⟨elems[i], List.getElem_mem .., rfl⟩) hk))))
   exact ⟨x, h8, vs, h6, h9⟩
  obtain ⟨xs, hxl, hxs⟩ := list_choose hel
  subst hxl
  refine ⟨xs, fun x hx => by obtain ⟨i, hi⟩ := List.getElem?_of_mem hx; exact (hxs i x hi).1, ⟨some a, cap, rfl, h1, h2, hlen, fun i x hi => ?_⟩, trivial⟩
  obtain ⟨_, vs, g1, g2⟩ := hxs i x hi
  have hne : ∀ {vs : List Value}, vs.length = P.cellsOf e → vs ≠ [] := fun h e0 => hn0 (by rw [← h, e0]; rfl)
  have hspot : a.spot = none := by
   have h0 : 0 < xs.length := by have := (List.getElem?_eq_some_iff.1 hi).1; omega
   obtain ⟨_, us, u1, _⟩ := hxs 0 xs[0] (List.getElem?_eq_getElem h0)
   obtain ⟨u2, u3⟩ := cells_of u1
   have := hne u2
   cases us with
   | nil => exact absurd rfl this
   | cons u us =>
    have := u3 0 u rfl
    rw [Nat.zero_mul, Addr.add_zero', Addr.add_zero'] at this
    exact (at_of_cell (d := dTop) this trivial).1
  obtain ⟨g3, g4⟩ := cells_of g1
  exact ⟨hc x, a, rfl, hspot, at_of_cells (spot_add a hspot _) (hne g3) g4 g2⟩
def structB (P : Program) (t : TypeId) (l : List (Nat × Nat × TypeId)) : Bool :=
 match P.underlying t with
 | some (.struct fs) => (fs.toList.map fun f => (f.offset, P.cellsOf f.type, f.type)) == l && Nat.beq (P.cellsOf t) (l.foldr (fun x n => x.2.1 + n) 0)
 | _ => false
inductive FieldsOk (P : Program) : List (Nat × Nat × TypeId) → Nat → {α : Type} → (α → Prop) → (α → List D) → Prop where
 | nil {off : Nat} : FieldsOk P [] off (fun _ : Unit => True) (fun _ => [])
 | cons {off n : Nat} {t : TypeId} {l : List (Nat × Nat × TypeId)} {α β : Type} {p : α → Prop} {c : α → List D} {q : β → Prop} {c' : β → List D} : ArgOk P t p c → FieldsOk P l (off + n) q c' → FieldsOk P ((off, n, t) :: l) off (fun x : α × β => p x.1 ∧ q x.2) (fun x => c x.1 ++ c' x.2)
theorem FieldsOk.run {l : List (Nat × Nat × TypeId)} {off : Nat} {α : Type} {p : α → Prop} {c : α → List D} (h : FieldsOk P l off p c) (H : Type) (enc : TypeId × Value → H) (W : World) (m : Nat) (cs : List Value) (xs : List (DataW H × List MemPlace)) (hl : xs.length = l.length)
  (hx : ∀ (i o n : Nat) (t : TypeId), l[i]? = some (o, n, t) → DataW.trod enc P W 0 (fun _ => true) true m t ((cs.drop o).take n) = xs[i]?) (hw : ∀ (i o n : Nat) (t : TypeId) (y : DataW H × List MemPlace), l[i]? = some (o, n, t) → xs[i]? = some y → ∀ k ∈ y.1.weights P t, k ≤ reachBytes)
  (hsz : cs.length = off + l.foldr (fun x n => x.2.1 + n) 0) : ∃ x, p x ∧ relL (c x) (immOf W) (cs.drop off) := by
 induction h generalizing xs with
 | nil => exact ⟨(), trivial, by rw [List.drop_eq_nil_of_le (by simp at hsz; omega)]; trivial⟩
 | @cons off n t l α β p c q c' h1 _ ih =>
  cases xs with
  | nil => simp at hl
  | cons y ys =>
   have e1 := hx 0 off n t rfl
   obtain ⟨x, g1, g2⟩ := h1 H enc W m _ y.1 y.2 e1 (hw 0 off n t y rfl rfl)
   obtain ⟨x', g3, g4⟩ := ih ys (by simpa using hl) (fun i o n t hi => by have := hx (i + 1) o n t (by simpa using hi); simpa using this) (fun i o n t y hi hy => hw (i + 1) o n t y (by simpa using hi) (by simpa using hy)) (by rw [hsz]; simp only [List.foldr_cons]; omega)
   refine ⟨(x, x'), ⟨g1, g3⟩, ?_⟩
   have : cs.drop off = (cs.drop off).take n ++ cs.drop (off + n) := by rw [← List.drop_drop, List.take_append_drop]
   rw [this]
   exact relL_append g2 g4
theorem ArgOk.struct {l : List (Nat × Nat × TypeId)} {p : α → Prop} {c : α → List D} (hs : structB P t l = true) (hf : FieldsOk P l 0 p c) : ArgOk P t p c := fun H enc W fuel cs d ps h hw => by
 unfold structB at hs
 split at hs
 ·rename_i fs ht
  simp only [Bool.and_eq_true] at hs
  have hl : (fs.toList.map fun (f : Field) => (f.offset, P.cellsOf f.type, f.type)) = l := eq_of_beq hs.1
  obtain ⟨xs, m, _, hx, hcl, hxl, hget⟩ := DataW.trod_struct ht h
  injection hx with hx _
  subst hx
  have hfl : ∀ (i o n : Nat) (t' : TypeId), l[i]? = some (o, n, t') → ∃ f : Field, fs[i]? = some f ∧ f.offset = o ∧ P.cellsOf f.type = n ∧ f.type = t' := by
   intro i o n t' hi
   rw [← hl, List.getElem?_map] at hi
   cases hf' : fs.toList[i]? with
   | none => rw [hf'] at hi; cases hi
   | some f =>
    rw [hf'] at hi
    simp only [Option.map_some, Option.some.injEq, Prod.mk.injEq] at hi
    exact ⟨f, by simpa using hf', hi.1, hi.2.1, hi.2.2⟩
  have := hf.run H enc W m cs xs (by rw [hxl, ← hl]; simp) (fun i o n t' hi => by
   obtain ⟨f, f1, f2, f3, f4⟩ := hfl i o n t' hi
   have := hget i f f1
   rwa [f2, f3, f4] at this) (fun i o n t' y hi hy k hk => by
   obtain ⟨f, f1, f2, f3, f4⟩ := hfl i o n t' hi
   refine hw k ?_
   simp only [DataW.weights, ht]
   refine DataW.weights_mem_each (j := i) (t := t') (d := y.1) ?_ ?_ k hk
   ·rw [List.getElem?_map]; rw [show fs.toList[i]? = some f by simpa using f1]; rw [← f4]; rfl
   ·rw [List.getElem?_map, hy]; rfl) (by rw [hcl, Nat.eq_of_beq_eq_true hs.2, Nat.zero_add])
  rwa [List.drop_zero] at this
 ·cases hs


theorem arg_bytes {H : Type} {enc : TypeId × Value → H} {W : World} {r : Reach} {b0 : Nat} {v : Value} {d : DataW H} {ps : List MemPlace} (ht : P.underlying t = some (.slice e)) (he : P.underlying e = some (.int .u8)) (hn : P.cellsOf e = 1) (hb : P.bytesOf e = 1)
  (hval : Value.okWide P W r b0 t v) (hd : DataW.Trod enc P W 0 (fun _ => true) true t v d ps) (hsz : ∀ n ∈ d.weights P t, n ≤ reachBytes) : ∃ xs : List Int, (∀ x ∈ xs, 0 ≤ x ∧ x ≤ 255) ∧ (dBy xs).rel (immOf W) v := by
 obtain ⟨a0, l0, c0, rfl⟩ := okWide_slice ht hval
 obtain ⟨fuel, hf⟩ := hd
 rcases DataW.trod_slice ht hf with ⟨h0, _⟩ | ⟨a, len, cap, elems, rest, m, _, h0, hx, _, h1, h2, h3, h4, _, _⟩
 ·simp only [Value.cells, List.cons.injEq, and_true] at h0
  exact ⟨[], (fun x hx => by cases hx), none, 0, h0, Nat.le_refl _, Nat.zero_le _, Nat.zero_le _, fun i x hx => by simp at hx⟩
 ·simp only [Value.cells, List.cons.injEq, and_true] at h0
  injection hx with hx _
  subst hx
  have hlen : len ≤ 140737488355328 := by
   have h7 := hsz ((elems.length + rest.length) * P.bytesOf e) (by simp [DataW.weights, ht])
   have h9 : reachBytes = 140737488351232 := rfl
   rw [hb] at h7
   omega
  have hel : ∀ i, i < len → ∃ x, (0 ≤ x ∧ x ≤ 255) ∧ W.cell? ((a.add i).add 0) = some (.int .u8 x) := by
   intro i hi
   have h5 := h4 i hi
   rw [List.getElem?_eq_getElem (by omega)] at h5
   obtain ⟨vs, h6, h7⟩ := Option.bind_eq_some_iff.1 h5
   obtain ⟨n, rfl, _, hw⟩ := DataW.trod_int he h7
   rw [hn, Nat.mul_one] at h6
   exact ⟨n, wf_u8 hw, (cells_of h6).2 0 _ rfl⟩
  obtain ⟨xs, hxl, hxs⟩ := list_choose hel
  subst hxl
  refine ⟨xs, fun x hx => by obtain ⟨i, hi⟩ := List.getElem?_of_mem hx; exact (hxs i x hi).1, some a, cap, h0, h1, h2, hlen, fun i x hi => ?_⟩
  have hspot : a.spot = none := by
   have h0 : 0 < xs.length := by have := (List.getElem?_eq_some_iff.1 hi).1; omega
   have := (hxs 0 xs[0] (List.getElem?_eq_getElem h0)).2
   rw [Addr.add_zero', Addr.add_zero'] at this
   exact (at_of_cell (d := dTop) this trivial).1
  refine ⟨a, rfl, hspot, ?_⟩
  have := (hxs i x hi).2
  rw [Addr.add_zero'] at this
  rw [Nat.mul_one]
  exact at_of_cell this rfl
end Go.Q
