/- The items from one on; what the loops over them do: plain. -/
import Derived.Test.YtmofkofgpeibiaaQCuckB
import Derived.Test.YtmofkofgpeibiaaQMap
import Derived.Test.YtmofkofgpeibiaaQOwn5
set_option linter.unusedVariables false
set_option linter.unusedSimpArgs false
namespace Go.Q
def itsN (k n : Nat) : List Int := (List.range' k (n - k)).map fun j => ((j : Nat) : Int)
theorem its_next {k n : Nat} (h : k < n) : itsN k n = ((k : Nat) : Int) :: itsN (k + 1) n := by
 unfold itsN
 rw [show n - k = (n - (k + 1)) + 1 by omega, List.range'_succ]
 rfl
theorem its_end {k n : Nat} (h : n ≤ k) : itsN k n = [] := by
 unfold itsN; rw [show n - k = 0 by omega]; rfl
theorem its_mem {k n : Nat} {x : Int} : x ∈ itsN k n ↔ (k : Int) ≤ x ∧ x < n := by
 unfold itsN
 simp only [List.mem_map, List.mem_range'_1]
 constructor
 ·rintro ⟨j, h, rfl⟩; omega
 ·rintro ⟨h1, h2⟩; exact ⟨x.toNat, by omega, by omega⟩
theorem its_nodup (k n : Nat) : (itsN k n).Nodup := by
 unfold itsN
 exact nodup_map_on (List.nodup_range' ..) fun x _ y _ h => by omega
theorem unseen_new (m : Nat) : unseen (List.replicate m false) = m := by
 unfold unseen; rw [List.filter_eq_self.2 (by intro b hb; rw [List.eq_of_mem_replicate hb]; rfl), List.length_replicate]
structure BkB (m q : Nat) (bk : List Int) : Prop where
 bl : bk.length = m
 it : ∀ x ∈ bk, x < (q : Int)
theorem BkB.new {m q : Nat} {bk : List Int} (h : BkB m q bk) : PlOk m q m bk (List.replicate m false) := ⟨h.bl, List.length_replicate, h.it, by rw [unseen_new]; exact Nat.le_refl _⟩
theorem BkB.put {m q : Nat} {bk : List Int} (h : BkB m q bk) {b : Nat} {i : Int} (hi : i < (q : Int)) : BkB m q (bk.set b i) := ⟨by rw [List.length_set]; exact h.bl, fun x hx => by
  rcases List.mem_or_eq_of_mem_set hx with hx | rfl
  ·exact h.it x hx
  ·exact hi⟩
theorem BkB.place {m q : Nat} {hs : Int → List Nat} (hh : ∀ j, ∀ b ∈ hs j, b < m) {fx : List Bool} {i : Int} {bk : List Int} (hi : i < (q : Int)) (h : BkB m q bk) : BkB m q (placeF hs fx m i bk (List.replicate m false)).2.1 :=
 have h1 := placeF_plok hh (fx := fx) m i bk _ hi h.new
 ⟨h1.bl, h1.it⟩
theorem BkB.clear {m q : Nat} {fx : List Bool} {bk : List Int} (h : BkB m q bk) : BkB m q (clearF fx bk) := ⟨by simp [clearF, h.bl], fun x hx => by
 obtain ⟨b, hb, rfl⟩ := List.mem_map.1 hx
 have hb := List.mem_range.1 hb
 split
 ·rw [List.getElem?_eq_getElem hb]; exact h.it _ (List.getElem_mem _)
 ·omega⟩
theorem allF_yesN {hs : Int → List Nat} {m : Nat} {fx : List Bool} {k n : Nat} {bk : List Int} (h : k < n) (hp : (placeF hs fx m k bk (List.replicate m false)).1 = true) : allF hs fx m (itsN k n) bk = allF hs fx m (itsN (k + 1) n) (placeF hs fx m k bk (List.replicate m false)).2.1 := by
 rw [its_next h, allF, if_pos hp]
theorem allF_noN {hs : Int → List Nat} {m : Nat} {fx : List Bool} {k n : Nat} {bk : List Int} (h : k < n) (hp : ¬ (placeF hs fx m k bk (List.replicate m false)).1 = true) : allF hs fx m (itsN k n) bk = (false, (placeF hs fx m k bk (List.replicate m false)).2.1) := by
 rw [its_next h, allF, if_neg hp]
def clrP (fx : List Bool) (bk : List Int) (k : Nat) : List Int := (clearF fx bk).take k ++ bk.drop k
theorem clear_len (fx : List Bool) (bk : List Int) : (clearF fx bk).length = bk.length := by simp [clearF]
theorem clrP_len {fx : List Bool} {bk : List Int} {k : Nat} (h : k ≤ bk.length) : (clrP fx bk k).length = bk.length := by
 unfold clrP; rw [List.length_append, List.length_take, List.length_drop, clear_len]; omega
theorem clrP_end {fx : List Bool} {bk : List Int} {k : Nat} (h : bk.length ≤ k) : clrP fx bk k = clearF fx bk := by
 unfold clrP; rw [List.take_of_length_le (by rw [clear_len]; exact h), List.drop_eq_nil_of_le h, List.append_nil]
theorem clear_at {fx : List Bool} {bk : List Int} {k : Nat} (h : k < bk.length) : (clearF fx bk)[k]'(by rw [clear_len]; exact h) = if fx[k]?.getD default = true then bk[k] else -1 := by
 unfold clearF
 rw [List.getElem_map, List.getElem_range, List.getElem?_eq_getElem h]
 rfl
theorem clrP_fx {fx : List Bool} {bk : List Int} {k : Nat} (h : k < bk.length) (hf : fx[k]?.getD default = true) : clrP fx bk (k + 1) = clrP fx bk k := by
 unfold clrP
 rw [List.take_add_one, List.getElem?_eq_getElem (by rw [clear_len]; exact h), clear_at h, if_pos hf, List.drop_eq_getElem_cons h]
 simp
theorem clrP_no {fx : List Bool} {bk : List Int} {k : Nat} (h : k < bk.length) (hf : ¬ fx[k]?.getD default = true) : clrP fx bk (k + 1) = (clrP fx bk k).set k (-1) := by
 unfold clrP
 rw [List.take_add_one, List.getElem?_eq_getElem (by rw [clear_len]; exact h), clear_at h, if_neg hf, List.set_append_right _ _ (by rw [List.length_take, clear_len]; omega), List.length_take, clear_len, show k - min k bk.length = 0 by omega, List.drop_eq_getElem_cons h, List.set_cons_zero, List.append_assoc]
 rfl
structure FsB (m q : Nat) (fx : List Bool) (bk : List Int) : Prop extends BkB m q bk where
 fl : fx.length = m
theorem FsB.put2 {m q : Nat} {fx : List Bool} {bk : List Int} (h : FsB m q fx bk) {b : Nat} {i : Int} {x : Bool} (hi : i < (q : Int)) : FsB m q (fx.set b x) (bk.set b i) := ⟨h.toBkB.put hi, by rw [List.length_set]; exact h.fl⟩
theorem firstL_next {H : List (List Int)} {m : Nat} {later : List Int} {i : Int} {j : Nat} {fx : List Bool} {bk : List Int} (hj : j < (H[i.toNat]?.getD default).length) {b : Nat} (hb : b = ((H[i.toNat]?.getD default)[j]?.getD default).toNat) :
  firstL (hsF H) m later i ((hsF H i).drop j) fx bk = if fx[b]?.getD default = true then firstL (hsF H) m later i ((hsF H i).drop (j + 1)) fx bk
  else if (allF (hsF H) (fx.set b true) m later (clearF (fx.set b true) (bk.set b i))).1 = true then (true, fx.set b true, bk.set b i)
  else firstL (hsF H) m later i ((hsF H i).drop (j + 1)) ((fx.set b true).set b false) ((bk.set b i).set b (-1)) := by
 subst hb
 rw [homes_next hj, firstL]
theorem firstF_stop {hs : Int → List Nat} {m k n : Nat} {fx : List Bool} {bk : List Int} (h : k < n) {fx' : List Bool} {bk' : List Int} (e : firstL hs m (itsN (k + 1) n) k (hs k) fx bk = (false, fx', bk')) : firstF hs m (itsN k n) fx bk = (false, fx', bk') := by
 rw [its_next h, firstF, e]; rfl
theorem firstF_go {hs : Int → List Nat} {m k n : Nat} {fx : List Bool} {bk : List Int} (h : k < n) {fx' : List Bool} {bk' : List Int} (e : firstL hs m (itsN (k + 1) n) k (hs k) fx bk = (true, fx', bk')) : firstF hs m (itsN k n) fx bk = firstF hs m (itsN (k + 1) n) fx' bk' := by
 rw [its_next h, firstF, e]; rfl
end Go.Q

namespace Go.Q
open Go.Proofs
open Classical
theorem all19_spec {m : Nat} {H : List (List Int)} (hH : HOk m H) (hm : 1 ≤ m ∧ m ≤ 64) (hq : H.length ≤ 64) (fx : List Bool) (hfx : fx.length = m) (k : Nat) (hk : k ≤ H.length) (bk : List Int) (hbk : BkB m H.length bk) (vb vf : Value) : Spec Try.prog 52 [dBox [dRows H, dSlV vb, dSlV vf], dInt .i64 (k : Nat)] [rRow vb 3 1 fI bk, rRow vf 4 1 fBo fx] (σ := Unit) (fun _ => True) (fun _ => dB ((allF (hsF H) fx m (itsN k H.length) bk).1 = true)) (fun _ => [rRow vb 3 1 fI (allF (hsF H) fx m (itsN k H.length) bk).2, rRow vf 4 1 fBo fx]) := by
  refine spec_of_body Try.func52 rfl rfl (fun I F => ?_)
  refine au 11 ?_
  refine run_loopF (σ := Nat × List Int) (ks := [0]) (.cons rfl (.nil)) (fun s => [(5, dInt .i64 (s.1 : Nat))]) (fun s => [rRow vb 3 1 fI s.2, rRow vf 4 1 fBo fx]) (fun s => s.1 ≤ H.length ∧ BkB m H.length s.2 ∧ allF (hsF H) fx m (itsN k H.length) bk = allF (hsF H) fx m (itsN s.1 H.length) s.2) (fun s => H.length - s.1) ((k, bk)) (⟨hk, hbk, rfl⟩) (.cons rfl (by first | exact fun _ _ h => h | exact d_int (by omega) | exact d_int (by simp) | exact d_intN (by omega) | exact d_any) .nil) (rfl) ?_
  rintro s ⟨hsk, hsb, he⟩ ih1
  have hbl := hsb.bl
  refine au 8 ?_
  first | refine runL_fact (s := 11) rfl (fun _ _ h => dSl_len h) (fun hlen2 => ?_) | skip
  refine au 3 ?_
  refine run_cond rfl (fun h3 => ?_) (fun h3 => ?_)
  ·
   have hsH : s.1 < H.length := by omega
   refine au 10 ?_
   refine run_op (LocP.upV (loc_load1 rfl)) rfl ?_
   refine au 1 ?_
   refine run_new (loc_makeSlice rfl rfl (by omega) (by omega) (fun b : Bool => dB (b = true)) false (by simp [zeroDs, dBo_false]) (by simp)) rfl (fun b9 _ => ?_)
   rw [Int.toNat_natCast, hbl]
   refine runL_front (.there (.there .here)) ?_
   refine runL_front (.there (.there .here)) ?_
   refine run_op3 rfl (loc_callM (place_spec hH hm.1 hfx m (s.1 : Nat) s.2 (List.replicate m false) vb vf _ ⟨by omega, by omega⟩ hsb.new) rfl) (fun _ _ => ?_)
   refine au 2 ?_
   refine run_cond rfl (fun h4 => ?_) (fun h4 => ?_)
   ·
    have hr := h4
    refine au 4 ?_
    have hE : allF (hsF H) fx m (itsN k H.length) bk = (false, (placeF (hsF H) fx m s.1 s.2 (List.replicate m false)).2.1) := by rw [he, allF_noN hsH hr]
    refine run_ret (()) Try.func52 rfl rfl ?_ (trivial) (fun I w h => by rw [hE]; exact (fun _ _ h => h.sub (.cons_cons _ (.cons_cons _ (.cons _ (.refl _))))) I w h)
    exact d_B (by rw [hE]; simp)
   ·
    have hr := Classical.not_not.1 h4
    refine au 7 ?_
    refine run_drop (.cons_cons _ (.cons_cons _ (.cons _ (.refl _)))) ?_
    exact run_againF ih1 ((s.1 + 1, (placeF (hsF H) fx m s.1 s.2 (List.replicate m false)).2.1)) (⟨by simp only; omega, BkB.place (hsF_bd hH) (by omega) hsb, by simp only; rw [he, allF_yesN hsH hr]⟩) (by simp only; omega) (.cons rfl (by first | exact fun _ _ h => h | exact d_int (by omega) | exact d_int (by simp) | exact d_intN (by omega) | exact d_any) .nil) (.cons rfl (fun _ _ x => x) (.nil)) (rfl)
  ·
   refine au 5 ?_
   have hE : allF (hsF H) fx m (itsN k H.length) bk = (true, s.2) := by rw [he, its_end (by omega)]; rfl
   refine run_ret (()) Try.func52 rfl rfl ?_ (trivial) (fun I w h => by rw [hE]; exact h)
   exact d_B (by rw [hE]; simp)
theorem cloneL_spec (v : Value) (xs : List Int) (hb : xs.length * 8 ≤ 140737488355328) : Spec Try.prog 51 [dVal v] [rRow v 3 1 fI xs] (σ := Value) (fun _ => True) (fun u => dSlV u) (fun u => [rRow u 3 1 fI xs, rRow v 3 1 fI xs]) :=
 specV (Rs := fun _ => [rRow v 3 1 fI xs]) (spec_perm (spec_lend (A := []) (B := []) (cloneIM_spec xs hb) (fun _ => inferInstance) (fun s r hr => by rw [List.mem_singleton.1 hr]; exact rI_flat)) (fun s => .swap ..))
theorem cloneP_spec (v : Value) (xs : List Int) (hb : xs.length * 8 ≤ 140737488355328) : Spec Try.prog 51 [dVal v] [rRow v 3 1 fI xs] (σ := Value × List Int) (fun r => r.2 = xs) (fun r => dSlV r.1) (fun r => [rRow r.1 3 1 fI r.2, rRow v 3 1 fI xs]) := by
 intro I F w vs hv hi
 refine (cloneL_spec v xs hb I F w vs hv hi).mono ?_
 rintro e w' ⟨u, rfl, s, h0, J, h1, h2, h3⟩
 exact ⟨u, rfl, (s, xs), rfl, J, h1, h2, h3⟩
theorem rest19_spec {m : Nat} {H : List (List Int)} (hH : HOk m H) (hm : 1 ≤ m ∧ m ≤ 64) (hq : H.length ≤ 64) (fx : List Bool) (hfx : fx.length = m) (k : Nat) (hk : k ≤ H.length) (bk : List Int) (hbk : BkB m H.length bk) (vb vf : Value) : Spec Try.prog 43 [dBox [dRows H, dSlV vb, dSlV vf], dInt .i64 (k : Nat)] [rRow vb 3 1 fI bk, rRow vf 4 1 fBo fx] (σ := Unit) (fun _ => True) (fun _ => dB ((allF (hsF H) fx m (itsN k H.length) (clearF fx bk)).1 = true)) (fun _ => [rRow vb 3 1 fI bk, rRow vf 4 1 fBo fx]) := by
  have hbl := hbk.bl
  refine spec_of_body Try.func43 rfl rfl (fun I F => ?_)
  refine au 5 ?_
  refine run_rowForm (.there (.here)) (by omega) (fun b2 c2 e2 => ?_)
  subst e2
  refine run_rowNil 3 1 fI ?_
  refine run_front (.there (.there (.here))) ?_
  refine run_front (.there (.there (.here))) ?_
  refine dr_start _ (.oneX (σ := Value × List Int) 8 (fun r => r.2 = bk) (fun r => [rRow r.1 3 1 fI r.2])) [⟨[(0, none)], [], none⟩,
      ⟨[(7, some (0, false))], [0], none⟩,
      ⟨[(8, some (1, false))], [0, 1], none⟩,
      ⟨[(9, some (2, false))], [0, 1, 2], none⟩,
      ⟨[(0, none)], [], none⟩,
      ⟨[(11, some (4, false))], [4], none⟩,
      ⟨[(12, some (5, false))], [4, 5], none⟩,
      ⟨[(13, some (6, false))], [4, 5, 6], none⟩,
      ⟨[(14, some (7, false))], [4, 5, 6, 7], some (0, 0, true)⟩,
      ⟨[(0, none)], [], none⟩,
      ⟨[(16, some (9, false))], [9], none⟩,
      ⟨[(17, some (10, false))], [9, 10], none⟩,
      ⟨[(18, some (11, false))], [9, 10, 11], none⟩,
      ⟨[(10, some (3, false)), (15, some (8, false)), (19, some (12, false))], [0, 1, 2, 3, 4, 5, 6, 7, 8, 9, 10, 11, 12], none⟩,
      ⟨[(20, some (13, false))], [0, 1, 2, 3, 4, 5, 6, 7, 8, 9, 10, 11, 12, 13], none⟩,
      ⟨[(21, some (14, false))], [0, 1, 2, 3, 4, 5, 6, 7, 8, 9, 10, 11, 12, 13, 14], none⟩] [_, _] _ rfl rfl ?_
  refine da 7 ?_
  refine dq_pure rfl (fun s => .op rfl (.nil)) (fun s hs _ => LocP.upV (loc_load1 rfl)) (by exact .cons (.inr fun _ _ _ => rfl) (.nil)) ?_
  refine dq_chooseX id (fun _ t => t) (fun r => [rRow r.1 3 1 fI r.2]) rfl (fun _ _ => ⟨rfl, id, trivial⟩) (fun s => .op rfl (.nil)) rfl rfl (fun s hs => locM_swapX (loc_callM (cloneP_spec vb bk (by omega)) rfl)) (by exact .cons (.inl rfl) (.nil)) (fun _ _ => rfl) ?_
  refine da 7 ?_
  refine dq_endX (rs := [_, _]) (.slice none 0 0, []) rfl (fun _ => rfl) (.cons rfl (.nil)) rfl (fun ⟨vq,xq⟩ h9 => ?_)
  obtain hxq := Ch.oneX_good h9
  dsimp only [outG, outM, List.map, List.set, id, Ch.oneX, Ch.twoX, List.cons_append, List.nil_append]
  dsimp only at hxq ⊢
  subst hxq
  refine run_rowForm (.there (.there (.here))) (by omega) (fun bq cq eq => ?_)
  subst eq
  refine au 6 ?_
  refine run_op (LocP.upV (loc_load1 rfl)) rfl ?_
  refine au 4 ?_
  refine run_front (.there (.there (.here))) ?_
  refine run_loopF (σ := Nat) (ks := [1, 5, 26]) (.cons rfl (.cons rfl (.cons rfl (.nil)))) (fun j => [(27, dInt .i64 (j : Nat))]) (fun j => [rRow (.slice (some ⟨bq, 0, none⟩) xq.length cq) 3 1 fI (clrP fx xq j)]) (fun j => j ≤ xq.length) (fun j => xq.length - j) (0) ((by omega)) (.cons rfl (by first | exact fun _ _ h => h | exact d_int (by omega) | exact d_int (by simp) | exact d_intN (by omega) | exact d_any) .nil) (rfl) ?_
  intro j hj ih1
  have hcl := clrP_len (fx := fx) (bk := xq) hj
  refine au 5 ?_
  refine run_cond rfl (fun h2 => ?_) (fun h2 => ?_)
  ·
   refine au 13 ?_
   refine run_op (LocP.upV (loc_load1 rfl)) rfl ?_
   refine au 5 ?_
   refine run_cond rfl (fun h3 => ?_) (fun h3 => ?_)
   ·
    have hno := h3
    refine au 4 ?_
    refine run_op (LocP.upV (loc_load1 rfl)) rfl ?_
    refine au 2 ?_
    refine run_storeRow1 rfl (.here) rfl (by rfl) (by first | omega | assumption) ?_
    refine au 6 ?_
    exact run_againF ih1 (j + 1) (by omega) (by omega) (.cons rfl (by first | exact fun _ _ h => h | exact d_int (by omega) | exact d_int (by simp) | exact d_intN (by omega) | exact d_any) .nil) (.cons rfl (fun _ _ x => x) (.cons rfl (fun _ _ x => x) (.cons rfl (fun _ _ x => x) (.nil)))) (by simp only [appR]; rw [clrP_no (by omega) hno])
   ·
    have hno := Classical.not_not.1 h3
    refine au 6 ?_
    exact run_againF ih1 (j + 1) (by omega) (by omega) (.cons rfl (by first | exact fun _ _ h => h | exact d_int (by omega) | exact d_int (by simp) | exact d_intN (by omega) | exact d_any) .nil) (.cons rfl (fun _ _ x => x) (.cons rfl (fun _ _ x => x) (.cons rfl (fun _ _ x => x) (.nil)))) (by simp only [appR]; rw [clrP_fx (by omega) hno])
  ·
   refine au 2 ?_
   rw [clrP_end (by omega)]
   refine run_front (.there (.there (.here))) ?_
   refine run_front (.there (.here)) ?_
   refine au 3 ?_
   refine run_op2 rfl (loc_callM (all19_spec hH hm hq fx hfx k hk (clearF fx xq) hbk.clear _ _) rfl) (fun _ _ => ?_)
   refine au 2 ?_
   refine run_front (.there (.here)) ?_
   refine run_front (.there (.there (.here))) ?_
   refine run_ret (()) Try.func43 rfl rfl ?_ (trivial) (fun _ _ h => h.sub (.cons_cons _ (.cons_cons _ (.cons _ (.refl _)))))
   exact fun _ _ h => h
end Go.Q

namespace Go.Q
open Go.Proofs
open Classical
theorem first19_spec {m : Nat} {H : List (List Int)} (hH : HOk m H) (hm : 1 ≤ m ∧ m ≤ 64) (hq : H.length ≤ 64) (fx : List Bool) (bk : List Int) (hfb : FsB m H.length fx bk) (vb vf : Value) : Spec Try.prog 34 [dBox [dRows H, dSlV vb, dSlV vf]] [rRow vb 3 1 fI bk, rRow vf 4 1 fBo fx] (σ := Unit) (fun _ => True) (fun _ => dB ((firstF (hsF H) m (itsN 0 H.length) fx bk).1 = true)) (fun _ => [rRow vb 3 1 fI (firstF (hsF H) m (itsN 0 H.length) fx bk).2.2, rRow vf 4 1 fBo (firstF (hsF H) m (itsN 0 H.length) fx bk).2.1]) := by
  have hbl0 := hfb.bl
  have hfl0 := hfb.fl
  refine spec_of_body Try.func34 rfl rfl (fun I F => ?_)
  refine au 4 ?_
  refine run_scope ?_
  refine au 1 ?_
  refine run_label ?_
  refine au 2 ?_
  refine run_rowForm (.here) (by omega) (fun b1 c1 e1 => ?_)
  refine run_rowForm (.there (.here)) (by omega) (fun b2 c2 e2 => ?_)
  subst e1 e2
  refine au 5 ?_
  first | refine runL_fact (s := 10) rfl (fun _ _ h => dSl_len h) (fun hlen1 => ?_) | skip
  refine au 4 ?_
  refine run_loopF (σ := Nat × List Bool × List Int) (ks := [0, 10, 11]) (.cons rfl (.cons rfl (.cons rfl (.nil)))) (fun s => [(12, dInt .i64 (s.1 : Nat))]) (fun s => [rRow (.slice (some ⟨b1, 0, none⟩) bk.length c1) 3 1 fI s.2.2, rRow (.slice (some ⟨b2, 0, none⟩) fx.length c2) 4 1 fBo s.2.1]) (fun s => s.1 ≤ H.length ∧ FsB m H.length s.2.1 s.2.2 ∧ firstF (hsF H) m (itsN 0 H.length) fx bk = firstF (hsF H) m (itsN s.1 H.length) s.2.1 s.2.2) (fun s => H.length - s.1) ((0, fx, bk)) (⟨Nat.zero_le _, hfb, rfl⟩) (.cons rfl (by first | exact fun _ _ h => h | exact d_int (by omega) | exact d_int (by simp) | exact d_intN (by omega) | exact d_any) .nil) (rfl) ?_
  rintro s ⟨hsk, hsb, he⟩ ih2
  refine au 5 ?_
  refine run_cond rfl (fun h3 => ?_) (fun h3 => ?_)
  ·
   have hsH : s.1 < H.length := by omega
   have hl4 := (hH.at hsH).1
   refine au 15 ?_
   first | refine runL_fact (s := 17) rfl (fun _ _ h => dSl_len h) (fun hlen4 => ?_) | skip
   refine au 4 ?_
   refine run_loopF (σ := Nat × List Bool × List Int) (ks := [0, 3, 10, 11, 12, 17, 18]) (.cons rfl (.cons rfl (.cons rfl (.cons rfl (.cons rfl (.cons rfl (.cons rfl (.nil)))))))) (fun u => [(19, dInt .i64 (u.1 : Nat))]) (fun u => [rRow (.slice (some ⟨b1, 0, none⟩) bk.length c1) 3 1 fI u.2.2, rRow (.slice (some ⟨b2, 0, none⟩) fx.length c2) 4 1 fBo u.2.1]) (fun u => u.1 ≤ (H[s.1]?.getD default).length ∧ FsB m H.length u.2.1 u.2.2 ∧ firstL (hsF H) m (itsN (s.1 + 1) H.length) (s.1 : Nat) (hsF H s.1) s.2.1 s.2.2 = firstL (hsF H) m (itsN (s.1 + 1) H.length) (s.1 : Nat) ((hsF H s.1).drop u.1) u.2.1 u.2.2) (fun u => (H[s.1]?.getD default).length - u.1) ((0, s.2)) (⟨Nat.zero_le _, hsb, rfl⟩) (.cons rfl (by first | exact fun _ _ h => h | exact d_int (by omega) | exact d_int (by simp) | exact d_intN (by omega) | exact d_any) .nil) (rfl) ?_
   rintro u ⟨huk, hub, hue⟩ ih5
   have hbl := hub.bl
   have hfl := hub.fl
   refine au 5 ?_
   refine run_cond rfl (fun h6 => ?_) (fun h6 => ?_)
   ·
    have huH : u.1 < (H[s.1]?.getD default).length := by omega
    have hbd := hH.home hsH huH
    have hN := firstL_next (m := m) (later := (itsN (s.1 + 1) H.length)) (i := (s.1 : Nat)) (fx := u.2.1) (bk := u.2.2) huH rfl
    refine au 15 ?_
    refine run_op (LocP.upV (loc_load1 rfl)) rfl ?_
    refine au 4 ?_
    refine run_cond rfl (fun h7 => ?_) (fun h7 => ?_)
    ·
     have hg := h7
     refine au 5 ?_
     exact run_againF ih5 ((u.1 + 1, u.2)) (⟨by simp only; omega, hub, by rw [hue, hN]; exact if_pos hg⟩) (by simp only; omega) (.cons rfl (by first | exact fun _ _ h => h | exact d_int (by omega) | exact d_int (by simp) | exact d_intN (by omega) | exact d_any) .nil) (.cons rfl (fun _ _ x => x) (.cons rfl (fun _ _ x => x) (.cons rfl (fun _ _ x => x) (.cons rfl (fun _ _ x => x) (.cons rfl (fun _ _ x => x) (.cons rfl (fun _ _ x => x) (.cons rfl (fun _ _ x => x) (.nil)))))))) (rfl)
    ·
     have hg := h7
     refine au 2 ?_
     refine dr_start _ (.none) [⟨[(0, none)], [], none⟩,
         ⟨[(30, some (0, false))], [0], none⟩,
         ⟨[(31, some (1, false))], [0, 1], none⟩,
         ⟨[(32, some (2, false))], [0, 1, 2], none⟩,
         ⟨[(6, none)], [], none⟩,
         ⟨[(0, none)], [], none⟩,
         ⟨[(35, some (5, false))], [5], none⟩,
         ⟨[(36, some (6, false))], [5, 6], none⟩,
         ⟨[(37, some (7, false))], [5, 6, 7], none⟩,
         ⟨[(6, none)], [], none⟩,
         ⟨[(3, none)], [], none⟩,
         ⟨[(33, some (3, false)), (34, some (4, false))], [0, 1, 2, 3, 4, 5, 6, 7, 8], none⟩,
         ⟨[(41, some (11, false))], [0, 1, 2, 3, 4, 5, 6, 7, 8, 11], some (1, 0, true)⟩,
         ⟨[(38, some (8, false)), (39, some (9, false))], [0, 1, 2, 3, 4, 5, 6, 7, 8, 9, 10, 11, 12], none⟩,
         ⟨[(42, some (13, false)), (40, some (10, false))], [0, 1, 2, 3, 4, 5, 6, 7, 8, 9, 10, 11, 12, 13], some (0, 0, true)⟩] [_, _] _ rfl rfl ?_
     refine da 3 ?_
     refine dq_pure rfl (fun s => .op rfl (.nil)) (fun s hs _ => LocP.upV (loc_load1 rfl)) (by exact .nil) ?_
     refine da 4 ?_
     refine dq_pure rfl (fun s => .op rfl (.nil)) (fun s hs _ => LocP.upV (loc_load1 rfl)) (by exact .nil) ?_
     refine da 3 ?_
     refine dq_write0 rfl (fun s => .op rfl (.nil)) rfl rfl (fun s hs => loc_storeRow1 true rfl rfl dBo_true (by first | omega | assumption)) (by exact .nil) ?_
     refine da 1 ?_
     refine dq_write0 rfl (fun s => .op rfl (.op rfl (.nil))) rfl rfl (fun s hs => loc_storeRow1 _ rfl rfl rfl (by first | omega | assumption)) (by exact .nil) ?_
     refine dq_end (rs := [_, _]) () rfl (fun _ => rfl) (.nil) rfl (fun _ => rfl) (fun _ _ => ?_)
     dsimp only [outG, outM, List.map, List.set, id]
     refine au 6 ?_
     refine run_op2 rfl (loc_callM (rest19_spec hH hm hq (u.2.1.set ((H[s.1]?.getD default)[u.1]?.getD default).toNat true) (by rw [List.length_set]; exact hfl) (s.1 + 1) (by omega) (u.2.2.set ((H[s.1]?.getD default)[u.1]?.getD default).toNat s.1) (hub.toBkB.put (by omega)) _ _) rfl) (fun _ _ => ?_)
     refine au 1 ?_
     refine run_cond rfl (fun h8 => ?_) (fun h8 => ?_)
     ·
      have hr := h8
      refine au 5 ?_
      exact run_againF ih2 ((s.1 + 1, u.2.1.set ((H[s.1]?.getD default)[u.1]?.getD default).toNat true, u.2.2.set ((H[s.1]?.getD default)[u.1]?.getD default).toNat s.1)) (⟨by simp only; omega, hub.put2 (by omega), by rw [he]; refine firstF_go hsH ?_; rw [hue, hN]; exact (if_neg hg).trans (if_pos hr)⟩) (by simp only; omega) (.cons rfl (by first | exact fun _ _ h => h | exact d_int (by omega) | exact d_int (by simp) | exact d_intN (by omega) | exact d_any) .nil) (.cons rfl (fun _ _ x => x) (.cons rfl (fun _ _ x => x) (.cons rfl (fun _ _ x => x) (.nil)))) (rfl)
     ·
      have hr := h8
      refine au 1 ?_
      have hfl2 : (u.2.1.set ((H[s.1]?.getD default)[u.1]?.getD default).toNat true).length = m := by rw [List.length_set]; exact hfl
      have hbl2 : (u.2.2.set ((H[s.1]?.getD default)[u.1]?.getD default).toNat s.1).length = m := by rw [List.length_set]; exact hbl
      refine dr_start _ (.none) [⟨[(0, none)], [], none⟩,
          ⟨[(47, some (0, false))], [0], none⟩,
          ⟨[(48, some (1, false))], [0, 1], none⟩,
          ⟨[(49, some (2, false))], [0, 1, 2], none⟩,
          ⟨[(6, none)], [], none⟩,
          ⟨[(0, none)], [], none⟩,
          ⟨[(52, some (5, false))], [5], none⟩,
          ⟨[(53, some (6, false))], [5, 6], none⟩,
          ⟨[(54, some (7, false))], [5, 6, 7], none⟩,
          ⟨[(6, none)], [], none⟩,
          ⟨[(50, some (3, false)), (51, some (4, false))], [0, 1, 2, 3, 4, 5, 6, 7, 8], none⟩,
          ⟨[(57, some (10, false))], [0, 1, 2, 3, 4, 5, 6, 7, 8, 10], some (1, 0, true)⟩,
          ⟨[(55, some (8, false)), (56, some (9, false))], [0, 1, 2, 3, 4, 5, 6, 7, 8, 9, 10, 11], none⟩,
          ⟨[(58, some (12, false))], [0, 1, 2, 3, 4, 5, 6, 7, 8, 9, 10, 11, 12], some (0, 0, true)⟩] [_, _] _ rfl rfl ?_
      refine da 3 ?_
      refine dq_pure rfl (fun s => .op rfl (.nil)) (fun s hs _ => LocP.upV (loc_load1 rfl)) (by exact .nil) ?_
      refine da 4 ?_
      refine dq_pure rfl (fun s => .op rfl (.nil)) (fun s hs _ => LocP.upV (loc_load1 rfl)) (by exact .nil) ?_
      refine da 2 ?_
      refine dq_write0 rfl (fun s => .op rfl (.nil)) rfl rfl (fun s hs => loc_storeRow1 false rfl rfl dBo_false (by first | omega | assumption)) (by exact .nil) ?_
      refine da 1 ?_
      refine dq_write0 rfl (fun s => .op rfl (.nil)) rfl rfl (fun s hs => loc_storeRow1 _ rfl rfl rfl (by first | omega | assumption)) (by exact .nil) ?_
      refine dq_end (rs := [_, _]) () rfl (fun _ => rfl) (.nil) rfl (fun _ => rfl) (fun _ _ => ?_)
      dsimp only [outG, outM, List.map, List.set, id]
      refine au 5 ?_
      exact run_againF ih5 ((u.1 + 1, (u.2.1.set ((H[s.1]?.getD default)[u.1]?.getD default).toNat true).set ((H[s.1]?.getD default)[u.1]?.getD default).toNat false, (u.2.2.set ((H[s.1]?.getD default)[u.1]?.getD default).toNat s.1).set ((H[s.1]?.getD default)[u.1]?.getD default).toNat (-1))) (⟨by simp only; omega, (hub.put2 (by omega)).put2 (by omega), by rw [hue, hN]; exact (if_neg hg).trans (if_neg hr)⟩) (by simp only; omega) (.cons rfl (by first | exact fun _ _ h => h | exact d_int (by omega) | exact d_int (by simp) | exact d_intN (by omega) | exact d_any) .nil) (.cons rfl (fun _ _ x => x) (.cons rfl (fun _ _ x => x) (.cons rfl (fun _ _ x => x) (.cons rfl (fun _ _ x => x) (.cons rfl (fun _ _ x => x) (.cons rfl (fun _ _ x => x) (.cons rfl (fun _ _ x => x) (.nil)))))))) (rfl)
   ·
    refine au 5 ?_
    have hE : firstF (hsF H) m (itsN 0 H.length) fx bk = (false, u.2.1, u.2.2) := by rw [he]; refine firstF_stop hsH ?_; rw [hue, homes_end (by simp only [Int.toNat_natCast]; omega)]; rfl
    refine run_ret (()) Try.func34 rfl rfl ?_ (trivial) (fun _ _ h => by rw [hE]; exact h)
    exact d_B (by rw [hE]; simp)
  ·
   refine au 5 ?_
   have hE : firstF (hsF H) m (itsN 0 H.length) fx bk = (true, s.2.1, s.2.2) := by rw [he, its_end (by omega)]; rfl
   refine run_ret (()) Try.func34 rfl rfl ?_ (trivial) (fun _ _ h => by rw [hE]; exact h)
   exact d_B (by rw [hE]; simp)
end Go.Q

namespace Go.Q
def firstH (h : Hsh) (its : List Int) : Bool × List Bool × List Int := firstF (hsF (its.map (homesI h))) h.m.toNat (itsN 0 its.length) (List.replicate h.m.toNat false) (List.replicate h.m.toNat (-1))
def asgE (h : Hsh) (its : List Int) : Int := if h.m < (its.length : Int) then 4 else if (firstH h its).1 = true then 0 else 15
def asgB (h : Hsh) (its : List Int) : List Int := if asgE h its = 0 then (firstH h its).2.2 else []
def okIt (n : Int) : Prop := 0 ≤ n ∧ n < 2147483647
theorem homes_ok {h : Hsh} (hh : okH h) (its : List Int) : HOk h.m.toNat (its.map (homesI h)) := by
 have h1 := hh.1
 have h2 := hh.2.1
 refine ⟨fun l hl b hb => ?_, fun l hl => ?_⟩
 ·obtain ⟨n, _, rfl⟩ := List.mem_map.1 hl
  have := homesI_bd hh n b hb
  omega
 ·obtain ⟨n, _, rfl⟩ := List.mem_map.1 hl
  rw [homesI_len]; omega
theorem fs_start {m q : Nat} : FsB m q (List.replicate m false) (List.replicate m (-1)) := ⟨⟨List.length_replicate, fun x hx => by rw [List.eq_of_mem_replicate hx]; omega⟩, List.length_replicate⟩
theorem firstL_len (hs : Int → List Nat) (m : Nat) (later : List Int) (i : Int) : ∀ (bs : List Nat) (fx : List Bool) (bk : List Int), (firstL hs m later i bs fx bk).2.1.length = fx.length ∧ (firstL hs m later i bs fx bk).2.2.length = bk.length
 | [], _, _ => ⟨rfl, rfl⟩
 | b :: bs, fx, bk => by
  unfold firstL
  split
  ·exact firstL_len hs m later i bs fx bk
  ·split
   ·exact ⟨by rw [List.length_set], by rw [List.length_set]⟩
   ·have := firstL_len hs m later i bs ((fx.set b true).set b false) ((bk.set b i).set b (-1))
    simpa using this
theorem firstF_len (hs : Int → List Nat) (m : Nat) : ∀ (is : List Int) (fx : List Bool) (bk : List Int), (firstF hs m is fx bk).2.1.length = fx.length ∧ (firstF hs m is fx bk).2.2.length = bk.length
 | [], _, _ => ⟨rfl, rfl⟩
 | i :: is, fx, bk => by
  have h := firstL_len hs m is i (hs i) fx bk
  unfold firstF
  dsimp only
  split
  ·have g := firstF_len hs m is (firstL hs m is i (hs i) fx bk).2.1 (firstL hs m is i (hs i) fx bk).2.2
   exact ⟨g.1.trans h.1, g.2.trans h.2⟩
  ·exact h
theorem rep_set {α : Type} {m k : Nat} {x y : α} (h : k < m) : (List.replicate k x ++ List.replicate (m - k) y).set k x = List.replicate (k + 1) x ++ List.replicate (m - (k + 1)) y := by
 rw [List.set_append_right _ _ (by simp), List.length_replicate, Nat.sub_self, show m - k = (m - (k + 1)) + 1 by omega, List.replicate_succ, List.set_cons_zero, List.replicate_succ' (n := k), List.append_assoc]
 rfl
theorem rep_end {α : Type} {m k : Nat} {x y : α} (h : k = m) : List.replicate k x ++ List.replicate (m - k) y = List.replicate m x := by
 rw [h, Nat.sub_self]; simp
theorem map_snoc {α β : Type} [Inhabited α] {f : α → β} {l : List α} {k : Nat} (h : k < l.length) : (l.take (k + 1)).map f = (l.take k).map f ++ [f (l[k]?.getD default)] := by
 rw [List.take_add_one, List.getElem?_eq_getElem h, List.map_append]; rfl
end Go.Q

namespace Go.Q
def Ch.three {τ1 τ2 τ3 : Type} (x1 x2 x3 : Nat) (φ1 : τ1 → Prop) (φ2 : τ2 → Prop) (φ3 : τ3 → Prop) : Ch (τ1 × τ2 × τ3) :=
  ⟨[x1, x2, x3], fun i s => cond (Nat.beq i x1) (φ1 s.1) (cond (Nat.beq i x2) (φ2 s.2.1) (φ3 s.2.2)), fun i s s' => cond (Nat.beq i x1) (s'.2 = s.2) (cond (Nat.beq i x2) (s'.1 = s.1 ∧ s'.2.2 = s.2.2) (s'.1 = s.1 ∧ s'.2.1 = s.2.1)), fun a b s s' h1 h2 h3 he hp => by
    obtain ⟨s1, s2, s3⟩ := s
    obtain ⟨t1, t2, t3⟩ := s'
    cases h4 : Nat.beq a x1 <;> cases h5 : Nat.beq b x1 <;> cases h6 : Nat.beq a x2 <;> cases h7 : Nat.beq b x2 <;> rw [h4] at he <;> rw [h5] at hp <;> simp only [cond_true, cond_false, h5, h6, h7] at he hp ⊢ <;>
      first
      | (obtain ⟨rfl, rfl⟩ := he; exact hp)
      | (injection he with e1 e2; subst e1; subst e2; exact hp)
      | (exfalso
         simp only [List.mem_cons, List.not_mem_nil, or_false] at h1 h2
         rcases h1 with h1 | h1 | h1 <;> rcases h2 with h2 | h2 | h2 <;> subst h1 <;> (try subst h2) <;> simp_all [Nat.beq_refl]), fun _ => []⟩
end Go.Q

namespace Go.Q
open Go.Proofs
open Classical
theorem cfA_spec (ls : List Int) : SpecP Try.prog 16 [dInts ls, dVal (.func (.func 41) #[] #[])] (dB (∃ x ∈ ls, ¬ (0 ≤ x ∧ x < 2147483647))) :=
 specP_pre (containsFuncI_spec (fun x => ¬ (0 ≤ x ∧ x < 2147483647)) ls) (relL_last (ds := [dInts ls]) (val_fun (P := Try.prog) (Ds := fun x : Int => [dInt .i64 x]) (d := fun x => dB (¬ (0 ≤ x ∧ x < 2147483647))) (fun x => casked1_spec x)))
theorem casked_spec (h : Hsh) (hh : okH h) (its : List Int) (hi : ∀ n ∈ its, okIt n) : SpecP Try.prog 32 [dHsh h, dInts its] (dInt .i64 0) := by
  refine specP_of_body Try.func32 rfl rfl (fun I M => ?_)
  refine au 9 ?_
  refine run_op (loc_call (ccheck_spec19 h hh) rfl) rfl ?_
  refine au 7 ?_
  refine run_cond rfl (fun h1 => ?_) (fun h1 => ?_)
  · exfalso; exact h1 rfl
  ·
   refine au 5 ?_
   refine run_op (loc_call (cfA_spec its) rfl) rfl ?_
   refine au 1 ?_
   refine run_cond rfl (fun h2 => ?_) (fun h2 => ?_)
   · exfalso; obtain ⟨x, h1, h2⟩ := h2; exact h2 (hi x h1)
   ·
    refine au 5 ?_
    refine run_retP Try.func32 rfl rfl ?_
    exact fun _ _ h => h
theorem start19_spec (h : Hsh) (hh : okH h) (its : List Int) (hi : ∀ n ∈ its, okIt n) (hl : its.length ≤ 64) : Spec Try.prog 33 [dHsh h, dInts its] [] (σ := Value × Value) (fun _ => True) (fun s => dBox [dRows (its.map (homesI h)), dSlV s.1, dSlV s.2]) (fun s => [rRow s.1 3 1 fI (List.replicate h.m.toNat (-1)), rRow s.2 4 1 fBo (List.replicate h.m.toNat false)]) := by
  have hm1 := hh.1
  have hp1 := hh.2.1
  have hq1 := hh.2.2
  refine spec_of_body Try.func33 rfl rfl (fun I F => ?_)
  refine au 6 ?_
  refine run_addNone ?_
  refine run_addNone ?_
  refine run_addNone ?_
  refine dr_start _ (.three (τ1 := Nat) (τ2 := Nat) (τ3 := Nat) 2 5 7 (fun _ => True) (fun _ => True) (fun _ => True)) [⟨[(2, none)], [], none⟩,
      ⟨[(9, some (0, false))], [0], none⟩,
      ⟨[(10, some (1, false)), (10, some (1, false))], [0, 1], some (2, 0, true)⟩,
      ⟨[(2, none)], [], none⟩,
      ⟨[(12, some (3, false))], [3], none⟩,
      ⟨[(13, some (4, false)), (13, some (4, false))], [3, 4], some (1, 0, true)⟩,
      ⟨[(11, some (2, false)), (14, some (5, false))], [0, 1, 2, 3, 4, 5], none⟩,
      ⟨[(15, some (6, false))], [0, 1, 2, 3, 4, 5, 6], some (0, 0, true)⟩,
      ⟨[(16, some (7, false))], [0, 1, 2, 3, 4, 5, 6, 7], none⟩] [_, _, _] _ rfl rfl ?_
  refine da 2 ?_
  refine dq_choose Prod.fst (fun s t => (t, s.2)) rfl (fun _ _ => ⟨rfl, id, rfl⟩) (fun s => .op rfl (.op rfl (.nil))) rfl rfl (fun s hs => locM_new (loc_makeSlice rfl rfl (by omega) (by omega) (fun x : Int => dInt .i64 x) 0 rfl (by simp))) (by exact .cons (.inl rfl) (.cons (.inr (.inr fun ⟨a, b, c⟩ ⟨d, e, f⟩ h => by have h : d = a ∧ f = c := h; obtain ⟨rfl, rfl⟩ := h; exact rfl)) (.cons (.inr (.inr fun ⟨a, b, c⟩ ⟨d, e, f⟩ h => by have h : d = a ∧ e = b := h; obtain ⟨rfl, rfl⟩ := h; exact rfl)) (.nil)))) (fun _ _ => rfl) ?_
  refine da 2 ?_
  refine dq_choose (fun s => s.2.1) (fun s t => (s.1, t, s.2.2)) rfl (fun _ _ => ⟨rfl, id, ⟨rfl, rfl⟩⟩) (fun s => .op rfl (.op rfl (.nil))) rfl rfl (fun s hs => locM_new (loc_makeSlice rfl rfl (by omega) (by omega) (fun b : Bool => dB (b = true)) false (by simp [zeroDs, dBo_false]) (by simp))) (by exact .cons (.inr (.inr fun ⟨a, b, c⟩ ⟨d, e, f⟩ h => by have h : (e, f) = (b, c) := h; cases h; exact rfl)) (.cons (.inl rfl) (.cons (.inr (.inr fun ⟨a, b, c⟩ ⟨d, e, f⟩ h => by have h : d = a ∧ e = b := h; obtain ⟨rfl, rfl⟩ := h; exact rfl)) (.nil)))) (fun _ _ => rfl) ?_
  refine da 1 ?_
  refine dq_chooseS (fun s => s.2.2) (fun s t => (s.1, s.2.1, t)) rfl (fun _ _ => ⟨rfl, id, ⟨rfl, rfl⟩⟩) (fun s => .op rfl (.nil)) rfl rfl (fun s hs => locM_new (loc_boxOwnN rfl)) (fun _ _ => ⟨rfl, rfl⟩) (by exact .cons (.inr (.inl rfl)) (.cons (.inr (.inl rfl)) (.cons (.inl rfl) (.nil)))) (fun _ _ => rfl) ?_
  refine da 1 ?_
  refine dq_end (rs := [_, _, _]) (0, 0, 0) rfl (fun _ => rfl) (.cons rfl (.cons rfl (.cons rfl (.nil)))) rfl (fun _ => rfl) (fun s9 _ => ?_)
  obtain ⟨bb, bf, b16⟩ := s9
  dsimp only [outG, outM, List.map, List.set, id]
  refine au 6 ?_
  first | refine run_op (LocP.upV (loc_loadOwn1 rfl (.here) (by rfl))) rfl ?_ | refine run_op (loc_loadOwn1 rfl (.here) (by rfl)) rfl ?_
  refine au 3 ?_
  rw [List.length_replicate]
  refine au 1 ?_
  refine run_front (.there (.there (.here))) ?_
  refine run_loopF (σ := Nat) (ks := [1, 2, 5, 21]) (.cons rfl (.cons rfl (.cons rfl (.cons rfl (.nil))))) (fun j => [(22, dInt .i64 (j : Nat))]) (fun j => [rRow (.slice (some ⟨bb, 0, none⟩) h.m.toNat h.m.toNat) 3 1 fI (List.replicate j (-1) ++ List.replicate (h.m.toNat - j) 0)]) (fun j => j ≤ h.m.toNat) (fun j => h.m.toNat - j) (0) ((by omega)) (.cons rfl (by first | exact fun _ _ h => h | exact d_int (by omega) | exact d_int (by simp) | exact d_intN (by omega) | exact d_any) .nil) (rfl) ?_
  intro j hj ih4
  have hjl : (List.replicate j (-1 : Int) ++ List.replicate (h.m.toNat - j) 0).length = h.m.toNat := by simp; omega
  refine au 5 ?_
  refine run_cond rfl (fun h5 => ?_) (fun h5 => ?_)
  ·
   refine au 12 ?_
   first | refine run_op (LocP.upV (loc_loadOwn1 rfl (.there (.here)) (by rfl))) rfl ?_ | refine run_op (loc_loadOwn1 rfl (.there (.here)) (by rfl)) rfl ?_
   refine au 2 ?_
   refine run_storeRow1 rfl (.here) rfl (by rfl) (by first | omega | assumption) ?_
   refine au 6 ?_
   exact run_againF ih4 (j + 1) (by omega) (by omega) (.cons rfl (by first | exact fun _ _ h => h | exact d_int (by omega) | exact d_int (by simp) | exact d_intN (by omega) | exact d_any) .nil) (.cons rfl (fun _ _ x => x) (.cons rfl (fun _ _ x => x) (.cons rfl (fun _ _ x => x) (.cons rfl (fun _ _ x => x) (.nil))))) (by simp only [appR]; rw [rep_set (by omega)])
  ·
   refine au 5 ?_
   first | refine runL_fact (s := 32) rfl (fun _ _ h => dSl_len h) (fun hlen6 => ?_) | skip
   refine au 4 ?_
   rw [rep_end (by omega)]
   refine run_cellsUp (kk := 0) (b := b16) (dVal (.slice none 0 0)) (dSlV (.slice none 0 0)) (.there (.here)) rfl (fun J u h => ⟨h, _, _, _, h⟩) ?_
   refine run_rowNil 31 1 fR ?_
   refine run_front (.here) ?_
   refine run_front (.there (.there (.here))) ?_
   refine run_loopF (σ := Value × Nat) (ks := [2, 5, 32, 33]) (.cons rfl (.cons rfl (.cons rfl (.cons rfl (.nil))))) (fun q => [(34, dInt .i64 (q.2 : Nat))]) (fun q => [rCells b16 79 [dSlV q.1, dVal (.slice (some ⟨bb, 0, none⟩) h.m.toNat h.m.toNat), dVal (.slice (some ⟨bf, 0, none⟩) h.m.toNat h.m.toNat)], rRow q.1 31 1 fR ((its.take q.2).map (homesI h))]) (fun q => q.2 ≤ its.length) (fun q => its.length - q.2) ((.slice none 0 0, 0)) (Nat.zero_le _) (.cons rfl (by first | exact fun _ _ h => h | exact d_int (by omega) | exact d_int (by simp) | exact d_intN (by omega) | exact d_any) .nil) (rfl) ?_
   intro q hq ih7
   have hql : ((its.take q.2).map (homesI h)).length = q.2 := by rw [List.length_map, List.length_take]; omega
   refine au 5 ?_
   refine run_cond rfl (fun h8 => ?_) (fun h8 => ?_)
   ·
    have hin := hi (its[q.2]?.getD default) (getD_mem (by omega))
    unfold okIt at hin
    refine au 9 ?_
    refine dr_start _ (.one (σ := Value) 9 (fun _ => True)) [⟨[(5, none)], [], none⟩,
        ⟨[(5, none)], [], none⟩,
        ⟨[(39, some (1, false))], [1], none⟩,
        ⟨[(40, some (2, false))], [1, 2], none⟩,
        ⟨[(41, some (3, false))], [1, 2, 3], some (0, 0, false)⟩,
        ⟨[(2, none)], [], none⟩,
        ⟨[(8, none)], [], none⟩,
        ⟨[(43, some (5, false)), (44, some (6, false))], [5, 6], none⟩,
        ⟨[(45, some (7, false))], [5, 6, 7], none⟩,
        ⟨[(42, some (4, false)), (46, some (8, false))], [1, 2, 3, 4, 5, 6, 7, 8], some (1, 0, true)⟩,
        ⟨[(38, some (0, false))], [0, 1, 2, 3, 4, 5, 6, 7, 8, 9], none⟩,
        ⟨[(48, some (10, false))], [0, 1, 2, 3, 4, 5, 6, 7, 8, 9, 10], none⟩,
        ⟨[(49, some (11, false)), (47, some (9, false))], [0, 1, 2, 3, 4, 5, 6, 7, 8, 9, 10, 11], some (0, 0, true)⟩] [_, _, _, _] _ rfl rfl ?_
    refine da 4 ?_
    first | refine dq_read rfl (fun s => .op rfl (.nil)) rfl rfl (fun s hs _ hm => LocP.upV (loc_loadOwn1 rfl hm (by rfl))) (by exact .cons (.inr fun _ _ _ => rfl) (.nil)) ?_ | refine dq_read rfl (fun s => .op rfl (.nil)) rfl rfl (fun s hs _ hm => loc_loadOwn1 rfl hm (by rfl)) (by exact .cons (.inr fun _ _ _ => rfl) (.nil)) ?_
    refine da 2 ?_
    refine dq_pure rfl (fun s => .op rfl (.op rfl (.nil))) (fun s hs _ => loc_call (chomes_spec h hh _ hin) rfl) (by exact .cons (.inr fun _ _ _ => rfl) (.nil)) ?_
    refine dq_pure rfl (fun s => .op rfl (.nil)) (fun s hs _ => loc_buildSlice rfl rfl (.one rfl (.nil)) rfl rfl) (by exact .cons (.inr fun _ _ _ => rfl) (.nil)) ?_
    refine dq_choose id (fun _ t => t) rfl (fun _ _ => ⟨rfl, id, trivial⟩) (fun s => .op rfl (.op rfl (.nil))) rfl rfl (fun s hs => LocM.rowV (loc_append1 _ rfl rfl rfl rfl (by first | omega | (simp [lenMax]; omega) | (simp [lenMax]; done) | assumption) (by first | omega | (simp [lenMax]; omega) | (simp [lenMax]; done) | assumption))) (by exact .cons (.inl rfl) (.nil)) (fun _ _ => rfl) ?_
    refine da 2 ?_
    refine dq_write0 rfl (fun s => .op rfl (.op rfl (.nil))) rfl rfl (fun s hs => loc_store1 rfl rfl rfl) (by exact .cons (.inl rfl) (.nil)) ?_
    refine dq_end (rs := [_, _, _, _]) (.bool true) rfl (fun _ => rfl) (.cons rfl (.nil)) rfl (fun _ => rfl) (fun v9 _ => ?_)
    dsimp only [outG, outM, List.map, List.set, id]
    refine au 5 ?_
    exact run_againF ih7 ((v9, q.2 + 1)) (by simp only; omega) (by simp only; omega) (.cons rfl (by first | exact fun _ _ h => h | exact d_int (by omega) | exact d_int (by simp) | exact d_intN (by omega) | exact d_any) .nil) (.cons rfl (fun _ _ x => x) (.cons rfl (fun _ _ x => x) (.cons rfl (fun _ _ x => x) (.cons rfl (fun _ _ x => x) (.nil))))) (by simp only [appR]; rw [map_snoc (by omega)])
   ·
    refine au 2 ?_
    have hall : its.take q.2 = its := List.take_of_length_le (by omega)
    rw [hall]
    first | refine run_freezeRowCellV (kk := 0) (.there (.here)) (.here) rfl ?_ | refine run_freezeRowCell (kk := 0) (.there (.here)) (.here) rfl ?_
    refine run_cellsUp (kk := 1) (b := b16) (dVal (.slice (some ⟨bb, 0, none⟩) h.m.toNat h.m.toNat)) (dSlV (.slice (some ⟨bb, 0, none⟩) h.m.toNat h.m.toNat)) (.here) rfl (fun J u h => ⟨h, _, _, _, h⟩) ?_
    refine run_cellsUp (kk := 2) (b := b16) (dVal (.slice (some ⟨bf, 0, none⟩) h.m.toNat h.m.toNat)) (dSlV (.slice (some ⟨bf, 0, none⟩) h.m.toNat h.m.toNat)) (.here) rfl (fun J u h => ⟨h, _, _, _, h⟩) ?_
    refine run_freezeCells (s := 5) rfl (.here) ?_
    refine au 4 ?_
    refine run_ret (((.slice (some ⟨bb, 0, none⟩) h.m.toNat h.m.toNat), (.slice (some ⟨bf, 0, none⟩) h.m.toNat h.m.toNat))) Try.func33 rfl rfl ?_ (trivial) (fun _ _ h => h.sub (.cons_cons _ (.cons_cons _ (.refl _))))
    exact fun _ _ h => h
theorem assign_spec (h : Hsh) (hh : okH h) (its : List Int) (hi : ∀ n ∈ its, okIt n) : SpecP Try.prog 19 [dHsh h, dInts its] (dTup [dAgg [dInts (asgB h its)], dInt .i64 (asgE h its)]) := by
  have hm1 := hh.1
  have hp1 := hh.2.1
  have hq1 := hh.2.2
  refine specP_of_body Try.func19 rfl rfl (fun I M => ?_)
  refine au 3 ?_
  refine run_new (loc_allocOwn (by simp)) rfl (fun b1 _ => ?_)
  refine au 7 ?_
  refine run_op (loc_call (casked_spec h hh its hi) rfl) rfl ?_
  refine au 7 ?_
  refine run_cond rfl (fun h2 => ?_) (fun h2 => ?_)
  · exfalso; exact h2 rfl
  ·
   refine au 5 ?_
   first | refine runL_fact (s := 15) rfl (fun _ _ h => dSl_len h) (fun hlen3 => ?_) | skip
   refine au 5 ?_
   refine run_cond rfl (fun h4 => ?_) (fun h4 => ?_)
   ·
    have hE : asgE h its = 4 := by unfold asgE; rw [if_pos (by omega)]
    refine au 6 ?_
    refine run_retGP Try.func19 rfl (.cellN rfl (.here) (by rfl) (.tmp rfl (.nil))) ?_ (fun _ _ h => inv_tail (h))
    exact d_tup2 (d_aggU (.cons (d_toInts (by unfold asgB; rw [if_neg (by omega)]) d_nil) .nil)) (d_int hE.symm)
   ·
    have hl : its.length ≤ 64 := by omega
    refine au 5 ?_
    refine run_callN2 rfl (start19_spec h hh its hi hl) rfl (fun vb vf => ?_)
    refine au 2 ?_
    have hFE : firstH h its = firstF (hsF (its.map (homesI h))) h.m.toNat (itsN 0 (its.map (homesI h)).length) (List.replicate h.m.toNat false) (List.replicate h.m.toNat (-1)) := by unfold firstH; rw [List.length_map]
    refine au 4 ?_
    refine run_op2 rfl (loc_callM (first19_spec (homes_ok hh its) (by omega) (by rw [List.length_map]; exact hl) _ _ (by rw [List.length_map]; exact fs_start) vb vf) rfl) (fun _ _ => ?_)
    refine au 2 ?_
    refine run_cond rfl (fun h5 => ?_) (fun h5 => ?_)
    ·
     have hE : asgE h its = 15 := by unfold asgE; rw [if_neg (by omega), if_neg (by rw [hFE]; exact h5)]
     refine au 6 ?_
     refine run_retGP Try.func19 rfl (.cellN rfl (.there (.there (.here))) (by rfl) (.tmp rfl (.nil))) ?_ (fun _ _ h => inv_tail (inv_tail (inv_tail (h))))
     exact d_tup2 (d_aggU (.cons (d_toInts (by unfold asgB; rw [if_neg (by omega)]) d_nil) .nil)) (d_int hE.symm)
    ·
     have hE : asgE h its = 0 := by unfold asgE; rw [if_neg (by omega), if_pos (by rw [hFE]; exact Classical.not_not.1 h5)]
     refine au 2 ?_
     refine run_rowForm (.here) (by have := (firstF_len (hsF (its.map (homesI h))) h.m.toNat (itsN 0 (its.map (homesI h)).length) (List.replicate h.m.toNat false) (List.replicate h.m.toNat (-1))).2; rw [this, List.length_replicate]; omega) (fun b1 c1 e1 => ?_)
     subst e1
     refine au 4 ?_
     refine run_op (LocP.upV (loc_load1 rfl)) rfl ?_
     refine au 4 ?_
     first | refine run_freezeRowCellV (kk := 0) (.here) (.there (.here)) rfl ?_ | refine run_freezeRowCell (kk := 0) (.here) (.there (.here)) rfl ?_
     refine run_retGP Try.func19 rfl (.cellN rfl (.there (.here)) (by rfl) (.tmp rfl (.nil))) ?_ (fun _ _ h => inv_tail (inv_tail (h)))
     exact d_tup2 (d_aggU (.cons (d_toInts (by unfold asgB; rw [if_pos hE, hFE]) (fun _ _ h => h)) .nil)) (d_int hE.symm)
end Go.Q

namespace Go.Q
def layAdd (n : Int) (rows : List (List Int)) (b : Nat) : List (List Int) :=
 if (rows[b]?.getD default).length = 0 ∨ (rows[b]?.getD default)[(rows[b]?.getD default).length - 1]?.getD default ≠ n then rows.set b (rows[b]?.getD default ++ [n]) else rows
def layF (h : Hsh) (n : Nat) : List (List Int) := (List.range n).foldl (fun rows i => ((homesI h (i : Nat)).map Int.toNat).foldl (layAdd (i : Nat)) rows) (List.replicate h.m.toNat [])
def layI (h : Hsh) (k j : Nat) : List (List Int) := (((homesI h (k : Nat)).map Int.toNat).take j).foldl (layAdd (k : Nat)) (layF h k)
theorem set_get {α : Type} {l : List α} {b : Nat} {x : α} (h : l[b]? = some x) : l.set b x = l := by
 obtain ⟨h1, h2⟩ := List.getElem?_eq_some_iff.1 h
 rw [← h2]; exact List.set_getElem_self h1
theorem layF_0 (h : Hsh) : layF h 0 = List.replicate h.m.toNat [] := rfl
theorem layI_0 (h : Hsh) (k : Nat) : layI h k 0 = layF h k := rfl
theorem layI_next {h : Hsh} {k j : Nat} (hj : j < (homesI h (k : Nat)).length) : layI h k (j + 1) = layAdd (k : Nat) (layI h k j) ((homesI h (k : Nat))[j]?.getD default).toNat := by
 unfold layI
 rw [List.take_add_one, List.getElem?_eq_getElem (by rw [List.length_map]; exact hj), List.foldl_append, List.getElem_map, List.getElem?_eq_getElem hj]
 rfl
theorem layI_end {h : Hsh} {k j : Nat} (hj : (homesI h (k : Nat)).length ≤ j) : layI h k j = layF h (k + 1) := by
 unfold layI layF
 rw [List.take_of_length_le (by rw [List.length_map]; exact hj), List.range_succ, List.foldl_append]
 rfl
theorem layAdd_len (n : Int) (rows : List (List Int)) (b : Nat) : (layAdd n rows b).length = rows.length := by
 unfold layAdd; split <;> simp
theorem foldl_len {n : Int} : ∀ (bs : List Nat) (rows : List (List Int)), (bs.foldl (layAdd n) rows).length = rows.length
 | [], _ => rfl
 | b :: bs, rows => by rw [List.foldl_cons, foldl_len bs, layAdd_len]
theorem layF_len (h : Hsh) : ∀ n, (layF h n).length = h.m.toNat
 | 0 => by rw [layF_0]; simp
 | n + 1 => by rw [← layI_end (Nat.le_refl _)]; unfold layI; rw [foldl_len, layF_len h n]
structure LayOk (n : Int) (rows : List (List Int)) : Prop where
 asc : ∀ l ∈ rows, l.Pairwise (· < ·)
 bd : ∀ l ∈ rows, ∀ x ∈ l, 0 ≤ x ∧ x < n
theorem LayOk.up {n n' : Int} {rows : List (List Int)} (h : LayOk n rows) (hn : n ≤ n') : LayOk n' rows := ⟨h.asc, fun l hl x hx => by have := h.bd l hl x hx; omega⟩
theorem last_mem {l : List Int} (h : l.length ≠ 0) : ∃ x, l[l.length - 1]?.getD default = x ∧ x ∈ l := by
 rw [List.getElem?_eq_getElem (by omega)]
 exact ⟨_, rfl, List.getElem_mem _⟩
theorem asc_last {l : List Int} (h : l.Pairwise (· < ·)) : ∀ x ∈ l, x ≤ l[l.length - 1]?.getD default := by
 intro x hx
 obtain ⟨i, hi, rfl⟩ := List.mem_iff_getElem.1 hx
 rw [List.getElem?_eq_getElem (by omega)]
 by_cases e : i = l.length - 1
 ·subst e; exact Int.le_refl _
 ·exact Int.le_of_lt (List.pairwise_iff_getElem.1 h i (l.length - 1) hi (by omega) (by omega))
theorem layAdd_ok {n : Int} {rows : List (List Int)} {b : Nat} (hn : 0 ≤ n) (h : LayOk (n + 1) rows) : LayOk (n + 1) (layAdd n rows b) := by
 unfold layAdd
 split
 ·rename_i hc
  by_cases hb : b < rows.length
  ·have hl : rows[b]?.getD default ∈ rows := by rw [List.getElem?_eq_getElem hb]; exact List.getElem_mem _
   generalize rows[b]?.getD default = l at hc hl
   have ha := h.asc l hl
   have hlb := h.bd l hl
   have hlt : ∀ x ∈ l, x < n := fun x hx => by
    have h1 := asc_last ha x hx
    rcases hc with hc | hc
    ·rw [List.eq_nil_of_length_eq_zero hc] at hx; cases hx
    ·obtain ⟨y, hy, hm⟩ := last_mem (l := l) (fun e => by rw [List.eq_nil_of_length_eq_zero e] at hx; cases hx)
     rw [hy] at h1 hc
     have := hlb y hm
     omega
   refine ⟨fun l' hl' => ?_, fun l' hl' x hx => ?_⟩
   ·rcases List.mem_or_eq_of_mem_set hl' with h2 | rfl
    ·exact h.asc l' h2
    ·exact List.pairwise_append.2 ⟨ha, List.pairwise_singleton .., fun x hx y hy => by rw [List.mem_singleton.1 hy]; exact hlt x hx⟩
   ·rcases List.mem_or_eq_of_mem_set hl' with h2 | rfl
    ·exact h.bd l' h2 x hx
    ·rcases List.mem_append.1 hx with hx | hx
     ·exact hlb x hx
     ·rw [List.mem_singleton.1 hx]; omega
  ·rw [List.set_eq_of_length_le (by omega)]; exact h
 ·exact h
theorem foldl_ok {n : Int} (hn : 0 ≤ n) : ∀ (bs : List Nat) {rows : List (List Int)}, LayOk (n + 1) rows → LayOk (n + 1) (bs.foldl (layAdd n) rows)
 | [], _, h => h
 | b :: bs, _, h => foldl_ok hn bs (layAdd_ok hn h)
theorem layF_ok (h : Hsh) : ∀ n : Nat, LayOk (n : Nat) (layF h n)
 | 0 => ⟨fun l hl => by rw [layF_0] at hl; rw [List.eq_of_mem_replicate hl]; exact .nil, fun l hl x hx => by rw [layF_0] at hl; rw [List.eq_of_mem_replicate hl] at hx; cases hx⟩
 | n + 1 => by
  have h1 := foldl_ok (n := (n : Nat)) (by omega) ((homesI h (n : Nat)).map Int.toNat) ((layF_ok h n).up (n' := ((n : Nat) : Int) + 1) (by omega))
  rw [← layI_end (Nat.le_refl _)]
  unfold layI
  rw [List.take_of_length_le (by rw [List.length_map]; exact Nat.le_refl _)]
  exact h1
theorem layI_ok (h : Hsh) (k j : Nat) : LayOk ((k : Nat) + 1) (layI h k j) := foldl_ok (n := (k : Nat)) (by omega) _ ((layF_ok h k).up (by omega))
theorem asc_len {n : Int} : ∀ {l : List Int} {a : Int}, l.Pairwise (· < ·) → (∀ x ∈ l, a ≤ x ∧ x < n) → (l.length : Int) ≤ max 0 (n - a)
 | [], _, _, _ => by simp; omega
 | x :: l, a, h, hb => by
  obtain ⟨h1, h2⟩ := List.pairwise_cons.1 h
  have hx := hb x (List.mem_cons_self ..)
  have ih := asc_len (a := x + 1) h2 fun y hy => ⟨h1 y hy, (hb y (List.mem_cons_of_mem _ hy)).2⟩
  rw [List.length_cons]; omega
theorem LayOk.len {n : Int} {rows : List (List Int)} (h : LayOk n rows) (hn : 0 ≤ n) {l : List Int} (hl : l ∈ rows) : (l.length : Int) ≤ n := by
 have := asc_len (a := 0) (h.asc l hl) (h.bd l hl)
 omega
theorem layAdd_keep {n x : Int} {rows : List (List Int)} {b c : Nat} (h : x ∈ rows[c]?.getD default) : x ∈ (layAdd n rows b)[c]?.getD default := by
 unfold layAdd
 split
 ·by_cases e : b = c
  ·subst e
   by_cases hb : b < rows.length
   ·rw [List.getElem?_set_self hb]; exact List.mem_append_left _ h
   ·rw [List.getElem?_eq_none (by omega)] at h; cases h
  ·rw [List.getElem?_set_ne e]; exact h
 ·exact h
theorem layAdd_new {n : Int} {rows : List (List Int)} {b : Nat} (hb : b < rows.length) : n ∈ (layAdd n rows b)[b]?.getD default := by
 unfold layAdd
 split
 ·rw [List.getElem?_set_self hb]; exact List.mem_append_right _ (List.mem_singleton.2 rfl)
 ·rename_i hc
  obtain ⟨y, hy, hm⟩ := last_mem (l := rows[b]?.getD default) (fun e => hc (.inl e))
  have : y = n := by rw [← hy]; exact Classical.not_not.1 fun e => hc (.inr e)
  rw [← this]; exact hm
theorem foldl_keep {n x : Int} : ∀ (bs : List Nat) {rows : List (List Int)} {c : Nat}, x ∈ rows[c]?.getD default → x ∈ (bs.foldl (layAdd n) rows)[c]?.getD default
 | [], _, _, h => h
 | b :: bs, _, _, h => foldl_keep bs (layAdd_keep h)
theorem foldl_new {n : Int} : ∀ (bs : List Nat) {rows : List (List Int)} {c : Nat}, c ∈ bs → c < rows.length → n ∈ (bs.foldl (layAdd n) rows)[c]?.getD default
 | [], _, _, h, _ => by cases h
 | b :: bs, rows, c, h, hc => by
  rw [List.foldl_cons]
  rcases List.mem_cons.1 h with rfl | h
  ·exact foldl_keep bs (layAdd_new hc)
  ·exact foldl_new bs h (by rw [layAdd_len]; exact hc)
theorem layF_home {h : Hsh} (hh : okH h) : ∀ (n : Nat) {r : Nat}, r < n → ∀ b ∈ homesI h (r : Nat), ((r : Nat) : Int) ∈ (layF h n)[b.toNat]?.getD default
 | 0, _, hr, _, _ => by omega
 | n + 1, r, hr, b, hb => by
  have hbd := homesI_bd hh _ b hb
  rw [← layI_end (Nat.le_refl _)]
  unfold layI
  by_cases e : r = n
  ·subst e
   exact foldl_new _ (by rw [List.take_of_length_le (by rw [List.length_map]; exact Nat.le_refl _)]; exact List.mem_map.2 ⟨b, hb, rfl⟩) (by rw [layF_len]; omega)
  ·exact foldl_keep _ (layF_home hh n (by omega) b hb)
end Go.Q

namespace Go.Q
open Go.Proofs
open Classical
theorem layoutM_spec (h : Hsh) (hh : okH h) (n : Nat) (hn : n ≤ 1024) : Spec Try.prog 18 [dHsh h, dInt .i64 (n : Nat)] [] (σ := Value × List (Value × List Int)) (fun s => s.2.map (·.2) = layF h n) (fun s => dTup [dVal s.1, dInt .i64 0]) (fun s => rRow s.1 31 1 (fun u => [dSlV u]) (s.2.map (·.1)) :: fam 3 1 (fun x => [dInt .i64 x]) s.2) := by
  have hm1 := hh.1
  have hp1 := hh.2.1
  have hq1 := hh.2.2
  refine spec_of_body Try.func18 rfl rfl (fun I F => ?_)
  refine au 10 ?_
  refine run_op (loc_call (ccheck_spec19 h hh) rfl) rfl ?_
  refine au 7 ?_
  refine run_cond rfl (fun h1 => ?_) (fun h1 => ?_)
  · exfalso; exact h1 rfl
  ·
   refine au 12 ?_
   refine run_cond rfl (fun h2 => ?_) (fun h2 => ?_)
   · exfalso; have := h2; omega
   ·
    refine au 5 ?_
    refine run_new (loc_makeSlice rfl rfl (by first | omega | assumption) (by first | omega | assumption) _ _ rfl (by simp)) rfl (fun b25 _ => ?_)
    refine au 2 ?_
    refine run_inv (M' := rRow (.slice (some ⟨b25, 0, none⟩) h.m.toNat h.m.toNat) 31 1 (fun u => [dSlV u]) ((List.replicate h.m.toNat ((.slice none 0 0 : Value), ([] : List Int))).map (·.1)) :: (fam 3 1 fI (List.replicate h.m.toNat ((.slice none 0 0 : Value), ([] : List Int))) ++ F)) (fun I w hI => fam_nils [_] h.m.toNat (by rw [List.map_replicate]; exact row_nilV hI)) ?_
    refine au 7 ?_
    refine run_loopE (σ := Nat × List (Value × List Int)) (ks := [2, 7, 26]) (.cons rfl (.cons rfl (.cons rfl (.nil)))) (fun q => [(27, dInt .i64 (q.1 : Nat))]) (fun q => rRow (.slice (some ⟨b25, 0, none⟩) h.m.toNat h.m.toNat) 31 1 (fun u => [dSlV u]) (q.2.map (·.1)) :: (fam 3 1 fI q.2 ++ F)) (fun q => q.1 ≤ n ∧ q.2.map (·.2) = layF h q.1) (fun q => n - q.1) ((0, (List.replicate h.m.toNat ((.slice none 0 0 : Value), ([] : List Int))))) (⟨Nat.zero_le _, by rw [layF_0, List.map_replicate]⟩) (.cons rfl (by first | exact fun _ _ h => h | exact d_int (by omega) | exact d_int (by simp) | exact d_intN (by omega) | exact d_any) .nil) (rfl) ?_
    rintro q ⟨hq1, hq2⟩ ih3
    have hqn : q.2.length = h.m.toNat := by rw [← layF_len h q.1, ← hq2, List.length_map]
    have hol := homesI_len h (q.1 : Nat)
    refine au 5 ?_
    refine run_cond rfl (fun h4 => ?_) (fun h4 => ?_)
    ·
     refine au 12 ?_
     refine run_op (loc_call (chomes_spec h hh _ ⟨by omega, by omega⟩) rfl) rfl ?_
     first | refine runL_fact (s := 32) rfl (fun _ _ h => dSl_len h) (fun hlen5 => ?_) | skip
     refine au 4 ?_
     refine run_loopE (σ := Nat × List (Value × List Int)) (ks := [2, 7, 8, 26, 27, 32, 33]) (.cons rfl (.cons rfl (.cons rfl (.cons rfl (.cons rfl (.cons rfl (.cons rfl (.nil)))))))) (fun u => [(34, dInt .i64 (u.1 : Nat))]) (fun u => rRow (.slice (some ⟨b25, 0, none⟩) h.m.toNat h.m.toNat) 31 1 (fun u => [dSlV u]) (u.2.map (·.1)) :: (fam 3 1 fI u.2 ++ F)) (fun u => u.1 ≤ (homesI h q.1).length ∧ u.2.map (·.2) = layI h q.1 u.1) (fun u => (homesI h q.1).length - u.1) ((0, q.2)) (⟨Nat.zero_le _, by rw [hq2, layI_0]⟩) (.cons rfl (by first | exact fun _ _ h => h | exact d_int (by omega) | exact d_int (by simp) | exact d_intN (by omega) | exact d_any) .nil) (rfl) ?_
     rintro u ⟨hu1, hu2⟩ ih6
     have hun : u.2.length = h.m.toNat := by rw [← List.length_map (f := (·.2)), hu2]; unfold layI; rw [foldl_len, layF_len]
     refine au 5 ?_
     refine run_cond rfl (fun h7 => ?_) (fun h7 => ?_)
     ·
      have huo : u.1 < (homesI h q.1).length := by omega
      have hbd := homesI_bd hh (q.1 : Nat) _ (getD_mem huo)
      obtain ⟨pk, hpk⟩ : ∃ pk, u.2[((homesI h q.1)[u.1]?.getD default).toNat]? = some pk := ⟨u.2[((homesI h q.1)[u.1]?.getD default).toNat]'(by omega), List.getElem?_eq_getElem (by omega)⟩
      have hpk1 : (u.2.map (·.1))[((homesI h q.1)[u.1]?.getD default).toNat]?.getD default = pk.1 := by rw [List.getElem?_map, hpk]; rfl
      have hpk2 : (layI h q.1 u.1)[((homesI h q.1)[u.1]?.getD default).toNat]?.getD default = pk.2 := by rw [← hu2, List.getElem?_map, hpk]; rfl
      have hml : (u.2.map (·.1)).length = h.m.toNat := by rw [List.length_map]; exact hun
      have hnx := layI_next huo
      unfold layAdd at hnx
      rw [hpk2] at hnx
      have hpl := (layI_ok h q.1 u.1).len (by omega) (l := pk.2) (by rw [← hu2]; exact List.mem_map.2 ⟨pk, List.mem_of_getElem? hpk, rfl⟩)
      refine au 10 ?_
      refine run_inv (fun I w hI => fam_out [_] ((homesI h q.1)[u.1]?.getD default).toNat hpk hI) ?_
      refine au 4 ?_
      refine run_op (LocP.conv (LocP.upV (loc_loadRow1 rfl (.there .here) (by omega))) (congrArg dVal hpk1)) rfl ?_
      refine au 12 ?_
      refine run_gop rfl rfl gdI.ok (fun hg => loc_indexEl rfl rfl .here (by omega)) rfl ?_
      refine run_gop rfl rfl gdI.ok (fun hg => loc_loadEl1 rfl .here (by omega)) rfl ?_
      refine au 5 ?_
      have hcd : ∀ {z : Int}, ((pk.2.length : Int) = 0 ∨ ¬ pk.2[((pk.2.length : Int) - 1).toNat]?.getD default = z) → (pk.2.length = 0 ∨ pk.2[pk.2.length - 1]?.getD default ≠ z) := fun h => by rw [show ((pk.2.length : Int) - 1).toNat = pk.2.length - 1 by omega] at h; exact h.imp (fun e => by omega) id
      have hcu : ∀ {z : Int}, (pk.2.length = 0 ∨ pk.2[pk.2.length - 1]?.getD default ≠ z) → ((pk.2.length : Int) = 0 ∨ ¬ pk.2[((pk.2.length : Int) - 1).toNat]?.getD default = z) := fun h => by rw [show ((pk.2.length : Int) - 1).toNat = pk.2.length - 1 by omega]; exact h.imp (fun e => by omega) id
      refine run_cond rfl (fun h8 => ?_) (fun h8 => ?_)
      ·
       rw [if_pos (hcd h8)] at hnx
       refine au 5 ?_
       refine run_op (loc_buildSlice rfl rfl (.one rfl (.nil)) rfl rfl) rfl ?_
       refine run_append1 rfl (.here) rfl (by rfl) (by rfl) (by first | omega | (simp [lenMax]; omega) | (simp [lenMax]; done) | assumption) (by first | omega | (simp [lenMax]; omega) | (simp [lenMax]; done) | assumption) rfl (fun v9 => ?_)
       refine runL_rowV (s := 60) rfl (.here) ?_
       refine au 1 ?_
       refine run_storeRow1 rfl (.there (.here)) rfl (by rfl) (by first | omega | assumption) ?_
       refine au 6 ?_
       refine run_inv (M' := rRow (.slice (some ⟨b25, 0, none⟩) h.m.toNat h.m.toNat) 31 1 (fun u => [dSlV u]) ((u.2.set ((homesI h q.1)[u.1]?.getD default).toNat (v9, pk.2 ++ [(q.1 : Int)])).map (·.1)) :: (fam 3 1 fI (u.2.set ((homesI h q.1)[u.1]?.getD default).toNat (v9, pk.2 ++ [(q.1 : Int)])) ++ F)) (fun I w hI => by have h2 := fam_in [_] ((homesI h q.1)[u.1]?.getD default).toNat (p := (v9, pk.2 ++ [(q.1 : Int)])) (by omega) hI; rw [List.map_set]; exact h2) ?_
       exact run_againE ih6 ((u.1 + 1, u.2.set ((homesI h q.1)[u.1]?.getD default).toNat (v9, pk.2 ++ [(q.1 : Int)]))) (⟨by simp only; omega, by simp only [List.map_set]; rw [hnx, hu2]⟩) (by simp only; omega) (.cons rfl (by first | exact fun _ _ h => h | exact d_int (by omega) | exact d_int (by simp) | exact d_intN (by omega) | exact d_any) .nil) (.cons rfl (fun _ _ x => x) (.cons rfl (fun _ _ x => x) (.cons rfl (fun _ _ x => x) (.cons rfl (fun _ _ x => x) (.cons rfl (fun _ _ x => x) (.cons rfl (fun _ _ x => x) (.cons rfl (fun _ _ x => x) (.nil)))))))) (rfl)
      ·
       rw [if_neg (fun e => h8 (hcu e))] at hnx
       refine run_inv (M' := rRow (.slice (some ⟨b25, 0, none⟩) h.m.toNat h.m.toNat) 31 1 (fun u => [dSlV u]) (u.2.map (·.1)) :: (fam 3 1 fI u.2 ++ F)) (fun I w hI => by have h2 := fam_in [_] ((homesI h q.1)[u.1]?.getD default).toNat (p := pk) (by omega) hI; rw [set_get hpk] at h2; exact h2) ?_
       refine au 6 ?_
       exact run_againE ih6 ((u.1 + 1, u.2)) (⟨by simp only; omega, by rw [hnx, hu2]⟩) (by simp only; omega) (.cons rfl (by first | exact fun _ _ h => h | exact d_int (by omega) | exact d_int (by simp) | exact d_intN (by omega) | exact d_any) .nil) (.cons rfl (fun _ _ x => x) (.cons rfl (fun _ _ x => x) (.cons rfl (fun _ _ x => x) (.cons rfl (fun _ _ x => x) (.cons rfl (fun _ _ x => x) (.cons rfl (fun _ _ x => x) (.cons rfl (fun _ _ x => x) (.nil)))))))) (rfl)
     ·
      refine au 6 ?_
      exact run_againE ih3 ((q.1 + 1, u.2)) (⟨by simp only; omega, by rw [hu2, layI_end (by omega)]⟩) (by simp only; omega) (.cons rfl (by first | exact fun _ _ h => h | exact d_int (by omega) | exact d_int (by simp) | exact d_intN (by omega) | exact d_any) .nil) (.cons rfl (fun _ _ x => x) (.cons rfl (fun _ _ x => x) (.cons rfl (fun _ _ x => x) (.nil)))) (rfl)
    ·
     refine au 7 ?_
     refine run_ret2 (((.slice (some ⟨b25, 0, none⟩) h.m.toNat h.m.toNat), q.2)) Try.func18 rfl rfl rfl ?_ (by show q.2.map (·.2) = _; rw [hq2, show q.1 = n by omega]) (fun _ _ h => h)
     exact fun _ _ h => h
theorem layout_spec (h : Hsh) (hh : okH h) (n : Nat) (hn : n ≤ 1024) : SpecP Try.prog 18 [dHsh h, dInt .i64 (n : Nat)] (dTup [dRows (layF h n), dInt .i64 0]) := spec_freezeRows2 (layoutM_spec h hh n hn)
end Go.Q

namespace Go.Q
def ent (l : List Int) (i : Nat) : Int := l[i]?.getD default
def SortTo (l : List Int) (n : Nat) : Prop := ∀ p q : Nat, p < q → q < n → ent l p ≤ ent l q
def SortBut (l : List Int) (i j : Nat) : Prop := ∀ p q : Nat, p < q → q ≤ i → q ≠ j → ent l p ≤ ent l q
theorem ent_set {l : List Int} {b i : Nat} {x : Int} (hb : b < l.length) : ent (l.set b x) i = if b = i then x else ent l i := by
 unfold ent
 by_cases e : b = i
 ·subst e; rw [if_pos rfl, List.getElem?_set_self hb]; rfl
 ·rw [if_neg e, List.getElem?_set_ne e]
theorem sort_one (l : List Int) : SortTo l 1 := fun p q h1 h2 => by omega
theorem sort_in {l : List Int} {i : Nat} (h : SortTo l i) : SortBut l i i := fun p q h1 h2 h3 => h p q h1 (by omega)
theorem sort_out {l : List Int} {i j : Nat} (hj : j ≤ i) (h : SortBut l i j) (hd : j = 0 ∨ ent l (j - 1) ≤ ent l j) : SortTo l (i + 1) := fun p q h1 h2 => by
 by_cases e : q = j
 ·subst e
  rcases hd with hd | hd
  ·omega
  ·by_cases e2 : p = q - 1
   ·subst e2; exact hd
   ·exact Int.le_trans (h p (q - 1) (by omega) (by omega) (by omega)) hd
 ·exact h p q h1 (by omega) e
theorem sort_swap {l : List Int} {i j : Nat} (h0 : 0 < j) (hj : j ≤ i) (hi : i < l.length) (h : SortBut l i j) (hd : ent l j < ent l (j - 1)) : SortBut ((l.set j (ent l (j - 1))).set (j - 1) (ent l j)) i (j - 1) := by
 have e : ∀ k, ent ((l.set j (ent l (j - 1))).set (j - 1) (ent l j)) k = if j - 1 = k then ent l j else if j = k then ent l (j - 1) else ent l k := fun k => by
  rw [ent_set (by rw [List.length_set]; omega), ent_set (by omega)]
 intro p q h1 h2 h3
 rw [e p, e q, if_neg (show ¬ (j - 1 = q) from fun h => h3 h.symm)]
 by_cases e1 : j = q
 ·subst e1
  rw [if_pos rfl]
  by_cases e2 : j - 1 = p
  ·rw [if_pos e2]; omega
  ·rw [if_neg e2, if_neg (by omega)]; exact h p (j - 1) (by omega) (by omega) (by omega)
 ·rw [if_neg e1]
  by_cases e2 : j - 1 = p
  ·rw [if_pos e2]; exact h j q (by omega) h2 (fun e => e1 e.symm)
  ·rw [if_neg e2]
   by_cases e3 : j = p
   ·rw [if_pos e3]; exact h (j - 1) q (by omega) h2 (fun e => e1 e.symm)
   ·rw [if_neg e3]; exact h p q h1 h2 (fun e => e1 e.symm)
theorem swap_perm {l : List Int} {i j : Nat} (hi : i < l.length) (hj : j < l.length) : ((l.set j (ent l i)).set i (ent l j)).Perm l := by
 unfold ent
 rw [List.getElem?_eq_getElem hi, List.getElem?_eq_getElem hj]
 exact List.set_set_perm hj hi
theorem ent_mem {l : List Int} {i : Nat} (h : i < l.length) : ent l i ∈ l := by
 unfold ent; rw [List.getElem?_eq_getElem h]; exact List.getElem_mem _
theorem sort_range {k : Nat} {l : List Int} (hp : l.Perm (itsN 0 k)) (hs : SortTo l l.length) : ∀ i, i < k → ent l i = (i : Int) := by
 have hl : l.length = k := by rw [hp.length_eq]; simp [itsN]
 have hn : l.Nodup := hp.nodup_iff.2 (its_nodup 0 k)
 have hb : ∀ i, i < k → 0 ≤ ent l i ∧ ent l i < k := fun i hi => by
  have := its_mem.1 (hp.mem_iff.1 (ent_mem (l := l) (i := i) (by omega)))
  omega
 have hlt : ∀ p q : Nat, p < q → q < k → ent l p < ent l q := fun p q h1 h2 => by
  have h3 := hs p q h1 (by omega)
  have h4 : ent l p ≠ ent l q := fun e => by
   unfold ent at e
   rw [List.getElem?_eq_getElem (by omega), List.getElem?_eq_getElem (by omega)] at e
   have := (List.getElem_inj hn).1 (show l[p] = l[q] from e)
   omega
  omega
 have hlo : ∀ i, i < k → (i : Int) ≤ ent l i := fun i => by
  induction i with
  | zero => intro h; have := hb 0 h; omega
  | succ i ih => intro h; have h1 := ih (by omega); have h2 := hlt i (i + 1) (by omega) h; omega
 have hhi : ∀ d i, i + d + 1 = k → ent l i ≤ (i : Int) := fun d => by
  induction d with
  | zero => intro i h; have := hb i (by omega); omega
  | succ d ih => intro i h; have h1 := ih (i + 1) (by omega); have h2 := hlt i (i + 1) (by omega) (by omega); omega
 intro i hi
 have h1 := hlo i hi
 have h2 := hhi (k - i - 1) i (by omega)
 omega
end Go.Q

namespace Go.Q
variable {P : Program} {N : Nat} {g : G} {M : List Res} {dst : Option Tmp} {ty : TypeId} {pos : String} {after : Array Edge} {gd : Option (Nat × Bool)}
def byteAt (s : ByteArray) (i : Nat) : Int := match s[i]? with | some b => (b.toNat : Int) | none => 0
theorem byteAt_bd (s : ByteArray) (i : Nat) : 0 ≤ byteAt s i ∧ byteAt s i < 256 := by
 unfold byteAt
 split
 ·rename_i b _; have := b.toNat_lt; omega
 ·omega
theorem loc_indexStr {t : TypeId} [ht : TyStr P t] {x y : Operand} {s : ByteArray} {k : IntKind} {i : Int} (hx : opd g x = some (dStr s)) (hy : opd g y = some (dInt k i)) (hi : 0 ≤ i ∧ i.toNat < s.size) :
  LocP P ⟨dst, .index t x y, ty, pos, after, gd⟩ g N M (dInt .u8 (byteAt s i.toNat)) :=
 locP_of_run fun I a w hs hinv => by
  have hp : a.eval x = .string s := opd_sound hs hx
  have hyv : a.eval y = .int k i := opd_sound hs hy
  have h3 : s[i.toNat]? = some (s[i.toNat]'hi.2) := getElem?_pos s i.toNat hi.2
  refine ⟨_, ?_, rfl⟩
  simp [execOp, Instr.index, hp, hyv, asIntOf, run_underlying ht.eq, hi.1, h3, byteAt]
theorem loc_indexStrE {t : TypeId} [ht : TyStr P t] {x y : Operand} {s : ByteArray} {k : IntKind} {i : Int} (hx : opd g x = some (dStr s)) (hy : opd g y = some (dInt k i)) (hi : 0 ≤ i ∧ i.toNat < s.size) :
  LocM P ⟨dst, .index t x y, ty, pos, after, gd⟩ g N [] (fun b : Int => 0 ≤ b ∧ b < 256) (fun b => dInt .u8 b) (fun _ => []) :=
 ⟨fun F I a w K Q hs hinv hK => (loc_indexStr (M := F) hx hy hi).go I a w K Q hs hinv fun v w' J h1 h2 h3 => hK _ v w' J (byteAt_bd s i.toNat) h1 h2 h3⟩
theorem run_opFam {f : FuncId} {I0 : Imm} {R : Goal} {k : List Item} {F : List Res} {dst : Tmp} {op : Op} {ops : Array Oper} {rest : List Oper} {r1 r2 : Res} {A : List Res} {σ : Type} {φ : σ → Prop} {d : σ → D} {q1 q2 : σ → Res} {B : σ → List Res} (hN : Nat.blt dst N = true)
  (hd : LocM P ⟨some dst, op, ty, pos, after, none⟩ g N (r1 :: r2 :: A) φ d (fun s => q1 s :: q2 s :: B s))
  (h : ∀ s, φ s → RunL P f N I0 R ((dst, d s) :: g) (q1 s :: q2 s :: (B s ++ F)) ops rest k) : RunL P f N I0 R g (r1 :: r2 :: (A ++ F)) ops (⟨some dst, op, ty, pos, after, none⟩ :: rest) k :=
 run_opM (Min := r1 :: r2 :: A) (Mout := fun s => q1 s :: q2 s :: B s) hd hN h
theorem d_aggU3 {ds es es' : List D} (e : es = es') (h : Ups ds es') : ∀ I v, (dAgg ds).rel I v → (dAgg es).rel I v := e ▸ d_aggU h
theorem u8_in {x : Int} (h : 0 ≤ x ∧ x < 256) : IntKind.u8.wrap x = x := by
 unfold IntKind.wrap
 simp [IntKind.bits, IntKind.signed]
 omega
end Go.Q

namespace Go.Q
open Go.Proofs
open Classical
theorem len64_spec (x : Int) (hx : 0 ≤ x ∧ x ≤ 12) : SpecP Try.prog 63 [dInt .u64 x] (dTop) := by
  refine specP_of_body Try.func63 rfl rfl (fun I M => ?_)
  refine au 10 ?_
  refine run_cond rfl (fun h1 => ?_) (fun h1 => ?_)
  · exfalso; have := h1; omega
  ·
   refine au 7 ?_
   refine run_cond rfl (fun h2 => ?_) (fun h2 => ?_)
   · exfalso; have := h2; omega
   ·
    refine au 7 ?_
    refine run_cond rfl (fun h3 => ?_) (fun h3 => ?_)
    · exfalso; have := h3; omega
    ·
     refine au 5 ?_
     refine run_op (LocP.conv (loc_convW rfl) (congrArg (dInt .u8) (u8_in (x := x) (by omega)))) rfl ?_
     refine run_ex (loc_indexStrE rfl rfl ⟨hx.1, Nat.lt_of_lt_of_eq (show x.toNat < 256 by omega) (by kernel_rfl)⟩) rfl (fun bb hbb => ?_)
     first | refine run_op (loc_conv rfl (by first | omega | assumption)) rfl ?_ | refine run_op (loc_convW rfl) rfl ?_
     refine au 3 ?_
     refine run_retP Try.func63 rfl rfl ?_
     exact fun _ _ _ => trivial
theorem blen_spec (x : Int) (hx : 0 ≤ x ∧ x ≤ 12) : SpecP Try.prog 46 [dInt .u64 x] (dTop) := by
  refine specP_of_body Try.func46 rfl rfl (fun I M => ?_)
  refine au 5 ?_
  refine run_cond rfl (fun h1 => ?_) (fun h1 => ?_)
  · exfalso; exact h1
  ·
   refine au 4 ?_
   refine run_op (loc_call (len64_spec _ hx) rfl) rfl ?_
   refine au 2 ?_
   refine run_retP Try.func46 rfl rfl ?_
   exact fun _ _ _ => trivial
theorem isNaN_spec (x : Int) : SpecP Try.prog 71 [dInt .i64 x] (dB False) := by
 refine specP_of_body Try.func71 rfl rfl (fun I M => ?_)
 refine au 11 ?_
 refine run_retP Try.func71 rfl rfl ?_
 exact d_B (by simp)
theorem less_spec (x y : Int) : SpecP Try.prog 59 [dInt .i64 x, dInt .i64 y] (dB (x < y)) := by
 refine specP_of_body Try.func59 rfl rfl (fun I M => ?_)
 refine au 7 ?_
 refine run_op (loc_call (isNaN_spec _) rfl) rfl ?_
 refine au 2 ?_
 refine run_gop rfl rfl gdI.ok (fun hg => loc_call (isNaN_spec _) rfl) rfl ?_
 refine au 11 ?_
 refine run_retP Try.func59 rfl rfl ?_
 exact d_B (by simp)
theorem insSort_spec (v : Value) (l : List Int) (hl : 1 ≤ l.length ∧ l.length ≤ 12) : Spec Try.prog 53 [dVal v, dInt .i64 0, dInt .i64 (l.length : Nat)] [rRow v 3 1 fI l] (σ := List Int) (fun r => r.Perm l ∧ SortTo r r.length) (fun _ => dTop) (fun r => [rRow v 3 1 fI r]) := by
  refine spec_of_body Try.func53 rfl rfl (fun I F => ?_)
  show Run _ _ _ _ _ _ (rRow v 3 1 fI l :: F) _
  refine run_rowForm .here (by omega) (fun b cap e => ?_)
  subst e
  refine au 7 ?_
  refine run_loopF (σ := Nat × List Int) (ks := [0, 1, 2]) (.cons rfl (.cons rfl (.cons rfl (.nil)))) (fun s => [(6, dInt .i64 (s.1 : Nat))]) (fun s => [rRow (.slice (some ⟨b, 0, none⟩) l.length cap) 3 1 fI s.2]) (fun s => (1 ≤ s.1 ∧ s.1 ≤ l.length) ∧ s.2.Perm l ∧ SortTo s.2 s.1) (fun s => l.length - s.1) ((1, l)) (⟨⟨by omega, by simp only; omega⟩, .refl _, sort_one l⟩) (.cons rfl (by first | exact fun _ _ h => h | exact d_int (by omega) | exact d_int (by simp) | exact d_intN (by omega) | exact d_any) .nil) (rfl) ?_
  rintro s ⟨hs1, hsp, hss⟩ ih1
  have hsl := hsp.length_eq
  refine au 7 ?_
  refine run_cond rfl (fun h2 => ?_) (fun h2 => ?_)
  ·
   have hil : s.1 < l.length := by omega
   refine au 9 ?_
   refine run_loopF (σ := Nat × List Int) (ks := [0, 1, 2, 6]) (.cons rfl (.cons rfl (.cons rfl (.cons rfl (.nil))))) (fun u => [(7, dInt .i64 (u.1 : Nat))]) (fun u => [rRow (.slice (some ⟨b, 0, none⟩) l.length cap) 3 1 fI u.2]) (fun u => u.1 ≤ s.1 ∧ u.2.Perm l ∧ SortBut u.2 s.1 u.1) (fun u => u.1) ((s.1, s.2)) (⟨Nat.le_refl _, hsp, sort_in hss⟩) (.cons rfl (by first | exact fun _ _ h => h | exact d_int (by omega) | exact d_int (by simp) | exact d_intN (by omega) | exact d_any) .nil) (rfl) ?_
   rintro u ⟨hu1, hup, hus⟩ ih3
   have hul := hup.length_eq
   refine au 2 ?_
   refine dr_start _ (.none) [⟨[(7, none)], [], none⟩,
       ⟨[(1, none)], [], none⟩,
       ⟨[(16, some (0, false)), (17, some (1, false))], [0, 1], none⟩,
       ⟨[(18, some (2, false))], [0, 1, 2], none⟩,
       ⟨[(0, none)], [0, 1, 2, 3], none⟩,
       ⟨[(7, none)], [0, 1, 2, 3], none⟩,
       ⟨[(20, some (4, true)), (21, some (5, true))], [0, 1, 2, 3, 4, 5], none⟩,
       ⟨[(22, some (6, true))], [0, 1, 2, 3, 4, 5, 6], some (0, 0, false)⟩,
       ⟨[(0, none)], [0, 1, 2, 3], none⟩,
       ⟨[(7, none)], [0, 1, 2, 3], none⟩,
       ⟨[(25, some (9, true))], [0, 1, 2, 3, 9], none⟩,
       ⟨[(24, some (8, true)), (26, some (10, true))], [0, 1, 2, 3, 8, 9, 10], none⟩,
       ⟨[(27, some (11, true))], [0, 1, 2, 3, 8, 9, 10, 11], some (0, 0, false)⟩,
       ⟨[(23, some (7, true)), (28, some (12, true))], [0, 1, 2, 3, 4, 5, 6, 7, 8, 9, 10, 11, 12], none⟩,
       ⟨[(19, some (3, false)), (29, some (13, false))], [0, 1, 2, 3, 4, 5, 6, 7, 8, 9, 10, 11, 12, 13], none⟩] [_] _ rfl rfl ?_
   refine da 7 ?_
   refine dq_gread rfl (fun s => .opU rfl (.nil)) rfl rfl rfl (fun _ => gdI.ok) (fun s hs hg _ hm => loc_loadRow1 rfl hm (by first | omega | assumption)) (by exact .nil) ?_
   refine da 4 ?_
   refine dq_gread rfl (fun s => .opU rfl (.nil)) rfl rfl rfl (fun _ => gdI.ok) (fun s hs hg _ hm => loc_loadRow1 rfl hm (by first | omega | assumption)) (by exact .nil) ?_
   refine dq_gpure rfl (fun s => .opU rfl (.opU rfl (.nil))) rfl (fun _ => gdI.ok) (fun s hs hg _ => loc_call (less_spec _ _) rfl) (by exact .nil) ?_
   refine da 1 ?_
   refine dq_end (rs := [_]) () rfl (fun _ => rfl) (.nil) rfl (fun _ => rfl) (fun _ _ => ?_)
   dsimp only [outG, outM, List.map, List.set, id]
   refine run_cond rfl (fun h4 => ?_) (fun h4 => ?_)
   ·
    obtain ⟨hj0, hjl⟩ := h4
    refine au 3 ?_
    have hjp : ((u.1 : Int) - 1).toNat = u.1 - 1 := by omega
    have hsw : (u.2.set u.1 (u.2[((u.1 : Int) - 1).toNat]?.getD default)).length = u.2.length := List.length_set ..
    refine dr_start _ (.none) [⟨[(0, none)], [], none⟩,
        ⟨[(7, none)], [], none⟩,
        ⟨[(0, none)], [], none⟩,
        ⟨[(7, none)], [], none⟩,
        ⟨[(36, some (3, false))], [3], none⟩,
        ⟨[(0, none)], [], none⟩,
        ⟨[(7, none)], [], none⟩,
        ⟨[(39, some (6, false))], [6], none⟩,
        ⟨[(38, some (5, false)), (40, some (7, false))], [5, 6, 7], none⟩,
        ⟨[(41, some (8, false))], [5, 6, 7, 8], some (0, 0, false)⟩,
        ⟨[(0, none)], [], none⟩,
        ⟨[(7, none)], [], none⟩,
        ⟨[(43, some (10, false)), (44, some (11, false))], [10, 11], none⟩,
        ⟨[(45, some (12, false))], [10, 11, 12], some (0, 0, false)⟩,
        ⟨[(33, some (0, false)), (34, some (1, false))], [0, 1, 5, 6, 7, 8, 9, 10, 11, 12, 13], none⟩,
        ⟨[(47, some (14, false)), (42, some (9, false))], [0, 1, 5, 6, 7, 8, 9, 10, 11, 12, 13, 14], some (0, 0, true)⟩,
        ⟨[(35, some (2, false)), (37, some (4, false))], [0, 1, 2, 3, 4, 5, 6, 7, 8, 9, 10, 11, 12, 13, 14, 15], none⟩,
        ⟨[(48, some (16, false)), (46, some (13, false))], [0, 1, 2, 3, 4, 5, 6, 7, 8, 9, 10, 11, 12, 13, 14, 15, 16], some (0, 1, true)⟩] [_] _ rfl rfl ?_
    refine da 15 ?_
    refine dq_write0 rfl (fun s => .op rfl (.op rfl (.nil))) rfl rfl (fun s hs => loc_storeRow1 _ rfl rfl rfl (by first | omega | assumption)) (by exact .nil) ?_
    refine da 1 ?_
    refine dq_write0 rfl (fun s => .op rfl (.op rfl (.nil))) rfl rfl (fun s hs => loc_storeRow1 _ rfl rfl rfl (by first | omega | assumption)) (by exact .nil) ?_
    refine dq_end (rs := [_]) () rfl (fun _ => rfl) (.nil) rfl (fun _ => rfl) (fun _ _ => ?_)
    dsimp only [outG, outM, List.map, List.set, id]
    refine au 6 ?_
    exact run_againF ih3 ((u.1 - 1, (u.2.set u.1 (ent u.2 (u.1 - 1))).set (u.1 - 1) (ent u.2 u.1))) (⟨by simp only; omega, (swap_perm (by omega) (by omega)).trans hup, sort_swap (by omega) hu1 (by omega) hus (by unfold ent; rw [hjp] at hjl; exact hjl)⟩) (by simp only; omega) (.cons rfl (d_int (by simp only; omega)) .nil) (.cons rfl (fun _ _ x => x) (.cons rfl (fun _ _ x => x) (.cons rfl (fun _ _ x => x) (.cons rfl (fun _ _ x => x) (.nil))))) (by simp only [appR]; rw [hjp]; rfl)
   ·
    have hjn := h4
    refine au 7 ?_
    exact run_againF ih1 ((s.1 + 1, u.2)) (⟨⟨by simp only; omega, by simp only; omega⟩, hup, sort_out hu1 hus (by by_cases e : u.1 = 0; (· exact .inl e); (· refine .inr (Int.not_lt.1 fun hlt => hjn ⟨by omega, ?_⟩); rw [show ((u.1 : Int) - 1).toNat = u.1 - 1 by omega]; exact hlt))⟩) (by simp only; omega) (.cons rfl (by first | exact fun _ _ h => h | exact d_int (by omega) | exact d_int (by simp) | exact d_intN (by omega) | exact d_any) .nil) (.cons rfl (fun _ _ x => x) (.cons rfl (fun _ _ x => x) (.cons rfl (fun _ _ x => x) (.nil)))) (rfl)
  ·
   refine au 1 ?_
   refine run_ret0End (s.2) Try.func53 rfl  ?_ (⟨hsp, by rw [hsl, show l.length = s.1 by omega]; exact hss⟩) (fun _ _ h => h)
   exact fun _ _ _ => trivial
theorem pdq_spec (v : Value) (l : List Int) (hl : 1 ≤ l.length ∧ l.length ≤ 12) : Spec Try.prog 45 [dVal v, dInt .i64 0, dInt .i64 (l.length : Nat), dTop] [rRow v 3 1 fI l] (σ := List Int) (fun r => r.Perm l ∧ SortTo r r.length) (fun _ => dTop) (fun r => [rRow v 3 1 fI r]) := by
  refine spec_of_body Try.func45 rfl rfl (fun I F => ?_)
  show Run _ _ _ _ _ _ (rRow v 3 1 fI l :: F) _
  refine au 9 ?_
  refine run_loopC (σ := Unit) (ks := [0]) (.cons rfl (.nil)) (fun u => [(1, dInt .i64 0), (2, dInt .i64 (l.length : Nat)), (3, dTop), (8, dB True), (9, dB True)]) (fun u => True) (fun u => 0) (()) (trivial) (.cons rfl (by first | exact fun _ _ h => h | exact d_int (by omega) | exact d_int (by simp) | exact d_intN (by omega) | exact d_any) (.cons rfl (by first | exact fun _ _ h => h | exact d_int (by omega) | exact d_int (by simp) | exact d_intN (by omega) | exact d_any) (.cons rfl (by first | exact fun _ _ h => h | exact d_int (by omega) | exact d_int (by simp) | exact d_intN (by omega) | exact d_any) (.cons rfl (by first | exact fun _ _ h => h | exact d_int (by omega) | exact d_int (by simp) | exact d_intN (by omega) | exact d_any) (.cons rfl (by first | exact fun _ _ h => h | exact d_int (by omega) | exact d_int (by simp) | exact d_intN (by omega) | exact d_any) .nil))))) ?_
  intro u hu ih1
  refine au 14 ?_
  refine run_cond rfl (fun h2 => ?_) (fun h2 => ?_)
  ·
   refine au 5 ?_
   refine run_callM rfl (.here) (insSort_spec v l hl) rfl (fun r9 hr9 => ?_)
   refine au 1 ?_
   refine run_ret0 (r9) Try.func45 rfl  ?_ (hr9) (fun _ _ h => h)
   exact fun _ _ _ => trivial
  · exfalso; have := h2; omega
theorem sort_spec (v : Value) (l : List Int) (hl : 1 ≤ l.length ∧ l.length ≤ 12) : Spec Try.prog 36 [dVal v] [rRow v 3 1 fI l] (σ := List Int) (fun r => r.Perm l ∧ SortTo r r.length) (fun _ => dTop) (fun r => [rRow v 3 1 fI r]) := by
 refine spec_of_body Try.func36 rfl rfl (fun I F => ?_)
 show Run _ _ _ _ _ _ (rRow v 3 1 fI l :: F) _
 refine au 10 ?_
 first | refine run_op (loc_convU rfl (by first | omega | assumption)) rfl ?_ | refine run_op (loc_convW rfl) rfl ?_
 refine run_op (loc_call (blen_spec _ (by omega)) rfl) rfl ?_
 refine run_callM rfl (.here) (pdq_spec v l hl) rfl (fun r9 hr9 => ?_)
 refine au 1 ?_
 refine run_ret0End (r9) Try.func36 rfl  ?_ (hr9) (fun _ _ h => h)
 exact fun _ _ _ => trivial
end Go.Q

namespace Go.Q
open Classical
structure Bat where
 bk : List (List Int)
 pr : List Int
 it : List Int
abbrev cBat (b : Bat) : List D := [dRows b.bk, dInts b.pr, dInts b.it]
abbrev dBat (b : Bat) : D := dAgg (cBat b)
noncomputable def prAt (l rows : List Int) (item : Int) : Int := if 0 ≤ item then idxP (rows[item.toNat]?.getD default = ·) l else if 0 < l.length then 0 else -1
noncomputable def prK (lay : List (List Int)) (rows it : List Int) (k : Nat) : List Int := (List.range k).map fun i => prAt (lay[i]?.getD default) rows (it[i]?.getD default)
noncomputable def planB (h : Hsh) (n : Nat) (rows : List Int) : Bat :=
 if asgE h rows = 0 then ⟨layF h n, prK (layF h n) rows (asgB h rows) (layF h n).length, asgB h rows⟩ else ⟨[], [], []⟩
theorem prK_len (lay : List (List Int)) (rows it : List Int) (k : Nat) : (prK lay rows it k).length = k := by simp [prK]
theorem prK_next (lay : List (List Int)) (rows it : List Int) (k : Nat) : prK lay rows it (k + 1) = prK lay rows it k ++ [prAt (lay[k]?.getD default) rows (it[k]?.getD default)] := by
 unfold prK; rw [List.range_succ, List.map_append]; rfl
theorem prK_get {lay : List (List Int)} {rows it : List Int} {k i : Nat} (h : i < k) : (prK lay rows it k)[i]?.getD default = prAt (lay[i]?.getD default) rows (it[i]?.getD default) := by
 unfold prK; rw [List.getElem?_map, List.getElem?_range h]; rfl
structure AsgOk (h : Hsh) (rows it : List Int) : Prop where
 len : it.length = h.m.toNat
 low : ∀ x ∈ it, x = -1 ∨ (0 ≤ x ∧ x < (rows.length : Int))
 all : ∀ j : Nat, j < rows.length → it.count (j : Int) = 1
 home : ∀ (b j : Nat), it[b]? = some (j : Int) → (b : Int) ∈ homesI h (rows[j]?.getD default)
theorem fx_start (hs : Int → List Nat) (m : Nat) : FxOk hs m (List.replicate m false) (List.replicate m (-1)) := by
 have hneg : ∀ (b : Nat) (j : Int), (List.replicate m (-1 : Int))[b]? = some j → j = -1 := fun b j h => by
  rw [List.getElem?_replicate] at h
  split at h
  ·injection h with h; exact h.symm
  ·cases h
 refine ⟨⟨List.length_replicate, fun j hj => ?_, fun b j hb hj => ?_, fun b j hf hb => ?_⟩, List.length_replicate, fun b hb _ => by rw [List.getElem?_replicate, if_pos hb]⟩
 ·rw [List.count_replicate]; split
  ·rename_i e; have : (-1 : Int) = j := by simpa using e
   omega
  ·omega
 ·have := hneg b j hb; omega
 ·rw [List.getElem?_replicate] at hf; split at hf <;> cases hf
theorem hs_map {h : Hsh} {rows : List Int} {j : Nat} (hj : j < rows.length) : hsF (rows.map (homesI h)) (j : Int) = (homesI h (rows[j]?.getD default)).map Int.toNat := by
 unfold hsF
 rw [Int.toNat_natCast, List.getElem?_map, List.getElem?_eq_getElem hj]
 rfl
theorem firstH_true {h : Hsh} {rows : List Int} (he : asgE h rows = 0) : (firstH h rows).1 = true := by
 unfold asgE at he
 split at he
 ·cases he
 ·split at he
  ·assumption
  ·cases he
theorem asg_ok {h : Hsh} (hh : okH h) {rows : List Int} (he : asgE h rows = 0) : AsgOk h rows (asgB h rows) := by
 have hb : asgB h rows = (firstH h rows).2.2 := by unfold asgB; rw [if_pos he]
 have ht := firstH_true he
 rw [hb]
 unfold firstH at ht ⊢
 have hnot : ∀ i ∈ itsN 0 rows.length, 0 ≤ i ∧ i ∉ List.replicate h.m.toNat (-1 : Int) := fun i hi => by
  have := its_mem.1 hi
  exact ⟨by omega, fun hm => by rw [List.eq_of_mem_replicate hm] at this; omega⟩
 obtain ⟨F1, F2⟩ := firstF_ok (hsF_bd (homes_ok hh rows)) (itsN 0 rows.length) _ _ (fx_start _ _) hnot (its_nodup ..) ht
 generalize (firstF (hsF (rows.map (homesI h))) h.m.toNat (itsN 0 rows.length) (List.replicate h.m.toNat false) (List.replicate h.m.toNat (-1))).2.2 = bk at F1 F2
 generalize (firstF (hsF (rows.map (homesI h))) h.m.toNat (itsN 0 rows.length) (List.replicate h.m.toNat false) (List.replicate h.m.toNat (-1))).2.1 = fx at F1
 have hmem : ∀ j : Int, 0 ≤ j → (j ∈ bk ↔ j < rows.length) := fun j hj => by
  rw [F2 j hj, its_mem]
  constructor
  ·rintro (h | h)
   ·exact h.2
   ·rw [List.eq_of_mem_replicate h] at hj; omega
  ·intro h; exact .inl ⟨by omega, h⟩
 have hlow : ∀ x ∈ bk, x = -1 ∨ (0 ≤ x ∧ x < (rows.length : Int)) := fun x hx => by
  obtain ⟨b, hb1, hb2⟩ := List.mem_iff_getElem.1 hx
  have hb3 : bk[b]? = some x := by rw [List.getElem?_eq_getElem hb1, hb2]
  cases hf : fx[b]?.getD default with
  | true =>
   have := F1.held b x hf hb3
   exact .inr ⟨this, (hmem x this).1 hx⟩
  | false =>
   have := F1.free b (by rw [← F1.len]; exact hb1) hf
   rw [hb3] at this
   injection this with this
   exact .inl this
 refine ⟨F1.len, hlow, fun j hj => ?_, fun b j hb => ?_⟩
 ·have h1 := F1.one j (by omega)
  have h2 : 0 < bk.count (j : Int) := List.count_pos_iff.2 ((hmem j (by omega)).2 (by omega))
  omega
 ·have hj : j < rows.length := by have := (hmem j (by omega)).1 (List.mem_of_getElem? hb); omega
  have h1 := F1.home b j hb (by omega)
  rw [hs_map hj] at h1
  obtain ⟨c, hc, hcb⟩ := List.mem_map.1 h1
  have := homesI_bd hh _ c hc
  rw [show (b : Int) = c by omega]; exact hc
def ascB (l : List Int) : Prop := l.Pairwise (· < ·) ∧ ∀ x ∈ l, 0 ≤ x ∧ x < 1024
structure BatOk (b : Bat) : Prop where
 most : 1 ≤ b.bk.length ∧ b.bk.length ≤ 64
 prl : b.pr.length = b.bk.length
 itl : b.it.length = b.bk.length
 asc : ∀ l ∈ b.bk, ascB l
 none : ∀ i : Nat, i < b.bk.length → (b.bk[i]?.getD default).length = 0 → b.pr[i]?.getD default = -1 ∧ b.it[i]?.getD default = -1
 some : ∀ i : Nat, i < b.bk.length → (b.bk[i]?.getD default).length ≠ 0 → (0 ≤ b.pr[i]?.getD default ∧ b.pr[i]?.getD default < (b.bk[i]?.getD default).length) ∧ -1 ≤ b.it[i]?.getD default
 num : ∃ k : Nat, (1 ≤ k ∧ k ≤ 12) ∧ (flt (· ≠ -1) b.it).Perm (itsN 0 k)
theorem flt_count {q : Int → Prop} {x : Int} (hx : q x) : ∀ l : List Int, (flt q l).count x = l.count x
 | [] => rfl
 | y :: l => by
  unfold flt
  split
  ·rw [List.count_cons, List.count_cons, flt_count hx l]
  ·rename_i hy
   have e : ¬ y = x := fun e => hy (by rw [e]; exact hx)
   rw [flt_count hx l, List.count_cons, if_neg (by simpa using e)]; rfl
theorem asg_num {h : Hsh} {rows it : List Int} (hA : AsgOk h rows it) : (flt (· ≠ -1) it).Perm (itsN 0 rows.length) := by
 rw [List.perm_iff_count]
 intro a
 by_cases h1 : 0 ≤ a ∧ a < (rows.length : Int)
 ·rw [flt_count (q := (· ≠ -1)) (by omega), show a = ((a.toNat : Nat) : Int) by omega, hA.all a.toNat (by omega)]
  have h2 := List.nodup_iff_count.1 (its_nodup 0 rows.length) ((a.toNat : Nat) : Int)
  have h3 : 0 < (itsN 0 rows.length).count ((a.toNat : Nat) : Int) := List.count_pos_iff.2 (its_mem.2 (by omega))
  omega
 ·have e1 : a ∉ flt (· ≠ -1) it := fun hm => by
   obtain ⟨h2, h3⟩ := mem_flt.1 hm
   rcases hA.low a h2 with h4 | h4
   ·exact h3 h4
   ·exact h1 h4
  have e2 : a ∉ itsN 0 rows.length := fun hm => h1 (by have := its_mem.1 hm; omega)
  rw [List.count_eq_zero.2 e1, List.count_eq_zero.2 e2]
theorem plan_at {h : Hsh} (hh : okH h) {n : Nat} {rows : List Int} (hr : ∀ r ∈ rows, 0 ≤ r ∧ r < (n : Int)) (he : asgE h rows = 0) {i j : Nat} (hi : (asgB h rows)[i]? = some (j : Int)) (hj : j < rows.length) :
  0 ≤ prAt ((layF h n)[i]?.getD default) rows j ∧ prAt ((layF h n)[i]?.getD default) rows j < ((layF h n)[i]?.getD default).length ∧ ((layF h n)[i]?.getD default)[(prAt ((layF h n)[i]?.getD default) rows j).toNat]?.getD default = rows[j]?.getD default := by
 have hA := asg_ok hh he
 have hrj := hr (rows[j]?.getD default) (by rw [List.getElem?_eq_getElem hj]; exact List.getElem_mem hj)
 have h1 := hA.home i j hi
 have h2 := layF_home hh n (r := (rows[j]?.getD default).toNat) (by omega) (i : Int) (by rw [show (((rows[j]?.getD default).toNat : Nat) : Int) = rows[j]?.getD default by omega]; exact h1)
 rw [Int.toNat_natCast, show (((rows[j]?.getD default).toNat : Nat) : Int) = rows[j]?.getD default by omega] at h2
 unfold prAt
 rw [if_pos (by omega), Int.toNat_natCast]
 have h3 : 0 ≤ idxP (rows[j]?.getD default = ·) ((layF h n)[i]?.getD default) := idxP_nonneg.2 ⟨_, h2, rfl⟩
 obtain ⟨h4, _, h5⟩ := idxP_get (q := (rows[j]?.getD default = ·)) (xs := (layF h n)[i]?.getD default) (idxP (rows[j]?.getD default = ·) ((layF h n)[i]?.getD default)).toNat (by omega)
 exact ⟨h3, by omega, h5.symm⟩
theorem plan_ok {h : Hsh} (hh : okH h) {n : Nat} (hn : n ≤ 1024) {rows : List Int} (hr : ∀ r ∈ rows, 0 ≤ r ∧ r < (n : Int)) (hl : 1 ≤ rows.length ∧ rows.length ≤ 12) (he : asgE h rows = 0) : BatOk (planB h n rows) := by
 have hA := asg_ok hh he
 have hm := hh.1
 have hL := layF_ok h n
 have hll := layF_len h n
 unfold planB
 rw [if_pos he]
 have hit : ∀ i : Nat, i < (layF h n).length → ∃ x, (asgB h rows)[i]? = some x ∧ (asgB h rows)[i]?.getD default = x ∧ (x = -1 ∨ (0 ≤ x ∧ x < (rows.length : Int))) := fun i hi => by
  have h1 : i < (asgB h rows).length := by rw [hA.len, ← hll]; exact hi
  exact ⟨(asgB h rows)[i], List.getElem?_eq_getElem h1, by rw [List.getElem?_eq_getElem h1]; rfl, hA.low _ (List.getElem_mem h1)⟩
 refine ⟨by simp only [hll]; omega, prK_len .., by simp only [hA.len, hll], fun l hl => ⟨hL.asc l hl, fun x hx => by have := hL.bd l hl x hx; omega⟩, fun i hi h0 => ?_, fun i hi h0 => ?_, ⟨rows.length, hl, asg_num hA⟩⟩
 ·simp only at hi h0 ⊢
  obtain ⟨x, h1, h2, h3⟩ := hit i hi
  rw [prK_get hi, h2]
  rcases h3 with rfl | h3
  ·unfold prAt; rw [if_neg (by omega), if_neg (by omega)]; exact ⟨rfl, rfl⟩
  ·exfalso
   have h4 := plan_at hh hr he (i := i) (j := x.toNat) (by rw [h1]; congr 1; omega) (by omega)
   omega
 ·simp only at hi h0 ⊢
  obtain ⟨x, h1, h2, h3⟩ := hit i hi
  rw [prK_get hi, h2]
  rcases h3 with rfl | h3
  ·unfold prAt; rw [if_neg (by omega), if_pos (by omega)]; exact ⟨⟨by omega, by omega⟩, by omega⟩
  ·have h4 := plan_at hh hr he (i := i) (j := x.toNat) (by rw [h1]; congr 1; omega) (by omega)
   rw [show ((x.toNat : Nat) : Int) = x by omega] at h4
   exact ⟨⟨h4.1, h4.2.1⟩, by omega⟩
end Go.Q
