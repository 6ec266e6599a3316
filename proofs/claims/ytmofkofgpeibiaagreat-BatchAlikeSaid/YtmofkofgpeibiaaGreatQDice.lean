/- Insertion sort, and numbers that are all there: plain. -/
import Derived.Test.YtmofkofgpeibiaaGreatQCuckF
import Derived.Test.YtmofkofgpeibiaaGreatQOwn3
import Derived.Test.YtmofkofgpeibiaaGreatQRes
import Derived.Test.YtmofkofgpeibiaaGreatQScope
set_option linter.unusedVariables false
set_option linter.unusedSimpArgs false
namespace Go.Q
def ent (l : List Int) (i : Nat) : Int := l[i]?.getD default
def SortTo (l : List Int) (n : Nat) : Prop := ∀ p q : Nat, p < q → q < n → ent l p ≤ ent l q
def SortBut (l : List Int) (i j : Nat) : Prop := ∀ p q : Nat, p < q → q ≤ i → q ≠ j → ent l p ≤ ent l q
theorem ent_set {l : List Int} {b i : Nat} {x : Int} (hb : b < l.length) : ent (l.set b x) i = if b = i then x else ent l i := by
 unfold ent
 by_cases e : b = i
 ·subst e; rw [if_pos rfl, List.getElem?_set_self hb]; rfl
 ·rw [if_neg e, List.getElem?_set_ne e]
theorem sort_one (l : List Int) : SortTo l 1 := fun p q h1 h2 => by omega
theorem sort_in {l : List Int} {i : Nat} (h : SortTo l i) : SortBut l i i := fun p q h1 h2 h3 => h p q h1 (by omega)
theorem sort_out {l : List Int} {i j : Nat} (hj : j ≤ i) (h : SortBut l i j) (hd : j = 0 ∨ ent l (j - 1) ≤ ent l j) : SortTo l (i + 1) := fun p q h1 h2 => by
 by_cases e : q = j
 ·subst e
  rcases hd with hd | hd
  ·omega
  ·by_cases e2 : p = q - 1
   ·subst e2; exact hd
   ·exact Int.le_trans (h p (q - 1) (by omega) (by omega) (by omega)) hd
 ·exact h p q h1 (by omega) e
theorem sort_swap {l : List Int} {i j : Nat} (h0 : 0 < j) (hj : j ≤ i) (hi : i < l.length) (h : SortBut l i j) (hd : ent l j < ent l (j - 1)) : SortBut ((l.set j (ent l (j - 1))).set (j - 1) (ent l j)) i (j - 1) := by
 have e : ∀ k, ent ((l.set j (ent l (j - 1))).set (j - 1) (ent l j)) k = if j - 1 = k then ent l j else if j = k then ent l (j - 1) else ent l k := fun k => by
  rw [ent_set (by rw [List.length_set]; omega), ent_set (by omega)]
 intro p q h1 h2 h3
 rw [e p, e q, if_neg (show ¬ (j - 1 = q) from fun h => h3 h.symm)]
 by_cases e1 : j = q
 ·subst e1
  rw [if_pos rfl]
  by_cases e2 : j - 1 = p
  ·rw [if_pos e2]; omega
  ·rw [if_neg e2, if_neg (by omega)]; exact h p (j - 1) (by omega) (by omega) (by omega)
 ·rw [if_neg e1]
  by_cases e2 : j - 1 = p
  ·rw [if_pos e2]; exact h j q (by omega) h2 (fun e => e1 e.symm)
  ·rw [if_neg e2]
   by_cases e3 : j = p
   ·rw [if_pos e3]; exact h (j - 1) q (by omega) h2 (fun e => e1 e.symm)
   ·rw [if_neg e3]; exact h p q h1 h2 (fun e => e1 e.symm)
theorem swap_perm {l : List Int} {i j : Nat} (hi : i < l.length) (hj : j < l.length) : ((l.set j (ent l i)).set i (ent l j)).Perm l := by
 unfold ent
 rw [List.getElem?_eq_getElem hi, List.getElem?_eq_getElem hj]
 exact List.set_set_perm hj hi
theorem ent_mem {l : List Int} {i : Nat} (h : i < l.length) : ent l i ∈ l := by
 unfold ent; rw [List.getElem?_eq_getElem h]; exact List.getElem_mem _
theorem sort_range {k : Nat} {l : List Int} (hp : l.Perm (itsN 0 k)) (hs : SortTo l l.length) : ∀ i, i < k → ent l i = (i : Int) := by
 have hl : l.length = k := by rw [hp.length_eq]; simp [itsN]
 have hn : l.Nodup := hp.nodup_iff.2 (its_nodup 0 k)
 have hb : ∀ i, i < k → 0 ≤ ent l i ∧ ent l i < k := fun i hi => by
  have := its_mem.1 (hp.mem_iff.1 (ent_mem (l := l) (i := i) (by omega)))
  omega
 have hlt : ∀ p q : Nat, p < q → q < k → ent l p < ent l q := fun p q h1 h2 => by
  have h3 := hs p q h1 (by omega)
  have h4 : ent l p ≠ ent l q := fun e => by
   unfold ent at e
   rw [List.getElem?_eq_getElem (by omega), List.getElem?_eq_getElem (by omega)] at e
   have := (List.getElem_inj hn).1 (show l[p] = l[q] from e)
   omega
  omega
 have hlo : ∀ i, i < k → (i : Int) ≤ ent l i := fun i => by
  induction i with
  | zero => intro h; have := hb 0 h; omega
  | succ i ih => intro h; have h1 := ih (by omega); have h2 := hlt i (i + 1) (by omega) h; omega
 have hhi : ∀ d i, i + d + 1 = k → ent l i ≤ (i : Int) := fun d => by
  induction d with
  | zero => intro i h; have := hb i (by omega); omega
  | succ d ih => intro i h; have h1 := ih (i + 1) (by omega); have h2 := hlt i (i + 1) (by omega) (by omega); omega
 intro i hi
 have h1 := hlo i hi
 have h2 := hhi (k - i - 1) i (by omega)
 omega
end Go.Q

namespace Go.Q
variable {P : Program} {N : Nat} {g : G} {M : List Res} {dst : Option Tmp} {ty : TypeId} {pos : String} {after : Array Edge} {gd : Option (Nat × Bool)}
def byteAt (s : ByteArray) (i : Nat) : Int := match s[i]? with | some b => (b.toNat : Int) | none => 0
theorem byteAt_bd (s : ByteArray) (i : Nat) : 0 ≤ byteAt s i ∧ byteAt s i < 256 := by
 unfold byteAt
 split
 ·rename_i b _; have := b.toNat_lt; omega
 ·omega
theorem loc_indexStr {t : TypeId} [ht : TyStr P t] {x y : Operand} {s : ByteArray} {k : IntKind} {i : Int} (hx : opd g x = some (dStr s)) (hy : opd g y = some (dInt k i)) (hi : 0 ≤ i ∧ i.toNat < s.size) :
  LocP P ⟨dst, .index t x y, ty, pos, after, gd⟩ g N M (dInt .u8 (byteAt s i.toNat)) :=
 locP_of_run fun I a w hs hinv => by
  have hp : a.eval x = .string s := opd_sound hs hx
  have hyv : a.eval y = .int k i := opd_sound hs hy
  have h3 : s[i.toNat]? = some (s[i.toNat]'hi.2) := getElem?_pos s i.toNat hi.2
  refine ⟨_, ?_, rfl⟩
  simp [execOp, Instr.index, hp, hyv, asIntOf, run_underlying ht.eq, hi.1, h3, byteAt]
theorem loc_indexStrE {t : TypeId} [ht : TyStr P t] {x y : Operand} {s : ByteArray} {k : IntKind} {i : Int} (hx : opd g x = some (dStr s)) (hy : opd g y = some (dInt k i)) (hi : 0 ≤ i ∧ i.toNat < s.size) :
  LocM P ⟨dst, .index t x y, ty, pos, after, gd⟩ g N [] (fun b : Int => 0 ≤ b ∧ b < 256) (fun b => dInt .u8 b) (fun _ => []) :=
 ⟨fun F I a w K Q hs hinv hK => (loc_indexStr (M := F) hx hy hi).go I a w K Q hs hinv fun v w' J h1 h2 h3 => hK _ v w' J (byteAt_bd s i.toNat) h1 h2 h3⟩
theorem row_nilR {α : Type} {n : Nat} {f' : α → List D} {v : Value} {T m : Nat} {F : List Res} {I : Imm} {w : World} (h : Inv I (rRow v T 1 (fun u => [dVal u]) (List.replicate m (.slice none 0 0)) :: F) w) : Inv I (rRow v T 1 (fun x : List α => [dSl n f' x]) (List.replicate m []) :: F) w := by
 have hup : ∀ (J : Imm) (m : Nat) (cs : List Value), relL ((List.replicate m (Value.slice none 0 0)).flatMap fun u => [dVal u]) J cs → relL ((List.replicate m ([] : List α)).flatMap fun x => [dSl n f' x]) J cs := by
  intro J m
  induction m with
  | zero => intro cs h; exact h
  | succ m ih =>
   intro cs h
   cases cs with
   | nil => exact h.elim
   | cons c cs => exact ⟨d_nil _ _ h.1, ih cs h.2⟩
 refine ⟨h.os, h.tape, h.output, h.imm, fun r hr => ?_, h.apart⟩
 rcases List.mem_cons.1 hr with rfl | hr
 ·rcases row_cases h with ⟨e, e2⟩ | ⟨b, cap, cs, e, h2, h3, h4, h5, h6, h7, h8⟩
  ·subst e
   have e3 : m = 0 := by cases m with | zero => rfl | succ m => simp at e2
   subst e3
   exact (nil_ok (inv_tail h)).own _ (List.mem_cons_self ..)
  ·have h1 := h.own _ (List.mem_cons_self ..)
   subst e
   obtain ⟨g1, o, g2, g3⟩ := h1
   rw [h2] at g2
   injection g2 with g2
   subst g2
   rw [List.length_replicate] at h4 h6
   refine ⟨g1, _, h2, b, cap, cs, by rw [List.length_replicate, List.length_replicate], rfl, h3, by rw [List.length_replicate]; exact h4, h5, by rw [List.length_replicate]; exact h6, fun x _ => rfl, ?_⟩
   have h9 := hup _ _ _ h8
   rw [List.length_replicate] at h9 ⊢
   exact h9
 ·exact h.own r (List.mem_cons_of_mem _ hr)
theorem d_aggU3 {ds es es' : List D} (e : es = es') (h : Ups ds es') : ∀ I v, (dAgg ds).rel I v → (dAgg es).rel I v := e ▸ d_aggU h
theorem u8_in {x : Int} (h : 0 ≤ x ∧ x < 256) : IntKind.u8.wrap x = x := by
 unfold IntKind.wrap
 simp [IntKind.bits, IntKind.signed]
 omega
end Go.Q

namespace Go.Q
open Go.Proofs
open Classical
theorem len64_spec (x : Int) (hx : 0 ≤ x ∧ x ≤ 12) : SpecP Tryz.prog 67 [dInt .u64 x] (dTop) := by
  refine specP_of_body Tryz.func67 rfl rfl (fun I M => ?_)
  refine au 10 ?_
  refine run_cond rfl (fun h1 => ?_) (fun h1 => ?_)
  · exfalso; have := h1; omega
  ·
   refine au 7 ?_
   refine run_cond rfl (fun h2 => ?_) (fun h2 => ?_)
   · exfalso; have := h2; omega
   ·
    refine au 7 ?_
    refine run_cond rfl (fun h3 => ?_) (fun h3 => ?_)
    · exfalso; have := h3; omega
    ·
     refine au 5 ?_
     refine run_op (LocP.conv (loc_convW rfl) (congrArg (dInt .u8) (u8_in (x := x) (by omega)))) rfl ?_
     refine run_ex (loc_indexStrE rfl rfl ⟨hx.1, Nat.lt_of_lt_of_eq (show x.toNat < 256 by omega) (by kernel_rfl)⟩) rfl (fun bb hbb => ?_)
     first | refine run_op (loc_conv rfl (by first | omega | assumption)) rfl ?_ | refine run_op (loc_convW rfl) rfl ?_
     refine au 3 ?_
     refine run_retP Tryz.func67 rfl rfl ?_
     exact fun _ _ _ => trivial
theorem blen_spec (x : Int) (hx : 0 ≤ x ∧ x ≤ 12) : SpecP Tryz.prog 53 [dInt .u64 x] (dTop) := by
  refine specP_of_body Tryz.func53 rfl rfl (fun I M => ?_)
  refine au 5 ?_
  refine run_cond rfl (fun h1 => ?_) (fun h1 => ?_)
  · exfalso; exact h1
  ·
   refine au 4 ?_
   refine run_op (loc_call (len64_spec _ hx) rfl) rfl ?_
   refine au 2 ?_
   refine run_retP Tryz.func53 rfl rfl ?_
   exact fun _ _ _ => trivial
theorem isNaN_spec (x : Int) : SpecP Tryz.prog 74 [dInt .i64 x] (dB False) := by
 refine specP_of_body Tryz.func74 rfl rfl (fun I M => ?_)
 refine au 11 ?_
 refine run_retP Tryz.func74 rfl rfl ?_
 exact d_B (by simp)
theorem less_spec (x y : Int) : SpecP Tryz.prog 63 [dInt .i64 x, dInt .i64 y] (dB (x < y)) := by
 refine specP_of_body Tryz.func63 rfl rfl (fun I M => ?_)
 refine au 7 ?_
 refine run_op (loc_call (isNaN_spec _) rfl) rfl ?_
 refine au 2 ?_
 refine run_gop rfl rfl gdI.ok (fun hg => loc_call (isNaN_spec _) rfl) rfl ?_
 refine au 11 ?_
 refine run_retP Tryz.func63 rfl rfl ?_
 exact d_B (by simp)
theorem insSort_spec (v : Value) (l : List Int) (hl : 1 ≤ l.length ∧ l.length ≤ 12) : Spec Tryz.prog 57 [dVal v, dInt .i64 0, dInt .i64 (l.length : Nat)] [rRow v 3 1 fI l] (σ := List Int) (fun r => r.Perm l ∧ SortTo r r.length) (fun _ => dTop) (fun r => [rRow v 3 1 fI r]) := by
  refine spec_of_body Tryz.func57 rfl rfl (fun I F => ?_)
  show Run _ _ _ _ _ _ (rRow v 3 1 fI l :: F) _
  refine run_rowForm .here (by omega) (fun b cap e => ?_)
  subst e
  refine au 7 ?_
  refine run_loopF (σ := Nat × List Int) (ks := [0, 1, 2]) (.cons rfl (.cons rfl (.cons rfl (.nil)))) (fun s => [(6, dInt .i64 (s.1 : Nat))]) (fun s => [rRow (.slice (some ⟨b, 0, none⟩) l.length cap) 3 1 fI s.2]) (fun s => (1 ≤ s.1 ∧ s.1 ≤ l.length) ∧ s.2.Perm l ∧ SortTo s.2 s.1) (fun s => l.length - s.1) ((1, l)) (⟨⟨by omega, by simp only; omega⟩, .refl _, sort_one l⟩) (.cons rfl (by first | exact fun _ _ h => h | exact d_int (by omega) | exact d_int (by simp) | exact d_intN (by omega) | exact d_any) .nil) (rfl) ?_
  rintro s ⟨hs1, hsp, hss⟩ ih1
  have hsl := hsp.length_eq
  refine au 7 ?_
  refine run_cond rfl (fun h2 => ?_) (fun h2 => ?_)
  ·
   have hil : s.1 < l.length := by omega
   refine au 9 ?_
   refine run_loopF (σ := Nat × List Int) (ks := [0, 1, 2, 6]) (.cons rfl (.cons rfl (.cons rfl (.cons rfl (.nil))))) (fun u => [(7, dInt .i64 (u.1 : Nat))]) (fun u => [rRow (.slice (some ⟨b, 0, none⟩) l.length cap) 3 1 fI u.2]) (fun u => u.1 ≤ s.1 ∧ u.2.Perm l ∧ SortBut u.2 s.1 u.1) (fun u => u.1) ((s.1, s.2)) (⟨Nat.le_refl _, hsp, sort_in hss⟩) (.cons rfl (by first | exact fun _ _ h => h | exact d_int (by omega) | exact d_int (by simp) | exact d_intN (by omega) | exact d_any) .nil) (rfl) ?_
   rintro u ⟨hu1, hup, hus⟩ ih3
   have hul := hup.length_eq
   refine au 2 ?_
   refine dr_start _ (.none) [⟨[(7, none)], [], none⟩,
       ⟨[(1, none)], [], none⟩,
       ⟨[(16, some (0, false)), (17, some (1, false))], [0, 1], none⟩,
       ⟨[(18, some (2, false))], [0, 1, 2], none⟩,
       ⟨[(0, none)], [0, 1, 2, 3], none⟩,
       ⟨[(7, none)], [0, 1, 2, 3], none⟩,
       ⟨[(20, some (4, true)), (21, some (5, true))], [0, 1, 2, 3, 4, 5], none⟩,
       ⟨[(22, some (6, true))], [0, 1, 2, 3, 4, 5, 6], some (0, 0, false)⟩,
       ⟨[(0, none)], [0, 1, 2, 3], none⟩,
       ⟨[(7, none)], [0, 1, 2, 3], none⟩,
       ⟨[(25, some (9, true))], [0, 1, 2, 3, 9], none⟩,
       ⟨[(24, some (8, true)), (26, some (10, true))], [0, 1, 2, 3, 8, 9, 10], none⟩,
       ⟨[(27, some (11, true))], [0, 1, 2, 3, 8, 9, 10, 11], some (0, 0, false)⟩,
       ⟨[(23, some (7, true)), (28, some (12, true))], [0, 1, 2, 3, 4, 5, 6, 7, 8, 9, 10, 11, 12], none⟩,
       ⟨[(19, some (3, false)), (29, some (13, false))], [0, 1, 2, 3, 4, 5, 6, 7, 8, 9, 10, 11, 12, 13], none⟩] [_] _ rfl rfl ?_
   refine da 7 ?_
   refine dq_gread rfl (fun s => .opU rfl (.nil)) rfl rfl rfl (fun _ => gdI.ok) (fun s hs hg _ hm => loc_loadRow1 rfl hm (by first | omega | assumption)) (by exact .nil) ?_
   refine da 4 ?_
   refine dq_gread rfl (fun s => .opU rfl (.nil)) rfl rfl rfl (fun _ => gdI.ok) (fun s hs hg _ hm => loc_loadRow1 rfl hm (by first | omega | assumption)) (by exact .nil) ?_
   refine dq_gpure rfl (fun s => .opU rfl (.opU rfl (.nil))) rfl (fun _ => gdI.ok) (fun s hs hg _ => loc_call (less_spec _ _) rfl) (by exact .nil) ?_
   refine da 1 ?_
   refine dq_end (rs := [_]) () rfl (fun _ => rfl) (.nil) rfl (fun _ => rfl) (fun _ _ => ?_)
   dsimp only [outG, outM, List.map, List.set, id]
   refine run_cond rfl (fun h4 => ?_) (fun h4 => ?_)
   ·
    obtain ⟨hj0, hjl⟩ := h4
    refine au 3 ?_
    have hjp : ((u.1 : Int) - 1).toNat = u.1 - 1 := by omega
    have hsw : (u.2.set u.1 (u.2[((u.1 : Int) - 1).toNat]?.getD default)).length = u.2.length := List.length_set ..
    refine dr_start _ (.none) [⟨[(0, none)], [], none⟩,
        ⟨[(7, none)], [], none⟩,
        ⟨[(0, none)], [], none⟩,
        ⟨[(7, none)], [], none⟩,
        ⟨[(36, some (3, false))], [3], none⟩,
        ⟨[(0, none)], [], none⟩,
        ⟨[(7, none)], [], none⟩,
        ⟨[(39, some (6, false))], [6], none⟩,
        ⟨[(38, some (5, false)), (40, some (7, false))], [5, 6, 7], none⟩,
        ⟨[(41, some (8, false))], [5, 6, 7, 8], some (0, 0, false)⟩,
        ⟨[(0, none)], [], none⟩,
        ⟨[(7, none)], [], none⟩,
        ⟨[(43, some (10, false)), (44, some (11, false))], [10, 11], none⟩,
        ⟨[(45, some (12, false))], [10, 11, 12], some (0, 0, false)⟩,
        ⟨[(33, some (0, false)), (34, some (1, false))], [0, 1, 5, 6, 7, 8, 9, 10, 11, 12, 13], none⟩,
        ⟨[(47, some (14, false)), (42, some (9, false))], [0, 1, 5, 6, 7, 8, 9, 10, 11, 12, 13, 14], some (0, 0, true)⟩,
        ⟨[(35, some (2, false)), (37, some (4, false))], [0, 1, 2, 3, 4, 5, 6, 7, 8, 9, 10, 11, 12, 13, 14, 15], none⟩,
        ⟨[(48, some (16, false)), (46, some (13, false))], [0, 1, 2, 3, 4, 5, 6, 7, 8, 9, 10, 11, 12, 13, 14, 15, 16], some (0, 1, true)⟩] [_] _ rfl rfl ?_
    refine da 15 ?_
    refine dq_write0 rfl (fun s => .op rfl (.op rfl (.nil))) rfl rfl (fun s hs => loc_storeRow1 _ rfl rfl rfl (by first | omega | assumption)) (by exact .nil) ?_
    refine da 1 ?_
    refine dq_write0 rfl (fun s => .op rfl (.op rfl (.nil))) rfl rfl (fun s hs => loc_storeRow1 _ rfl rfl rfl (by first | omega | assumption)) (by exact .nil) ?_
    refine dq_end (rs := [_]) () rfl (fun _ => rfl) (.nil) rfl (fun _ => rfl) (fun _ _ => ?_)
    dsimp only [outG, outM, List.map, List.set, id]
    refine au 6 ?_
    exact run_againF ih3 ((u.1 - 1, (u.2.set u.1 (ent u.2 (u.1 - 1))).set (u.1 - 1) (ent u.2 u.1))) (⟨by simp only; omega, (swap_perm (by omega) (by omega)).trans hup, sort_swap (by omega) hu1 (by omega) hus (by unfold ent; rw [hjp] at hjl; exact hjl)⟩) (by simp only; omega) (.cons rfl (d_int (by simp only; omega)) .nil) (.cons rfl (fun _ _ x => x) (.cons rfl (fun _ _ x => x) (.cons rfl (fun _ _ x => x) (.cons rfl (fun _ _ x => x) (.nil))))) (by simp only [appR]; rw [hjp]; rfl)
   ·
    have hjn := h4
    refine au 7 ?_
    exact run_againF ih1 ((s.1 + 1, u.2)) (⟨⟨by simp only; omega, by simp only; omega⟩, hup, sort_out hu1 hus (by by_cases e : u.1 = 0; (· exact .inl e); (· refine .inr (Int.not_lt.1 fun hlt => hjn ⟨by omega, ?_⟩); rw [show ((u.1 : Int) - 1).toNat = u.1 - 1 by omega]; exact hlt))⟩) (by simp only; omega) (.cons rfl (by first | exact fun _ _ h => h | exact d_int (by omega) | exact d_int (by simp) | exact d_intN (by omega) | exact d_any) .nil) (.cons rfl (fun _ _ x => x) (.cons rfl (fun _ _ x => x) (.cons rfl (fun _ _ x => x) (.nil)))) (rfl)
  ·
   refine au 1 ?_
   refine run_ret0End (s.2) Tryz.func57 rfl  ?_ (⟨hsp, by rw [hsl, show l.length = s.1 by omega]; exact hss⟩) (fun _ _ h => h)
   exact fun _ _ _ => trivial
theorem pdq_spec (v : Value) (l : List Int) (hl : 1 ≤ l.length ∧ l.length ≤ 12) : Spec Tryz.prog 52 [dVal v, dInt .i64 0, dInt .i64 (l.length : Nat), dTop] [rRow v 3 1 fI l] (σ := List Int) (fun r => r.Perm l ∧ SortTo r r.length) (fun _ => dTop) (fun r => [rRow v 3 1 fI r]) := by
  refine spec_of_body Tryz.func52 rfl rfl (fun I F => ?_)
  show Run _ _ _ _ _ _ (rRow v 3 1 fI l :: F) _
  refine au 9 ?_
  refine run_loopC (σ := Unit) (ks := [0]) (.cons rfl (.nil)) (fun u => [(1, dInt .i64 0), (2, dInt .i64 (l.length : Nat)), (3, dTop), (8, dB True), (9, dB True)]) (fun u => True) (fun u => 0) (()) (trivial) (.cons rfl (by first | exact fun _ _ h => h | exact d_int (by omega) | exact d_int (by simp) | exact d_intN (by omega) | exact d_any) (.cons rfl (by first | exact fun _ _ h => h | exact d_int (by omega) | exact d_int (by simp) | exact d_intN (by omega) | exact d_any) (.cons rfl (by first | exact fun _ _ h => h | exact d_int (by omega) | exact d_int (by simp) | exact d_intN (by omega) | exact d_any) (.cons rfl (by first | exact fun _ _ h => h | exact d_int (by omega) | exact d_int (by simp) | exact d_intN (by omega) | exact d_any) (.cons rfl (by first | exact fun _ _ h => h | exact d_int (by omega) | exact d_int (by simp) | exact d_intN (by omega) | exact d_any) .nil))))) ?_
  intro u hu ih1
  refine au 14 ?_
  refine run_cond rfl (fun h2 => ?_) (fun h2 => ?_)
  ·
   refine au 5 ?_
   refine run_callM rfl (.here) (insSort_spec v l hl) rfl (fun r9 hr9 => ?_)
   refine au 1 ?_
   refine run_ret0 (r9) Tryz.func52 rfl  ?_ (hr9) (fun _ _ h => h)
   exact fun _ _ _ => trivial
  · exfalso; have := h2; omega
theorem sort_spec (v : Value) (l : List Int) (hl : 1 ≤ l.length ∧ l.length ≤ 12) : Spec Tryz.prog 45 [dVal v] [rRow v 3 1 fI l] (σ := List Int) (fun r => r.Perm l ∧ SortTo r r.length) (fun _ => dTop) (fun r => [rRow v 3 1 fI r]) := by
 refine spec_of_body Tryz.func45 rfl rfl (fun I F => ?_)
 show Run _ _ _ _ _ _ (rRow v 3 1 fI l :: F) _
 refine au 10 ?_
 first | refine run_op (loc_convU rfl (by first | omega | assumption)) rfl ?_ | refine run_op (loc_convW rfl) rfl ?_
 refine run_op (loc_call (blen_spec _ (by omega)) rfl) rfl ?_
 refine run_callM rfl (.here) (pdq_spec v l hl) rfl (fun r9 hr9 => ?_)
 refine au 1 ?_
 refine run_ret0End (r9) Tryz.func45 rfl  ?_ (hr9) (fun _ _ h => h)
 exact fun _ _ _ => trivial
end Go.Q

namespace Go.Q
open Classical
structure Bat where
 bk : List (List Int)
 pr : List Int
 it : List Int
abbrev cBat (b : Bat) : List D := [dRows b.bk, dInts b.pr, dInts b.it]
abbrev dBat (b : Bat) : D := dAgg (cBat b)
noncomputable def prAt (l rows : List Int) (item : Int) : Int := if 0 ≤ item then idxP (rows[item.toNat]?.getD default = ·) l else if 0 < l.length then 0 else -1
noncomputable def prK (lay : List (List Int)) (rows it : List Int) (k : Nat) : List Int := (List.range k).map fun i => prAt (lay[i]?.getD default) rows (it[i]?.getD default)
noncomputable def planB (h : Hsh) (n : Nat) (rows : List Int) : Bat :=
 if asgE h rows = 0 then ⟨layF h n, prK (layF h n) rows (asgB h rows) (layF h n).length, asgB h rows⟩ else ⟨[], [], []⟩
theorem prK_len (lay : List (List Int)) (rows it : List Int) (k : Nat) : (prK lay rows it k).length = k := by simp [prK]
theorem prK_next (lay : List (List Int)) (rows it : List Int) (k : Nat) : prK lay rows it (k + 1) = prK lay rows it k ++ [prAt (lay[k]?.getD default) rows (it[k]?.getD default)] := by
 unfold prK; rw [List.range_succ, List.map_append]; rfl
theorem prK_get {lay : List (List Int)} {rows it : List Int} {k i : Nat} (h : i < k) : (prK lay rows it k)[i]?.getD default = prAt (lay[i]?.getD default) rows (it[i]?.getD default) := by
 unfold prK; rw [List.getElem?_map, List.getElem?_range h]; rfl
structure AsgOk (h : Hsh) (rows it : List Int) : Prop where
 len : it.length = h.m.toNat
 low : ∀ x ∈ it, x = -1 ∨ (0 ≤ x ∧ x < (rows.length : Int))
 all : ∀ j : Nat, j < rows.length → it.count (j : Int) = 1
 home : ∀ (b j : Nat), it[b]? = some (j : Int) → (b : Int) ∈ homesI h (rows[j]?.getD default)
theorem fx_start (hs : Int → List Nat) (m : Nat) : FxOk hs m (List.replicate m false) (List.replicate m (-1)) := by
 have hneg : ∀ (b : Nat) (j : Int), (List.replicate m (-1 : Int))[b]? = some j → j = -1 := fun b j h => by
  rw [List.getElem?_replicate] at h
  split at h
  ·injection h with h; exact h.symm
  ·cases h
 refine ⟨⟨List.length_replicate, fun j hj => ?_, fun b j hb hj => ?_, fun b j hf hb => ?_⟩, List.length_replicate, fun b hb _ => by rw [List.getElem?_replicate, if_pos hb]⟩
 ·rw [List.count_replicate]; split
  ·rename_i e; have : (-1 : Int) = j := by simpa using e
   omega
  ·omega
 ·have := hneg b j hb; omega
 ·rw [List.getElem?_replicate] at hf; split at hf <;> cases hf
theorem hs_map {h : Hsh} {rows : List Int} {j : Nat} (hj : j < rows.length) : hsF (rows.map (homesI h)) (j : Int) = (homesI h (rows[j]?.getD default)).map Int.toNat := by
 unfold hsF
 rw [Int.toNat_natCast, List.getElem?_map, List.getElem?_eq_getElem hj]
 rfl
theorem firstH_true {h : Hsh} {rows : List Int} (he : asgE h rows = 0) : (firstH h rows).1 = true := by
 unfold asgE at he
 split at he
 ·cases he
 ·split at he
  ·assumption
  ·cases he
theorem asg_ok {h : Hsh} (hh : okH h) {rows : List Int} (he : asgE h rows = 0) : AsgOk h rows (asgB h rows) := by
 have hb : asgB h rows = (firstH h rows).2.2 := by unfold asgB; rw [if_pos he]
 have ht := firstH_true he
 rw [hb]
 unfold firstH at ht ⊢
 have hnot : ∀ i ∈ itsN 0 rows.length, 0 ≤ i ∧ i ∉ List.replicate h.m.toNat (-1 : Int) := fun i hi => by
  have := its_mem.1 hi
  exact ⟨by omega, fun hm => by rw [List.eq_of_mem_replicate hm] at this; omega⟩
 obtain ⟨F1, F2⟩ := firstF_ok (hsF_bd (homes_ok hh rows)) (itsN 0 rows.length) _ _ (fx_start _ _) hnot (its_nodup ..) ht
 generalize (firstF (hsF (rows.map (homesI h))) h.m.toNat (itsN 0 rows.length) (List.replicate h.m.toNat false) (List.replicate h.m.toNat (-1))).2.2 = bk at F1 F2
 generalize (firstF (hsF (rows.map (homesI h))) h.m.toNat (itsN 0 rows.length) (List.replicate h.m.toNat false) (List.replicate h.m.toNat (-1))).2.1 = fx at F1
 have hmem : ∀ j : Int, 0 ≤ j → (j ∈ bk ↔ j < rows.length) := fun j hj => by
  rw [F2 j hj, its_mem]
  constructor
  ·rintro (h | h)
   ·exact h.2
   ·rw [List.eq_of_mem_replicate h] at hj; omega
  ·intro h; exact .inl ⟨by omega, h⟩
 have hlow : ∀ x ∈ bk, x = -1 ∨ (0 ≤ x ∧ x < (rows.length : Int)) := fun x hx => by
  obtain ⟨b, hb1, hb2⟩ := List.mem_iff_getElem.1 hx
  have hb3 : bk[b]? = some x := by rw [List.getElem?_eq_getElem hb1, hb2]
  cases hf : fx[b]?.getD default with
  | true =>
   have := F1.held b x hf hb3
   exact .inr ⟨this, (hmem x this).1 hx⟩
  | false =>
   have := F1.free b (by rw [← F1.len]; exact hb1) hf
   rw [hb3] at this
   injection this with this
   exact .inl this
 refine ⟨F1.len, hlow, fun j hj => ?_, fun b j hb => ?_⟩
 ·have h1 := F1.one j (by omega)
  have h2 : 0 < bk.count (j : Int) := List.count_pos_iff.2 ((hmem j (by omega)).2 (by omega))
  omega
 ·have hj : j < rows.length := by have := (hmem j (by omega)).1 (List.mem_of_getElem? hb); omega
  have h1 := F1.home b j hb (by omega)
  rw [hs_map hj] at h1
  obtain ⟨c, hc, hcb⟩ := List.mem_map.1 h1
  have := homesI_bd hh _ c hc
  rw [show (b : Int) = c by omega]; exact hc
def ascB (l : List Int) : Prop := l.Pairwise (· < ·) ∧ ∀ x ∈ l, 0 ≤ x ∧ x < 1024
structure BatOk (b : Bat) : Prop where
 most : 1 ≤ b.bk.length ∧ b.bk.length ≤ 64
 prl : b.pr.length = b.bk.length
 itl : b.it.length = b.bk.length
 asc : ∀ l ∈ b.bk, ascB l
 none : ∀ i : Nat, i < b.bk.length → (b.bk[i]?.getD default).length = 0 → b.pr[i]?.getD default = -1 ∧ b.it[i]?.getD default = -1
 some : ∀ i : Nat, i < b.bk.length → (b.bk[i]?.getD default).length ≠ 0 → (0 ≤ b.pr[i]?.getD default ∧ b.pr[i]?.getD default < (b.bk[i]?.getD default).length) ∧ -1 ≤ b.it[i]?.getD default
 num : ∃ k : Nat, (1 ≤ k ∧ k ≤ 12) ∧ (flt (· ≠ -1) b.it).Perm (itsN 0 k)
theorem flt_count {q : Int → Prop} {x : Int} (hx : q x) : ∀ l : List Int, (flt q l).count x = l.count x
 | [] => rfl
 | y :: l => by
  unfold flt
  split
  ·rw [List.count_cons, List.count_cons, flt_count hx l]
  ·rename_i hy
   have e : ¬ y = x := fun e => hy (by rw [e]; exact hx)
   rw [flt_count hx l, List.count_cons, if_neg (by simpa using e)]; rfl
theorem asg_num {h : Hsh} {rows it : List Int} (hA : AsgOk h rows it) : (flt (· ≠ -1) it).Perm (itsN 0 rows.length) := by
 rw [List.perm_iff_count]
 intro a
 by_cases h1 : 0 ≤ a ∧ a < (rows.length : Int)
 ·rw [flt_count (q := (· ≠ -1)) (by omega), show a = ((a.toNat : Nat) : Int) by omega, hA.all a.toNat (by omega)]
  have h2 := List.nodup_iff_count.1 (its_nodup 0 rows.length) ((a.toNat : Nat) : Int)
  have h3 : 0 < (itsN 0 rows.length).count ((a.toNat : Nat) : Int) := List.count_pos_iff.2 (its_mem.2 (by omega))
  omega
 ·have e1 : a ∉ flt (· ≠ -1) it := fun hm => by
   obtain ⟨h2, h3⟩ := mem_flt.1 hm
   rcases hA.low a h2 with h4 | h4
   ·exact h3 h4
   ·exact h1 h4
  have e2 : a ∉ itsN 0 rows.length := fun hm => h1 (by have := its_mem.1 hm; omega)
  rw [List.count_eq_zero.2 e1, List.count_eq_zero.2 e2]
theorem plan_at {h : Hsh} (hh : okH h) {n : Nat} {rows : List Int} (hr : ∀ r ∈ rows, 0 ≤ r ∧ r < (n : Int)) (he : asgE h rows = 0) {i j : Nat} (hi : (asgB h rows)[i]? = some (j : Int)) (hj : j < rows.length) :
  0 ≤ prAt ((layF h n)[i]?.getD default) rows j ∧ prAt ((layF h n)[i]?.getD default) rows j < ((layF h n)[i]?.getD default).length ∧ ((layF h n)[i]?.getD default)[(prAt ((layF h n)[i]?.getD default) rows j).toNat]?.getD default = rows[j]?.getD default := by
 have hA := asg_ok hh he
 have hrj := hr (rows[j]?.getD default) (by rw [List.getElem?_eq_getElem hj]; exact List.getElem_mem hj)
 have h1 := hA.home i j hi
 have h2 := layF_home hh n (r := (rows[j]?.getD default).toNat) (by omega) (i : Int) (by rw [show (((rows[j]?.getD default).toNat : Nat) : Int) = rows[j]?.getD default by omega]; exact h1)
 rw [Int.toNat_natCast, show (((rows[j]?.getD default).toNat : Nat) : Int) = rows[j]?.getD default by omega] at h2
 unfold prAt
 rw [if_pos (by omega), Int.toNat_natCast]
 have h3 : 0 ≤ idxP (rows[j]?.getD default = ·) ((layF h n)[i]?.getD default) := idxP_nonneg.2 ⟨_, h2, rfl⟩
 obtain ⟨h4, _, h5⟩ := idxP_get (q := (rows[j]?.getD default = ·)) (xs := (layF h n)[i]?.getD default) (idxP (rows[j]?.getD default = ·) ((layF h n)[i]?.getD default)).toNat (by omega)
 exact ⟨h3, by omega, h5.symm⟩
theorem plan_ok {h : Hsh} (hh : okH h) {n : Nat} (hn : n ≤ 1024) {rows : List Int} (hr : ∀ r ∈ rows, 0 ≤ r ∧ r < (n : Int)) (hl : 1 ≤ rows.length ∧ rows.length ≤ 12) (he : asgE h rows = 0) : BatOk (planB h n rows) := by
 have hA := asg_ok hh he
 have hm := hh.1
 have hL := layF_ok h n
 have hll := layF_len h n
 unfold planB
 rw [if_pos he]
 have hit : ∀ i : Nat, i < (layF h n).length → ∃ x, (asgB h rows)[i]? = some x ∧ (asgB h rows)[i]?.getD default = x ∧ (x = -1 ∨ (0 ≤ x ∧ x < (rows.length : Int))) := fun i hi => by
  have h1 : i < (asgB h rows).length := by rw [hA.len, ← hll]; exact hi
  exact ⟨(asgB h rows)[i], List.getElem?_eq_getElem h1, by rw [List.getElem?_eq_getElem h1]; rfl, hA.low _ (List.getElem_mem h1)⟩
 refine ⟨by simp only [hll]; omega, prK_len .., by simp only [hA.len, hll], fun l hl => ⟨hL.asc l hl, fun x hx => by have := hL.bd l hl x hx; omega⟩, fun i hi h0 => ?_, fun i hi h0 => ?_, ⟨rows.length, hl, asg_num hA⟩⟩
 ·simp only at hi h0 ⊢
  obtain ⟨x, h1, h2, h3⟩ := hit i hi
  rw [prK_get hi, h2]
  rcases h3 with rfl | h3
  ·unfold prAt; rw [if_neg (by omega), if_neg (by omega)]; exact ⟨rfl, rfl⟩
  ·exfalso
   have h4 := plan_at hh hr he (i := i) (j := x.toNat) (by rw [h1]; congr 1; omega) (by omega)
   omega
 ·simp only at hi h0 ⊢
  obtain ⟨x, h1, h2, h3⟩ := hit i hi
  rw [prK_get hi, h2]
  rcases h3 with rfl | h3
  ·unfold prAt; rw [if_neg (by omega), if_pos (by omega)]; exact ⟨⟨by omega, by omega⟩, by omega⟩
  ·have h4 := plan_at hh hr he (i := i) (j := x.toNat) (by rw [h1]; congr 1; omega) (by omega)
   rw [show ((x.toNat : Nat) : Int) = x by omega] at h4
   exact ⟨⟨h4.1, h4.2.1⟩, by omega⟩
end Go.Q

namespace Go.Q
open Classical
def keptOk (l : List Int) (j : Nat) : Prop := 1 ≤ l[j]?.getD default ∧ l[j]?.getD default ≤ 2147483646 ∧ (0 < j → l[j - 1]?.getD default < l[j]?.getD default)
def rowOk (kept : List Int) (l : List Pn) (j : Nat) : Prop := 0 ≤ (l[j]?.getD default).session ∧ (0 < j → (l[j - 1]?.getD default).session < (l[j]?.getD default).session) ∧ (l[j]?.getD default).version ∈ kept
structure okPins (p : Pins) : Prop where
 one : 1 ≤ p.kept.length
 most : p.kept.length ≤ 16
 reads : p.rows.length ≤ 64
 kept : ∀ j, j < p.kept.length → keptOk p.kept j
 rows : ∀ j, j < p.rows.length → rowOk p.kept p.rows j
end Go.Q

namespace Go.Q
open Classical
structure Dc where
 xs : List Int
 k : Nat
deriving Inhabited
def Dc.val (d : Dc) (n : Int) : Int := if d.k < d.xs.length then d.xs[d.k]?.getD default % n else 0
def Dc.next (d : Dc) : Dc := ⟨d.xs, if d.k < d.xs.length then d.k + 1 else d.k⟩
structure okDc (d : Dc) : Prop where
 byte : ∀ x ∈ d.xs, 0 ≤ x ∧ x ≤ 255
 len : d.xs.length ≤ 300
theorem Dc.val_nonneg {d : Dc} {n : Int} (hn : 1 ≤ n) : 0 ≤ d.val n := by
 unfold Dc.val
 split
 ·exact Int.emod_nonneg _ (by omega)
 ·omega
theorem Dc.val_lt {d : Dc} {n : Int} (hn : 1 ≤ n) : d.val n < n := by
 unfold Dc.val
 split
 ·exact Int.emod_lt_of_pos _ (by omega)
 ·omega
theorem Dc.next_ok {d : Dc} (h : okDc d) : okDc d.next := ⟨h.byte, h.len⟩
structure rowsP (kept : List Int) (l : List Pn) : Prop where
 nonneg : ∀ r ∈ l, 0 ≤ r.session
 mem : ∀ r ∈ l, r.version ∈ kept
 asc : l.Pairwise fun a b => a.session < b.session
structure keptP (l : List Int) : Prop where
 bd : ∀ v ∈ l, 1 ≤ v ∧ v ≤ 2147483646
 asc : l.Pairwise fun a b => a < b
end Go.Q

namespace Go.Q
open Classical
theorem okP_7 : okP 7 := by
 refine ⟨by omega, by omega, fun d h1 h2 h3 => ?_⟩
 have hd : d ≤ 2 := by by_cases h : d ≤ 2; (· exact h); (· exfalso; have := mul_bd (a := 3) (A := d) (b := 3) (B := d) (by omega) (by omega) (by omega) (by omega); omega)
 have : d = 2 := by omega
 subst this; omega
theorem okP_11 : okP 11 := by
 refine ⟨by omega, by omega, fun d h1 h2 h3 => ?_⟩
 have hd : d ≤ 3 := by by_cases h : d ≤ 3; (· exact h); (· exfalso; have := mul_bd (a := 4) (A := d) (b := 4) (B := d) (by omega) (by omega) (by omega) (by omega); omega)
 have : d = 2 ∨ d = 3 := by omega
 rcases this with rfl | rfl <;> omega
theorem okP_13 : okP 13 := by
 refine ⟨by omega, by omega, fun d h1 h2 h3 => ?_⟩
 have hd : d ≤ 3 := by by_cases h : d ≤ 3; (· exact h); (· exfalso; have := mul_bd (a := 4) (A := d) (b := 4) (B := d) (by omega) (by omega) (by omega) (by omega); omega)
 have : d = 2 ∨ d = 3 := by omega
 rcases this with rfl | rfl <;> omega
theorem okP_257 : okP 257 := by
 refine ⟨by omega, by omega, fun d h1 h2 h3 => ?_⟩
 have hd : d ≤ 16 := by by_cases h : d ≤ 16; (· exact h); (· exfalso; have := mul_bd (a := 17) (A := d) (b := 17) (B := d) (by omega) (by omega) (by omega) (by omega); omega)
 have : d = 2 ∨ d = 3 ∨ d = 4 ∨ d = 5 ∨ d = 6 ∨ d = 7 ∨ d = 8 ∨ d = 9 ∨ d = 10 ∨ d = 11 ∨ d = 12 ∨ d = 13 ∨ d = 14 ∨ d = 15 ∨ d = 16 := by omega
 rcases this with rfl | rfl | rfl | rfl | rfl | rfl | rfl | rfl | rfl | rfl | rfl | rfl | rfl | rfl | rfl <;> omega
def dieP (p : Int) : Prop := p = 7 ∨ p = 11 ∨ p = 13 ∨ p = 257
theorem dieP_ok {p : Int} (h : dieP p) : okP p ∧ 7 ≤ p ∧ p ≤ 257 := by
 rcases h with rfl | rfl | rfl | rfl
 ·exact ⟨okP_7, by omega, by omega⟩
 ·exact ⟨okP_11, by omega, by omega⟩
 ·exact ⟨okP_13, by omega, by omega⟩
 ·exact ⟨okP_257, by omega, by omega⟩
def dieS (s : Schm) : Prop := shapeS s ∧ 3 ≤ s.servers ∧ s.servers ≤ 6
theorem die_valid {s : Schm} {p : Int} (hs : dieS s) (hp : dieP p) : validS s p := by
 obtain ⟨h1, h2, h3⟩ := dieP_ok hp
 exact ⟨hs.1, h1, .inr (by have := hs.2; omega)⟩
def dieTp (ls : List Int) (t : Tape) : Prop := t.at' = 0 ∧ t.numbers.length = ls.length ∧ ∀ j, j < ls.length → 0 ≤ t.numbers[j]?.getD default ∧ t.numbers[j]?.getD default < ls[j]?.getD default
theorem snoc_all {xs ls : List Int} {x : Int} (h : ∀ j, j < xs.length → 0 ≤ xs[j]?.getD default ∧ xs[j]?.getD default < ls[j]?.getD default) (hx : 0 ≤ x ∧ x < ls[xs.length]?.getD default) : ∀ j, j < (xs ++ [x]).length → 0 ≤ (xs ++ [x])[j]?.getD default ∧ (xs ++ [x])[j]?.getD default < ls[j]?.getD default := by
 intro j hj
 rw [List.length_append, List.length_singleton] at hj
 by_cases e : j = xs.length
 ·subst e; simpa using hx
 ·rw [List.getElem?_append_left (by omega)]; exact h j (by omega)
theorem die_get {k : Int} (h : 0 ≤ k ∧ k < 4) : dieP (([7, 11, 13, 257] : List Int)[k.toNat]?.getD default) := by
 have : k.toNat = 0 ∨ k.toNat = 1 ∨ k.toNat = 2 ∨ k.toNat = 3 := by omega
 unfold dieP
 rcases this with e | e | e | e <;> rw [e] <;> simp
theorem die1 {n : Int} (h : 3 ≤ n ∧ n ≤ 6) : dieS ⟨1, n, 0, 0⟩ := ⟨⟨⟨by simp only; omega, by simp only; omega⟩, .inl ⟨rfl, rfl, rfl⟩⟩, h⟩
theorem die2 {n d : Int} (h : 3 ≤ n ∧ n ≤ 6) (hd : 1 ≤ d ∧ d ≤ 2) : dieS ⟨2, n, d, 0⟩ := ⟨⟨⟨by simp only; omega, by simp only; omega⟩, .inr (.inl ⟨rfl, hd.1, by simp only; omega, rfl⟩)⟩, h⟩
theorem die3 {n d : Int} (h : 3 ≤ n ∧ n ≤ 6) (hd : 1 ≤ d ∧ d ≤ 2) : dieS ⟨3, n, d, 1⟩ := ⟨⟨⟨by simp only; omega, by simp only; omega⟩, .inr (.inr ⟨rfl, hd.1, by simp only; omega, by simp only; omega, by simp only; omega, by simp only; omega⟩)⟩, h⟩
theorem die4 {n : Int} (h : 4 ≤ n ∧ n ≤ 6) : dieS ⟨3, n, 1, 2⟩ := ⟨⟨⟨by simp only; omega, by simp only; omega⟩, .inr (.inr ⟨rfl, by simp only; omega, by simp only; omega, by simp only; omega, by simp only; omega, by simp only; omega⟩)⟩, by simp only; omega, h.2⟩
noncomputable def schI (d : Dc) : Dc := @ite _ (¬ 3 + d.val 4 < 4) (Classical.propDecidable _) d.next.next.next d.next.next
noncomputable def schV (d : Dc) : Schm := if d.next.val 3 = 0 then ⟨1, 3 + d.val 4, 0, 0⟩ else if d.next.val 3 = 1 then ⟨2, 3 + d.val 4, 1 + d.next.next.val 2, 0⟩ else if 3 + d.val 4 < 4 ∨ d.next.next.val 2 = 0 then ⟨3, 3 + d.val 4, 1 + (schI d).val 2, 1⟩ else ⟨3, 3 + d.val 4, 1, 2⟩
noncomputable def schD (d : Dc) : Dc := if d.next.val 3 = 0 then d.next.next else if d.next.val 3 = 1 then d.next.next.next else if 3 + d.val 4 < 4 ∨ d.next.next.val 2 = 0 then (schI d).next else schI d
theorem schI_ok {d : Dc} (h : okDc d) : okDc (schI d) := by
 have h1 := Dc.next_ok h
 have h2 := Dc.next_ok h1
 have h3 := Dc.next_ok h2
 unfold schI
 split <;> assumption
theorem schD_ok {d : Dc} (h : okDc d) : okDc (schD d) := by
 have h1 := Dc.next_ok h
 have h2 := Dc.next_ok h1
 have h3 := Dc.next_ok h2
 have h4 := schI_ok h
 have h5 := Dc.next_ok h4
 unfold schD
 split
 ·assumption
 ·split
  ·assumption
  ·split <;> assumption
theorem schV_die (d : Dc) : dieS (schV d) := by
 have v0 := Dc.val_lt (d := d) (n := 4) (by omega)
 have w0 := Dc.val_nonneg (d := d) (n := 4) (by omega)
 have v1 := Dc.val_lt (d := d.next.next) (n := 2) (by omega)
 have w1 := Dc.val_nonneg (d := d.next.next) (n := 2) (by omega)
 have v2 := Dc.val_lt (d := schI d) (n := 2) (by omega)
 have w2 := Dc.val_nonneg (d := schI d) (n := 2) (by omega)
 unfold schV
 split
 ·exact die1 (by omega)
 ·split
  ·exact die2 (by omega) (by omega)
  ·split
   ·exact die3 (by omega) (by omega)
   ·exact die4 (by omega)

noncomputable def limN (s : Schm) (n : Int) : Int := if s.kind = 1 then n * (s.servers - 1) else if s.kind = 2 then n * s.degree else (n + s.group - 1) / s.group * s.degree
theorem grp_bd {n g : Int} (hn : 1 ≤ n ∧ n ≤ 1024) (hg : 1 ≤ g ∧ g ≤ 10) : 1 ≤ (n + g - 1) / g ∧ (n + g - 1) / g ≤ 1024 := by
 constructor
 ·exact (Int.le_ediv_iff_mul_le (by omega)).2 (by omega)
 ·have h1 : (n + g - 1) / g * g ≤ n + g - 1 := Int.ediv_mul_le _ (by omega)
  by_cases h : (n + g - 1) / g ≤ 1024
  ·exact h
  ·exfalso
   have h2 : 1025 * g ≤ (n + g - 1) / g * g := Int.mul_le_mul_of_nonneg_right (by omega) (by omega)
   have : n ≤ 1024 := hn.2
   omega
theorem idx_bd {n g i : Int} (hg : 1 ≤ g) (hi : 0 ≤ i ∧ i < n) : 0 ≤ i / g ∧ i / g < (n + g - 1) / g := by
 refine ⟨Int.ediv_nonneg hi.1 (by omega), ?_⟩
 have h1 : i / g + 1 ≤ (n + g - 1) / g := by
  refine (Int.le_ediv_iff_mul_le (by omega)).2 ?_
  have : i / g * g ≤ i := Int.ediv_mul_le _ (by omega)
  rw [Int.add_mul, Int.one_mul]
  omega
 omega
theorem limN_bd {s : Schm} {p n : Int} (hv : validS s p) (hn : 1 ≤ n ∧ n ≤ 1024) : 0 ≤ limN s n ∧ limN s n ≤ 10240 := by
 have hb := shape_bd hv.1
 have hs := hv.1
 unfold shapeS at hs
 unfold limN
 split
 ·have := mul_bd (a := n) (b := s.servers - 1) (A := 1024) (B := 10) (by omega) (by omega) (by omega) (by omega); omega
 ·split
  ·have := mul_bd (a := n) (b := s.degree) (A := 1024) (B := 10) (by omega) (by omega) (by omega) (by omega); omega
  ·have h3 : s.kind = 3 := by have := shape_kind hv.1; omega
   have hg := grp_bd hn (g := s.group) (by omega)
   have := mul_bd (a := (n + s.group - 1) / s.group) (b := s.degree) (A := 1024) (B := 10) (by omega) (by omega) (by omega) (by omega); omega
theorem lim_ok {s : Schm} {p n : Int} (hv : validS s p) (hn : 1 ≤ n ∧ n ≤ 1024) : limE s p n = 0 ∧ limL s p n = List.replicate (limN s n).toNat p := by
 have hl := lookE_ok hv hn
 have hs := hv.1
 unfold shapeS at hs
 unfold limE limL limN
 rw [if_neg (Classical.not_not.2 hl), if_neg (Classical.not_not.2 hl)]
 by_cases h1 : s.kind = 1
 ·have e := parE_ok (p := p) (rows := n) (s := s.servers) hv.2.1 (by omega) hn
  simp only [if_pos h1]
  exact ⟨e, by unfold limsP; rw [if_pos e]⟩
 ·have hp : s.servers < p := hv.2.2.resolve_left h1
  simp only [if_neg h1]
  by_cases h2 : s.kind = 2
  ·have e := planRE_ok (p := p) (s := s.servers) (d := s.degree) (rows := n) hv.2.1 (by omega) (by omega) hp hn
   simp only [if_pos h2]
   exact ⟨e, by unfold limsC; rw [if_pos e]⟩
  ·have h3 : s.kind = 3 := by have := shape_kind hv.1; omega
   have e := codRE_ok (codE_ok (p := p) (s := s.servers) (d := s.degree) (g := s.group) hv.2.1 (by omega) hp (by omega) (by omega) (by omega)) (grp_bd hn (g := s.group) (by omega))
   simp only [if_neg h2]
   exact ⟨e, by unfold limsG; rw [if_pos e]⟩
theorem units_ok {s : Schm} {n : Int} (hs : shapeS s) (hn : 1 ≤ n ∧ n ≤ 1024) : unitsS s n = if s.kind = 3 then (n + s.group - 1) / s.group else n := by
 unfold unitsS
 rw [if_neg (by rintro (h | h); (· exact h hs); (· exact h hn))]
theorem qry_ok {s : Schm} {p n i : Int} {t : Tape} (hv : validS s p) (hn : 1 ≤ n ∧ n ≤ 1024) (hi : 0 ≤ i ∧ i < n) :
  qryE s p n i t = drawE t p (limN s n) ∧ (drawE t p (limN s n) = 0 → qryT s p n i t = drawT t p (limN s n) ∧ ((qryL s p n i t).length : Int) = s.servers ∧ ∀ q ∈ qryL s p n i t, (q.length : Int) = unitsS s n) := by
 have hl := lookE_ok hv hn
 have hs := hv.1
 have hsh := hv.1
 unfold shapeS at hs
 rw [units_ok hsh hn]
 have e1 : qryL s p n i t = if s.kind = 1 then pqL p n s.servers i t else if s.kind = 2 then cqL p s.servers s.degree n i t else gqL p s.servers s.degree s.group ((n + s.group - 1) / s.group) (i / s.group) t := by unfold qryL; rw [if_neg (by omega)]
 have e2 : qryE s p n i t = if s.kind = 1 then pqE p n s.servers i t else if s.kind = 2 then cqE p s.servers s.degree n i t else gqE p s.servers s.degree s.group ((n + s.group - 1) / s.group) (i / s.group) t := by unfold qryE; rw [if_neg (Classical.not_not.2 hl), if_neg (by omega)]
 have e3 : qryT s p n i t = if s.kind = 1 then pqT p n s.servers i t else if s.kind = 2 then cqT p s.servers s.degree n i t else gqT p s.servers s.degree s.group ((n + s.group - 1) / s.group) (i / s.group) t := by unfold qryT; rw [if_neg (by omega)]
 rw [e1, e2, e3]
 unfold limN
 by_cases h1 : s.kind = 1
 ·have e := parE_ok (p := p) (rows := n) (s := s.servers) hv.2.1 (by omega) hn
  simp only [if_pos h1, if_neg (show ¬ s.kind = 3 by omega)]
  have eE : pqE p n s.servers i t = drawE t p (n * (s.servers - 1)) := by unfold pqE; rw [if_neg (Classical.not_not.2 e), if_neg (by omega)]
  refine ⟨eE, fun h0 => ?_⟩
  have eL : pqL p n s.servers i t = pQs (pBase t) n.toNat (s.servers - 1).toNat ++ [pLast p i n (pQs (pBase t) n.toNat (s.servers - 1).toNat)] := by unfold pqL; rw [if_pos (eE.trans h0)]
  refine ⟨by unfold pqT; rw [if_pos (eE.trans h0)], ?_, fun q hq => ?_⟩
  ·rw [eL, List.length_append, pQs_len]; simp; omega
  ·rw [eL] at hq
   rcases List.mem_append.1 hq with hq | hq
   ·have := (pQs_all (t := t) (p := p) (rows := n) (k := (s.servers - 1).toNat) hn.1 (by rw [show (((s.servers - 1).toNat : Nat) : Int) = s.servers - 1 by omega]; exact h0) q hq).1
    omega
   ·rw [List.mem_singleton.1 hq]
    unfold pLast
    rw [addT_len, unitL_len]; omega
 ·have hp : s.servers < p := hv.2.2.resolve_left h1
  simp only [if_neg h1]
  by_cases h2 : s.kind = 2
  ·have e := planRE_ok (p := p) (s := s.servers) (d := s.degree) (rows := n) hv.2.1 (by omega) (by omega) hp hn
   simp only [if_pos h2, if_neg (show ¬ s.kind = 3 by omega)]
   have eE : cqE p s.servers s.degree n i t = drawE t p (n * s.degree) := by unfold cqE; rw [if_neg (Classical.not_not.2 e), if_neg (by omega)]
   refine ⟨eE, fun h0 => ⟨by unfold cqT; rw [if_pos (eE.trans h0)], ?_, fun q hq => ?_⟩⟩
   ·unfold cqL; rw [if_pos (eE.trans h0)]; unfold cqQ; simp; omega
   ·unfold cqL at hq; rw [if_pos (eE.trans h0)] at hq
    unfold cqQ at hq
    obtain ⟨k, _, rfl⟩ := List.mem_map.1 hq
    simp; omega
  ·have h3 : s.kind = 3 := by have := shape_kind hsh; omega
   have hg := grp_bd hn (g := s.group) (by omega)
   have hig := idx_bd (n := n) (g := s.group) (by omega) hi
   have e := codRE_ok (codE_ok (p := p) (s := s.servers) (d := s.degree) (g := s.group) hv.2.1 (by omega) hp (by omega) (by omega) (by omega)) hg
   simp only [if_neg h2, if_pos h3]
   have eE : gqE p s.servers s.degree s.group ((n + s.group - 1) / s.group) (i / s.group) t = drawE t p ((n + s.group - 1) / s.group * s.degree) := by unfold gqE; rw [if_neg (Classical.not_not.2 e), if_neg (by omega)]
   refine ⟨eE, fun h0 => ⟨by unfold gqT; rw [if_pos (eE.trans h0)], ?_, fun q hq => ?_⟩⟩
   ·unfold gqL; rw [if_pos (eE.trans h0)]; unfold gQs; simp; omega
   ·unfold gqL at hq; rw [if_pos (eE.trans h0)] at hq
    unfold gQs at hq
    obtain ⟨k, _, rfl⟩ := List.mem_map.1 hq
    simp [gRow]; omega
theorem die_draw {p : Int} {m : Nat} {t : Tape} (hp : okP p) (hm : m ≤ 16384) (h : dieTp (List.replicate m p) t) : okTape t ∧ drawE t p m = 0 := by
 obtain ⟨h1, h2, h3⟩ := h
 rw [List.length_replicate] at h2 h3
 have hok : okTape t := ⟨by omega, by omega, by omega⟩
 refine ⟨hok, ?_⟩
 have := hp.1
 have := hp.2.1
 unfold drawE
 rw [if_neg (Classical.not_not.2 hok), if_neg (by omega), h1]
 refine stepE_ok (by simp; omega) (fun j hj => ?_)
 have hj' : j < m := by omega
 have := h3 j hj'
 simp only [Int.toNat_zero, List.drop_zero]
 rw [List.getElem?_replicate, if_pos hj'] at this
 exact this
end Go.Q

namespace Go.Q
def askT (bk : List (List Int)) (pr : List Int) : Nat → List (Int × Int)
 | 0 => []
 | k + 1 => askT bk pr k ++ if 0 < (bk[k]?.getD default).length then [(((bk[k]?.getD default).length : Int), pr[k]?.getD default)] else []
def askL (b : Bat) : List (Int × Int) := askT b.bk b.pr b.bk.length
theorem ask_yes {bk : List (List Int)} {pr : List Int} {k : Nat} (h : 0 < (bk[k]?.getD default).length) : askT bk pr (k + 1) = askT bk pr k ++ [(((bk[k]?.getD default).length : Int), pr[k]?.getD default)] := by
 rw [askT, if_pos h]
theorem ask_no {bk : List (List Int)} {pr : List Int} {k : Nat} (h : ¬ 0 < (bk[k]?.getD default).length) : askT bk pr (k + 1) = askT bk pr k := by
 rw [askT, if_neg h, List.append_nil]
theorem ask_pre (bk : List (List Int)) (pr : List Int) (k : Nat) : ∀ j, ∃ r, askT bk pr (k + j) = askT bk pr k ++ r
 | 0 => ⟨[], by rw [List.append_nil]; rfl⟩
 | j + 1 => by
  obtain ⟨r, hr⟩ := ask_pre bk pr k j
  exact ⟨r ++ if 0 < (bk[k + j]?.getD default).length then [(((bk[k + j]?.getD default).length : Int), pr[k + j]?.getD default)] else [], by rw [show k + (j + 1) = (k + j) + 1 by omega, askT, hr, List.append_assoc]⟩
theorem ask_at {b : Bat} {k : Nat} (hk : k < b.bk.length) (h : 0 < (b.bk[k]?.getD default).length) : (askL b)[(askT b.bk b.pr k).length]? = some (((b.bk[k]?.getD default).length : Int), b.pr[k]?.getD default) := by
 obtain ⟨r, hr⟩ := ask_pre b.bk b.pr (k + 1) (b.bk.length - (k + 1))
 unfold askL
 rw [show k + 1 + (b.bk.length - (k + 1)) = b.bk.length by omega, ask_yes h] at hr
 rw [hr, List.append_assoc, List.getElem?_append_right (Nat.le_refl _), Nat.sub_self]
 rfl
theorem ask_len (bk : List (List Int)) (pr : List Int) : ∀ k, (askT bk pr k).length ≤ k
 | 0 => Nat.le_refl _
 | k + 1 => by
  have := ask_len bk pr k
  unfold askT
  rw [List.length_append]
  split <;> simp <;> omega
theorem ask_mem {bk : List (List Int)} {pr : List Int} : ∀ {k : Nat} {q : Int × Int}, q ∈ askT bk pr k → ∃ l, (l ∈ bk ∧ 0 < l.length) ∧ q.1 = (l.length : Int)
 | 0, _, h => by cases h
 | k + 1, q, h => by
  unfold askT at h
  rcases List.mem_append.1 h with h | h
  ·exact ask_mem h
  ·split at h
   ·rename_i hl
    have := List.mem_singleton.1 h
    subst this
    refine ⟨bk[k]?.getD default, ⟨?_, hl⟩, rfl⟩
    by_cases hk : k < bk.length
    ·rw [List.getElem?_eq_getElem hk]; exact List.getElem_mem hk
    ·rw [List.getElem?_eq_none (by omega)] at hl; exact absurd hl (by simp [default, instInhabitedList])
   ·cases h
theorem ask_fst (bk : List (List Int)) (pr pr' : List Int) : ∀ k, (askT bk pr k).map (·.1) = (askT bk pr' k).map (·.1)
 | 0 => rfl
 | k + 1 => by
  unfold askT
  rw [List.map_append, List.map_append, ask_fst bk pr pr' k]
  split <;> rfl
theorem ascB_len {l : List Int} (h : ascB l) : l.length ≤ 1024 := by
 have := asc_len (a := 0) (n := 1024) h.1 h.2
 omega
theorem ask_bd {b : Bat} (h : BatOk b) {q : Int × Int} (hq : q ∈ askL b) : 1 ≤ q.1 ∧ q.1 ≤ 1024 := by
 obtain ⟨l, ⟨h1, h2⟩, h3⟩ := ask_mem hq
 have := ascB_len (h.asc l h1)
 omega
noncomputable def limT (s : Schm) (p : Int) (qs : List (Int × Int)) : List Int := qs.flatMap fun q => limL s p q.1
theorem limT_next {s : Schm} {p : Int} {qs : List (Int × Int)} {i : Nat} {x : Int × Int} (h : qs[i]? = some x) : limT s p (qs.take (i + 1)) = limT s p (qs.take i) ++ limL s p x.1 := by
 unfold limT
 rw [List.take_add_one, h, List.flatMap_append]
 simp
theorem limT_len {s : Schm} {p : Int} (hv : validS s p) : ∀ {qs : List (Int × Int)}, (∀ q ∈ qs, 1 ≤ q.1 ∧ q.1 ≤ 1024) → (limT s p qs).length ≤ 10240 * qs.length
 | [], _ => by simp [limT]
 | q :: qs, h => by
  have h1 := h q (List.mem_cons_self ..)
  have ih := limT_len hv (qs := qs) fun r hr => h r (List.mem_cons_of_mem _ hr)
  have h2 := (lim_ok hv h1).2
  have h3 := limN_bd hv h1
  unfold limT at ih ⊢
  rw [List.flatMap_cons, List.length_append, h2, List.length_replicate, List.length_cons]
  omega
theorem limT_fst {s : Schm} {p : Int} : ∀ (qs rs : List (Int × Int)), qs.map (·.1) = rs.map (·.1) → limT s p qs = limT s p rs
 | [], [], _ => rfl
 | [], _ :: _, h => by simp at h
 | _ :: _, [], h => by simp at h
 | q :: qs, r :: rs, h => by
  simp only [List.map_cons, List.cons.injEq] at h
  have ih := limT_fst (s := s) (p := p) qs rs h.2
  unfold limT at ih ⊢
  rw [List.flatMap_cons, List.flatMap_cons, ih, h.1]
theorem limT_all {s : Schm} {p : Int} (hv : validS s p) {qs : List (Int × Int)} (h : ∀ q ∈ qs, 1 ≤ q.1 ∧ q.1 ≤ 1024) : ∀ x ∈ limT s p qs, x = p := by
 intro x hx
 obtain ⟨q, hq, hx⟩ := List.mem_flatMap.1 hx
 rw [(lim_ok hv (h q hq)).2] at hx
 exact List.eq_of_mem_replicate hx
def lastA (l : List Int) (k : Nat) : Int := if k = 0 then -1 else l[k - 1]?.getD default
theorem lastA_lt {l : List Int} (h : ascB l) {k : Nat} (hk : k < l.length) : lastA l k < l[k]?.getD default ∧ l[k]?.getD default < 1024 := by
 have h1 := h.2 (l[k]?.getD default) (by rw [List.getElem?_eq_getElem hk]; exact List.getElem_mem hk)
 refine ⟨?_, h1.2⟩
 unfold lastA
 split
 ·omega
 ·rw [List.getElem?_eq_getElem (by omega : k - 1 < l.length), List.getElem?_eq_getElem hk]
  exact List.pairwise_iff_getElem.1 h.1 (k - 1) k (by omega) hk (by omega)
theorem lastA_next (l : List Int) (k : Nat) : lastA l (k + 1) = l[k]?.getD default := by unfold lastA; rw [if_neg (by omega)]; rfl
end Go.Q

namespace Go.Q
variable {P : Program} {f : FuncId} {N : Nat} {I0 : Imm} {R : Goal} {g : G} {M : List Res} {k : List Item}
variable {ty : TypeId} {pos : String} {after : Array Edge} {ops : Array Oper} {rest : List Oper}
end Go.Q

namespace Go.Q
variable {P : Program} {f : FuncId} {N : Nat} {I0 : Imm} {R : Goal} {g : G} {M : List Res} {k : List Item}
theorem d_ifT {p : Prop} {d : D} (hp : p) : ∀ I v, d.rel I v → (dIf p d).rel I v := fun _ _ h => ⟨fun _ => h, fun hn => absurd hp hn⟩
theorem guard_yields {l : List Oper} {gs : Tmp} {j : Nat} (hj : (l[j]?).bind (·.dst) = some gs) (a : Act) : yielded l.toArray a.tmps j = (match a.tmps.getD gs undef with | .bool b => some b | _ => none) := by
 simp only [yielded, List.getElem?_toArray, hj, Option.bind_some, Array.getD_eq_getD_getElem?]
 cases hx : a.tmps[gs]? with
 | none => rfl
 | some u => cases u <;> rfl
theorem run_gsure {l : List Oper} {rest : List Oper} {dst : Option Tmp} {gs : Tmp} {j : Nat} {want : Bool} {op : Op} {ty : TypeId} {pos : String} {after : Array Edge} {dg : D} {c : Prop}
  (hj : (l[j]?).bind (·.dst) = some gs) (hg : look g gs = some dg) (hgd : guardD want dg c) (hc : c)
  (h : RunL P f N I0 R g M l.toArray (⟨dst, op, ty, pos, after, none⟩ :: rest) k) : RunL P f N I0 R g M l.toArray (⟨dst, op, ty, pos, after, some (j, want)⟩ :: rest) k := by
 constructor
 intro I a w b cs hb hk hl hs hi
 have hgs := hs.slot gs _ hg
 have hw : Region.wanted ⟨dst, op, ty, pos, after, some (j, want)⟩ (yielded l.toArray (R.act a).tmps) = true := by
  have hy : yielded l.toArray (R.act a).tmps j = _ := guard_yields hj (R.act a)
  simp only [Region.wanted, hy]
  exact beq_iff_eq.2 ((hgd I _ hgs).2 hc)
 have h1 := h.go I a w b cs hb hk hl hs hi
 simp only [wpListIn] at h1 ⊢
 rw [if_pos hw]
 rw [if_pos (by rfl)] at h1
 exact h1
theorem run_gskip {l : List Oper} {rest : List Oper} {dst gs : Tmp} {j : Nat} {want : Bool} {op : Op} {ty : TypeId} {pos : String} {after : Array Edge} {dg : D} {c : Prop}
  (hj : (l[j]?).bind (·.dst) = some gs) (hg : look g gs = some dg) (hgd : guardD want dg c) (hc : ¬ c) (hN : Nat.blt dst N = true) (d : D)
  (h : RunL P f N I0 R ((dst, dIf c d) :: g) M l.toArray rest k) : RunL P f N I0 R g M l.toArray (⟨some dst, op, ty, pos, after, some (j, want)⟩ :: rest) k := by
 constructor
 intro I a w b cs hb hk hl hs hi
 have hgs := hs.slot gs _ hg
 have hN' : dst < N := by simpa [Nat.blt_eq] using hN
 refine wpl_skip ?_ ?_
 ·simp only [Region.wanted, guard_yields hj a]
  have : ¬ ((match a.tmps.getD gs undef with | .bool b => some b | _ => none) = some want) := fun e => hc ((hgd I _ hgs).1 e)
  simpa using this
 ·exact h.go I _ w b cs hb hk hl (hs.put (d := dIf _ d) ⟨fun hcc => absurd hcc hc, fun _ => rfl⟩ hN') hi
end Go.Q

namespace Go.Q
variable {P : Program} {N : Nat} {g : G} {M : List Res}
variable {dst : Option Tmp} {ty : TypeId} {pos : String} {after : Array Edge} {gd : Option (Nat × Bool)}
instance (f : FuncId) : One (dVal (.func (.func f) #[] #[])) := ⟨fun h => by rw [show _ = _ from h]; exact ⟨rfl, rfl⟩⟩
end Go.Q

namespace Go.Q
open Go.Proofs
open Classical
theorem bwithin_spec (n lo hi : Int) : SpecP Tryz.prog 19 [dInt .i64 n, dInt .i64 lo, dInt .i64 hi] (dB (lo ≤ n ∧ n ≤ hi)) := by
 refine specP_of_body Tryz.func19 rfl rfl (fun I M => ?_)
 refine au 17 ?_
 refine run_retP Tryz.func19 rfl rfl ?_
 exact d_B (by constructor <;> (intro h; omega))
theorem bplan1_spec (n r : Int) (hn : 1 ≤ n ∧ n ≤ 1024) : SpecP Tryz.prog 21 [dInt .i64 r, dBox [dInt .i64 n]] (dB (¬ (0 ≤ r ∧ r ≤ n - 1))) := by
 refine specP_of_body Tryz.func21 rfl rfl (fun I M => ?_)
 refine au 9 ?_
 refine run_op (loc_call (bwithin_spec _ _ _) rfl) rfl ?_
 refine au 3 ?_
 refine run_retP Tryz.func21 rfl rfl ?_
 exact fun _ _ h => h
theorem cfB_spec (n : Int) (hn : 1 ≤ n ∧ n ≤ 1024) (ls : List Int) : SpecP Tryz.prog 20 [dInts ls, dClo 21 [dBox [dInt .i64 n]]] (dB (∃ x ∈ ls, ¬ (0 ≤ x ∧ x ≤ n - 1))) :=
 specP_pre (containsFuncI_spec (fun x => ¬ (0 ≤ x ∧ x ≤ n - 1)) ls) (relL_last (ds := [dInts ls]) (clo_fun (P := Tryz.prog) (Ds := fun x : Int => [dInt .i64 x]) (d := fun x => dB (¬ (0 ≤ x ∧ x ≤ n - 1))) (fun x => bplan1_spec n x hn)))
theorem plan_spec (h : Hsh) (hh : okH h) (n : Nat) (hn : 1 ≤ n ∧ n ≤ 1024) (rows : List Int) (hr : ∀ r ∈ rows, 0 ≤ r ∧ r < (n : Int)) (hl : 1 ≤ rows.length) : SpecP Tryz.prog 10 [dHsh h, dInt .i64 (n : Nat), dInts rows] (dTup [dBat (planB h n rows), dInt .i64 (asgE h rows)]) := by
  refine specP_of_body Tryz.func10 rfl rfl (fun I M => ?_)
  refine au 4 ?_
  refine run_new (loc_allocOwn (by simp)) rfl (fun b1 _ => ?_)
  refine au 6 ?_
  refine run_op (loc_call (bwithin_spec _ _ _) rfl) rfl ?_
  refine au 10 ?_
  refine run_gop rfl rfl gdI.ok (fun hg => loc_call (cfB_spec _ (by omega) _) rfl) rfl ?_
  refine au 3 ?_
  refine run_cond rfl (fun h2 => ?_) (fun h2 => ?_)
  · exfalso; rcases h2 with (h1 | h1) | ⟨x, h1, h2⟩; (· omega); (· omega); (· have := hr x h1; omega)
  ·
   refine au 5 ?_
   refine run_op (loc_call (layout_spec h hh n hn.2) rfl) rfl ?_
   refine au 12 ?_
   refine run_cond rfl (fun h3 => ?_) (fun h3 => ?_)
   · exfalso; exact h3 rfl
   ·
    refine au 5 ?_
    refine run_op (loc_call (assign_spec h hh rows (fun x hx => by have := hr x hx; unfold okIt; omega)) rfl) rfl ?_
    refine au 3 ?_
    refine run_new (loc_allocOwn (by simp)) rfl (fun b4 _ => ?_)
    refine au 9 ?_
    refine run_cond rfl (fun h5 => ?_) (fun h5 => ?_)
    ·
     have c1 := h5
     refine au 7 ?_
     refine run_retGP Tryz.func10 rfl (.cellN rfl (.there (.here)) (by rfl) (.tmp rfl (.nil))) ?_ (fun _ _ h => inv_tail (inv_tail (h)))
     exact d_tup2 (d_aggU3 (by unfold planB; rw [if_neg c1]) (.cons d_nil (.cons d_nil (.cons d_nil .nil)))) (fun _ _ h => h)
    ·
     have c1 : asgE h rows = 0 := Classical.not_not.1 h5
     have hA := asg_ok hh c1
     have hll := layF_len h n
     have hal := hA.len
     refine au 7 ?_
     refine run_new (loc_allocOwn (by simp)) rfl (fun b11 _ => ?_)
     refine au 6 ?_
     first | refine runL_fact (s := 53) rfl (fun _ _ h => dSl_len h) (fun hlen6 => ?_) | skip
     refine au 4 ?_
     refine run_cellsUp (kk := 1) (b := b11) (dVal (.slice none 0 0)) (dSlV (.slice none 0 0)) (.here) rfl (fun J u h => ⟨h, _, _, _, h⟩) ?_
     refine run_rowNil 3 1 fI ?_
     refine run_front (.here) ?_
     refine run_front (.there (.here)) ?_
     refine run_loopF (σ := Value × Nat) (ks := [2, 6, 11, 53, 54]) (.cons rfl (.cons rfl (.cons rfl (.cons rfl (.cons rfl (.nil)))))) (fun q => [(55, dInt .i64 (q.2 : Nat))]) (fun q => [rCells b11 40 [dRows (layF h n), dSlV q.1, dInts (asgB h rows)], rRow q.1 3 1 fI (prK (layF h n) rows (asgB h rows) q.2)]) (fun q => q.2 ≤ (layF h n).length) (fun q => (layF h n).length - q.2) ((.slice none 0 0, 0)) (Nat.zero_le _) (.cons rfl (by first | exact fun _ _ h => h | exact d_int (by omega) | exact d_int (by simp) | exact d_intN (by omega) | exact d_any) .nil) (rfl) ?_
     intro q hq ih7
     have hql := prK_len (layF h n) rows (asgB h rows) q.2
     refine au 5 ?_
     refine run_cond rfl (fun h8 => ?_) (fun h8 => ?_)
     ·
      have hqn : q.2 < (layF h n).length := by omega
      have hlw := hA.low ((asgB h rows)[q.2]?.getD default) (by rw [List.getElem?_eq_getElem (by omega)]; exact List.getElem_mem _)
      refine au 27 ?_
      refine run_cond rfl (fun h9 => ?_) (fun h9 => ?_)
      ·
       have c2 := h9
       refine dr_start _ (.one (σ := Value) 9 (fun _ => True)) [⟨[(11, none)], [], none⟩,
           ⟨[(73, some (0, false))], [0], some (0, 0, false)⟩,
           ⟨[(13, none)], [], none⟩,
           ⟨[(2, none)], [], none⟩,
           ⟨[(14, none)], [], none⟩,
           ⟨[(76, some (3, false)), (77, some (4, false))], [3, 4], none⟩,
           ⟨[(78, some (5, false))], [3, 4, 5], none⟩,
           ⟨[(75, some (2, false)), (79, some (6, false))], [2, 3, 4, 5, 6], none⟩,
           ⟨[(80, some (7, false))], [2, 3, 4, 5, 6, 7], none⟩,
           ⟨[(74, some (1, false)), (81, some (8, false))], [0, 1, 2, 3, 4, 5, 6, 7, 8], some (1, 0, true)⟩,
           ⟨[(11, none)], [0, 1, 2, 3, 4, 5, 6, 7, 8, 9], none⟩,
           ⟨[(83, some (10, false)), (82, some (9, false))], [0, 1, 2, 3, 4, 5, 6, 7, 8, 9, 10], some (0, 0, true)⟩] [_, _, _, _] _ rfl rfl ?_
       refine da 1 ?_
       first | refine dq_read rfl (fun s => .op rfl (.nil)) rfl rfl (fun s hs _ hm => LocP.upV (loc_loadOwn1 rfl hm (by rfl))) (by exact .cons (.inr fun _ _ _ => rfl) (.nil)) ?_ | refine dq_read rfl (fun s => .op rfl (.nil)) rfl rfl (fun s hs _ hm => loc_loadOwn1 rfl hm (by rfl)) (by exact .cons (.inr fun _ _ _ => rfl) (.nil)) ?_
       refine da 5 ?_
       refine dq_pure rfl (fun s => .op rfl (.op rfl (.nil))) (fun s hs _ => loc_call (indexI_spec _ _) rfl) (by exact .cons (.inr fun _ _ _ => rfl) (.nil)) ?_
       refine dq_pure rfl (fun s => .op rfl (.nil)) (fun s hs _ => loc_buildSlice rfl rfl (.one rfl (.nil)) rfl rfl) (by exact .cons (.inr fun _ _ _ => rfl) (.nil)) ?_
       refine dq_choose id (fun _ t => t) rfl (fun _ _ => ⟨rfl, id, trivial⟩) (fun s => .op rfl (.op rfl (.nil))) rfl rfl (fun s hs => LocM.rowV (loc_append1 _ rfl rfl rfl rfl (by first | omega | (simp [lenMax]; omega) | (simp [lenMax]; done) | assumption) (by first | omega | (simp [lenMax]; omega) | (simp [lenMax]; done) | assumption))) (by exact .cons (.inl rfl) (.nil)) (fun _ _ => rfl) ?_
       refine da 1 ?_
       refine dq_write0 rfl (fun s => .op rfl (.op rfl (.nil))) rfl rfl (fun s hs => loc_store1 rfl rfl rfl) (by exact .cons (.inl rfl) (.nil)) ?_
       refine dq_end (rs := [_, _, _, _]) (.bool true) rfl (fun _ => rfl) (.cons rfl (.nil)) rfl (fun _ => rfl) (fun v10 _ => ?_)
       dsimp only [outG, outM, List.map, List.set, id]
       refine au 6 ?_
       exact run_againF ih7 ((v10, q.2 + 1)) (by simp only; omega) (by simp only; omega) (.cons rfl (by first | exact fun _ _ h => h | exact d_int (by omega) | exact d_int (by simp) | exact d_intN (by omega) | exact d_any) .nil) (.cons rfl (fun _ _ x => x) (.cons rfl (fun _ _ x => x) (.cons rfl (fun _ _ x => x) (.cons rfl (fun _ _ x => x) (.cons rfl (fun _ _ x => x) (.nil)))))) (by simp only [appR]; rw [prK_next, show prAt ((layF h n)[q.2]?.getD default) rows ((asgB h rows)[q.2]?.getD default) = idxP (rows[(((asgB h rows)[q.2]?.getD default)).toNat]?.getD default = ·) ((layF h n)[q.2]?.getD default) by unfold prAt; rw [if_pos (by omega)]]; try rfl)
      ·
       have c2 := h9
       refine au 3 ?_
       first | refine runL_fact (s := 85) rfl (fun _ _ h => dSl_len h) (fun hlen11 => ?_) | skip
       refine au 4 ?_
       refine run_cond rfl (fun h12 => ?_) (fun h12 => ?_)
       ·
        have c3 := h12
        refine au 2 ?_
        first | refine run_op (LocP.upV (loc_loadOwn1 rfl (.here) (by rfl))) rfl ?_ | refine run_op (loc_loadOwn1 rfl (.here) (by rfl)) rfl ?_
        refine run_op (loc_buildSlice rfl rfl (.one rfl (.nil)) rfl rfl) rfl ?_
        refine run_append1 rfl (.there (.here)) rfl (by rfl) (by rfl) (by first | omega | (simp [lenMax]; omega) | (simp [lenMax]; done) | assumption) (by first | omega | (simp [lenMax]; omega) | (simp [lenMax]; done) | assumption) rfl (fun v13 => ?_)
        refine runL_rowV (s := 91) rfl (.there (.here)) ?_
        refine au 9 ?_
        exact run_againF ih7 ((v13, q.2 + 1)) (by simp only; omega) (by simp only; omega) (.cons rfl (by first | exact fun _ _ h => h | exact d_int (by omega) | exact d_int (by simp) | exact d_intN (by omega) | exact d_any) .nil) (.cons rfl (fun _ _ x => x) (.cons rfl (fun _ _ x => x) (.cons rfl (fun _ _ x => x) (.cons rfl (fun _ _ x => x) (.cons rfl (fun _ _ x => x) (.nil)))))) (by simp only [appR]; rw [prK_next, show prAt ((layF h n)[q.2]?.getD default) rows ((asgB h rows)[q.2]?.getD default) = 0 by unfold prAt; rw [if_neg (by omega), if_pos (by omega)]]; try rfl)
       ·
        have c3 := h12
        refine au 2 ?_
        first | refine run_op (LocP.upV (loc_loadOwn1 rfl (.here) (by rfl))) rfl ?_ | refine run_op (loc_loadOwn1 rfl (.here) (by rfl)) rfl ?_
        refine run_op (loc_buildSlice rfl rfl (.one rfl (.nil)) rfl rfl) rfl ?_
        refine run_append1 rfl (.there (.here)) rfl (by rfl) (by rfl) (by first | omega | (simp [lenMax]; omega) | (simp [lenMax]; done) | assumption) (by first | omega | (simp [lenMax]; omega) | (simp [lenMax]; done) | assumption) rfl (fun v14 => ?_)
        refine runL_rowV (s := 68) rfl (.there (.here)) ?_
        refine au 9 ?_
        exact run_againF ih7 ((v14, q.2 + 1)) (by simp only; omega) (by simp only; omega) (.cons rfl (by first | exact fun _ _ h => h | exact d_int (by omega) | exact d_int (by simp) | exact d_intN (by omega) | exact d_any) .nil) (.cons rfl (fun _ _ x => x) (.cons rfl (fun _ _ x => x) (.cons rfl (fun _ _ x => x) (.cons rfl (fun _ _ x => x) (.cons rfl (fun _ _ x => x) (.nil)))))) (by simp only [appR]; rw [prK_next, show prAt ((layF h n)[q.2]?.getD default) rows ((asgB h rows)[q.2]?.getD default) = -1 by unfold prAt; rw [if_neg (by omega), if_neg (by omega)]]; try rfl)
     ·
      refine au 2 ?_
      rw [show q.2 = (layF h n).length by omega]
      first | refine run_freezeRowCellV (kk := 1) (.there (.here)) (.here) rfl ?_ | refine run_freezeRowCell (kk := 1) (.there (.here)) (.here) rfl ?_
      refine au 5 ?_
      refine run_retGP Tryz.func10 rfl (.cellN rfl (.there (.there (.here))) (by rfl) (.tmp rfl (.nil))) ?_ (fun _ _ h => inv_tail (inv_tail (inv_tail (h))))
      exact d_tup2 (d_eq (by unfold planB; rw [if_pos c1]; rfl)) (d_int c1.symm)
end Go.Q

namespace Go.Q
open Go.Proofs
open Classical
theorem ascends_spec (l : List Int) (h : ascB l) : SpecP Tryz.prog 30 [dInts l] (dB True) := by
  refine specP_of_body Tryz.func30 rfl rfl (fun I M => ?_)
  refine au 12 ?_
  first | refine runL_fact (s := 6) rfl (fun _ _ h => dSl_len h) (fun hlen1 => ?_) | skip
  refine au 4 ?_
  refine run_loopC (σ := Nat) (ks := [6, 7]) (.cons rfl (.cons rfl (.nil))) (fun k => [(3, dInt .i64 (lastA l k)), (8, dInt .i64 (k : Nat))]) (fun k => k ≤ l.length) (fun k => l.length - k) (0) (Nat.zero_le _) (.cons rfl (d_int rfl) (.cons rfl (by first | exact fun _ _ h => h | exact d_int (by omega) | exact d_int (by simp) | exact d_intN (by omega) | exact d_any) .nil)) ?_
  intro k hk ih2
  refine au 5 ?_
  refine run_cond rfl (fun h3 => ?_) (fun h3 => ?_)
  ·
   have hlt := lastA_lt h (k := k) (by omega)
   refine au 21 ?_
   refine run_cond rfl (fun h4 => ?_) (fun h4 => ?_)
   · exfalso; have := h4; omega
   ·
    refine au 10 ?_
    exact run_againC ih2 (k + 1) (by omega) (by omega) (.cons rfl (d_int (lastA_next l k).symm) (.cons rfl (by first | exact fun _ _ h => h | exact d_int (by omega) | exact d_int (by simp) | exact d_intN (by omega) | exact d_any) .nil)) (.cons rfl (fun _ _ x => x) (.cons rfl (fun _ _ x => x) (.nil)))
  ·
   refine au 5 ?_
   refine run_retP Tryz.func30 rfl rfl ?_
   exact fun _ _ h => h
theorem numbered_spec (it : List Int) (hn : it.length ≤ 64) (h : ∃ k : Nat, (1 ≤ k ∧ k ≤ 12) ∧ (flt (· ≠ -1) it).Perm (itsN 0 k)) : SpecP Tryz.prog 31 [dInts it] (dB True) := by
  obtain ⟨k, hk, hkp⟩ := h
  have hkl : (flt (· ≠ -1) it).length = k := by rw [hkp.length_eq]; simp [itsN]
  refine specP_of_body Tryz.func31 rfl rfl (fun I M => ?_)
  refine au 12 ?_
  first | refine runL_fact (s := 8) rfl (fun _ _ h => dSl_len h) (fun hlen1 => ?_) | skip
  refine au 4 ?_
  refine run_rowNil 3 1 fI ?_
  refine run_loopF (σ := Value × Nat) (ks := [8, 9]) (.cons rfl (.cons rfl (.nil))) (fun q => [(3, dVal q.1), (10, dInt .i64 (q.2 : Nat))]) (fun q => [rRow q.1 3 1 fI (flt (· ≠ -1) (it.take q.2))]) (fun q => q.2 ≤ it.length) (fun q => it.length - q.2) ((.slice none 0 0, 0)) (Nat.zero_le _) (.cons rfl (by first | exact fun _ _ h => h | exact d_int (by omega) | exact d_int (by simp) | exact d_intN (by omega) | exact d_any) (.cons rfl (by first | exact fun _ _ h => h | exact d_int (by omega) | exact d_int (by simp) | exact d_intN (by omega) | exact d_any) .nil)) (rfl) ?_
  intro q hq ih2
  have hfl := flt_len (· ≠ -1) (it.take q.2)
  rw [List.length_take] at hfl
  have hlm : (flt (· ≠ -1) (it.take q.2)).length + 1 ≤ lenMax := by unfold lenMax; omega
  refine au 5 ?_
  refine run_cond rfl (fun h3 => ?_) (fun h3 => ?_)
  ·
   have hft := flt_take (· ≠ (-1 : Int)) (xs := it) (k := q.2) (by omega)
   refine au 14 ?_
   refine run_cond rfl (fun h4 => ?_) (fun h4 => ?_)
   ·
    rw [if_pos h4] at hft
    refine au 3 ?_
    refine run_op (loc_buildSlice rfl rfl (.one rfl (.nil)) rfl rfl) rfl ?_
    refine run_append1 rfl (.here) rfl (by rfl) (by rfl) (by first | omega | (simp [lenMax]; omega) | (simp [lenMax]; done) | assumption) (by first | omega | (simp [lenMax]; omega) | (simp [lenMax]; done) | assumption) rfl (fun v5 => ?_)
    refine au 7 ?_
    exact run_againF ih2 ((v5, q.2 + 1)) (by simp only; omega) (by simp only; omega) (.cons rfl (by first | exact fun _ _ h => h | exact d_int (by omega) | exact d_int (by simp) | exact d_intN (by omega) | exact d_any) (.cons rfl (by first | exact fun _ _ h => h | exact d_int (by omega) | exact d_int (by simp) | exact d_intN (by omega) | exact d_any) .nil)) (.cons rfl (fun _ _ x => x) (.cons rfl (fun _ _ x => x) (.nil))) (by simp only [appR]; rw [hft])
   ·
    rw [if_neg h4, List.append_nil] at hft
    refine au 6 ?_
    exact run_againF ih2 ((q.1, q.2 + 1)) (by simp only; omega) (by simp only; omega) (.cons rfl (by first | exact fun _ _ h => h | exact d_int (by omega) | exact d_int (by simp) | exact d_intN (by omega) | exact d_any) (.cons rfl (by first | exact fun _ _ h => h | exact d_int (by omega) | exact d_int (by simp) | exact d_intN (by omega) | exact d_any) .nil)) (.cons rfl (fun _ _ x => x) (.cons rfl (fun _ _ x => x) (.nil))) (by simp only [appR]; rw [hft])
  ·
   refine au 2 ?_
   have hall : it.take q.2 = it := List.take_of_length_le (by omega)
   rw [hall]
   refine au 2 ?_
   refine run_callM rfl (.here) (sort_spec q.1 _ (by omega)) rfl (fun r9 hr9 => ?_)
   refine au 1 ?_
   have hrl := hr9.1.length_eq
   refine run_rowForm (.here) (by omega) (fun bq cq eq => ?_)
   rw [eq]
   refine au 8 ?_
   refine run_loopC (σ := Nat) (ks := [23, 24]) (.cons rfl (.cons rfl (.nil))) (fun j => [(25, dInt .i64 (j : Nat))]) (fun j => j ≤ r9.length) (fun j => r9.length - j) (0) ((by omega)) (.cons rfl (by first | exact fun _ _ h => h | exact d_int (by omega) | exact d_int (by simp) | exact d_intN (by omega) | exact d_any) .nil) ?_
   intro j hj ih6
   refine au 5 ?_
   refine run_cond rfl (fun h7 => ?_) (fun h7 => ?_)
   ·
    have hrg := sort_range (hr9.1.trans hkp) hr9.2 j (by omega)
    refine au 17 ?_
    refine run_cond rfl (fun h8 => ?_) (fun h8 => ?_)
    · exfalso; exact h8 hrg
    ·
     refine au 6 ?_
     exact run_againC ih6 (j + 1) (by omega) (by omega) (.cons rfl (by first | exact fun _ _ h => h | exact d_int (by omega) | exact d_int (by simp) | exact d_intN (by omega) | exact d_any) .nil) (.cons rfl (fun _ _ x => x) (.cons rfl (fun _ _ x => x) (.nil)))
   ·
    refine au 5 ?_
    refine run_drop (.cons _ (.refl _)) ?_
    refine run_retP Tryz.func31 rfl rfl ?_
    exact fun _ _ h => h
theorem bvalid_spec (b : Bat) (h : BatOk b) : SpecP Tryz.prog 18 [dBat b] (dB True) := by
  have hbm := h.most
  have hbp := h.prl
  have hbi := h.itl
  refine specP_of_body Tryz.func18 rfl rfl (fun I M => ?_)
  refine au 9 ?_
  first | refine runL_fact (s := 7) rfl (fun _ _ h => dSl_len h) (fun hlen1 => ?_) | skip
  refine au 7 ?_
  refine run_op (loc_call (bwithin_spec _ _ _) rfl) rfl ?_
  refine au 18 ?_
  refine run_cond rfl (fun h2 => ?_) (fun h2 => ?_)
  · exfalso; have := h2; omega
  ·
   refine au 6 ?_
   first | refine runL_fact (s := 27) rfl (fun _ _ h => dSl_len h) (fun hlen3 => ?_) | skip
   refine au 4 ?_
   refine run_loopC (σ := Nat) (ks := [1, 27, 28]) (.cons rfl (.cons rfl (.cons rfl (.nil)))) (fun k => [(29, dInt .i64 (k : Nat))]) (fun k => k ≤ b.bk.length) (fun k => b.bk.length - k) (0) ((by omega)) (.cons rfl (by first | exact fun _ _ h => h | exact d_int (by omega) | exact d_int (by simp) | exact d_intN (by omega) | exact d_any) .nil) ?_
   intro k hk ih4
   refine au 5 ?_
   refine run_cond rfl (fun h5 => ?_) (fun h5 => ?_)
   ·
    have hkn : k < b.bk.length := by omega
    refine au 15 ?_
    refine run_op (loc_call (ascends_spec _ (h.asc _ (getD_mem hkn))) rfl) rfl ?_
    refine au 2 ?_
    refine run_cond rfl (fun h6 => ?_) (fun h6 => ?_)
    · exfalso; exact h6 trivial
    ·
     refine au 5 ?_
     first | refine runL_fact (s := 38) rfl (fun _ _ h => dSl_len h) (fun hlen7 => ?_) | skip
     refine au 4 ?_
     refine run_cond rfl (fun h8 => ?_) (fun h8 => ?_)
     ·
      have hno := h.none k hkn (by omega)
      refine au 18 ?_
      refine run_cond rfl (fun h9 => ?_) (fun h9 => ?_)
      · exfalso; have := h9; omega
      ·
       refine au 7 ?_
       exact run_againC ih4 (k + 1) (by omega) (by omega) (.cons rfl (by first | exact fun _ _ h => h | exact d_int (by omega) | exact d_int (by simp) | exact d_intN (by omega) | exact d_any) .nil) (.cons rfl (fun _ _ x => x) (.cons rfl (fun _ _ x => x) (.cons rfl (fun _ _ x => x) (.nil))))
     ·
      have hso := h.some k hkn (by omega)
      refine au 8 ?_
      first | refine runL_fact (s := 61) rfl (fun _ _ h => dSl_len h) (fun hlen10 => ?_) | skip
      refine au 2 ?_
      refine run_op (loc_call (bwithin_spec _ _ _) rfl) rfl ?_
      refine au 12 ?_
      refine run_cond rfl (fun h11 => ?_) (fun h11 => ?_)
      · exfalso; have := h11; omega
      ·
       refine au 7 ?_
       exact run_againC ih4 (k + 1) (by omega) (by omega) (.cons rfl (by first | exact fun _ _ h => h | exact d_int (by omega) | exact d_int (by simp) | exact d_intN (by omega) | exact d_any) .nil) (.cons rfl (fun _ _ x => x) (.cons rfl (fun _ _ x => x) (.cons rfl (fun _ _ x => x) (.nil))))
   ·
    refine au 5 ?_
    refine run_op (loc_call (numbered_spec _ (by omega) h.num) rfl) rfl ?_
    refine au 2 ?_
    refine run_retP Tryz.func18 rfl rfl ?_
    exact fun _ _ h => h
theorem blook_spec (s : Schm) (p : Int) (hv : validS s p) (b : Bat) (h : BatOk b) : SpecP Tryz.prog 25 [dSchm s, dAgg [dInt .i64 p], dBat b] (dInt .i64 0) := by
  refine specP_of_body Tryz.func25 rfl rfl (fun I M => ?_)
  refine au 12 ?_
  refine run_op (loc_call (bvalid_spec b h) rfl) rfl ?_
  refine au 3 ?_
  refine run_cond rfl (fun h1 => ?_) (fun h1 => ?_)
  · exfalso; exact h1 trivial
  ·
   refine au 4 ?_
   refine run_op (loc_call (valid_spec _ _) rfl) rfl ?_
   refine au 3 ?_
   refine run_cond rfl (fun h2 => ?_) (fun h2 => ?_)
   · exfalso; exact h2 hv
   ·
    refine au 6 ?_
    refine run_retP Tryz.func25 rfl rfl ?_
    exact fun _ _ h => h
theorem basked1_iter (b : Bat) (h : BatOk b) : ∀ (I : Imm) (lb : List Value), relL [dBox (cBat b)] I lb → IterOk Tryz.prog 39 lb (α := Int × Int) (fun q => [dInt .i64 q.1, dInt .i64 q.2]) (askL b) ([]) I := by
  have hbp := h.prl
  refine iter_of_body Tryz.func39 rfl rfl (fun l σ φ Mo F s0 I h0 hy => ?_)
  refine au 4 ?_
  first | refine runL_fact (s := 6) rfl (fun _ _ h => dSl_len h) (fun hlen1 => ?_) | skip
  refine au 4 ?_
  refine run_loopE (σ := Nat × σ) (ks := [0, 1, 6, 7]) (.cons rfl (.cons rfl (.cons rfl (.cons rfl (.nil))))) (fun t => [(8, dInt .i64 (t.1 : Nat))]) (fun t => Mo (askT b.bk b.pr t.1).length t.2 ++ (([] : List Res) ++ F)) (fun t => t.1 ≤ b.bk.length ∧ φ (askT b.bk b.pr t.1).length t.2) (fun t => b.bk.length - t.1) ((0, s0)) (⟨Nat.zero_le _, h0⟩) (.cons rfl (by first | exact fun _ _ h => h | exact d_int (by omega) | exact d_int (by simp) | exact d_intN (by omega) | exact d_any) .nil) (rfl) ?_
  rintro t ⟨hi, hs⟩ ih2
  refine au 5 ?_
  refine run_cond rfl (fun h3 => ?_) (fun h3 => ?_)
  ·
   have hil : t.1 < b.bk.length := by omega
   refine au 12 ?_
   by_cases hkn : (((b.bk[t.1]?.getD default).length : Nat) : Int) > 0
   ·
    have hE := ask_yes (bk := b.bk) (pr := b.pr) (k := t.1) (by omega)
    refine au 2 ?_
    first | refine runL_fact (s := 13) rfl (fun _ _ h => dSl_len h) (fun hlen4 => ?_) | skip
    refine au 3 ?_
    refine run_gsure rfl rfl gdI.ok hkn ?_
    refine au 1 ?_
    refine run_gsure rfl rfl gdI.ok hkn ?_
    refine au 1 ?_
    refine run_gsure rfl rfl gdI.ok hkn ?_
    first | refine runL_fact (s := 18) rfl (fun _ _ h => dSl_len h) (fun hlen5 => ?_) | skip
    refine au 1 ?_
    refine run_gsure rfl rfl gdI.ok hkn ?_
    refine au 1 ?_
    refine run_gsure rfl rfl gdI.ok hkn ?_
    refine au 1 ?_
    refine run_gsure rfl rfl gdI.ok hkn ?_
    refine au 1 ?_
    refine run_gsure rfl rfl gdI.ok hkn ?_
    refine au 1 ?_
    refine run_gsure rfl rfl gdI.ok hkn ?_
    refine au 1 ?_
    refine run_gsure rfl rfl gdI.ok hkn ?_
    refine run_yieldOp hy (i := (askT b.bk b.pr t.1).length) (x := ((((b.bk[t.1]?.getD default).length : Nat) : Int), b.pr[t.1]?.getD default)) (s := t.2) rfl rfl rfl (ask_at hil (by omega)) hs rfl (fun I us hr => hr) (fun s9 hs9 => ?_)
    refine run_gsure rfl rfl gdI.ok hkn ?_
    refine au 1 ?_
    refine runL_recast (s := 26) rfl (d_ifT hkn) ?_
    refine au 2 ?_
    refine run_cond rfl (fun h6 => ?_) (fun h6 => ?_)
    · exfalso; simp at h6
    ·
     refine au 6 ?_
     exact run_againE ih2 ((t.1 + 1, s9)) (⟨by simp only; omega, by simp only; rw [hE, List.length_append]; exact hs9⟩) (by simp only; omega) (.cons rfl (by first | exact fun _ _ h => h | exact d_int (by omega) | exact d_int (by simp) | exact d_intN (by omega) | exact d_any) .nil) (.cons rfl (fun _ _ x => x) (.cons rfl (fun _ _ x => x) (.cons rfl (fun _ _ x => x) (.cons rfl (fun _ _ x => x) (.nil))))) (by simp only; rw [hE, List.length_append]; rfl)
   ·
    have hE := ask_no (bk := b.bk) (pr := b.pr) (k := t.1) (by omega)
    refine au 2 ?_
    first | refine runL_fact (s := 13) rfl (fun _ _ h => dSl_len h) (fun hlen7 => ?_) | skip
    refine au 3 ?_
    refine run_gskip rfl rfl gdI.ok hkn rfl (dB True) ?_
    refine run_gskip rfl rfl gdI.ok hkn rfl (dB True) ?_
    refine run_gskip rfl rfl gdI.ok hkn rfl (dB True) ?_
    refine run_gskip rfl rfl gdI.ok hkn rfl (dB True) ?_
    refine run_gskip rfl rfl gdI.ok hkn rfl (dB True) ?_
    refine run_gskip rfl rfl gdI.ok hkn rfl (dB True) ?_
    refine run_gskip rfl rfl gdI.ok hkn rfl (dB True) ?_
    refine run_gskip rfl rfl gdI.ok hkn rfl (dB True) ?_
    refine run_gskip rfl rfl gdI.ok hkn rfl (dB True) ?_
    refine run_gskip rfl rfl gdI.ok hkn rfl (dB True) ?_
    refine au 2 ?_
    refine run_cond rfl (fun h8 => ?_) (fun h8 => ?_)
    · exfalso; simp at h8; omega
    ·
     refine au 6 ?_
     exact run_againE ih2 ((t.1 + 1, t.2)) (⟨by simp only; omega, by simp only; rw [hE]; exact hs⟩) (by simp only; omega) (.cons rfl (by first | exact fun _ _ h => h | exact d_int (by omega) | exact d_int (by simp) | exact d_intN (by omega) | exact d_any) .nil) (.cons rfl (fun _ _ x => x) (.cons rfl (fun _ _ x => x) (.cons rfl (fun _ _ x => x) (.cons rfl (fun _ _ x => x) (.nil))))) (by simp only; rw [hE])
  ·
   refine au 1 ?_
   have hE : askT b.bk b.pr t.1 = askL b := by unfold askL; rw [show t.1 = b.bk.length by omega]
   rw [hE] at hs
   refine run_ret0End (t.2) Tryz.func39 rfl  ?_ (hs) (fun I w h => by rw [hE] at h; exact h)
   exact fun _ _ _ => trivial
theorem basked_spec (b : Bat) (h : BatOk b) : SpecP Tryz.prog 26 [dBat b] (dSeq Tryz.prog (fun q : Int × Int => [dInt .i64 q.1, dInt .i64 q.2]) (askL b)) := by
 refine specP_of_body Tryz.func26 rfl rfl (fun I M => ?_)
 refine au 10 ?_
 refine run_retP Tryz.func26 rfl rfl ?_
 exact clo_seq (basked1_iter b h)
end Go.Q

namespace Go.Q
open Go.Proofs
open Classical
theorem blimits_spec (s : Schm) (p : Int) (hv : validS s p) (b : Bat) (h : BatOk b) : SpecP Tryz.prog 12 [dSchm s, dAgg [dInt .i64 p], dBat b] (dTup [dInts (limT s p (askL b)), dInt .i64 0]) := by
  have hbm := h.most
  refine specP_of_body Tryz.func12 rfl rfl (fun I M => ?_)
  refine au 5 ?_
  refine run_new (loc_allocOwn (by simp)) rfl (fun b1 _ => ?_)
  refine run_new (loc_allocOwn (by simp)) rfl (fun b2 _ => ?_)
  refine au 7 ?_
  refine run_op (loc_call (blook_spec s p hv b h) rfl) rfl ?_
  refine au 7 ?_
  refine run_cond rfl (fun h3 => ?_) (fun h3 => ?_)
  · exfalso; exact h3 rfl
  ·
   refine au 3 ?_
   refine run_new (loc_allocOwn (by simp)) rfl (fun b9 _ => ?_)
   refine au 5 ?_
   refine run_op (loc_call (basked_spec b h) rfl) rfl ?_
   refine au 2 ?_
   refine run_cellsUp (kk := 0) (b := b9) (dVal (.slice none 0 0)) (dSlV (.slice none 0 0)) (.here) rfl (fun J u h => ⟨h, _, _, _, h⟩) ?_
   refine run_rowNil 3 1 fI ?_
   refine run_front (.here) ?_
   refine run_front (.there (.here)) ?_
   refine run_rangeFunc (σ := Value) (ps := [22, 23]) (fun i v => True) (fun i v => [rCells b9 38 [dSlV v], rRow v 3 1 fI (limT s p ((askL b).take i))]) (.slice none 0 0) rfl rfl rfl (fun _ => rfl) rfl (trivial) rfl (fun i x1 v l1 r1 F1 J hx1 hφ => ?_) (fun D v hφ => ?_)
   ·
    dsimp only [setP]
    have hx4 := (List.getElem?_eq_some_iff.1 hx1).1
    have hxb := ask_bd h (List.mem_of_getElem? hx1)
    have hxl := lim_ok hv hxb
    have hxn := limN_bd hv hxb
    have hal : (askL b).length ≤ 64 := by have := ask_len b.bk b.pr b.bk.length; unfold askL; omega
    have hll : (limT s p ((askL b).take i)).length ≤ 10240 * ((askL b).take i).length := limT_len hv (fun q hq => ask_bd h (List.mem_of_mem_take hq))
    rw [List.length_take] at hll
    have hl2 : (limL s p x1.1).length ≤ 10240 := by rw [hxl.2, List.length_replicate]; omega
    refine au 3 ?_
    refine run_beginR (.here) ?_
    refine au 6 ?_
    refine run_op (loc_call (slimits_spec _ _ _) rfl) rfl ?_
    refine au 12 ?_
    refine run_cond rfl (fun h5 => ?_) (fun h5 => ?_)
    · exfalso; exact h5 hxl.1
    ·
     refine au 2 ?_
     first | refine run_op (LocP.upV (loc_loadOwn1 rfl (.there (.here)) (by rfl))) rfl ?_ | refine run_op (loc_loadOwn1 rfl (.there (.here)) (by rfl)) rfl ?_
     refine au 1 ?_
     refine run_append rfl (.there (.there (.here))) rfl (by rfl) (by first | omega | (simp [lenMax]; omega) | (simp [lenMax]; done) | assumption) (by first | omega | (simp [lenMax]; omega) | (simp [lenMax]; done) | assumption) rfl (fun v6 => ?_)
     refine runL_rowV (s := 36) rfl (.there (.there (.here))) ?_
     refine au 3 ?_
     rw [← limT_next hx1]
     exact run_roundEnd (v6) (trivial) .here rfl
   ·
    refine au 2 ?_
    first | refine run_freezeRowCellV (kk := 0) (.there (.there (.here))) (.there (.here)) rfl ?_ | refine run_freezeRowCell (kk := 0) (.there (.there (.here))) (.there (.here)) rfl ?_
    refine au 5 ?_
    refine run_retPMk (.here) Tryz.func12 rfl (.cell1 rfl (by first | exact .here | exact .there .here | exact .there (.there .here) | exact .there (.there (.there .here)) | exact .there (.there (.there (.there .here))) | exact .there (.there (.there (.there (.there .here))))) (.cell1 rfl (by first | exact .here | exact .there .here | exact .there (.there .here) | exact .there (.there (.there .here)) | exact .there (.there (.there (.there .here))) | exact .there (.there (.there (.there (.there .here))))) (.nil))) ?_ (fun _ _ h => h.sub (.cons _ (.cons _ (.cons _ (.refl _)))))
    exact d_tup2 (d_eq (by rw [List.take_length])) (fun _ _ h => h)
end Go.Q

namespace Go.Q
open Go.Proofs
open Classical
def rDc (b : Nat) (d : Dc) : Res := rCells b 58 [dSl 1 fU8 d.xs, dInt .i64 (d.k : Nat)]
theorem dnew_spec (xs : List Int) : Spec Tryz.prog 5 [dBy xs] [] (σ := Nat) (fun _ => True) (fun b => dVal (ptr b 0)) (fun b => [rDc b ⟨xs.take 300, 0⟩]) := by
  refine spec_of_body Tryz.func5 rfl rfl (fun I F => ?_)
  refine au 8 ?_
  refine run_op (loc_lenBy rfl) rfl ?_
  refine au 2 ?_
  refine run_cond rfl (fun h1 => ?_) (fun h1 => ?_)
  ·
   refine au 2 ?_
   refine run_op (loc_sliceToBy rfl rfl (by omega)) rfl ?_
   refine au 6 ?_
   refine run_new (loc_boxOwnN rfl) rfl (fun b2 _ => ?_)
   refine au 2 ?_
   refine run_ret (b2) Tryz.func5 rfl rfl ?_ (trivial) (fun _ _ h => h)
   exact fun _ _ h => h
  ·
   refine run_recast (s := 0) rfl (dBy_sl (by omega)) ?_
   refine au 5 ?_
   refine run_new (loc_boxOwnN rfl) rfl (fun b3 _ => ?_)
   refine au 2 ?_
   refine run_ret (b3) Tryz.func5 rfl rfl ?_ (trivial) (fun _ _ h => by rw [show xs.take 300 = xs from List.take_of_length_le (by omega)]; exact h)
   exact fun _ _ h => h
theorem pick_spec (b : Nat) (d : Dc) (n : Int) (h : okDc d) (hn : 1 ≤ n) : Spec Tryz.prog 9 [dVal (ptr b 0), dInt .i64 n] [rDc b d] (σ := Unit) (fun _ => True) (fun _ => dInt .i64 (d.val n)) (fun _ => [rDc b d.next]) := by
  refine spec_of_body Tryz.func9 rfl rfl (fun I F => ?_)
  show Run _ _ _ _ _ _ (rCells b 58 [dSl 1 fU8 d.xs, dInt .i64 (d.k : Nat)] :: F) _
  refine au 1 ?_
  have hlen := h.len
  refine au 5 ?_
  refine dr_start _ (.none) [⟨[(0, none)], [], none⟩,
      ⟨[(5, some (0, false))], [0], none⟩,
      ⟨[(6, some (1, false))], [0, 1], none⟩,
      ⟨[(7, some (2, false))], [0, 1, 2], some (0, 0, false)⟩,
      ⟨[(0, none)], [], none⟩,
      ⟨[(9, some (4, false))], [4], none⟩,
      ⟨[(10, some (5, false))], [4, 5], none⟩,
      ⟨[(11, some (6, false))], [4, 5, 6], some (0, 0, false)⟩,
      ⟨[(12, some (7, false))], [4, 5, 6, 7], none⟩,
      ⟨[(8, some (3, false)), (13, some (8, false))], [0, 1, 2, 3, 4, 5, 6, 7, 8], none⟩] [_] _ rfl rfl ?_
  refine da 10 ?_
  refine dq_end (rs := [_]) () rfl (fun _ => rfl) (.nil) rfl (fun _ => rfl) (fun _ _ => ?_)
  dsimp only [outG, outM, List.map, List.set, id]
  refine run_cond rfl (fun h1 => ?_) (fun h1 => ?_)
  ·
   refine au 4 ?_
   refine run_ret (()) Tryz.func9 rfl rfl ?_ (trivial) (fun _ _ h => by unfold Dc.next rDc; rw [if_neg (by omega)]; exact h)
   exact d_int (by unfold Dc.val; rw [if_neg (by omega)])
  ·
   refine au 13 ?_
   have hx := h.byte (d.xs[((d.k : Int) + 1 - 1).toNat]?.getD default) (getD_mem (by omega))
   refine dr_start _ (.none) [⟨[(0, none)], [], none⟩,
       ⟨[(22, some (0, false))], [0], none⟩,
       ⟨[(23, some (1, false))], [0, 1], none⟩,
       ⟨[(24, some (2, false))], [0, 1, 2], some (0, 0, false)⟩,
       ⟨[(0, none)], [], none⟩,
       ⟨[(26, some (4, false))], [4], none⟩,
       ⟨[(27, some (5, false))], [4, 5], none⟩,
       ⟨[(28, some (6, false))], [4, 5, 6], some (0, 0, false)⟩,
       ⟨[(29, some (7, false))], [4, 5, 6, 7], none⟩,
       ⟨[(25, some (3, false)), (30, some (8, false))], [0, 1, 2, 3, 4, 5, 6, 7, 8], none⟩,
       ⟨[(31, some (9, false))], [0, 1, 2, 3, 4, 5, 6, 7, 8, 9], none⟩,
       ⟨[(32, some (10, false))], [0, 1, 2, 3, 4, 5, 6, 7, 8, 9, 10], none⟩,
       ⟨[(1, none)], [], none⟩,
       ⟨[(33, some (11, false)), (34, some (12, false))], [0, 1, 2, 3, 4, 5, 6, 7, 8, 9, 10, 11, 12], none⟩,
       ⟨[(35, some (13, false))], [0, 1, 2, 3, 4, 5, 6, 7, 8, 9, 10, 11, 12, 13], none⟩] [_] _ rfl rfl ?_
   refine da 11 ?_
   first | refine dq_pure rfl (fun s => .op rfl (.nil)) (fun s hs _ => loc_conv rfl (by first | omega | assumption)) (by exact .nil) ?_ | refine dq_pure rfl (fun s => .op rfl (.nil)) (fun s hs _ => loc_convW rfl) (by exact .nil) ?_
   refine da 3 ?_
   refine dq_end (rs := [_]) () rfl (fun _ => rfl) (.nil) rfl (fun _ => rfl) (fun _ _ => ?_)
   dsimp only [outG, outM, List.map, List.set, id]
   refine run_ret (()) Tryz.func9 rfl rfl ?_ (trivial) (fun _ _ h => by unfold Dc.next rDc; rw [if_pos (by omega)]; exact h)
   exact d_int (by unfold Dc.val; rw [if_pos (by omega)]; congr 3; omega)
end Go.Q
