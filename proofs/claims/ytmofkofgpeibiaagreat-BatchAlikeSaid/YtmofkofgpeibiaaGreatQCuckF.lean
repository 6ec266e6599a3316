/- A row of the call's own, lent to a function that changes others: what is proved here holds of every program. -/
import Derived.Test.YtmofkofgpeibiaaGreatQOwn3
import Derived.Test.YtmofkofgpeibiaaGreatQPlainS3
import Derived.Test.YtmofkofgpeibiaaGreatQScope
import Derived.Test.YtmofkofgpeibiaaGreatQRes
set_option linter.unusedVariables false
set_option linter.unusedSimpArgs false
namespace Go.Q
variable {P : Program} {f : FuncId}
def FlatR (r : Res) : Prop := ∀ I J o, r.sat I o → r.sat J o
theorem relL_flatR {I J : Imm} : ∀ {ds : List D} {vs : List Value}, (∀ d ∈ ds, Flat d) → relL ds I vs → relL ds J vs
 | [], [], _, _ => trivial
 | [], _ :: _, _, h => h.elim
 | _ :: _, [], _, h => h.elim
 | d :: ds, v :: vs, hf, h => ⟨(hf d (List.mem_cons_self ..)).flat h.1, relL_flatR (fun e he => hf e (List.mem_cons_of_mem _ he)) h.2⟩
theorem rRow_flat {α : Type} {v : Value} {T n : Nat} {f' : α → List D} {xs : List α} (h : ∀ x, ∀ d ∈ f' x, Flat d) : FlatR (rRow v T n f' xs) := by
 intro I J o hs
 cases o with
 | none => exact hs
 | some ob =>
  obtain ⟨b, cap, cs, h1, h2, h3, h4, h5, h6, h7, h8⟩ := hs
  refine ⟨b, cap, cs, h1, h2, h3, h4, h5, h6, h7, relL_flatR (fun d hd => ?_) h8⟩
  obtain ⟨x, _, hx⟩ := List.mem_flatMap.1 hd
  exact h x d hx
def pinW (w : World) (r : Res) : Res := ⟨r.key, fun _ o => o = r.key.bind fun b => w.heap[b]?, fun _ h => h⟩
theorem keys_pin (w : World) (F : List Res) : keys (F.map (pinW w)) = keys F := by
 unfold keys
 rw [List.filterMap_map]
 rfl
theorem keys_app (A B : List Res) : keys (A ++ B) = keys A ++ keys B := List.filterMap_append
theorem inv_pin {I : Imm} {A F : List Res} {w : World} (h : Inv I (A ++ F) w) : Inv I (A ++ F.map (pinW w)) w := by
 refine ⟨h.os, h.tape, h.output, h.imm, fun r hr => ?_, by rw [keys_app, keys_pin, ← keys_app]; exact h.apart⟩
 rcases List.mem_append.1 hr with hr | hr
 ·exact h.own r (List.mem_append_left _ hr)
 ·obtain ⟨q, hq, rfl⟩ := List.mem_map.1 hr
  have h1 := h.own q (List.mem_append_right _ hq)
  unfold Res.ok at h1 ⊢
  show match q.key with | none => (none : Option Obj) = q.key.bind fun b => w.heap[b]? | some b => I.blk b = none ∧ ∃ o, w.heap[b]? = some o ∧ some o = q.key.bind fun b => w.heap[b]?
  cases hk : q.key with
  | none => rfl
  | some b =>
   rw [hk] at h1
   obtain ⟨h2, o, h3, _⟩ := h1
   exact ⟨h2, o, h3, h3.symm⟩
theorem row_freeze2 {α : Type} {v : Value} {T n : Nat} {f' : α → List D} {xs : List α} {I : Imm} {F : List Res} {w : World} (hi : Inv I (rRow v T n f' xs :: F) w) :
  ∃ J, I.le J ∧ (dSl n f' xs).rel J v ∧ Inv J F w ∧ ∀ b, (rRow v T n f' xs).key = some b → ∃ o, w.heap[b]? = some o ∧ J.blk b = some o := by
 rcases row_cases hi with ⟨rfl, hx⟩ | ⟨b, cap, cs, rfl, h3, h4, h5, h6, h7, h8, h9⟩
 ·subst hx
  exact ⟨I, I.le_refl, ⟨none, 0, rfl, Nat.le_refl _, Nat.zero_le _, Nat.zero_le _, fun i x hx => by simp at hx⟩, hi.sub (List.sublist_cons_self ..), fun b hb => by cases hb⟩
 ·obtain ⟨o, ho, hn, hi'⟩ := hi.freeze (b := b) rfl
  have hblk : o = .cells cs T (0, 0) := by
   have := hi'.imm b o (by simp [Imm.add])
   rw [h3] at this
   injection this with this
   exact this.symm
  subst hblk
  have hle := Imm.le_add (o := .cells cs T (0, 0)) hn
  refine ⟨_, hle, ⟨some ⟨b, 0, none⟩, cap, rfl, h5, h6, h7, fun i x hx => ⟨h8 x (List.mem_of_getElem? hx), ⟨b, 0, none⟩, rfl, rfl, ?_⟩⟩, hi', fun b' hb => by
   have e : b = b' := by injection hb
   subst e
   exact ⟨_, h3, by simp [Imm.add]⟩⟩
  rw [Addr.add_lit, Nat.zero_add]
  refine ⟨rfl, cs, T, (0, 0), by simp [Imm.add], ?_⟩
  have h10 := relL_elem h8 h9 i x hx
  have hlen := h8 x (List.mem_of_getElem? hx)
  rw [List.drop_take, List.take_take] at h10
  have hlt : i < xs.length := (List.getElem?_eq_some_iff.1 hx).1
  have hmin : min n (xs.length * n - i * n) = n := by
   apply Nat.min_eq_left
   rw [← Nat.sub_mul]
   exact Nat.le_mul_of_pos_left n (by omega)
  rw [hmin] at h10
  simp only [hlen]
  exact relL_mono hle h10
theorem relL_at {A B : List D} {d e : D} {I J : Imm} (hle : I.le J) {v : Value} (h : d.rel I v → e.rel J v) (hv : ∀ u, d.rel I u → u = v) : ∀ {vs : List Value}, relL (A ++ d :: B) I vs → relL (A ++ e :: B) J vs := by
 induction A with
 | nil =>
  intro vs hr
  cases vs with
  | nil => exact hr.elim
  | cons u us =>
   have := hv u hr.1
   subst this
   exact ⟨h hr.1, relL_mono hle hr.2⟩
 | cons a A ih =>
  intro vs hr
  cases vs with
  | nil => exact hr.elim
  | cons u us => exact ⟨a.mono hle hr.1, ih hr.2⟩
theorem spec_lend {α : Type} {v : Value} {T n : Nat} {f' : α → List D} {xs : List α} {A B : List D} {Min : List Res} {σ : Type} {φ : σ → Prop} {d : σ → D} {Mout : σ → List Res} (h : Spec P f (A ++ dSl n f' xs :: B) Min φ d Mout)
  (hd : ∀ s, Flat (d s)) (hm : ∀ s, ∀ r ∈ Mout s, FlatR r) : Spec P f (A ++ dVal v :: B) (rRow v T n f' xs :: Min) φ d (fun s => rRow v T n f' xs :: Mout s) := by
 intro I F w vs hv hi
 obtain ⟨J, hle, hdj, hj, hjb⟩ := row_freeze2 hi
 refine Calls.mono (h J (F.map (pinW w)) w vs (relL_at hle (v := v) (fun _ => hdj) (fun u hu => hu) hv) (inv_pin hj)) ?_
 rintro e w' ⟨u, rfl, s, hs, J', hle', hdu, hi'⟩
 have hleI := hle.trans hle'
 have hIn : ∀ b, J'.blk b = none → I.blk b = none := fun b hb => by
  cases hc : I.blk b with
  | none => rfl
  | some o => have := hleI.blk b o hc; rw [hb] at this; cases this
 refine ⟨u, rfl, s, hs, I, I.le_refl, (hd s).flat hdu, ⟨hi'.os.trans hleI.os, hi'.tape.trans hleI.tape, hi'.output.trans hleI.output, fun b o hb => hi'.imm b o (hleI.blk b o hb), fun r hr => ?_, ?_⟩⟩
 ·rcases List.mem_cons.1 (show r ∈ rRow v T n f' xs :: (Mout s ++ F) from hr) with rfl | hr
  ·have h1 := hi.own _ (List.mem_cons_self ..)
   unfold Res.ok at h1 ⊢
   cases hk : (rRow v T n f' xs).key with
   | none => rw [hk] at h1; exact h1
   | some b =>
    rw [hk] at h1
    obtain ⟨h2, o, h3, h4⟩ := h1
    obtain ⟨o2, h5, h6⟩ := hjb b hk
    rw [h3] at h5
    injection h5 with h5
    subst h5
    exact ⟨h2, o, hi'.imm b o (hle'.blk b o h6), h4⟩
  ·rcases List.mem_append.1 hr with hr | hr
   ·have h1 := hi'.own r (List.mem_append_left _ hr)
    have h9 := hm s r hr
    unfold Res.ok at h1 ⊢
    cases hk : r.key with
    | none => rw [hk] at h1; exact h9 _ _ _ h1
    | some b =>
     rw [hk] at h1
     obtain ⟨h2, o, h3, h4⟩ := h1
     exact ⟨hIn b h2, o, h3, h9 _ _ _ h4⟩
   ·have h1 := hi'.own _ (List.mem_append_right _ (List.mem_map_of_mem hr))
    have h0 := hi.own r (List.mem_cons_of_mem _ (List.mem_append_right _ hr))
    unfold Res.ok at h1 h0 ⊢
    cases hk : r.key with
    | none => rw [hk] at h0; exact h0
    | some b =>
     rw [hk] at h0
     have h1' : match (some b : Option Nat) with | none => (none : Option Obj) = (some b : Option Nat).bind fun b => w.heap[b]? | some b => J'.blk b = none ∧ ∃ o, w'.heap[b]? = some o ∧ some o = (some b : Option Nat).bind fun b => w.heap[b]? := by
      have h2 : (match r.key with | none => (none : Option Obj) = r.key.bind fun b => w.heap[b]? | some b => J'.blk b = none ∧ ∃ o, w'.heap[b]? = some o ∧ some o = r.key.bind fun b => w.heap[b]?) := h1
      rw [hk] at h2
      exact h2
     obtain ⟨h2, o, h3, h4⟩ := h1'
     obtain ⟨h5, o2, h6, h7⟩ := h0
     have h8 : some o = w.heap[b]? := h4
     rw [h6] at h8
     injection h8 with h8
     subst h8
     exact ⟨h5, o, h3, h7⟩
 ·have hn := hi'.apart
  rw [keys_app, keys_pin, ← keys_app] at hn
  show (keys (rRow v T n f' xs :: (Mout s ++ F))).Nodup
  unfold keys at hn ⊢
  cases hk : (rRow v T n f' xs).key with
  | none => rw [List.filterMap_cons_none hk]; exact hn
  | some b =>
   rw [List.filterMap_cons_some hk]
   refine List.nodup_cons.2 ⟨fun hb => ?_, hn⟩
   obtain ⟨o, _, h6⟩ := hjb b hk
   have h7 := hle'.blk b o h6
   obtain ⟨r, hr, hrk⟩ := List.mem_filterMap.1 hb
   have hbad : ∀ q ∈ Mout s ++ F.map (pinW w), q.key = some b → False := fun q hq hqk => by
    have h8 := hi'.own q hq
    unfold Res.ok at h8
    rw [hqk] at h8
    have := h8.1
    rw [h7] at this
    cases this
   rcases List.mem_append.1 hr with hr | hr
   ·exact hbad r (List.mem_append_left _ hr) hrk
   ·exact hbad (pinW w r) (List.mem_append_right _ (List.mem_map_of_mem hr)) hrk
end Go.Q

namespace Go.Q
variable {P : Program} {f : FuncId} {N : Nat} {I0 : Imm} {R : Goal} {g : G} {M : List Res} {k : List Item} {dst : Option Tmp} {ty : TypeId} {pos : String} {after : Array Edge} {gd : Option (Nat × Bool)}
variable {t e T : TypeId} {agg : Bool} {n : Nat} {α : Type} {f' : α → List D} {xs : List α} {x y : Operand} {kd : IntKind} {h : Value} {F : List Res}
def dEl (h : Value) (n i : Nat) : D := ⟨fun _ v => ∃ b len cap, h = .slice (some ⟨b, 0, none⟩) len cap ∧ v = ptr b (i * n), fun _ h => h⟩
theorem row_form {I : Imm} {w : World} (hi : Inv I M w) (hm : In (rRow h T n f' xs) M) (hx : 0 < xs.length) : ∃ b cap, h = .slice (some ⟨b, 0, none⟩) xs.length cap := by
 obtain ⟨s, t, e⟩ := List.append_of_mem hm.mem
 rw [e] at hi
 rcases row_cases (hi.perm List.perm_middle) with ⟨_, h2⟩ | ⟨b', cap, cs', h2, _⟩
 ·rw [h2] at hx; cases hx
 ·exact ⟨b', cap, h2⟩
theorem loc_indexEl [ht : TySl P t e] [hv : TyV P e agg n] {i : Int} (hx : opd g x = some (dVal h)) (hy : opd g y = some (dInt kd i)) (hm : In (rRow h T n f' xs) M) (hi : 0 ≤ i ∧ i < xs.length) :
  LocP P ⟨dst, .indexAddr t x y, ty, pos, after, gd⟩ g N M (dEl h n i.toNat) :=
 locP_of_run fun I a w hs hinv => by
  obtain ⟨b, cap, hb⟩ := row_form hinv hm (by omega)
  have hxv : a.eval x = .slice (some ⟨b, 0, none⟩) xs.length cap := by have : a.eval x = h := opd_sound hs hx; rw [this]; exact hb
  have hyv : a.eval y = .int kd i := opd_sound hs hy
  refine ⟨_, ?_, b, xs.length, cap, hb, rfl⟩
  simp [execOp, Instr.indexAt, hxv, hyv, asIntOf, run_underlying ht.eq, hi, run_sizeOf hv, Addr.add_lit, ptr]
theorem loc_loadEl1 [Inhabited α] [ht : TyV P t false 1] {i : Nat} {d : α → D} (hx : opd g x = some (dEl h 1 i)) (hm : In (rRow h T 1 (fun e => [d e]) xs) M) (hi : i < xs.length) :
  LocP P ⟨dst, .load t x, ty, pos, after, gd⟩ g N M (d (xs[i]?.getD default)) :=
 locP_of_run fun I a w hs hinv => by
  obtain ⟨b, len, cap, hb, hp⟩ := opd_sound hs hx
  subst hb
  have hp : a.eval x = .pointer (some ⟨b, i * 1, none⟩) := hp
  obtain ⟨cs, _, hb, hsz, hcap, _, hr⟩ := own_row hinv hm.mem
  have h2 := relL_elem (f := fun e => [d e]) (n := 1) (fun x _ => rfl) hr i xs[i] (by simp [hi])
  obtain ⟨v, hv, hd⟩ := relL_get h2 0 (d xs[i]) rfl
  rw [List.getElem?_take, if_pos (by omega), List.getElem?_drop, List.getElem?_take, if_pos (by omega), Array.getElem?_toList] at hv
  refine ⟨v, ?_, by simpa [hi] using hd⟩
  rw [Nat.mul_one] at hp hv
  have hc : w.cell? ⟨b, i, none⟩ = some v := by simp [World.cell?, hb]; simpa using hv
  have hl : (load (⟨b, i, none⟩ : Addr)).run P w = .ok v w := by rw [run_load, hc]
  simp [execOp, hp, Instr.loadAt, Instr.sureAddr, loadVar, run_isAgg ht, -run_load, hl]
/-! ### Families -/
end Go.Q

namespace Go.Q
open Go.Proofs
open Classical
theorem ccheck_spec19 (h : Hsh) (hh : okH h) : SpecP Tryz.prog 33 [dHsh h] (dInt .i64 0) := by
  have hm1 := hh.1
  have hp1 := hh.2.1
  have hq1 := hh.2.2
  refine specP_of_body Tryz.func33 rfl rfl (fun I M => ?_)
  refine au 32 ?_
  refine run_cond rfl (fun h1 => ?_) (fun h1 => ?_)
  · exfalso; have := h1; omega
  ·
   refine au 6 ?_
   first | refine runL_fact (s := 26) rfl (fun _ _ h => dSl_len h) (fun hlen2 => ?_) | skip
   refine au 4 ?_
   refine run_loopC (σ := Nat) (ks := [26, 27]) (.cons rfl (.cons rfl (.nil))) (fun k => [(28, dInt .i64 (k : Nat))]) (fun k => k ≤ h.ps.length) (fun k => h.ps.length - k) (0) ((by omega)) (.cons rfl (by first | exact fun _ _ h => h | exact d_int (by omega) | exact d_int (by simp) | exact d_intN (by omega) | exact d_any) .nil) ?_
   intro k hk ih3
   refine au 5 ?_
   refine run_cond rfl (fun h4 => ?_) (fun h4 => ?_)
   ·
    have hsh := hq1 (h.ps[k]?.getD default) (getD_mem (by omega))
    unfold okSh at hsh
    refine au 7 ?_
    refine run_new (loc_allocOwn (by simp)) rfl (fun b5 _ => ?_)
    refine au 26 ?_
    refine run_cond rfl (fun h6 => ?_) (fun h6 => ?_)
    · exfalso; have := h6; omega
    ·
     refine au 6 ?_
     refine run_drop (.cons _ (.refl _)) ?_
     exact run_againC ih3 (k + 1) (by omega) (by omega) (.cons rfl (by first | exact fun _ _ h => h | exact d_int (by omega) | exact d_int (by simp) | exact d_intN (by omega) | exact d_any) .nil) (.cons rfl (fun _ _ x => x) (.cons rfl (fun _ _ x => x) (.nil)))
   ·
    refine au 5 ?_
    refine run_retP Tryz.func33 rfl rfl ?_
    exact fun _ _ h => h
theorem chomesM_spec (h : Hsh) (hh : okH h) (n : Int) (hn : 0 ≤ n ∧ n < 2147483647) : Spec Tryz.prog 34 [dHsh h, dInt .i64 n] [] (σ := Value) (fun _ => True) (fun v => dVal v) (fun v => [rRow v 3 1 fI (homesI h n)]) := by
  have hm1 := hh.1
  have hp1 := hh.2.1
  have hq1 := hh.2.2
  refine spec_of_body Tryz.func34 rfl rfl (fun I F => ?_)
  refine au 14 ?_
  first | refine runL_fact (s := 9) rfl (fun _ _ h => dSl_len h) (fun hlen1 => ?_) | skip
  refine au 4 ?_
  refine run_rowNil 3 1 fI ?_
  refine run_loopF (σ := Value × Nat) (ks := [1, 2, 9, 10]) (.cons rfl (.cons rfl (.cons rfl (.cons rfl (.nil))))) (fun q => [(5, dVal q.1), (11, dInt .i64 (q.2 : Nat))]) (fun q => [rRow q.1 3 1 fI ((h.ps.take q.2).map (homeI h.m n))]) (fun q => q.2 ≤ h.ps.length) (fun q => h.ps.length - q.2) ((.slice none 0 0, 0)) (Nat.zero_le _) (.cons rfl (by first | exact fun _ _ h => h | exact d_int (by omega) | exact d_int (by simp) | exact d_intN (by omega) | exact d_any) (.cons rfl (by first | exact fun _ _ h => h | exact d_int (by omega) | exact d_int (by simp) | exact d_intN (by omega) | exact d_any) .nil)) (rfl) ?_
  intro q hq ih2
  have hql : ((h.ps.take q.2).map (homeI h.m n)).length = q.2 := by rw [List.length_map, List.length_take]; omega
  refine au 5 ?_
  refine run_cond rfl (fun h3 => ?_) (fun h3 => ?_)
  ·
   have hsh := hq1 (h.ps[q.2]?.getD default) (getD_mem (by omega))
   unfold okSh at hsh
   have hmul := mul_bd (a := (h.ps[q.2]?.getD default).1) (b := n) (A := 2147483646) (B := 2147483646) (by omega) (by omega) (by omega) (by omega)
   have hmd := mod_bd ((h.ps[q.2]?.getD default).1 * n + (h.ps[q.2]?.getD default).2) (show (0 : Int) < 2147483647 by omega)
   have hsn : (h.ps.take (q.2 + 1)).map (homeI h.m n) = (h.ps.take q.2).map (homeI h.m n) ++ [homeI h.m n (h.ps[q.2]?.getD default)] := by rw [List.take_add_one, List.getElem?_eq_getElem (by omega), List.map_append]; rfl
   refine au 7 ?_
   refine run_new (loc_allocOwn (by simp)) rfl (fun b4 _ => ?_)
   refine au 15 ?_
   refine run_op (loc_buildSlice rfl rfl (.one rfl (.nil)) rfl rfl) rfl ?_
   refine run_append1 rfl (.there (.here)) rfl (by rfl) (by rfl) (by first | omega | (simp [lenMax]; omega) | (simp [lenMax]; done) | assumption) (by first | omega | (simp [lenMax]; omega) | (simp [lenMax]; done) | assumption) rfl (fun v5 => ?_)
   refine au 7 ?_
   refine run_drop (.cons _ (.refl _)) ?_
   exact run_againF ih2 ((v5, q.2 + 1)) (by simp only; omega) (by simp only; omega) (.cons rfl (by first | exact fun _ _ h => h | exact d_int (by omega) | exact d_int (by simp) | exact d_intN (by omega) | exact d_any) (.cons rfl (by first | exact fun _ _ h => h | exact d_int (by omega) | exact d_int (by simp) | exact d_intN (by omega) | exact d_any) .nil)) (.cons rfl (fun _ _ x => x) (.cons rfl (fun _ _ x => x) (.cons rfl (fun _ _ x => x) (.cons rfl (fun _ _ x => x) (.nil))))) (by simp only [appR]; rw [hsn]; rfl)
  ·
   refine au 6 ?_
   refine run_ret (q.1) Tryz.func34 rfl rfl ?_ (trivial) (fun _ _ h => by rw [List.take_of_length_le (by omega)] at h; exact h)
   exact fun _ _ h => h
theorem chomes_spec (h : Hsh) (hh : okH h) (n : Int) (hn : 0 ≤ n ∧ n < 2147483647) : SpecP Tryz.prog 34 [dHsh h, dInt .i64 n] (dInts (homesI h n)) := spec_freeze (chomesM_spec h hh n hn)
theorem citem_spec (n : Int) : SpecP Tryz.prog 47 [dInt .i64 n] (dB (0 ≤ n ∧ n < 2147483647)) := by
 refine specP_of_body Tryz.func47 rfl rfl (fun I M => ?_)
 refine au 15 ?_
 refine run_retP Tryz.func47 rfl rfl ?_
 exact d_B (by constructor <;> (intro h; omega))
theorem casked1_spec (n : Int) : SpecP Tryz.prog 46 [dInt .i64 n] (dB (¬ (0 ≤ n ∧ n < 2147483647))) := by
 refine specP_of_body Tryz.func46 rfl rfl (fun I M => ?_)
 refine au 7 ?_
 refine run_op (loc_call (citem_spec _) rfl) rfl ?_
 refine au 3 ?_
 refine run_retP Tryz.func46 rfl rfl ?_
 exact fun _ _ h => h
end Go.Q

namespace Go.Q
variable {P : Program} {f : FuncId} {N : Nat} {I0 : Imm} {R : Goal} {g : G} {k : List Item} {F : List Res} {dst : Tmp} {op : Op} {ty : TypeId} {pos : String} {after : Array Edge} {ops : Array Oper} {rest : List Oper}
theorem run_op2 {r1 r2 : Res} {σ : Type} {φ : σ → Prop} {d : σ → D} {q1 q2 : σ → Res} (hN : Nat.blt dst N = true) (hd : LocM P ⟨some dst, op, ty, pos, after, none⟩ g N [r1, r2] φ d (fun s => [q1 s, q2 s]))
  (h : ∀ s, φ s → RunL P f N I0 R ((dst, d s) :: g) (q1 s :: q2 s :: F) ops rest k) : RunL P f N I0 R g (r1 :: r2 :: F) ops (⟨some dst, op, ty, pos, after, none⟩ :: rest) k :=
 run_opM (Min := [r1, r2]) (Mout := fun s => [q1 s, q2 s]) hd hN h
theorem run_op3 {r1 r2 r3 : Res} {σ : Type} {φ : σ → Prop} {d : σ → D} {q1 q2 q3 : σ → Res} (hN : Nat.blt dst N = true) (hd : LocM P ⟨some dst, op, ty, pos, after, none⟩ g N [r1, r2, r3] φ d (fun s => [q1 s, q2 s, q3 s]))
  (h : ∀ s, φ s → RunL P f N I0 R ((dst, d s) :: g) (q1 s :: q2 s :: q3 s :: F) ops rest k) : RunL P f N I0 R g (r1 :: r2 :: r3 :: F) ops (⟨some dst, op, ty, pos, after, none⟩ :: rest) k :=
 run_opM (Min := [r1, r2, r3]) (Mout := fun s => [q1 s, q2 s, q3 s]) hd hN h
instance (v : Value) : Flat (dSlV v) := ⟨fun h => h⟩
instance (v : Value) : Flat (dVal v) := ⟨fun h => h⟩
theorem spec_perm {Ds : List D} {Min : List Res} {σ : Type} {φ : σ → Prop} {d : σ → D} {Mout Mo : σ → List Res} (h : Spec P f Ds Min φ d Mout) (hp : ∀ s, (Mout s).Perm (Mo s)) : Spec P f Ds Min φ d Mo := by
 intro I F w vs hv hi
 refine (h I F w vs hv hi).mono ?_
 rintro e w' ⟨u, rfl, s, h0, J, h1, h2, h3⟩
 exact ⟨u, rfl, s, h0, J, h1, h2, h3.perm ((hp s).append_right F)⟩
theorem rI_flat {v : Value} {T : Nat} {xs : List Int} : FlatR (rRow v T 1 (fun x => [dInt .i64 x]) xs) := rRow_flat fun x d hd => by
 rw [List.mem_singleton.1 hd]; infer_instance
theorem dBo_true : dB (true = true) = dB True := by simp
theorem dBo_false : dB (false = true) = dB False := by simp
theorem spec_freezeRows2 {Ds : List D} {T T' : Nat} {xs : List (List Int)} {d2 : D}
  (h : Spec P f Ds [] (fun s : Value × List (Value × List Int) => s.2.map (·.2) = xs) (fun s => dTup [dVal s.1, d2]) (fun s => rRow s.1 T 1 (fun u => [dSlV u]) (s.2.map (·.1)) :: fam T' 1 (fun x => [dInt .i64 x]) s.2)) : SpecP P f Ds (dTup [dRows xs, d2]) := by
 intro I M w vs hv hi
 refine (h I M w vs hv hi).mono ?_
 rintro e w' ⟨v, rfl, s, hs, J, h1, ⟨cs, rfl, h2⟩, h3⟩
 obtain ⟨J', h4, h5, h6⟩ := row_freeze h3
 obtain ⟨K, h7, h8, h9⟩ := rows_freeze s.2 h6
 refine ⟨_, rfl, K, (h1.trans h4).trans h7, ⟨cs, rfl, ?_⟩, h9⟩
 match hc : cs.toList, h2 with
 | [v, v2], ⟨e1, e2, _⟩ =>
  have hvs : v = s.1 := e1
  subst hvs
  refine ⟨?_, D.mono _ (h4.trans h7) e2, trivial⟩
  refine sl_up (by rw [← hs]; simp) (fun i x y hx hy => ⟨rfl, fun cs hr => ?_⟩) (D.mono _ h7 h5)
  rw [← hs] at hy
  rw [List.getElem?_map] at hx hy
  match hp : s.2[i]?, cs, hr with
  | some p, [u], hr =>
   rw [hp] at hx hy
   simp only [Option.map_some, Option.some.injEq] at hx hy
   subst hx; subst hy
   have := h8 p (List.mem_of_getElem? hp)
   rw [← show u = p.1 from hr.1.1] at this
   exact ⟨this, trivial⟩
  | none, _, _ => rw [hp] at hx; cases hx
end Go.Q

namespace Go.Q
open Go.Proofs
open Classical
theorem place_spec {m : Nat} {H : List (List Int)} (hH : HOk m H) (hm : 1 ≤ m) {fx : List Bool} (hfx : fx.length = m) : ∀ (n : Nat) (i : Int) (bk : List Int) (sn : List Bool) (vb vf vs : Value), (0 ≤ i ∧ i < (H.length : Int)) → PlOk m H.length n bk sn →
    Spec Tryz.prog 68 [dBox [dRows H, dSlV vb, dSlV vf], dInt .i64 i, dVal vs] [rRow vb 3 1 fI bk, rRow vf 4 1 fBo fx, rRow vs 4 1 fBo sn] (σ := Unit) (fun _ => True) (fun _ => dB ((placeF (hsF H) fx n i bk sn).1 = true)) (fun _ => [rRow vb 3 1 fI (placeF (hsF H) fx n i bk sn).2.1, rRow vf 4 1 fBo fx, rRow vs 4 1 fBo (placeF (hsF H) fx n i bk sn).2.2]) := by
  intro n
  induction n using Nat.strongRecOn with
  | _ n ih =>
  intro i bk sn vb vf vs hi hpl
  have hbl0 := hpl.bl
  have hsl0 := hpl.sl
  refine spec_of_body Tryz.func68 rfl rfl (fun I F => ?_)
  show Run _ _ _ _ _ _ (rRow vb 3 1 fI bk :: rRow vf 4 1 fBo fx :: rRow vs 4 1 fBo sn :: F) _
  refine run_rowForm .here (by omega) (fun b1 c1 e1 => ?_)
  refine run_rowForm (.there .here) (by omega) (fun b2 c2 e2 => ?_)
  refine run_rowForm (.there (.there .here)) (by omega) (fun b3 c3 e3 => ?_)
  subst e1 e2 e3
  refine au 4 ?_
  refine run_scope ?_
  refine au 1 ?_
  refine run_label ?_
  refine au 14 ?_
  refine run_loopF (σ := Nat × List Int × List Bool) (ks := [0, 1, 2, 16, 17]) (.cons rfl (.cons rfl (.cons rfl (.cons rfl (.cons rfl (.nil)))))) (fun s => [(18, dInt .i64 (s.1 : Nat))]) (fun s => [rRow (.slice (some ⟨b1, 0, none⟩) bk.length c1) 3 1 fI s.2.1, rRow (.slice (some ⟨b2, 0, none⟩) fx.length c2) 4 1 fBo fx, rRow (.slice (some ⟨b3, 0, none⟩) sn.length c3) 4 1 fBo s.2.2]) (fun s => s.1 ≤ (H[i.toNat]?.getD default).length ∧ PlOk m H.length n s.2.1 s.2.2 ∧ placeF (hsF H) fx n i bk sn = placeL (placeF (hsF H) fx (n - 1)) fx i ((hsF H i).drop s.1) s.2.1 s.2.2) (fun s => (H[i.toNat]?.getD default).length - s.1) ((0, bk, sn)) (⟨Nat.zero_le _, hpl, placeF_eq (hsF_bd hH) hpl.sl hpl.un⟩) (.cons rfl (by first | exact fun _ _ h => h | exact d_int (by omega) | exact d_int (by simp) | exact d_intN (by omega) | exact d_any) .nil) (rfl) ?_
  rintro s ⟨hk, hok, he⟩ ih1
  have hbl := hok.bl
  have hsl := hok.sl
  have h4 := (hH.at (i := i.toNat) (by omega)).1
  refine au 5 ?_
  refine run_cond rfl (fun h2 => ?_) (fun h2 => ?_)
  ·
   have hbd := hH.home (i := i.toNat) (k := s.1) (by omega) (by omega)
   have hN := homes_next (H := H) (i := i) (k := s.1) (by omega)
   have hq := hok.at (b := ((H[i.toNat]?.getD default)[s.1]?.getD default).toNat) (by omega)
   refine au 21 ?_
   refine run_gop rfl rfl gdI.ok (fun hg => LocP.upV (loc_load1 rfl)) rfl ?_
   refine au 7 ?_
   refine run_cond rfl (fun h3 => ?_) (fun h3 => ?_)
   ·
    have hg := h3
    refine au 5 ?_
    exact run_againF ih1 ((s.1 + 1, s.2)) (⟨by simp only; omega, hok, by rw [he, hN, placeL, if_pos hg]⟩) (by simp only; omega) (.cons rfl (by first | exact fun _ _ h => h | exact d_int (by omega) | exact d_int (by simp) | exact d_intN (by omega) | exact d_any) .nil) (.cons rfl (fun _ _ x => x) (.cons rfl (fun _ _ x => x) (.cons rfl (fun _ _ x => x) (.cons rfl (fun _ _ x => x) (.cons rfl (fun _ _ x => x) (.nil)))))) (rfl)
   ·
    have hg := h3
    refine au 5 ?_
    refine run_op (LocP.upV (loc_load1 rfl)) rfl ?_
    refine au 6 ?_
    refine run_cond rfl (fun h4 => ?_) (fun h4 => ?_)
    ·
     have hz := h4
     have hE : placeF (hsF H) fx n i bk sn = (true, s.2.1.set ((H[i.toNat]?.getD default)[s.1]?.getD default).toNat i, s.2.2) := by rw [he, hN, placeL, if_neg hg, if_pos hz]
     refine au 5 ?_
     refine run_op (LocP.upV (loc_load1 rfl)) rfl ?_
     refine au 3 ?_
     refine run_storeRow1 rfl (.here) rfl (by rfl) (by first | omega | assumption) ?_
     refine au 5 ?_
     refine run_ret (()) Tryz.func68 rfl rfl ?_ (trivial) (fun _ _ h => by rw [hE]; exact h)
     exact d_B (by rw [hE]; simp)
    ·
     have hz := h4
     obtain ⟨hok1, hn0⟩ := hok.seen (b := ((H[i.toNat]?.getD default)[s.1]?.getD default).toNat) (by omega) (fun e => hg (.inl e))
     refine au 7 ?_
     refine run_storeRow1 (e0 := true) rfl (.there (.there .here)) rfl dBo_true (by first | omega | assumption) ?_
     refine au 6 ?_
     refine run_op (LocP.upV (loc_load1 rfl)) rfl ?_
     refine au 10 ?_
     refine run_op3 rfl (loc_callM (ih (n - 1) (by omega) (s.2.1[((H[i.toNat]?.getD default)[s.1]?.getD default).toNat]?.getD default) s.2.1 (s.2.2.set ((H[i.toNat]?.getD default)[s.1]?.getD default).toNat true) (.slice (some ⟨b1, 0, none⟩) bk.length c1) (.slice (some ⟨b2, 0, none⟩) fx.length c2) (.slice (some ⟨b3, 0, none⟩) sn.length c3) ⟨by omega, hq⟩ hok1) rfl) (fun _ _ => ?_)
     refine au 1 ?_
     have hk2 := placeF_plok (hsF_bd hH) (fx := fx) (n - 1) _ _ _ hq hok1
     have hk2l := hk2.bl
     refine run_cond rfl (fun h5 => ?_) (fun h5 => ?_)
     ·
      have hr := h5
      refine au 5 ?_
      refine run_op (LocP.upV (loc_load1 rfl)) rfl ?_
      refine au 3 ?_
      refine run_storeRow1 rfl (.here) rfl (by rfl) (by first | omega | assumption) ?_
      refine au 5 ?_
      have hE : placeF (hsF H) fx n i bk sn = (true, ((placeF (hsF H) fx (n - 1)) (s.2.1[((H[i.toNat]?.getD default)[s.1]?.getD default).toNat]?.getD default) s.2.1 (s.2.2.set ((H[i.toNat]?.getD default)[s.1]?.getD default).toNat true)).2.1.set ((H[i.toNat]?.getD default)[s.1]?.getD default).toNat i, ((placeF (hsF H) fx (n - 1)) (s.2.1[((H[i.toNat]?.getD default)[s.1]?.getD default).toNat]?.getD default) s.2.1 (s.2.2.set ((H[i.toNat]?.getD default)[s.1]?.getD default).toNat true)).2.2) := by rw [he, hN, placeL, if_neg hg, if_neg hz]; dsimp only; rw [if_pos hr]
      refine run_ret (()) Tryz.func68 rfl rfl ?_ (trivial) (fun _ _ h => by rw [hE]; exact h)
      exact d_B (by rw [hE]; simp)
     ·
      have hr := h5
      refine au 6 ?_
      exact run_againF ih1 ((s.1 + 1, ((placeF (hsF H) fx (n - 1)) (s.2.1[((H[i.toNat]?.getD default)[s.1]?.getD default).toNat]?.getD default) s.2.1 (s.2.2.set ((H[i.toNat]?.getD default)[s.1]?.getD default).toNat true)).2)) (⟨by simp only; omega, hk2.more (by omega), by rw [he, hN, placeL, if_neg hg, if_neg hz]; dsimp only; rw [if_neg hr]⟩) (by simp only; omega) (.cons rfl (by first | exact fun _ _ h => h | exact d_int (by omega) | exact d_int (by simp) | exact d_intN (by omega) | exact d_any) .nil) (.cons rfl (fun _ _ x => x) (.cons rfl (fun _ _ x => x) (.cons rfl (fun _ _ x => x) (.cons rfl (fun _ _ x => x) (.cons rfl (fun _ _ x => x) (.nil)))))) (rfl)
  ·
   have hN := homes_end (H := H) (i := i) (k := s.1) (by omega)
   refine au 5 ?_
   refine run_ret (()) Tryz.func68 rfl rfl ?_ (trivial) (fun _ _ h => by rw [he, hN]; exact h)
   exact d_B (by rw [he, hN]; simp [placeL])
end Go.Q

namespace Go.Q
def itsN (k n : Nat) : List Int := (List.range' k (n - k)).map fun j => ((j : Nat) : Int)
theorem its_next {k n : Nat} (h : k < n) : itsN k n = ((k : Nat) : Int) :: itsN (k + 1) n := by
 unfold itsN
 rw [show n - k = (n - (k + 1)) + 1 by omega, List.range'_succ]
 rfl
theorem its_end {k n : Nat} (h : n ≤ k) : itsN k n = [] := by
 unfold itsN; rw [show n - k = 0 by omega]; rfl
theorem its_mem {k n : Nat} {x : Int} : x ∈ itsN k n ↔ (k : Int) ≤ x ∧ x < n := by
 unfold itsN
 simp only [List.mem_map, List.mem_range'_1]
 constructor
 ·rintro ⟨j, h, rfl⟩; omega
 ·rintro ⟨h1, h2⟩; exact ⟨x.toNat, by omega, by omega⟩
theorem its_nodup (k n : Nat) : (itsN k n).Nodup := by
 unfold itsN
 exact nodup_map_on (List.nodup_range' ..) fun x _ y _ h => by omega
theorem unseen_new (m : Nat) : unseen (List.replicate m false) = m := by
 unfold unseen; rw [List.filter_eq_self.2 (by intro b hb; rw [List.eq_of_mem_replicate hb]; rfl), List.length_replicate]
structure BkB (m q : Nat) (bk : List Int) : Prop where
 bl : bk.length = m
 it : ∀ x ∈ bk, x < (q : Int)
theorem BkB.new {m q : Nat} {bk : List Int} (h : BkB m q bk) : PlOk m q m bk (List.replicate m false) := ⟨h.bl, List.length_replicate, h.it, by rw [unseen_new]; exact Nat.le_refl _⟩
theorem BkB.put {m q : Nat} {bk : List Int} (h : BkB m q bk) {b : Nat} {i : Int} (hi : i < (q : Int)) : BkB m q (bk.set b i) := ⟨by rw [List.length_set]; exact h.bl, fun x hx => by
  rcases List.mem_or_eq_of_mem_set hx with hx | rfl
  ·exact h.it x hx
  ·exact hi⟩
theorem BkB.place {m q : Nat} {hs : Int → List Nat} (hh : ∀ j, ∀ b ∈ hs j, b < m) {fx : List Bool} {i : Int} {bk : List Int} (hi : i < (q : Int)) (h : BkB m q bk) : BkB m q (placeF hs fx m i bk (List.replicate m false)).2.1 :=
 have h1 := placeF_plok hh (fx := fx) m i bk _ hi h.new
 ⟨h1.bl, h1.it⟩
theorem BkB.clear {m q : Nat} {fx : List Bool} {bk : List Int} (h : BkB m q bk) : BkB m q (clearF fx bk) := ⟨by simp [clearF, h.bl], fun x hx => by
 obtain ⟨b, hb, rfl⟩ := List.mem_map.1 hx
 have hb := List.mem_range.1 hb
 split
 ·rw [List.getElem?_eq_getElem hb]; exact h.it _ (List.getElem_mem _)
 ·omega⟩
theorem allF_yesN {hs : Int → List Nat} {m : Nat} {fx : List Bool} {k n : Nat} {bk : List Int} (h : k < n) (hp : (placeF hs fx m k bk (List.replicate m false)).1 = true) : allF hs fx m (itsN k n) bk = allF hs fx m (itsN (k + 1) n) (placeF hs fx m k bk (List.replicate m false)).2.1 := by
 rw [its_next h, allF, if_pos hp]
theorem allF_noN {hs : Int → List Nat} {m : Nat} {fx : List Bool} {k n : Nat} {bk : List Int} (h : k < n) (hp : ¬ (placeF hs fx m k bk (List.replicate m false)).1 = true) : allF hs fx m (itsN k n) bk = (false, (placeF hs fx m k bk (List.replicate m false)).2.1) := by
 rw [its_next h, allF, if_neg hp]
def clrP (fx : List Bool) (bk : List Int) (k : Nat) : List Int := (clearF fx bk).take k ++ bk.drop k
theorem clear_len (fx : List Bool) (bk : List Int) : (clearF fx bk).length = bk.length := by simp [clearF]
theorem clrP_len {fx : List Bool} {bk : List Int} {k : Nat} (h : k ≤ bk.length) : (clrP fx bk k).length = bk.length := by
 unfold clrP; rw [List.length_append, List.length_take, List.length_drop, clear_len]; omega
theorem clrP_end {fx : List Bool} {bk : List Int} {k : Nat} (h : bk.length ≤ k) : clrP fx bk k = clearF fx bk := by
 unfold clrP; rw [List.take_of_length_le (by rw [clear_len]; exact h), List.drop_eq_nil_of_le h, List.append_nil]
theorem clear_at {fx : List Bool} {bk : List Int} {k : Nat} (h : k < bk.length) : (clearF fx bk)[k]'(by rw [clear_len]; exact h) = if fx[k]?.getD default = true then bk[k] else -1 := by
 unfold clearF
 rw [List.getElem_map, List.getElem_range, List.getElem?_eq_getElem h]
 rfl
theorem clrP_fx {fx : List Bool} {bk : List Int} {k : Nat} (h : k < bk.length) (hf : fx[k]?.getD default = true) : clrP fx bk (k + 1) = clrP fx bk k := by
 unfold clrP
 rw [List.take_add_one, List.getElem?_eq_getElem (by rw [clear_len]; exact h), clear_at h, if_pos hf, List.drop_eq_getElem_cons h]
 simp
theorem clrP_no {fx : List Bool} {bk : List Int} {k : Nat} (h : k < bk.length) (hf : ¬ fx[k]?.getD default = true) : clrP fx bk (k + 1) = (clrP fx bk k).set k (-1) := by
 unfold clrP
 rw [List.take_add_one, List.getElem?_eq_getElem (by rw [clear_len]; exact h), clear_at h, if_neg hf, List.set_append_right _ _ (by rw [List.length_take, clear_len]; omega), List.length_take, clear_len, show k - min k bk.length = 0 by omega, List.drop_eq_getElem_cons h, List.set_cons_zero, List.append_assoc]
 rfl
structure FsB (m q : Nat) (fx : List Bool) (bk : List Int) : Prop extends BkB m q bk where
 fl : fx.length = m
theorem FsB.put2 {m q : Nat} {fx : List Bool} {bk : List Int} (h : FsB m q fx bk) {b : Nat} {i : Int} {x : Bool} (hi : i < (q : Int)) : FsB m q (fx.set b x) (bk.set b i) := ⟨h.toBkB.put hi, by rw [List.length_set]; exact h.fl⟩
theorem firstL_next {H : List (List Int)} {m : Nat} {later : List Int} {i : Int} {j : Nat} {fx : List Bool} {bk : List Int} (hj : j < (H[i.toNat]?.getD default).length) {b : Nat} (hb : b = ((H[i.toNat]?.getD default)[j]?.getD default).toNat) :
  firstL (hsF H) m later i ((hsF H i).drop j) fx bk = if fx[b]?.getD default = true then firstL (hsF H) m later i ((hsF H i).drop (j + 1)) fx bk
  else if (allF (hsF H) (fx.set b true) m later (clearF (fx.set b true) (bk.set b i))).1 = true then (true, fx.set b true, bk.set b i)
  else firstL (hsF H) m later i ((hsF H i).drop (j + 1)) ((fx.set b true).set b false) ((bk.set b i).set b (-1)) := by
 subst hb
 rw [homes_next hj, firstL]
theorem firstF_stop {hs : Int → List Nat} {m k n : Nat} {fx : List Bool} {bk : List Int} (h : k < n) {fx' : List Bool} {bk' : List Int} (e : firstL hs m (itsN (k + 1) n) k (hs k) fx bk = (false, fx', bk')) : firstF hs m (itsN k n) fx bk = (false, fx', bk') := by
 rw [its_next h, firstF, e]; rfl
theorem firstF_go {hs : Int → List Nat} {m k n : Nat} {fx : List Bool} {bk : List Int} (h : k < n) {fx' : List Bool} {bk' : List Int} (e : firstL hs m (itsN (k + 1) n) k (hs k) fx bk = (true, fx', bk')) : firstF hs m (itsN k n) fx bk = firstF hs m (itsN (k + 1) n) fx' bk' := by
 rw [its_next h, firstF, e]; rfl
end Go.Q

namespace Go.Q
open Go.Proofs
open Classical
theorem all19_spec {m : Nat} {H : List (List Int)} (hH : HOk m H) (hm : 1 ≤ m ∧ m ≤ 64) (hq : H.length ≤ 64) (fx : List Bool) (hfx : fx.length = m) (k : Nat) (hk : k ≤ H.length) (bk : List Int) (hbk : BkB m H.length bk) (vb vf : Value) : Spec Tryz.prog 55 [dBox [dRows H, dSlV vb, dSlV vf], dInt .i64 (k : Nat)] [rRow vb 3 1 fI bk, rRow vf 4 1 fBo fx] (σ := Unit) (fun _ => True) (fun _ => dB ((allF (hsF H) fx m (itsN k H.length) bk).1 = true)) (fun _ => [rRow vb 3 1 fI (allF (hsF H) fx m (itsN k H.length) bk).2, rRow vf 4 1 fBo fx]) := by
  refine spec_of_body Tryz.func55 rfl rfl (fun I F => ?_)
  refine au 11 ?_
  refine run_loopF (σ := Nat × List Int) (ks := [0]) (.cons rfl (.nil)) (fun s => [(5, dInt .i64 (s.1 : Nat))]) (fun s => [rRow vb 3 1 fI s.2, rRow vf 4 1 fBo fx]) (fun s => s.1 ≤ H.length ∧ BkB m H.length s.2 ∧ allF (hsF H) fx m (itsN k H.length) bk = allF (hsF H) fx m (itsN s.1 H.length) s.2) (fun s => H.length - s.1) ((k, bk)) (⟨hk, hbk, rfl⟩) (.cons rfl (by first | exact fun _ _ h => h | exact d_int (by omega) | exact d_int (by simp) | exact d_intN (by omega) | exact d_any) .nil) (rfl) ?_
  rintro s ⟨hsk, hsb, he⟩ ih1
  have hbl := hsb.bl
  refine au 8 ?_
  first | refine runL_fact (s := 11) rfl (fun _ _ h => dSl_len h) (fun hlen2 => ?_) | skip
  refine au 3 ?_
  refine run_cond rfl (fun h3 => ?_) (fun h3 => ?_)
  ·
   have hsH : s.1 < H.length := by omega
   refine au 10 ?_
   refine run_op (LocP.upV (loc_load1 rfl)) rfl ?_
   refine au 1 ?_
   refine run_new (loc_makeSlice rfl rfl (by omega) (by omega) (fun b : Bool => dB (b = true)) false (by simp [zeroDs, dBo_false]) (by simp)) rfl (fun b9 _ => ?_)
   rw [Int.toNat_natCast, hbl]
   refine runL_front (.there (.there .here)) ?_
   refine runL_front (.there (.there .here)) ?_
   refine run_op3 rfl (loc_callM (place_spec hH hm.1 hfx m (s.1 : Nat) s.2 (List.replicate m false) vb vf _ ⟨by omega, by omega⟩ hsb.new) rfl) (fun _ _ => ?_)
   refine au 2 ?_
   refine run_cond rfl (fun h4 => ?_) (fun h4 => ?_)
   ·
    have hr := h4
    refine au 4 ?_
    have hE : allF (hsF H) fx m (itsN k H.length) bk = (false, (placeF (hsF H) fx m s.1 s.2 (List.replicate m false)).2.1) := by rw [he, allF_noN hsH hr]
    refine run_ret (()) Tryz.func55 rfl rfl ?_ (trivial) (fun I w h => by rw [hE]; exact (fun _ _ h => h.sub (.cons_cons _ (.cons_cons _ (.cons _ (.refl _))))) I w h)
    exact d_B (by rw [hE]; simp)
   ·
    have hr := Classical.not_not.1 h4
    refine au 7 ?_
    refine run_drop (.cons_cons _ (.cons_cons _ (.cons _ (.refl _)))) ?_
    exact run_againF ih1 ((s.1 + 1, (placeF (hsF H) fx m s.1 s.2 (List.replicate m false)).2.1)) (⟨by simp only; omega, BkB.place (hsF_bd hH) (by omega) hsb, by simp only; rw [he, allF_yesN hsH hr]⟩) (by simp only; omega) (.cons rfl (by first | exact fun _ _ h => h | exact d_int (by omega) | exact d_int (by simp) | exact d_intN (by omega) | exact d_any) .nil) (.cons rfl (fun _ _ x => x) (.nil)) (rfl)
  ·
   refine au 5 ?_
   have hE : allF (hsF H) fx m (itsN k H.length) bk = (true, s.2) := by rw [he, its_end (by omega)]; rfl
   refine run_ret (()) Tryz.func55 rfl rfl ?_ (trivial) (fun I w h => by rw [hE]; exact h)
   exact d_B (by rw [hE]; simp)
theorem cloneL_spec (v : Value) (xs : List Int) (hb : xs.length * 8 ≤ 140737488355328) : Spec Tryz.prog 54 [dVal v] [rRow v 3 1 fI xs] (σ := Value) (fun _ => True) (fun u => dSlV u) (fun u => [rRow u 3 1 fI xs, rRow v 3 1 fI xs]) :=
 specV (Rs := fun _ => [rRow v 3 1 fI xs]) (spec_perm (spec_lend (A := []) (B := []) (cloneIM_spec xs hb) (fun _ => inferInstance) (fun s r hr => by rw [List.mem_singleton.1 hr]; exact rI_flat)) (fun s => .swap ..))
theorem cloneP_spec (v : Value) (xs : List Int) (hb : xs.length * 8 ≤ 140737488355328) : Spec Tryz.prog 54 [dVal v] [rRow v 3 1 fI xs] (σ := Value × List Int) (fun r => r.2 = xs) (fun r => dSlV r.1) (fun r => [rRow r.1 3 1 fI r.2, rRow v 3 1 fI xs]) := by
 intro I F w vs hv hi
 refine (cloneL_spec v xs hb I F w vs hv hi).mono ?_
 rintro e w' ⟨u, rfl, s, h0, J, h1, h2, h3⟩
 exact ⟨u, rfl, (s, xs), rfl, J, h1, h2, h3⟩
theorem rest19_spec {m : Nat} {H : List (List Int)} (hH : HOk m H) (hm : 1 ≤ m ∧ m ≤ 64) (hq : H.length ≤ 64) (fx : List Bool) (hfx : fx.length = m) (k : Nat) (hk : k ≤ H.length) (bk : List Int) (hbk : BkB m H.length bk) (vb vf : Value) : Spec Tryz.prog 48 [dBox [dRows H, dSlV vb, dSlV vf], dInt .i64 (k : Nat)] [rRow vb 3 1 fI bk, rRow vf 4 1 fBo fx] (σ := Unit) (fun _ => True) (fun _ => dB ((allF (hsF H) fx m (itsN k H.length) (clearF fx bk)).1 = true)) (fun _ => [rRow vb 3 1 fI bk, rRow vf 4 1 fBo fx]) := by
  have hbl := hbk.bl
  refine spec_of_body Tryz.func48 rfl rfl (fun I F => ?_)
  refine au 5 ?_
  refine run_rowForm (.there (.here)) (by omega) (fun b2 c2 e2 => ?_)
  subst e2
  refine run_rowNil 3 1 fI ?_
  refine run_front (.there (.there (.here))) ?_
  refine run_front (.there (.there (.here))) ?_
  refine dr_start _ (.oneX (σ := Value × List Int) 8 (fun r => r.2 = bk) (fun r => [rRow r.1 3 1 fI r.2])) [⟨[(0, none)], [], none⟩,
      ⟨[(7, some (0, false))], [0], none⟩,
      ⟨[(8, some (1, false))], [0, 1], none⟩,
      ⟨[(9, some (2, false))], [0, 1, 2], none⟩,
      ⟨[(0, none)], [], none⟩,
      ⟨[(11, some (4, false))], [4], none⟩,
      ⟨[(12, some (5, false))], [4, 5], none⟩,
      ⟨[(13, some (6, false))], [4, 5, 6], none⟩,
      ⟨[(14, some (7, false))], [4, 5, 6, 7], some (0, 0, true)⟩,
      ⟨[(0, none)], [], none⟩,
      ⟨[(16, some (9, false))], [9], none⟩,
      ⟨[(17, some (10, false))], [9, 10], none⟩,
      ⟨[(18, some (11, false))], [9, 10, 11], none⟩,
      ⟨[(10, some (3, false)), (15, some (8, false)), (19, some (12, false))], [0, 1, 2, 3, 4, 5, 6, 7, 8, 9, 10, 11, 12], none⟩,
      ⟨[(20, some (13, false))], [0, 1, 2, 3, 4, 5, 6, 7, 8, 9, 10, 11, 12, 13], none⟩,
      ⟨[(21, some (14, false))], [0, 1, 2, 3, 4, 5, 6, 7, 8, 9, 10, 11, 12, 13, 14], none⟩] [_, _] _ rfl rfl ?_
  refine da 7 ?_
  refine dq_pure rfl (fun s => .op rfl (.nil)) (fun s hs _ => LocP.upV (loc_load1 rfl)) (by exact .cons (.inr fun _ _ _ => rfl) (.nil)) ?_
  refine dq_chooseX id (fun _ t => t) (fun r => [rRow r.1 3 1 fI r.2]) rfl (fun _ _ => ⟨rfl, id, trivial⟩) (fun s => .op rfl (.nil)) rfl rfl (fun s hs => locM_swapX (loc_callM (cloneP_spec vb bk (by omega)) rfl)) (by exact .cons (.inl rfl) (.nil)) (fun _ _ => rfl) ?_
  refine da 7 ?_
  refine dq_endX (rs := [_, _]) (.slice none 0 0, []) rfl (fun _ => rfl) (.cons rfl (.nil)) rfl (fun ⟨vq,xq⟩ h9 => ?_)
  obtain hxq := Ch.oneX_good h9
  dsimp only [outG, outM, List.map, List.set, id, Ch.oneX, Ch.twoX, List.cons_append, List.nil_append]
  dsimp only at hxq ⊢
  subst hxq
  refine run_rowForm (.there (.there (.here))) (by omega) (fun bq cq eq => ?_)
  subst eq
  refine au 6 ?_
  refine run_op (LocP.upV (loc_load1 rfl)) rfl ?_
  refine au 4 ?_
  refine run_front (.there (.there (.here))) ?_
  refine run_loopF (σ := Nat) (ks := [1, 5, 26]) (.cons rfl (.cons rfl (.cons rfl (.nil)))) (fun j => [(27, dInt .i64 (j : Nat))]) (fun j => [rRow (.slice (some ⟨bq, 0, none⟩) xq.length cq) 3 1 fI (clrP fx xq j)]) (fun j => j ≤ xq.length) (fun j => xq.length - j) (0) ((by omega)) (.cons rfl (by first | exact fun _ _ h => h | exact d_int (by omega) | exact d_int (by simp) | exact d_intN (by omega) | exact d_any) .nil) (rfl) ?_
  intro j hj ih1
  have hcl := clrP_len (fx := fx) (bk := xq) hj
  refine au 5 ?_
  refine run_cond rfl (fun h2 => ?_) (fun h2 => ?_)
  ·
   refine au 13 ?_
   refine run_op (LocP.upV (loc_load1 rfl)) rfl ?_
   refine au 5 ?_
   refine run_cond rfl (fun h3 => ?_) (fun h3 => ?_)
   ·
    have hno := h3
    refine au 4 ?_
    refine run_op (LocP.upV (loc_load1 rfl)) rfl ?_
    refine au 2 ?_
    refine run_storeRow1 rfl (.here) rfl (by rfl) (by first | omega | assumption) ?_
    refine au 6 ?_
    exact run_againF ih1 (j + 1) (by omega) (by omega) (.cons rfl (by first | exact fun _ _ h => h | exact d_int (by omega) | exact d_int (by simp) | exact d_intN (by omega) | exact d_any) .nil) (.cons rfl (fun _ _ x => x) (.cons rfl (fun _ _ x => x) (.cons rfl (fun _ _ x => x) (.nil)))) (by simp only [appR]; rw [clrP_no (by omega) hno])
   ·
    have hno := Classical.not_not.1 h3
    refine au 6 ?_
    exact run_againF ih1 (j + 1) (by omega) (by omega) (.cons rfl (by first | exact fun _ _ h => h | exact d_int (by omega) | exact d_int (by simp) | exact d_intN (by omega) | exact d_any) .nil) (.cons rfl (fun _ _ x => x) (.cons rfl (fun _ _ x => x) (.cons rfl (fun _ _ x => x) (.nil)))) (by simp only [appR]; rw [clrP_fx (by omega) hno])
  ·
   refine au 2 ?_
   rw [clrP_end (by omega)]
   refine run_front (.there (.there (.here))) ?_
   refine run_front (.there (.here)) ?_
   refine au 3 ?_
   refine run_op2 rfl (loc_callM (all19_spec hH hm hq fx hfx k hk (clearF fx xq) hbk.clear _ _) rfl) (fun _ _ => ?_)
   refine au 2 ?_
   refine run_front (.there (.here)) ?_
   refine run_front (.there (.there (.here))) ?_
   refine run_ret (()) Tryz.func48 rfl rfl ?_ (trivial) (fun _ _ h => h.sub (.cons_cons _ (.cons_cons _ (.cons _ (.refl _)))))
   exact fun _ _ h => h
end Go.Q

namespace Go.Q
open Go.Proofs
open Classical
theorem first19_spec {m : Nat} {H : List (List Int)} (hH : HOk m H) (hm : 1 ≤ m ∧ m ≤ 64) (hq : H.length ≤ 64) (fx : List Bool) (bk : List Int) (hfb : FsB m H.length fx bk) (vb vf : Value) : Spec Tryz.prog 37 [dBox [dRows H, dSlV vb, dSlV vf]] [rRow vb 3 1 fI bk, rRow vf 4 1 fBo fx] (σ := Unit) (fun _ => True) (fun _ => dB ((firstF (hsF H) m (itsN 0 H.length) fx bk).1 = true)) (fun _ => [rRow vb 3 1 fI (firstF (hsF H) m (itsN 0 H.length) fx bk).2.2, rRow vf 4 1 fBo (firstF (hsF H) m (itsN 0 H.length) fx bk).2.1]) := by
  have hbl0 := hfb.bl
  have hfl0 := hfb.fl
  refine spec_of_body Tryz.func37 rfl rfl (fun I F => ?_)
  refine au 4 ?_
  refine run_scope ?_
  refine au 1 ?_
  refine run_label ?_
  refine au 2 ?_
  refine run_rowForm (.here) (by omega) (fun b1 c1 e1 => ?_)
  refine run_rowForm (.there (.here)) (by omega) (fun b2 c2 e2 => ?_)
  subst e1 e2
  refine au 5 ?_
  first | refine runL_fact (s := 10) rfl (fun _ _ h => dSl_len h) (fun hlen1 => ?_) | skip
  refine au 4 ?_
  refine run_loopF (σ := Nat × List Bool × List Int) (ks := [0, 10, 11]) (.cons rfl (.cons rfl (.cons rfl (.nil)))) (fun s => [(12, dInt .i64 (s.1 : Nat))]) (fun s => [rRow (.slice (some ⟨b1, 0, none⟩) bk.length c1) 3 1 fI s.2.2, rRow (.slice (some ⟨b2, 0, none⟩) fx.length c2) 4 1 fBo s.2.1]) (fun s => s.1 ≤ H.length ∧ FsB m H.length s.2.1 s.2.2 ∧ firstF (hsF H) m (itsN 0 H.length) fx bk = firstF (hsF H) m (itsN s.1 H.length) s.2.1 s.2.2) (fun s => H.length - s.1) ((0, fx, bk)) (⟨Nat.zero_le _, hfb, rfl⟩) (.cons rfl (by first | exact fun _ _ h => h | exact d_int (by omega) | exact d_int (by simp) | exact d_intN (by omega) | exact d_any) .nil) (rfl) ?_
  rintro s ⟨hsk, hsb, he⟩ ih2
  refine au 5 ?_
  refine run_cond rfl (fun h3 => ?_) (fun h3 => ?_)
  ·
   have hsH : s.1 < H.length := by omega
   have hl4 := (hH.at hsH).1
   refine au 15 ?_
   first | refine runL_fact (s := 17) rfl (fun _ _ h => dSl_len h) (fun hlen4 => ?_) | skip
   refine au 4 ?_
   refine run_loopF (σ := Nat × List Bool × List Int) (ks := [0, 3, 10, 11, 12, 17, 18]) (.cons rfl (.cons rfl (.cons rfl (.cons rfl (.cons rfl (.cons rfl (.cons rfl (.nil)))))))) (fun u => [(19, dInt .i64 (u.1 : Nat))]) (fun u => [rRow (.slice (some ⟨b1, 0, none⟩) bk.length c1) 3 1 fI u.2.2, rRow (.slice (some ⟨b2, 0, none⟩) fx.length c2) 4 1 fBo u.2.1]) (fun u => u.1 ≤ (H[s.1]?.getD default).length ∧ FsB m H.length u.2.1 u.2.2 ∧ firstL (hsF H) m (itsN (s.1 + 1) H.length) (s.1 : Nat) (hsF H s.1) s.2.1 s.2.2 = firstL (hsF H) m (itsN (s.1 + 1) H.length) (s.1 : Nat) ((hsF H s.1).drop u.1) u.2.1 u.2.2) (fun u => (H[s.1]?.getD default).length - u.1) ((0, s.2)) (⟨Nat.zero_le _, hsb, rfl⟩) (.cons rfl (by first | exact fun _ _ h => h | exact d_int (by omega) | exact d_int (by simp) | exact d_intN (by omega) | exact d_any) .nil) (rfl) ?_
   rintro u ⟨huk, hub, hue⟩ ih5
   have hbl := hub.bl
   have hfl := hub.fl
   refine au 5 ?_
   refine run_cond rfl (fun h6 => ?_) (fun h6 => ?_)
   ·
    have huH : u.1 < (H[s.1]?.getD default).length := by omega
    have hbd := hH.home hsH huH
    have hN := firstL_next (m := m) (later := (itsN (s.1 + 1) H.length)) (i := (s.1 : Nat)) (fx := u.2.1) (bk := u.2.2) huH rfl
    refine au 15 ?_
    refine run_op (LocP.upV (loc_load1 rfl)) rfl ?_
    refine au 4 ?_
    refine run_cond rfl (fun h7 => ?_) (fun h7 => ?_)
    ·
     have hg := h7
     refine au 5 ?_
     exact run_againF ih5 ((u.1 + 1, u.2)) (⟨by simp only; omega, hub, by rw [hue, hN]; exact if_pos hg⟩) (by simp only; omega) (.cons rfl (by first | exact fun _ _ h => h | exact d_int (by omega) | exact d_int (by simp) | exact d_intN (by omega) | exact d_any) .nil) (.cons rfl (fun _ _ x => x) (.cons rfl (fun _ _ x => x) (.cons rfl (fun _ _ x => x) (.cons rfl (fun _ _ x => x) (.cons rfl (fun _ _ x => x) (.cons rfl (fun _ _ x => x) (.cons rfl (fun _ _ x => x) (.nil)))))))) (rfl)
    ·
     have hg := h7
     refine au 2 ?_
     refine dr_start _ (.none) [⟨[(0, none)], [], none⟩,
         ⟨[(30, some (0, false))], [0], none⟩,
         ⟨[(31, some (1, false))], [0, 1], none⟩,
         ⟨[(32, some (2, false))], [0, 1, 2], none⟩,
         ⟨[(6, none)], [], none⟩,
         ⟨[(0, none)], [], none⟩,
         ⟨[(35, some (5, false))], [5], none⟩,
         ⟨[(36, some (6, false))], [5, 6], none⟩,
         ⟨[(37, some (7, false))], [5, 6, 7], none⟩,
         ⟨[(6, none)], [], none⟩,
         ⟨[(3, none)], [], none⟩,
         ⟨[(33, some (3, false)), (34, some (4, false))], [0, 1, 2, 3, 4, 5, 6, 7, 8], none⟩,
         ⟨[(41, some (11, false))], [0, 1, 2, 3, 4, 5, 6, 7, 8, 11], some (1, 0, true)⟩,
         ⟨[(38, some (8, false)), (39, some (9, false))], [0, 1, 2, 3, 4, 5, 6, 7, 8, 9, 10, 11, 12], none⟩,
         ⟨[(42, some (13, false)), (40, some (10, false))], [0, 1, 2, 3, 4, 5, 6, 7, 8, 9, 10, 11, 12, 13], some (0, 0, true)⟩] [_, _] _ rfl rfl ?_
     refine da 3 ?_
     refine dq_pure rfl (fun s => .op rfl (.nil)) (fun s hs _ => LocP.upV (loc_load1 rfl)) (by exact .nil) ?_
     refine da 4 ?_
     refine dq_pure rfl (fun s => .op rfl (.nil)) (fun s hs _ => LocP.upV (loc_load1 rfl)) (by exact .nil) ?_
     refine da 3 ?_
     refine dq_write0 rfl (fun s => .op rfl (.nil)) rfl rfl (fun s hs => loc_storeRow1 true rfl rfl dBo_true (by first | omega | assumption)) (by exact .nil) ?_
     refine da 1 ?_
     refine dq_write0 rfl (fun s => .op rfl (.op rfl (.nil))) rfl rfl (fun s hs => loc_storeRow1 _ rfl rfl rfl (by first | omega | assumption)) (by exact .nil) ?_
     refine dq_end (rs := [_, _]) () rfl (fun _ => rfl) (.nil) rfl (fun _ => rfl) (fun _ _ => ?_)
     dsimp only [outG, outM, List.map, List.set, id]
     refine au 6 ?_
     refine run_op2 rfl (loc_callM (rest19_spec hH hm hq (u.2.1.set ((H[s.1]?.getD default)[u.1]?.getD default).toNat true) (by rw [List.length_set]; exact hfl) (s.1 + 1) (by omega) (u.2.2.set ((H[s.1]?.getD default)[u.1]?.getD default).toNat s.1) (hub.toBkB.put (by omega)) _ _) rfl) (fun _ _ => ?_)
     refine au 1 ?_
     refine run_cond rfl (fun h8 => ?_) (fun h8 => ?_)
     ·
      have hr := h8
      refine au 5 ?_
      exact run_againF ih2 ((s.1 + 1, u.2.1.set ((H[s.1]?.getD default)[u.1]?.getD default).toNat true, u.2.2.set ((H[s.1]?.getD default)[u.1]?.getD default).toNat s.1)) (⟨by simp only; omega, hub.put2 (by omega), by rw [he]; refine firstF_go hsH ?_; rw [hue, hN]; exact (if_neg hg).trans (if_pos hr)⟩) (by simp only; omega) (.cons rfl (by first | exact fun _ _ h => h | exact d_int (by omega) | exact d_int (by simp) | exact d_intN (by omega) | exact d_any) .nil) (.cons rfl (fun _ _ x => x) (.cons rfl (fun _ _ x => x) (.cons rfl (fun _ _ x => x) (.nil)))) (rfl)
     ·
      have hr := h8
      refine au 1 ?_
      have hfl2 : (u.2.1.set ((H[s.1]?.getD default)[u.1]?.getD default).toNat true).length = m := by rw [List.length_set]; exact hfl
      have hbl2 : (u.2.2.set ((H[s.1]?.getD default)[u.1]?.getD default).toNat s.1).length = m := by rw [List.length_set]; exact hbl
      refine dr_start _ (.none) [⟨[(0, none)], [], none⟩,
          ⟨[(47, some (0, false))], [0], none⟩,
          ⟨[(48, some (1, false))], [0, 1], none⟩,
          ⟨[(49, some (2, false))], [0, 1, 2], none⟩,
          ⟨[(6, none)], [], none⟩,
          ⟨[(0, none)], [], none⟩,
          ⟨[(52, some (5, false))], [5], none⟩,
          ⟨[(53, some (6, false))], [5, 6], none⟩,
          ⟨[(54, some (7, false))], [5, 6, 7], none⟩,
          ⟨[(6, none)], [], none⟩,
          ⟨[(50, some (3, false)), (51, some (4, false))], [0, 1, 2, 3, 4, 5, 6, 7, 8], none⟩,
          ⟨[(57, some (10, false))], [0, 1, 2, 3, 4, 5, 6, 7, 8, 10], some (1, 0, true)⟩,
          ⟨[(55, some (8, false)), (56, some (9, false))], [0, 1, 2, 3, 4, 5, 6, 7, 8, 9, 10, 11], none⟩,
          ⟨[(58, some (12, false))], [0, 1, 2, 3, 4, 5, 6, 7, 8, 9, 10, 11, 12], some (0, 0, true)⟩] [_, _] _ rfl rfl ?_
      refine da 3 ?_
      refine dq_pure rfl (fun s => .op rfl (.nil)) (fun s hs _ => LocP.upV (loc_load1 rfl)) (by exact .nil) ?_
      refine da 4 ?_
      refine dq_pure rfl (fun s => .op rfl (.nil)) (fun s hs _ => LocP.upV (loc_load1 rfl)) (by exact .nil) ?_
      refine da 2 ?_
      refine dq_write0 rfl (fun s => .op rfl (.nil)) rfl rfl (fun s hs => loc_storeRow1 false rfl rfl dBo_false (by first | omega | assumption)) (by exact .nil) ?_
      refine da 1 ?_
      refine dq_write0 rfl (fun s => .op rfl (.nil)) rfl rfl (fun s hs => loc_storeRow1 _ rfl rfl rfl (by first | omega | assumption)) (by exact .nil) ?_
      refine dq_end (rs := [_, _]) () rfl (fun _ => rfl) (.nil) rfl (fun _ => rfl) (fun _ _ => ?_)
      dsimp only [outG, outM, List.map, List.set, id]
      refine au 5 ?_
      exact run_againF ih5 ((u.1 + 1, (u.2.1.set ((H[s.1]?.getD default)[u.1]?.getD default).toNat true).set ((H[s.1]?.getD default)[u.1]?.getD default).toNat false, (u.2.2.set ((H[s.1]?.getD default)[u.1]?.getD default).toNat s.1).set ((H[s.1]?.getD default)[u.1]?.getD default).toNat (-1))) (⟨by simp only; omega, (hub.put2 (by omega)).put2 (by omega), by rw [hue, hN]; exact (if_neg hg).trans (if_neg hr)⟩) (by simp only; omega) (.cons rfl (by first | exact fun _ _ h => h | exact d_int (by omega) | exact d_int (by simp) | exact d_intN (by omega) | exact d_any) .nil) (.cons rfl (fun _ _ x => x) (.cons rfl (fun _ _ x => x) (.cons rfl (fun _ _ x => x) (.cons rfl (fun _ _ x => x) (.cons rfl (fun _ _ x => x) (.cons rfl (fun _ _ x => x) (.cons rfl (fun _ _ x => x) (.nil)))))))) (rfl)
   ·
    refine au 5 ?_
    have hE : firstF (hsF H) m (itsN 0 H.length) fx bk = (false, u.2.1, u.2.2) := by rw [he]; refine firstF_stop hsH ?_; rw [hue, homes_end (by simp only [Int.toNat_natCast]; omega)]; rfl
    refine run_ret (()) Tryz.func37 rfl rfl ?_ (trivial) (fun _ _ h => by rw [hE]; exact h)
    exact d_B (by rw [hE]; simp)
  ·
   refine au 5 ?_
   have hE : firstF (hsF H) m (itsN 0 H.length) fx bk = (true, s.2.1, s.2.2) := by rw [he, its_end (by omega)]; rfl
   refine run_ret (()) Tryz.func37 rfl rfl ?_ (trivial) (fun _ _ h => by rw [hE]; exact h)
   exact d_B (by rw [hE]; simp)
end Go.Q

namespace Go.Q
def firstH (h : Hsh) (its : List Int) : Bool × List Bool × List Int := firstF (hsF (its.map (homesI h))) h.m.toNat (itsN 0 its.length) (List.replicate h.m.toNat false) (List.replicate h.m.toNat (-1))
def asgE (h : Hsh) (its : List Int) : Int := if h.m < (its.length : Int) then 4 else if (firstH h its).1 = true then 0 else 15
def asgB (h : Hsh) (its : List Int) : List Int := if asgE h its = 0 then (firstH h its).2.2 else []
def okIt (n : Int) : Prop := 0 ≤ n ∧ n < 2147483647
theorem homes_ok {h : Hsh} (hh : okH h) (its : List Int) : HOk h.m.toNat (its.map (homesI h)) := by
 have h1 := hh.1
 have h2 := hh.2.1
 refine ⟨fun l hl b hb => ?_, fun l hl => ?_⟩
 ·obtain ⟨n, _, rfl⟩ := List.mem_map.1 hl
  have := homesI_bd hh n b hb
  omega
 ·obtain ⟨n, _, rfl⟩ := List.mem_map.1 hl
  rw [homesI_len]; omega
theorem fs_start {m q : Nat} : FsB m q (List.replicate m false) (List.replicate m (-1)) := ⟨⟨List.length_replicate, fun x hx => by rw [List.eq_of_mem_replicate hx]; omega⟩, List.length_replicate⟩
theorem firstL_len (hs : Int → List Nat) (m : Nat) (later : List Int) (i : Int) : ∀ (bs : List Nat) (fx : List Bool) (bk : List Int), (firstL hs m later i bs fx bk).2.1.length = fx.length ∧ (firstL hs m later i bs fx bk).2.2.length = bk.length
 | [], _, _ => ⟨rfl, rfl⟩
 | b :: bs, fx, bk => by
  unfold firstL
  split
  ·exact firstL_len hs m later i bs fx bk
  ·split
   ·exact ⟨by rw [List.length_set], by rw [List.length_set]⟩
   ·have := firstL_len hs m later i bs ((fx.set b true).set b false) ((bk.set b i).set b (-1))
    simpa using this
theorem firstF_len (hs : Int → List Nat) (m : Nat) : ∀ (is : List Int) (fx : List Bool) (bk : List Int), (firstF hs m is fx bk).2.1.length = fx.length ∧ (firstF hs m is fx bk).2.2.length = bk.length
 | [], _, _ => ⟨rfl, rfl⟩
 | i :: is, fx, bk => by
  have h := firstL_len hs m is i (hs i) fx bk
  unfold firstF
  dsimp only
  split
  ·have g := firstF_len hs m is (firstL hs m is i (hs i) fx bk).2.1 (firstL hs m is i (hs i) fx bk).2.2
   exact ⟨g.1.trans h.1, g.2.trans h.2⟩
  ·exact h
theorem rep_set {α : Type} {m k : Nat} {x y : α} (h : k < m) : (List.replicate k x ++ List.replicate (m - k) y).set k x = List.replicate (k + 1) x ++ List.replicate (m - (k + 1)) y := by
 rw [List.set_append_right _ _ (by simp), List.length_replicate, Nat.sub_self, show m - k = (m - (k + 1)) + 1 by omega, List.replicate_succ, List.set_cons_zero, List.replicate_succ' (n := k), List.append_assoc]
 rfl
theorem rep_end {α : Type} {m k : Nat} {x y : α} (h : k = m) : List.replicate k x ++ List.replicate (m - k) y = List.replicate m x := by
 rw [h, Nat.sub_self]; simp
theorem map_snoc {α β : Type} [Inhabited α] {f : α → β} {l : List α} {k : Nat} (h : k < l.length) : (l.take (k + 1)).map f = (l.take k).map f ++ [f (l[k]?.getD default)] := by
 rw [List.take_add_one, List.getElem?_eq_getElem h, List.map_append]; rfl
end Go.Q

namespace Go.Q
def Ch.three {τ1 τ2 τ3 : Type} (x1 x2 x3 : Nat) (φ1 : τ1 → Prop) (φ2 : τ2 → Prop) (φ3 : τ3 → Prop) : Ch (τ1 × τ2 × τ3) :=
  ⟨[x1, x2, x3], fun i s => cond (Nat.beq i x1) (φ1 s.1) (cond (Nat.beq i x2) (φ2 s.2.1) (φ3 s.2.2)), fun i s s' => cond (Nat.beq i x1) (s'.2 = s.2) (cond (Nat.beq i x2) (s'.1 = s.1 ∧ s'.2.2 = s.2.2) (s'.1 = s.1 ∧ s'.2.1 = s.2.1)), fun a b s s' h1 h2 h3 he hp => by
    obtain ⟨s1, s2, s3⟩ := s
    obtain ⟨t1, t2, t3⟩ := s'
    cases h4 : Nat.beq a x1 <;> cases h5 : Nat.beq b x1 <;> cases h6 : Nat.beq a x2 <;> cases h7 : Nat.beq b x2 <;> rw [h4] at he <;> rw [h5] at hp <;> simp only [cond_true, cond_false, h5, h6, h7] at he hp ⊢ <;>
      first
      | (obtain ⟨rfl, rfl⟩ := he; exact hp)
      | (injection he with e1 e2; subst e1; subst e2; exact hp)
      | (exfalso
         simp only [List.mem_cons, List.not_mem_nil, or_false] at h1 h2
         rcases h1 with h1 | h1 | h1 <;> rcases h2 with h2 | h2 | h2 <;> subst h1 <;> (try subst h2) <;> simp_all [Nat.beq_refl]), fun _ => []⟩
end Go.Q

namespace Go.Q
open Go.Proofs
open Classical
theorem cfA_spec (ls : List Int) : SpecP Tryz.prog 20 [dInts ls, dVal (.func (.func 46) #[] #[])] (dB (∃ x ∈ ls, ¬ (0 ≤ x ∧ x < 2147483647))) :=
 specP_pre (containsFuncI_spec (fun x => ¬ (0 ≤ x ∧ x < 2147483647)) ls) (relL_last (ds := [dInts ls]) (val_fun (P := Tryz.prog) (Ds := fun x : Int => [dInt .i64 x]) (d := fun x => dB (¬ (0 ≤ x ∧ x < 2147483647))) (fun x => casked1_spec x)))
theorem casked_spec (h : Hsh) (hh : okH h) (its : List Int) (hi : ∀ n ∈ its, okIt n) : SpecP Tryz.prog 35 [dHsh h, dInts its] (dInt .i64 0) := by
  refine specP_of_body Tryz.func35 rfl rfl (fun I M => ?_)
  refine au 9 ?_
  refine run_op (loc_call (ccheck_spec19 h hh) rfl) rfl ?_
  refine au 7 ?_
  refine run_cond rfl (fun h1 => ?_) (fun h1 => ?_)
  · exfalso; exact h1 rfl
  ·
   refine au 5 ?_
   refine run_op (loc_call (cfA_spec its) rfl) rfl ?_
   refine au 1 ?_
   refine run_cond rfl (fun h2 => ?_) (fun h2 => ?_)
   · exfalso; obtain ⟨x, h1, h2⟩ := h2; exact h2 (hi x h1)
   ·
    refine au 5 ?_
    refine run_retP Tryz.func35 rfl rfl ?_
    exact fun _ _ h => h
theorem start19_spec (h : Hsh) (hh : okH h) (its : List Int) (hi : ∀ n ∈ its, okIt n) (hl : its.length ≤ 64) : Spec Tryz.prog 36 [dHsh h, dInts its] [] (σ := Value × Value) (fun _ => True) (fun s => dBox [dRows (its.map (homesI h)), dSlV s.1, dSlV s.2]) (fun s => [rRow s.1 3 1 fI (List.replicate h.m.toNat (-1)), rRow s.2 4 1 fBo (List.replicate h.m.toNat false)]) := by
  have hm1 := hh.1
  have hp1 := hh.2.1
  have hq1 := hh.2.2
  refine spec_of_body Tryz.func36 rfl rfl (fun I F => ?_)
  refine au 6 ?_
  refine run_addNone ?_
  refine run_addNone ?_
  refine run_addNone ?_
  refine dr_start _ (.three (τ1 := Nat) (τ2 := Nat) (τ3 := Nat) 2 5 7 (fun _ => True) (fun _ => True) (fun _ => True)) [⟨[(2, none)], [], none⟩,
      ⟨[(9, some (0, false))], [0], none⟩,
      ⟨[(10, some (1, false)), (10, some (1, false))], [0, 1], some (2, 0, true)⟩,
      ⟨[(2, none)], [], none⟩,
      ⟨[(12, some (3, false))], [3], none⟩,
      ⟨[(13, some (4, false)), (13, some (4, false))], [3, 4], some (1, 0, true)⟩,
      ⟨[(11, some (2, false)), (14, some (5, false))], [0, 1, 2, 3, 4, 5], none⟩,
      ⟨[(15, some (6, false))], [0, 1, 2, 3, 4, 5, 6], some (0, 0, true)⟩,
      ⟨[(16, some (7, false))], [0, 1, 2, 3, 4, 5, 6, 7], none⟩] [_, _, _] _ rfl rfl ?_
  refine da 2 ?_
  refine dq_choose Prod.fst (fun s t => (t, s.2)) rfl (fun _ _ => ⟨rfl, id, rfl⟩) (fun s => .op rfl (.op rfl (.nil))) rfl rfl (fun s hs => locM_new (loc_makeSlice rfl rfl (by omega) (by omega) (fun x : Int => dInt .i64 x) 0 rfl (by simp))) (by exact .cons (.inl rfl) (.cons (.inr (.inr fun ⟨a, b, c⟩ ⟨d, e, f⟩ h => by have h : d = a ∧ f = c := h; obtain ⟨rfl, rfl⟩ := h; exact rfl)) (.cons (.inr (.inr fun ⟨a, b, c⟩ ⟨d, e, f⟩ h => by have h : d = a ∧ e = b := h; obtain ⟨rfl, rfl⟩ := h; exact rfl)) (.nil)))) (fun _ _ => rfl) ?_
  refine da 2 ?_
  refine dq_choose (fun s => s.2.1) (fun s t => (s.1, t, s.2.2)) rfl (fun _ _ => ⟨rfl, id, ⟨rfl, rfl⟩⟩) (fun s => .op rfl (.op rfl (.nil))) rfl rfl (fun s hs => locM_new (loc_makeSlice rfl rfl (by omega) (by omega) (fun b : Bool => dB (b = true)) false (by simp [zeroDs, dBo_false]) (by simp))) (by exact .cons (.inr (.inr fun ⟨a, b, c⟩ ⟨d, e, f⟩ h => by have h : (e, f) = (b, c) := h; cases h; exact rfl)) (.cons (.inl rfl) (.cons (.inr (.inr fun ⟨a, b, c⟩ ⟨d, e, f⟩ h => by have h : d = a ∧ e = b := h; obtain ⟨rfl, rfl⟩ := h; exact rfl)) (.nil)))) (fun _ _ => rfl) ?_
  refine da 1 ?_
  refine dq_chooseS (fun s => s.2.2) (fun s t => (s.1, s.2.1, t)) rfl (fun _ _ => ⟨rfl, id, ⟨rfl, rfl⟩⟩) (fun s => .op rfl (.nil)) rfl rfl (fun s hs => locM_new (loc_boxOwnN rfl)) (fun _ _ => ⟨rfl, rfl⟩) (by exact .cons (.inr (.inl rfl)) (.cons (.inr (.inl rfl)) (.cons (.inl rfl) (.nil)))) (fun _ _ => rfl) ?_
  refine da 1 ?_
  refine dq_end (rs := [_, _, _]) (0, 0, 0) rfl (fun _ => rfl) (.cons rfl (.cons rfl (.cons rfl (.nil)))) rfl (fun _ => rfl) (fun s9 _ => ?_)
  obtain ⟨bb, bf, b16⟩ := s9
  dsimp only [outG, outM, List.map, List.set, id]
  refine au 6 ?_
  first | refine run_op (LocP.upV (loc_loadOwn1 rfl (.here) (by rfl))) rfl ?_ | refine run_op (loc_loadOwn1 rfl (.here) (by rfl)) rfl ?_
  refine au 3 ?_
  rw [List.length_replicate]
  refine au 1 ?_
  refine run_front (.there (.there (.here))) ?_
  refine run_loopF (σ := Nat) (ks := [1, 2, 5, 21]) (.cons rfl (.cons rfl (.cons rfl (.cons rfl (.nil))))) (fun j => [(22, dInt .i64 (j : Nat))]) (fun j => [rRow (.slice (some ⟨bb, 0, none⟩) h.m.toNat h.m.toNat) 3 1 fI (List.replicate j (-1) ++ List.replicate (h.m.toNat - j) 0)]) (fun j => j ≤ h.m.toNat) (fun j => h.m.toNat - j) (0) ((by omega)) (.cons rfl (by first | exact fun _ _ h => h | exact d_int (by omega) | exact d_int (by simp) | exact d_intN (by omega) | exact d_any) .nil) (rfl) ?_
  intro j hj ih4
  have hjl : (List.replicate j (-1 : Int) ++ List.replicate (h.m.toNat - j) 0).length = h.m.toNat := by simp; omega
  refine au 5 ?_
  refine run_cond rfl (fun h5 => ?_) (fun h5 => ?_)
  ·
   refine au 12 ?_
   first | refine run_op (LocP.upV (loc_loadOwn1 rfl (.there (.here)) (by rfl))) rfl ?_ | refine run_op (loc_loadOwn1 rfl (.there (.here)) (by rfl)) rfl ?_
   refine au 2 ?_
   refine run_storeRow1 rfl (.here) rfl (by rfl) (by first | omega | assumption) ?_
   refine au 6 ?_
   exact run_againF ih4 (j + 1) (by omega) (by omega) (.cons rfl (by first | exact fun _ _ h => h | exact d_int (by omega) | exact d_int (by simp) | exact d_intN (by omega) | exact d_any) .nil) (.cons rfl (fun _ _ x => x) (.cons rfl (fun _ _ x => x) (.cons rfl (fun _ _ x => x) (.cons rfl (fun _ _ x => x) (.nil))))) (by simp only [appR]; rw [rep_set (by omega)])
  ·
   refine au 5 ?_
   first | refine runL_fact (s := 32) rfl (fun _ _ h => dSl_len h) (fun hlen6 => ?_) | skip
   refine au 4 ?_
   rw [rep_end (by omega)]
   refine run_cellsUp (kk := 0) (b := b16) (dVal (.slice none 0 0)) (dSlV (.slice none 0 0)) (.there (.here)) rfl (fun J u h => ⟨h, _, _, _, h⟩) ?_
   refine run_rowNil 38 1 fR ?_
   refine run_front (.here) ?_
   refine run_front (.there (.there (.here))) ?_
   refine run_loopF (σ := Value × Nat) (ks := [2, 5, 32, 33]) (.cons rfl (.cons rfl (.cons rfl (.cons rfl (.nil))))) (fun q => [(34, dInt .i64 (q.2 : Nat))]) (fun q => [rCells b16 88 [dSlV q.1, dVal (.slice (some ⟨bb, 0, none⟩) h.m.toNat h.m.toNat), dVal (.slice (some ⟨bf, 0, none⟩) h.m.toNat h.m.toNat)], rRow q.1 38 1 fR ((its.take q.2).map (homesI h))]) (fun q => q.2 ≤ its.length) (fun q => its.length - q.2) ((.slice none 0 0, 0)) (Nat.zero_le _) (.cons rfl (by first | exact fun _ _ h => h | exact d_int (by omega) | exact d_int (by simp) | exact d_intN (by omega) | exact d_any) .nil) (rfl) ?_
   intro q hq ih7
   have hql : ((its.take q.2).map (homesI h)).length = q.2 := by rw [List.length_map, List.length_take]; omega
   refine au 5 ?_
   refine run_cond rfl (fun h8 => ?_) (fun h8 => ?_)
   ·
    have hin := hi (its[q.2]?.getD default) (getD_mem (by omega))
    unfold okIt at hin
    refine au 9 ?_
    refine dr_start _ (.one (σ := Value) 9 (fun _ => True)) [⟨[(5, none)], [], none⟩,
        ⟨[(5, none)], [], none⟩,
        ⟨[(39, some (1, false))], [1], none⟩,
        ⟨[(40, some (2, false))], [1, 2], none⟩,
        ⟨[(41, some (3, false))], [1, 2, 3], some (0, 0, false)⟩,
        ⟨[(2, none)], [], none⟩,
        ⟨[(8, none)], [], none⟩,
        ⟨[(43, some (5, false)), (44, some (6, false))], [5, 6], none⟩,
        ⟨[(45, some (7, false))], [5, 6, 7], none⟩,
        ⟨[(42, some (4, false)), (46, some (8, false))], [1, 2, 3, 4, 5, 6, 7, 8], some (1, 0, true)⟩,
        ⟨[(38, some (0, false))], [0, 1, 2, 3, 4, 5, 6, 7, 8, 9], none⟩,
        ⟨[(48, some (10, false))], [0, 1, 2, 3, 4, 5, 6, 7, 8, 9, 10], none⟩,
        ⟨[(49, some (11, false)), (47, some (9, false))], [0, 1, 2, 3, 4, 5, 6, 7, 8, 9, 10, 11], some (0, 0, true)⟩] [_, _, _, _] _ rfl rfl ?_
    refine da 4 ?_
    first | refine dq_read rfl (fun s => .op rfl (.nil)) rfl rfl (fun s hs _ hm => LocP.upV (loc_loadOwn1 rfl hm (by rfl))) (by exact .cons (.inr fun _ _ _ => rfl) (.nil)) ?_ | refine dq_read rfl (fun s => .op rfl (.nil)) rfl rfl (fun s hs _ hm => loc_loadOwn1 rfl hm (by rfl)) (by exact .cons (.inr fun _ _ _ => rfl) (.nil)) ?_
    refine da 2 ?_
    refine dq_pure rfl (fun s => .op rfl (.op rfl (.nil))) (fun s hs _ => loc_call (chomes_spec h hh _ hin) rfl) (by exact .cons (.inr fun _ _ _ => rfl) (.nil)) ?_
    refine dq_pure rfl (fun s => .op rfl (.nil)) (fun s hs _ => loc_buildSlice rfl rfl (.one rfl (.nil)) rfl rfl) (by exact .cons (.inr fun _ _ _ => rfl) (.nil)) ?_
    refine dq_choose id (fun _ t => t) rfl (fun _ _ => ⟨rfl, id, trivial⟩) (fun s => .op rfl (.op rfl (.nil))) rfl rfl (fun s hs => LocM.rowV (loc_append1 _ rfl rfl rfl rfl (by first | omega | (simp [lenMax]; omega) | (simp [lenMax]; done) | assumption) (by first | omega | (simp [lenMax]; omega) | (simp [lenMax]; done) | assumption))) (by exact .cons (.inl rfl) (.nil)) (fun _ _ => rfl) ?_
    refine da 2 ?_
    refine dq_write0 rfl (fun s => .op rfl (.op rfl (.nil))) rfl rfl (fun s hs => loc_store1 rfl rfl rfl) (by exact .cons (.inl rfl) (.nil)) ?_
    refine dq_end (rs := [_, _, _, _]) (.bool true) rfl (fun _ => rfl) (.cons rfl (.nil)) rfl (fun _ => rfl) (fun v9 _ => ?_)
    dsimp only [outG, outM, List.map, List.set, id]
    refine au 5 ?_
    exact run_againF ih7 ((v9, q.2 + 1)) (by simp only; omega) (by simp only; omega) (.cons rfl (by first | exact fun _ _ h => h | exact d_int (by omega) | exact d_int (by simp) | exact d_intN (by omega) | exact d_any) .nil) (.cons rfl (fun _ _ x => x) (.cons rfl (fun _ _ x => x) (.cons rfl (fun _ _ x => x) (.cons rfl (fun _ _ x => x) (.nil))))) (by simp only [appR]; rw [map_snoc (by omega)])
   ·
    refine au 2 ?_
    have hall : its.take q.2 = its := List.take_of_length_le (by omega)
    rw [hall]
    first | refine run_freezeRowCellV (kk := 0) (.there (.here)) (.here) rfl ?_ | refine run_freezeRowCell (kk := 0) (.there (.here)) (.here) rfl ?_
    refine run_cellsUp (kk := 1) (b := b16) (dVal (.slice (some ⟨bb, 0, none⟩) h.m.toNat h.m.toNat)) (dSlV (.slice (some ⟨bb, 0, none⟩) h.m.toNat h.m.toNat)) (.here) rfl (fun J u h => ⟨h, _, _, _, h⟩) ?_
    refine run_cellsUp (kk := 2) (b := b16) (dVal (.slice (some ⟨bf, 0, none⟩) h.m.toNat h.m.toNat)) (dSlV (.slice (some ⟨bf, 0, none⟩) h.m.toNat h.m.toNat)) (.here) rfl (fun J u h => ⟨h, _, _, _, h⟩) ?_
    refine run_freezeCells (s := 5) rfl (.here) ?_
    refine au 4 ?_
    refine run_ret (((.slice (some ⟨bb, 0, none⟩) h.m.toNat h.m.toNat), (.slice (some ⟨bf, 0, none⟩) h.m.toNat h.m.toNat))) Tryz.func36 rfl rfl ?_ (trivial) (fun _ _ h => h.sub (.cons_cons _ (.cons_cons _ (.refl _))))
    exact fun _ _ h => h
theorem assign_spec (h : Hsh) (hh : okH h) (its : List Int) (hi : ∀ n ∈ its, okIt n) : SpecP Tryz.prog 23 [dHsh h, dInts its] (dTup [dAgg [dInts (asgB h its)], dInt .i64 (asgE h its)]) := by
  have hm1 := hh.1
  have hp1 := hh.2.1
  have hq1 := hh.2.2
  refine specP_of_body Tryz.func23 rfl rfl (fun I M => ?_)
  refine au 3 ?_
  refine run_new (loc_allocOwn (by simp)) rfl (fun b1 _ => ?_)
  refine au 7 ?_
  refine run_op (loc_call (casked_spec h hh its hi) rfl) rfl ?_
  refine au 7 ?_
  refine run_cond rfl (fun h2 => ?_) (fun h2 => ?_)
  · exfalso; exact h2 rfl
  ·
   refine au 5 ?_
   first | refine runL_fact (s := 15) rfl (fun _ _ h => dSl_len h) (fun hlen3 => ?_) | skip
   refine au 5 ?_
   refine run_cond rfl (fun h4 => ?_) (fun h4 => ?_)
   ·
    have hE : asgE h its = 4 := by unfold asgE; rw [if_pos (by omega)]
    refine au 6 ?_
    refine run_retGP Tryz.func23 rfl (.cellN rfl (.here) (by rfl) (.tmp rfl (.nil))) ?_ (fun _ _ h => inv_tail (h))
    exact d_tup2 (d_aggU (.cons (d_toInts (by unfold asgB; rw [if_neg (by omega)]) d_nil) .nil)) (d_int hE.symm)
   ·
    have hl : its.length ≤ 64 := by omega
    refine au 5 ?_
    refine run_callN2 rfl (start19_spec h hh its hi hl) rfl (fun vb vf => ?_)
    refine au 2 ?_
    have hFE : firstH h its = firstF (hsF (its.map (homesI h))) h.m.toNat (itsN 0 (its.map (homesI h)).length) (List.replicate h.m.toNat false) (List.replicate h.m.toNat (-1)) := by unfold firstH; rw [List.length_map]
    refine au 4 ?_
    refine run_op2 rfl (loc_callM (first19_spec (homes_ok hh its) (by omega) (by rw [List.length_map]; exact hl) _ _ (by rw [List.length_map]; exact fs_start) vb vf) rfl) (fun _ _ => ?_)
    refine au 2 ?_
    refine run_cond rfl (fun h5 => ?_) (fun h5 => ?_)
    ·
     have hE : asgE h its = 15 := by unfold asgE; rw [if_neg (by omega), if_neg (by rw [hFE]; exact h5)]
     refine au 6 ?_
     refine run_retGP Tryz.func23 rfl (.cellN rfl (.there (.there (.here))) (by rfl) (.tmp rfl (.nil))) ?_ (fun _ _ h => inv_tail (inv_tail (inv_tail (h))))
     exact d_tup2 (d_aggU (.cons (d_toInts (by unfold asgB; rw [if_neg (by omega)]) d_nil) .nil)) (d_int hE.symm)
    ·
     have hE : asgE h its = 0 := by unfold asgE; rw [if_neg (by omega), if_pos (by rw [hFE]; exact Classical.not_not.1 h5)]
     refine au 2 ?_
     refine run_rowForm (.here) (by have := (firstF_len (hsF (its.map (homesI h))) h.m.toNat (itsN 0 (its.map (homesI h)).length) (List.replicate h.m.toNat false) (List.replicate h.m.toNat (-1))).2; rw [this, List.length_replicate]; omega) (fun b1 c1 e1 => ?_)
     subst e1
     refine au 4 ?_
     refine run_op (LocP.upV (loc_load1 rfl)) rfl ?_
     refine au 4 ?_
     first | refine run_freezeRowCellV (kk := 0) (.here) (.there (.here)) rfl ?_ | refine run_freezeRowCell (kk := 0) (.here) (.there (.here)) rfl ?_
     refine run_retGP Tryz.func23 rfl (.cellN rfl (.there (.here)) (by rfl) (.tmp rfl (.nil))) ?_ (fun _ _ h => inv_tail (inv_tail (h)))
     exact d_tup2 (d_aggU (.cons (d_toInts (by unfold asgB; rw [if_pos hE, hFE]) (fun _ _ h => h)) .nil)) (d_int hE.symm)
end Go.Q

namespace Go.Q
def layAdd (n : Int) (rows : List (List Int)) (b : Nat) : List (List Int) :=
 if (rows[b]?.getD default).length = 0 ∨ (rows[b]?.getD default)[(rows[b]?.getD default).length - 1]?.getD default ≠ n then rows.set b (rows[b]?.getD default ++ [n]) else rows
def layF (h : Hsh) (n : Nat) : List (List Int) := (List.range n).foldl (fun rows i => ((homesI h (i : Nat)).map Int.toNat).foldl (layAdd (i : Nat)) rows) (List.replicate h.m.toNat [])
def layI (h : Hsh) (k j : Nat) : List (List Int) := (((homesI h (k : Nat)).map Int.toNat).take j).foldl (layAdd (k : Nat)) (layF h k)
theorem set_get {α : Type} {l : List α} {b : Nat} {x : α} (h : l[b]? = some x) : l.set b x = l := by
 obtain ⟨h1, h2⟩ := List.getElem?_eq_some_iff.1 h
 rw [← h2]; exact List.set_getElem_self h1
theorem layF_0 (h : Hsh) : layF h 0 = List.replicate h.m.toNat [] := rfl
theorem layI_0 (h : Hsh) (k : Nat) : layI h k 0 = layF h k := rfl
theorem layI_next {h : Hsh} {k j : Nat} (hj : j < (homesI h (k : Nat)).length) : layI h k (j + 1) = layAdd (k : Nat) (layI h k j) ((homesI h (k : Nat))[j]?.getD default).toNat := by
 unfold layI
 rw [List.take_add_one, List.getElem?_eq_getElem (by rw [List.length_map]; exact hj), List.foldl_append, List.getElem_map, List.getElem?_eq_getElem hj]
 rfl
theorem layI_end {h : Hsh} {k j : Nat} (hj : (homesI h (k : Nat)).length ≤ j) : layI h k j = layF h (k + 1) := by
 unfold layI layF
 rw [List.take_of_length_le (by rw [List.length_map]; exact hj), List.range_succ, List.foldl_append]
 rfl
theorem layAdd_len (n : Int) (rows : List (List Int)) (b : Nat) : (layAdd n rows b).length = rows.length := by
 unfold layAdd; split <;> simp
theorem foldl_len {n : Int} : ∀ (bs : List Nat) (rows : List (List Int)), (bs.foldl (layAdd n) rows).length = rows.length
 | [], _ => rfl
 | b :: bs, rows => by rw [List.foldl_cons, foldl_len bs, layAdd_len]
theorem layF_len (h : Hsh) : ∀ n, (layF h n).length = h.m.toNat
 | 0 => by rw [layF_0]; simp
 | n + 1 => by rw [← layI_end (Nat.le_refl _)]; unfold layI; rw [foldl_len, layF_len h n]
structure LayOk (n : Int) (rows : List (List Int)) : Prop where
 asc : ∀ l ∈ rows, l.Pairwise (· < ·)
 bd : ∀ l ∈ rows, ∀ x ∈ l, 0 ≤ x ∧ x < n
theorem LayOk.up {n n' : Int} {rows : List (List Int)} (h : LayOk n rows) (hn : n ≤ n') : LayOk n' rows := ⟨h.asc, fun l hl x hx => by have := h.bd l hl x hx; omega⟩
theorem last_mem {l : List Int} (h : l.length ≠ 0) : ∃ x, l[l.length - 1]?.getD default = x ∧ x ∈ l := by
 rw [List.getElem?_eq_getElem (by omega)]
 exact ⟨_, rfl, List.getElem_mem _⟩
theorem asc_last {l : List Int} (h : l.Pairwise (· < ·)) : ∀ x ∈ l, x ≤ l[l.length - 1]?.getD default := by
 intro x hx
 obtain ⟨i, hi, rfl⟩ := List.mem_iff_getElem.1 hx
 rw [List.getElem?_eq_getElem (by omega)]
 by_cases e : i = l.length - 1
 ·subst e; exact Int.le_refl _
 ·exact Int.le_of_lt (List.pairwise_iff_getElem.1 h i (l.length - 1) hi (by omega) (by omega))
theorem layAdd_ok {n : Int} {rows : List (List Int)} {b : Nat} (hn : 0 ≤ n) (h : LayOk (n + 1) rows) : LayOk (n + 1) (layAdd n rows b) := by
 unfold layAdd
 split
 ·rename_i hc
  by_cases hb : b < rows.length
  ·have hl : rows[b]?.getD default ∈ rows := by rw [List.getElem?_eq_getElem hb]; exact List.getElem_mem _
   generalize rows[b]?.getD default = l at hc hl
   have ha := h.asc l hl
   have hlb := h.bd l hl
   have hlt : ∀ x ∈ l, x < n := fun x hx => by
    have h1 := asc_last ha x hx
    rcases hc with hc | hc
    ·rw [List.eq_nil_of_length_eq_zero hc] at hx; cases hx
    ·obtain ⟨y, hy, hm⟩ := last_mem (l := l) (fun e => by rw [List.eq_nil_of_length_eq_zero e] at hx; cases hx)
     rw [hy] at h1 hc
     have := hlb y hm
     omega
   refine ⟨fun l' hl' => ?_, fun l' hl' x hx => ?_⟩
   ·rcases List.mem_or_eq_of_mem_set hl' with h2 | rfl
    ·exact h.asc l' h2
    ·exact List.pairwise_append.2 ⟨ha, List.pairwise_singleton .., fun x hx y hy => by rw [List.mem_singleton.1 hy]; exact hlt x hx⟩
   ·rcases List.mem_or_eq_of_mem_set hl' with h2 | rfl
    ·exact h.bd l' h2 x hx
    ·rcases List.mem_append.1 hx with hx | hx
     ·exact hlb x hx
     ·rw [List.mem_singleton.1 hx]; omega
  ·rw [List.set_eq_of_length_le (by omega)]; exact h
 ·exact h
theorem foldl_ok {n : Int} (hn : 0 ≤ n) : ∀ (bs : List Nat) {rows : List (List Int)}, LayOk (n + 1) rows → LayOk (n + 1) (bs.foldl (layAdd n) rows)
 | [], _, h => h
 | b :: bs, _, h => foldl_ok hn bs (layAdd_ok hn h)
theorem layF_ok (h : Hsh) : ∀ n : Nat, LayOk (n : Nat) (layF h n)
 | 0 => ⟨fun l hl => by rw [layF_0] at hl; rw [List.eq_of_mem_replicate hl]; exact .nil, fun l hl x hx => by rw [layF_0] at hl; rw [List.eq_of_mem_replicate hl] at hx; cases hx⟩
 | n + 1 => by
  have h1 := foldl_ok (n := (n : Nat)) (by omega) ((homesI h (n : Nat)).map Int.toNat) ((layF_ok h n).up (n' := ((n : Nat) : Int) + 1) (by omega))
  rw [← layI_end (Nat.le_refl _)]
  unfold layI
  rw [List.take_of_length_le (by rw [List.length_map]; exact Nat.le_refl _)]
  exact h1
theorem layI_ok (h : Hsh) (k j : Nat) : LayOk ((k : Nat) + 1) (layI h k j) := foldl_ok (n := (k : Nat)) (by omega) _ ((layF_ok h k).up (by omega))
theorem asc_len {n : Int} : ∀ {l : List Int} {a : Int}, l.Pairwise (· < ·) → (∀ x ∈ l, a ≤ x ∧ x < n) → (l.length : Int) ≤ max 0 (n - a)
 | [], _, _, _ => by simp; omega
 | x :: l, a, h, hb => by
  obtain ⟨h1, h2⟩ := List.pairwise_cons.1 h
  have hx := hb x (List.mem_cons_self ..)
  have ih := asc_len (a := x + 1) h2 fun y hy => ⟨h1 y hy, (hb y (List.mem_cons_of_mem _ hy)).2⟩
  rw [List.length_cons]; omega
theorem LayOk.len {n : Int} {rows : List (List Int)} (h : LayOk n rows) (hn : 0 ≤ n) {l : List Int} (hl : l ∈ rows) : (l.length : Int) ≤ n := by
 have := asc_len (a := 0) (h.asc l hl) (h.bd l hl)
 omega
theorem layAdd_keep {n x : Int} {rows : List (List Int)} {b c : Nat} (h : x ∈ rows[c]?.getD default) : x ∈ (layAdd n rows b)[c]?.getD default := by
 unfold layAdd
 split
 ·by_cases e : b = c
  ·subst e
   by_cases hb : b < rows.length
   ·rw [List.getElem?_set_self hb]; exact List.mem_append_left _ h
   ·rw [List.getElem?_eq_none (by omega)] at h; cases h
  ·rw [List.getElem?_set_ne e]; exact h
 ·exact h
theorem layAdd_new {n : Int} {rows : List (List Int)} {b : Nat} (hb : b < rows.length) : n ∈ (layAdd n rows b)[b]?.getD default := by
 unfold layAdd
 split
 ·rw [List.getElem?_set_self hb]; exact List.mem_append_right _ (List.mem_singleton.2 rfl)
 ·rename_i hc
  obtain ⟨y, hy, hm⟩ := last_mem (l := rows[b]?.getD default) (fun e => hc (.inl e))
  have : y = n := by rw [← hy]; exact Classical.not_not.1 fun e => hc (.inr e)
  rw [← this]; exact hm
theorem foldl_keep {n x : Int} : ∀ (bs : List Nat) {rows : List (List Int)} {c : Nat}, x ∈ rows[c]?.getD default → x ∈ (bs.foldl (layAdd n) rows)[c]?.getD default
 | [], _, _, h => h
 | b :: bs, _, _, h => foldl_keep bs (layAdd_keep h)
theorem foldl_new {n : Int} : ∀ (bs : List Nat) {rows : List (List Int)} {c : Nat}, c ∈ bs → c < rows.length → n ∈ (bs.foldl (layAdd n) rows)[c]?.getD default
 | [], _, _, h, _ => by cases h
 | b :: bs, rows, c, h, hc => by
  rw [List.foldl_cons]
  rcases List.mem_cons.1 h with rfl | h
  ·exact foldl_keep bs (layAdd_new hc)
  ·exact foldl_new bs h (by rw [layAdd_len]; exact hc)
theorem layF_home {h : Hsh} (hh : okH h) : ∀ (n : Nat) {r : Nat}, r < n → ∀ b ∈ homesI h (r : Nat), ((r : Nat) : Int) ∈ (layF h n)[b.toNat]?.getD default
 | 0, _, hr, _, _ => by omega
 | n + 1, r, hr, b, hb => by
  have hbd := homesI_bd hh _ b hb
  rw [← layI_end (Nat.le_refl _)]
  unfold layI
  by_cases e : r = n
  ·subst e
   exact foldl_new _ (by rw [List.take_of_length_le (by rw [List.length_map]; exact Nat.le_refl _)]; exact List.mem_map.2 ⟨b, hb, rfl⟩) (by rw [layF_len]; omega)
  ·exact foldl_keep _ (layF_home hh n (by omega) b hb)
end Go.Q

namespace Go.Q
open Go.Proofs
open Classical
theorem layoutM_spec (h : Hsh) (hh : okH h) (n : Nat) (hn : n ≤ 1024) : Spec Tryz.prog 22 [dHsh h, dInt .i64 (n : Nat)] [] (σ := Value × List (Value × List Int)) (fun s => s.2.map (·.2) = layF h n) (fun s => dTup [dVal s.1, dInt .i64 0]) (fun s => rRow s.1 38 1 (fun u => [dSlV u]) (s.2.map (·.1)) :: fam 3 1 (fun x => [dInt .i64 x]) s.2) := by
  have hm1 := hh.1
  have hp1 := hh.2.1
  have hq1 := hh.2.2
  refine spec_of_body Tryz.func22 rfl rfl (fun I F => ?_)
  refine au 10 ?_
  refine run_op (loc_call (ccheck_spec19 h hh) rfl) rfl ?_
  refine au 7 ?_
  refine run_cond rfl (fun h1 => ?_) (fun h1 => ?_)
  · exfalso; exact h1 rfl
  ·
   refine au 12 ?_
   refine run_cond rfl (fun h2 => ?_) (fun h2 => ?_)
   · exfalso; have := h2; omega
   ·
    refine au 5 ?_
    refine run_new (loc_makeSlice rfl rfl (by first | omega | assumption) (by first | omega | assumption) _ _ rfl (by simp)) rfl (fun b25 _ => ?_)
    refine au 2 ?_
    refine run_inv (M' := rRow (.slice (some ⟨b25, 0, none⟩) h.m.toNat h.m.toNat) 38 1 (fun u => [dSlV u]) ((List.replicate h.m.toNat ((.slice none 0 0 : Value), ([] : List Int))).map (·.1)) :: (fam 3 1 fI (List.replicate h.m.toNat ((.slice none 0 0 : Value), ([] : List Int))) ++ F)) (fun I w hI => fam_nils [_] h.m.toNat (by rw [List.map_replicate]; exact row_nilV hI)) ?_
    refine au 7 ?_
    refine run_loopE (σ := Nat × List (Value × List Int)) (ks := [2, 7, 26]) (.cons rfl (.cons rfl (.cons rfl (.nil)))) (fun q => [(27, dInt .i64 (q.1 : Nat))]) (fun q => rRow (.slice (some ⟨b25, 0, none⟩) h.m.toNat h.m.toNat) 38 1 (fun u => [dSlV u]) (q.2.map (·.1)) :: (fam 3 1 fI q.2 ++ F)) (fun q => q.1 ≤ n ∧ q.2.map (·.2) = layF h q.1) (fun q => n - q.1) ((0, (List.replicate h.m.toNat ((.slice none 0 0 : Value), ([] : List Int))))) (⟨Nat.zero_le _, by rw [layF_0, List.map_replicate]⟩) (.cons rfl (by first | exact fun _ _ h => h | exact d_int (by omega) | exact d_int (by simp) | exact d_intN (by omega) | exact d_any) .nil) (rfl) ?_
    rintro q ⟨hq1, hq2⟩ ih3
    have hqn : q.2.length = h.m.toNat := by rw [← layF_len h q.1, ← hq2, List.length_map]
    have hol := homesI_len h (q.1 : Nat)
    refine au 5 ?_
    refine run_cond rfl (fun h4 => ?_) (fun h4 => ?_)
    ·
     refine au 12 ?_
     refine run_op (loc_call (chomes_spec h hh _ ⟨by omega, by omega⟩) rfl) rfl ?_
     first | refine runL_fact (s := 32) rfl (fun _ _ h => dSl_len h) (fun hlen5 => ?_) | skip
     refine au 4 ?_
     refine run_loopE (σ := Nat × List (Value × List Int)) (ks := [2, 7, 8, 26, 27, 32, 33]) (.cons rfl (.cons rfl (.cons rfl (.cons rfl (.cons rfl (.cons rfl (.cons rfl (.nil)))))))) (fun u => [(34, dInt .i64 (u.1 : Nat))]) (fun u => rRow (.slice (some ⟨b25, 0, none⟩) h.m.toNat h.m.toNat) 38 1 (fun u => [dSlV u]) (u.2.map (·.1)) :: (fam 3 1 fI u.2 ++ F)) (fun u => u.1 ≤ (homesI h q.1).length ∧ u.2.map (·.2) = layI h q.1 u.1) (fun u => (homesI h q.1).length - u.1) ((0, q.2)) (⟨Nat.zero_le _, by rw [hq2, layI_0]⟩) (.cons rfl (by first | exact fun _ _ h => h | exact d_int (by omega) | exact d_int (by simp) | exact d_intN (by omega) | exact d_any) .nil) (rfl) ?_
     rintro u ⟨hu1, hu2⟩ ih6
     have hun : u.2.length = h.m.toNat := by rw [← List.length_map (f := (·.2)), hu2]; unfold layI; rw [foldl_len, layF_len]
     refine au 5 ?_
     refine run_cond rfl (fun h7 => ?_) (fun h7 => ?_)
     ·
      have huo : u.1 < (homesI h q.1).length := by omega
      have hbd := homesI_bd hh (q.1 : Nat) _ (getD_mem huo)
      obtain ⟨pk, hpk⟩ : ∃ pk, u.2[((homesI h q.1)[u.1]?.getD default).toNat]? = some pk := ⟨u.2[((homesI h q.1)[u.1]?.getD default).toNat]'(by omega), List.getElem?_eq_getElem (by omega)⟩
      have hpk1 : (u.2.map (·.1))[((homesI h q.1)[u.1]?.getD default).toNat]?.getD default = pk.1 := by rw [List.getElem?_map, hpk]; rfl
      have hpk2 : (layI h q.1 u.1)[((homesI h q.1)[u.1]?.getD default).toNat]?.getD default = pk.2 := by rw [← hu2, List.getElem?_map, hpk]; rfl
      have hml : (u.2.map (·.1)).length = h.m.toNat := by rw [List.length_map]; exact hun
      have hnx := layI_next huo
      unfold layAdd at hnx
      rw [hpk2] at hnx
      have hpl := (layI_ok h q.1 u.1).len (by omega) (l := pk.2) (by rw [← hu2]; exact List.mem_map.2 ⟨pk, List.mem_of_getElem? hpk, rfl⟩)
      refine au 10 ?_
      refine run_inv (fun I w hI => fam_out [_] ((homesI h q.1)[u.1]?.getD default).toNat hpk hI) ?_
      refine au 4 ?_
      refine run_op (LocP.conv (LocP.upV (loc_loadRow1 rfl (.there .here) (by omega))) (congrArg dVal hpk1)) rfl ?_
      refine au 12 ?_
      refine run_gop rfl rfl gdI.ok (fun hg => loc_indexEl rfl rfl .here (by omega)) rfl ?_
      refine run_gop rfl rfl gdI.ok (fun hg => loc_loadEl1 rfl .here (by omega)) rfl ?_
      refine au 5 ?_
      have hcd : ∀ {z : Int}, ((pk.2.length : Int) = 0 ∨ ¬ pk.2[((pk.2.length : Int) - 1).toNat]?.getD default = z) → (pk.2.length = 0 ∨ pk.2[pk.2.length - 1]?.getD default ≠ z) := fun h => by rw [show ((pk.2.length : Int) - 1).toNat = pk.2.length - 1 by omega] at h; exact h.imp (fun e => by omega) id
      have hcu : ∀ {z : Int}, (pk.2.length = 0 ∨ pk.2[pk.2.length - 1]?.getD default ≠ z) → ((pk.2.length : Int) = 0 ∨ ¬ pk.2[((pk.2.length : Int) - 1).toNat]?.getD default = z) := fun h => by rw [show ((pk.2.length : Int) - 1).toNat = pk.2.length - 1 by omega]; exact h.imp (fun e => by omega) id
      refine run_cond rfl (fun h8 => ?_) (fun h8 => ?_)
      ·
       rw [if_pos (hcd h8)] at hnx
       refine au 5 ?_
       refine run_op (loc_buildSlice rfl rfl (.one rfl (.nil)) rfl rfl) rfl ?_
       refine run_append1 rfl (.here) rfl (by rfl) (by rfl) (by first | omega | (simp [lenMax]; omega) | (simp [lenMax]; done) | assumption) (by first | omega | (simp [lenMax]; omega) | (simp [lenMax]; done) | assumption) rfl (fun v9 => ?_)
       refine runL_rowV (s := 60) rfl (.here) ?_
       refine au 1 ?_
       refine run_storeRow1 rfl (.there (.here)) rfl (by rfl) (by first | omega | assumption) ?_
       refine au 6 ?_
       refine run_inv (M' := rRow (.slice (some ⟨b25, 0, none⟩) h.m.toNat h.m.toNat) 38 1 (fun u => [dSlV u]) ((u.2.set ((homesI h q.1)[u.1]?.getD default).toNat (v9, pk.2 ++ [(q.1 : Int)])).map (·.1)) :: (fam 3 1 fI (u.2.set ((homesI h q.1)[u.1]?.getD default).toNat (v9, pk.2 ++ [(q.1 : Int)])) ++ F)) (fun I w hI => by have h2 := fam_in [_] ((homesI h q.1)[u.1]?.getD default).toNat (p := (v9, pk.2 ++ [(q.1 : Int)])) (by omega) hI; rw [List.map_set]; exact h2) ?_
       exact run_againE ih6 ((u.1 + 1, u.2.set ((homesI h q.1)[u.1]?.getD default).toNat (v9, pk.2 ++ [(q.1 : Int)]))) (⟨by simp only; omega, by simp only [List.map_set]; rw [hnx, hu2]⟩) (by simp only; omega) (.cons rfl (by first | exact fun _ _ h => h | exact d_int (by omega) | exact d_int (by simp) | exact d_intN (by omega) | exact d_any) .nil) (.cons rfl (fun _ _ x => x) (.cons rfl (fun _ _ x => x) (.cons rfl (fun _ _ x => x) (.cons rfl (fun _ _ x => x) (.cons rfl (fun _ _ x => x) (.cons rfl (fun _ _ x => x) (.cons rfl (fun _ _ x => x) (.nil)))))))) (rfl)
      ·
       rw [if_neg (fun e => h8 (hcu e))] at hnx
       refine run_inv (M' := rRow (.slice (some ⟨b25, 0, none⟩) h.m.toNat h.m.toNat) 38 1 (fun u => [dSlV u]) (u.2.map (·.1)) :: (fam 3 1 fI u.2 ++ F)) (fun I w hI => by have h2 := fam_in [_] ((homesI h q.1)[u.1]?.getD default).toNat (p := pk) (by omega) hI; rw [set_get hpk] at h2; exact h2) ?_
       refine au 6 ?_
       exact run_againE ih6 ((u.1 + 1, u.2)) (⟨by simp only; omega, by rw [hnx, hu2]⟩) (by simp only; omega) (.cons rfl (by first | exact fun _ _ h => h | exact d_int (by omega) | exact d_int (by simp) | exact d_intN (by omega) | exact d_any) .nil) (.cons rfl (fun _ _ x => x) (.cons rfl (fun _ _ x => x) (.cons rfl (fun _ _ x => x) (.cons rfl (fun _ _ x => x) (.cons rfl (fun _ _ x => x) (.cons rfl (fun _ _ x => x) (.cons rfl (fun _ _ x => x) (.nil)))))))) (rfl)
     ·
      refine au 6 ?_
      exact run_againE ih3 ((q.1 + 1, u.2)) (⟨by simp only; omega, by rw [hu2, layI_end (by omega)]⟩) (by simp only; omega) (.cons rfl (by first | exact fun _ _ h => h | exact d_int (by omega) | exact d_int (by simp) | exact d_intN (by omega) | exact d_any) .nil) (.cons rfl (fun _ _ x => x) (.cons rfl (fun _ _ x => x) (.cons rfl (fun _ _ x => x) (.nil)))) (rfl)
    ·
     refine au 7 ?_
     refine run_ret2 (((.slice (some ⟨b25, 0, none⟩) h.m.toNat h.m.toNat), q.2)) Tryz.func22 rfl rfl rfl ?_ (by show q.2.map (·.2) = _; rw [hq2, show q.1 = n by omega]) (fun _ _ h => h)
     exact fun _ _ h => h
theorem layout_spec (h : Hsh) (hh : okH h) (n : Nat) (hn : n ≤ 1024) : SpecP Tryz.prog 22 [dHsh h, dInt .i64 (n : Nat)] (dTup [dRows (layF h n), dInt .i64 0]) := spec_freezeRows2 (layoutM_spec h hh n hn)
end Go.Q
