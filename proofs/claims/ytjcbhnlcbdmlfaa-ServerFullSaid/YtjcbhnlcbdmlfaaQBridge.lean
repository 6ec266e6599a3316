/- From a contract in the logic of slots to what a row of statements says: proved of every program. -/
import Derived.Test.YtjcbhnlcbdmlfaaQWalk
import Derived.ProofKit
import Derived.SizedLaws
set_option linter.unusedVariables false
set_option linter.unusedSimpArgs false
namespace Go.Q
open Go.ChangeShapes Go.WideShapes Go.RowKit

def immOf (w : World) : Imm := ⟨fun b => w.heap[b]?, w.os, w.tape, w.output⟩
theorem inv_of (w : World) : Inv (immOf w) [] w := ⟨rfl, rfl, rfl, fun _ _ h => h, fun r hr => (by cases hr), List.nodup_nil⟩

theorem below_of {W w' : World} {J : Imm} (hle : (immOf W).le J) (hi : Inv J [] w') : Below W.heap.size W w' := by
  have hblk : ∀ k, k < W.heap.size → w'.heap[k]? = W.heap[k]? := fun k hk => by
    have h1 : W.heap[k]? = some W.heap[k] := by simp [hk]
    rw [h1]
    exact hi.imm k _ (hle.blk k _ h1)
  refine ⟨hi.os.trans hle.os, hi.tape.trans hle.tape, hi.output.trans hle.output, ?_, hblk⟩
  by_cases h : W.heap.size ≤ w'.heap.size
  · exact h
  · have h1 := hblk w'.heap.size (by omega)
    have h2 : w'.heap[w'.heap.size]? = none := by simp
    rw [h2] at h1
    have h3 : W.heap[w'.heap.size]? = some W.heap[w'.heap.size] := by simp [show w'.heap.size < W.heap.size by omega]
    rw [h3] at h1
    cases h1

section
variable {H : Type} {enc : TypeId × Value → H} {P : Program}

theorem post_same {f : Func} {s : ChangeSpec} {apart fresh handsOn again : Bool} {W W' : World} {args : Array Value} {v : Value} {ds gs : List (DataW H)} {before pa pv : List MemPlace}
    (hW : DataW.Whole enc P f.params.toList s.vars apart W args.toList ds gs before)
    (hres : ∀ (b : Nat) (sp : Nat → Bool) (hd : Bool), DataW.TrodAll enc P W' b sp hd f.resultTypes.toList (v.resultList f.resultTypes.size) (s.fn H (ds ++ gs)).results [])
    (hargs : ∀ sp : Nat → Bool, (∀ p ∈ before, sp p.block = true) → DataW.TrodAll enc P W' 0 sp true f.params.toList args.toList (s.fn H (ds ++ gs)).args pa)
    (hvars : ∀ sp : Nat → Bool, (∀ p ∈ before, sp p.block = true) → DataW.TrodVars enc P W' sp s.vars (s.fn H (ds ++ gs)).vars pv)
    (hps : before = pa ++ pv) (hk : W.keptBut W' (· ∈ before)) (hfz : ∀ a : Addr, a.block < W.heap.size → W'.frozen? a = W.frozen? a)
    (hok : ∀ (j : Nat) (t : TypeId) (r : Value), f.resultTypes[j]? = some t → (v.resultList f.resultTypes.size)[j]? = some r → Value.okWide P W' .any 0 t r) :
    s.post enc P f apart fresh handsOn again W args v W' := by
  have hold : ∀ p ∈ before, (fun b => decide (b < W.heap.size)) p.block = true := fun p hp => by simpa using hW.lt p hp
  have hlt := hW.lt
  refine ⟨ds, gs, before, [], pa, pv, hW, hres _ _ _, hargs _ hold, hvars _ hold, World.keptBut_mono (fun p hp => ⟨hp, ?_⟩) hk, fun _ => ?_⟩
  · rw [hps, List.mem_append] at hp
    exact Or.inr hp
  · obtain ⟨_, _, _, _, _, hz, hn⟩ := hW
    refine ⟨hok, _, _, ([] ++ pa) ++ pv, ⟨[] ++ pa, pv, trodAll_append (hargs _ (fun _ _ => rfl)) (hres _ _ _), hvars _ (fun _ _ => rfl), rfl, ?_, ?_⟩, ?_⟩
    · intro b off hp
      have hm : MemPlace.cell b off ∈ before := by rw [hps]; simpa using hp
      rw [hfz _ (hlt _ hm)]
      exact hz b off hm
    · intro ha
      have := hn ha
      rw [hps] at this
      simpa using this
    · intro p hp _
      rw [hps]
      simpa using hp

theorem trodAll_stay (hl : laidOutB P = true) {W W' : World} {sp : Nat → Bool} : ∀ {ts : List TypeId} {vs : List Value} {ds : List (DataW H)} {ps : List MemPlace}, (∀ t ∈ ts, P.readableRec t = true ∧ t < P.types.size) →
    DataW.TrodAll enc P W 0 (fun _ => true) true ts vs ds ps → (∀ p ∈ ps, W.sameAt W' p) → (∀ p ∈ ps, sp p.block = true) → DataW.TrodAll enc P W' 0 sp true ts vs ds ps
  | [], _, _, _, _, h, _, _ => by
    obtain ⟨rfl, rfl, rfl⟩ := trodAll_nil h
    exact rfl
  | t :: ts, _, _, _, hr, h, hs, hp => by
    obtain ⟨v, vs, d, ds, p, q, rfl, rfl, rfl, h1, h2⟩ := trodAll_cons h
    have hrt := hr t (List.mem_cons_self ..)
    exact ⟨p, q, WideElems.Trod_stays hl hrt.1 hrt.2 h1 (fun x hx => hs x (List.mem_append_left _ hx)) (fun x hx => hp x (List.mem_append_left _ hx)),
      trodAll_stay hl (fun x hx => hr x (List.mem_cons_of_mem _ hx)) h2 (fun x hx => hs x (List.mem_append_right _ hx)) (fun x hx => hp x (List.mem_append_right _ hx)), rfl⟩

/-- A law: its contract says that it answers true, whatever the arguments are. -/
theorem law_calls {f : FuncId} {fn : Func} {s : ChangeSpec} {apart fresh handsOn again : Bool} {W : World} {args : Array Value} {ds gs : List (DataW H)} {before : List MemPlace} {tb : TypeId} {Ds : List D}
    (hl : laidOutB P = true) (hread : ∀ t ∈ fn.params.toList, P.readableRec t = true ∧ t < P.types.size) (hres : fn.resultTypes = #[tb]) (htb : P.underlying tb = some .bool) (hvars : s.vars = [])
    (hW : DataW.Whole enc P fn.params.toList s.vars apart W args.toList ds gs before) (hr : (s.fn H ds).results = [.lit (.bool true)]) (ha : (s.fn H ds).args = ds) (hv : (s.fn H ds).vars = [])
    (hsp : SpecP P f Ds (dB True)) (hrel : relL Ds (immOf W) args.toList) :
    Calls P f args W fun e W' => ∃ v, e = .returned v ∧ s.post enc P fn apart fresh handsOn again W args v W' := by
  have h := hsp (immOf W) [] W args.toList hrel (inv_of W)
  rw [Array.toArray_toList] at h
  refine h.mono ?_
  rintro e W' ⟨v, rfl, J, hle, ⟨b, rfl, hb⟩, hi⟩
  have hbt : b = true := hb.2 trivial
  subst hbt
  have hB := below_of hle hi
  have hlt := hW.lt
  have hW' := hW
  obtain ⟨p, q, hA, hV, rfl, hfz, hnd⟩ := hW'
  rw [hvars] at hV
  obtain ⟨rfl, rfl⟩ := trodVars_none hV
  rw [List.append_nil] at hlt
  refine ⟨_, rfl, post_same (pa := p) (pv := []) hW (fun b sp hd => ?_) (fun sp hs => ?_) (fun sp hs => ?_) rfl (hB.frame _) (fun a ha => hB.frozen ha) (ok_one hres rfl (okWide_bool_mk htb true))⟩
  · rw [List.append_nil, hr, hres]
    exact trodAll_mk1 (shut_bool htb true)
  · rw [List.append_nil, ha]
    exact trodAll_stay hl hread hA (fun x hx => hB.same (hlt x hx)) (fun x hx => hs x (by simpa using hx))
  · rw [List.append_nil, hv, hvars]
    exact rfl

/-! ### Arguments -/

theorem wf_u8 {n : Int} (h : (Lit.int .u8 n).wf = true) : 0 ≤ n ∧ n ≤ 255 := by
  have h1 : IntKind.u8.min ≤ n ∧ n ≤ IntKind.u8.max := by simpa [Lit.wf] using h
  exact h1

theorem at_of_cell {w : World} {a : Addr} {v : Value} {d : D} (h : w.cell? a = some v) (hd : d.rel (immOf w) v) : (immOf w).at a [d] := by
  unfold World.cell? at h
  split at h
  · rename_i cs T fz hb
    split at h
    · cases h
    · rename_i hs
      refine ⟨by simpa using hs, cs, T, fz, hb, ?_⟩
      have h1 : cs.toList[a.off]? = some v := by simpa using h
      have h2 : (cs.toList.drop a.off).take 1 = [v] := by
        rw [List.take_one, List.head?_drop, h1]; rfl
      show relL [d] _ ((cs.toList.drop a.off).take 1)
      rw [h2]
      exact ⟨hd, trivial⟩
  · cases h

variable {W : World}

theorem arg_int {r : Reach} {b0 : Nat} {t : TypeId} {k : IntKind} {v : Value} {d : DataW H} {ps : List MemPlace} (ht : P.underlying t = some (.int k)) (hval : Value.okWide P W r b0 t v) (hd : DataW.Trod enc P W 0 (fun _ => true) true t v d ps) :
    ∃ n, (dInt k n).rel (immOf W) v ∧ (Lit.int k n).wf = true := by
  obtain ⟨n, rfl, _, _, h⟩ := open_int ht hval hd
  exact ⟨n, rfl, h⟩

theorem ints_of_trod {t e : TypeId} {fuel : Nat} {cs : List Value} {d : DataW H} {ps : List MemPlace} (ht : P.underlying t = some (.slice e)) (he : P.underlying e = some (.int .i64)) (hc : P.cellsOf e = 1) (hb : P.bytesOf e = 8)
    (h : DataW.trod enc P W 0 (fun _ => true) true fuel t cs = some (d, ps)) (hsz : ∀ n ∈ d.weights P t, n ≤ reachBytes) : ∃ xs, relL [dInts xs] (immOf W) cs := by
  rcases open_ints ht he hc h with ⟨rfl, _⟩ | ⟨a, len, cap, zs, rfl, _, h1, h2, h3, h4, h5, h6⟩
  · exact ⟨[], d_nil _ _ rfl, trivial⟩
  · simp only [if_true] at h3
    injection h4 with h4 _
    subst h4
    have h7 := hsz ((lits (H := H) .i64 (zs.take len)).length + (lits (H := H) .i64 (zs.drop len)).length |>.mul (P.bytesOf e)) (by simp [DataW.weights, ht])
    rw [hb] at h7
    have h8 : zs.length * 8 ≤ reachBytes := by simpa [lits, h3, h1] using h7
    have h9 : reachBytes = 140737488351232 := rfl
    refine ⟨zs.take len, ⟨some a, cap, by rw [List.length_take, h3]; rw [Nat.min_eq_left h1], by rw [List.length_take]; omega, h2, by rw [List.length_take]; unfold lenMax; omega, fun i x hx => ?_⟩, trivial⟩
    have hi : i < len ∧ zs[i]? = some x := by
      rw [List.getElem?_take] at hx
      split at hx
      · rename_i h; exact ⟨h, hx⟩
      · cases hx
    have hcell := fun j hj => h5 j hj
    have h0 := hcell 0 (by omega)
    have hs0 : a.spot = none := (at_of_cell (d := dTop) h0 trivial).1
    refine ⟨rfl, a, rfl, hs0, ?_⟩
    rw [Nat.mul_one]
    refine at_of_cell (hcell i (by omega)) ?_
    show _ = _
    rw [List.getD_eq_getElem?_getD, hi.2]
    rfl

theorem arg_ints {r : Reach} {b0 : Nat} {t e : TypeId} {v : Value} {d : DataW H} {ps : List MemPlace} (ht : P.underlying t = some (.slice e)) (he : P.underlying e = some (.int .i64)) (hc : P.cellsOf e = 1) (hb : P.bytesOf e = 8)
    (hval : Value.okWide P W r b0 t v) (hd : DataW.Trod enc P W 0 (fun _ => true) true t v d ps) (hsz : ∀ n ∈ d.weights P t, n ≤ reachBytes) : ∃ xs, (dInts xs).rel (immOf W) v := by
  obtain ⟨a, len, cap, rfl⟩ := okWide_slice ht hval
  obtain ⟨fuel, hf⟩ := hd
  obtain ⟨xs, h, _⟩ := ints_of_trod ht he hc hb hf hsz
  exact ⟨xs, h⟩

/-- The fields of a struct of numbers, from the offset j on. -/
def intFs64 (P : Program) : Nat → List Field → Bool
  | _, [] => true
  | j, fd :: fs => Nat.beq fd.offset j && Nat.beq (P.cellsOf fd.type) 1 && (match P.underlying fd.type with | some (.int .i64) => true | _ => false) && intFs64 P (j + 1) fs

theorem ints_of_fields {n : Nat} {cs : List Value} : ∀ (fs : List Field) (j : Nat), intFs64 P j fs = true → j + fs.length = cs.length → (∀ (i : Nat) fd, fs[i]? = some fd → ∃ x, DataW.trod enc P W 0 (fun _ => true) true n fd.type ((cs.drop fd.offset).take (P.cellsOf fd.type)) = some x) →
    ∃ ns : List Int, ns.length = fs.length ∧ relL (ns.map fun m => dInt .i64 m) (immOf W) (cs.drop j)
  | [], j, _, hl, _ => ⟨[], rfl, by rw [List.drop_eq_nil_of_le (by simp at hl; omega)]; exact trivial⟩
  | fd :: fs, j, hc, hl, hf => by
    simp only [intFs64, Bool.and_eq_true] at hc
    obtain ⟨⟨⟨h1, h2⟩, h3⟩, h4⟩ := hc
    replace h1 := Nat.eq_of_beq_eq_true h1
    replace h2 := Nat.eq_of_beq_eq_true h2
    simp only [List.length_cons] at hl
    obtain ⟨ns, h5, h6⟩ := ints_of_fields fs (j + 1) h4 (by omega) (fun i fd' hfd => hf (i + 1) fd' (by simpa using hfd))
    obtain ⟨x, hx⟩ := hf 0 fd rfl
    have hu : P.underlying fd.type = some (.int .i64) := by
      split at h3
      · assumption
      · cases h3
    obtain ⟨m, hm, _⟩ := DataW.trod_int hu hx
    rw [h1, h2] at hm
    have hlt : j < cs.length := by omega
    rw [List.drop_eq_getElem_cons hlt] at hm ⊢
    simp only [List.take_succ_cons, List.take_zero, List.cons.injEq, and_true] at hm
    exact ⟨m :: ns, by simp [h5], by rw [hm]; exact ⟨rfl, h6⟩⟩

theorem arg_nums {r : Reach} {b0 : Nat} {t : TypeId} {v : Value} {d : DataW H} {ps : List MemPlace} {fs : Array Field} (ht : P.underlying t = some (.struct fs)) (hc : intFs64 P 0 fs.toList = true) (hC : P.cellsOf t = fs.size)
    (hval : Value.okWide P W r b0 t v) (hd : DataW.Trod enc P W 0 (fun _ => true) true t v d ps) : ∃ ns : List Int, ns.length = fs.size ∧ (dAgg (ns.map fun m => dInt .i64 m)).rel (immOf W) v := by
  obtain ⟨cs, rfl, hsz⟩ := okWide_struct ht hval
  obtain ⟨fuel, hf⟩ := hd
  obtain ⟨xs, n, _, _, _, hxl, hx⟩ := DataW.trod_struct ht hf
  obtain ⟨ns, h1, h2⟩ := ints_of_fields (enc := enc) (n := n) (cs := cs.toList) fs.toList 0 hc (by simp [hsz, hC]) (fun i fd hfd => by
    have h3 := hx i fd (by simpa using hfd)
    have hi : i < xs.length := by rw [hxl]; simpa using (List.getElem?_eq_some_iff.1 hfd).1
    rw [List.getElem?_eq_getElem hi] at h3
    exact ⟨_, h3⟩)
  exact ⟨ns, by simpa using h1, cs, rfl, h2⟩

def hdOk (P : Program) (t : TypeId) : Bool := match P.underlying t with
  | some (.struct fs) => intFs64 P 0 fs.toList && (Nat.beq fs.size 5 && Nat.beq (P.cellsOf t) 5)
  | _ => false

theorem arg_hd {r : Reach} {b0 : Nat} {t : TypeId} {v : Value} {d : DataW H} {ps : List MemPlace} (ho : hdOk P t = true)
    (hval : Value.okWide P W r b0 t v) (hd : DataW.Trod enc P W 0 (fun _ => true) true t v d ps) : ∃ h : Hd, (dHd h).rel (immOf W) v := by
  unfold hdOk at ho
  split at ho
  · rename_i fs ht
    simp only [Bool.and_eq_true] at ho
    have h5 := Nat.eq_of_beq_eq_true ho.2.1
    obtain ⟨ns, h1, h2⟩ := arg_nums ht ho.1 ((Nat.eq_of_beq_eq_true ho.2.2).trans h5.symm) hval hd
    match ns, h1.trans h5, h2 with
    | [a, b, c, e, f], _, h2 => exact ⟨⟨a, b, c, e, f⟩, h2⟩
  · cases ho

end
end Go.Q
