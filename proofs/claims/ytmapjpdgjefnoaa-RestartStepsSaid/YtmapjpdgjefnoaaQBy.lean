/- Slices of bytes of any length, as they come in: what is proved here holds of every program. -/
import Derived.Test.YtmapjpdgjefnoaaQOwn3
set_option linter.unusedVariables false
set_option linter.unusedSimpArgs false
namespace Go.Q
variable {P : Program} {g : G} {N : Nat} {M : List Res} {dst : Option Tmp} {ty : TypeId} {pos : String} {after : Array Edge} {gd : Option (Nat × Bool)}

abbrev fU8 : Int → List D := fun x => [dInt .u8 x]
/-- A slice of bytes, of any length that memory bears. -/
def dBy (xs : List Int) : D :=
  ⟨fun I v => ∃ a cap, v = .slice a xs.length cap ∧ xs.length ≤ cap ∧ cap ≤ maxLen ∧ xs.length ≤ 140737488355328 ∧ (∀ i x, xs[i]? = some x → ∃ p, a = some p ∧ p.spot = none ∧ I.at (p.add (i * 1)) [dInt .u8 x]),
   fun h ⟨a, cap, e, h1, h2, h3, h4⟩ => ⟨a, cap, e, h1, h2, h3, fun i x hx => let ⟨p, h6, h7, h8⟩ := h4 i x hx; ⟨p, h6, h7, Imm.at_mono h h8⟩⟩⟩


theorem dBy_sl {xs : List Int} (h : xs.length ≤ 17592186044416) : ∀ I v, (dBy xs).rel I v → (dSl 1 fU8 xs).rel I v := by
  rintro I v ⟨a, cap, e, h1, h2, h3, h4⟩
  exact ⟨a, cap, e, h1, h2, h, fun i x hx => let ⟨p, h5, h6, h7⟩ := h4 i x hx; ⟨rfl, p, h5, h6, h7⟩⟩

theorem loc_lenBy {t e : TypeId} [ht : TySl P t e] {x : Operand} {xs : List Int} (hx : opd g x = some (dBy xs)) : LocP P ⟨dst, .call ⟨.builtin .len, #[x], #[t]⟩, ty, pos, after, gd⟩ g N M (dInt .i64 (xs.length : Nat)) :=
  locP_of_run fun I a w hs hi => by
    obtain ⟨b, cap, hp, _⟩ := opd_sound hs hx
    exact ⟨.int .i64 xs.length, by simp [execOp, resolve, invoke, builtin, Builtin.len_, hp, run_underlying ht.eq, goInt], rfl⟩

theorem loc_sliceToBy {t e : TypeId} {agg : Bool} {n : Nat} [ht : TySl P t e] [hv : TyV P e agg n] {x hi : Operand} {xs : List Int} {kd : IntKind} {j : Int} (hx : opd g x = some (dBy xs)) (hy : opd g hi = some (dInt kd j)) (h : 0 ≤ j ∧ j ≤ xs.length ∧ j ≤ 17592186044416) :
    LocP P ⟨dst, .slice t x none (some hi) none, ty, pos, after, gd⟩ g N M (dSl 1 fU8 (xs.take j.toNat)) :=
  locP_of_run fun I a w hs hinv => by
    obtain ⟨b, cap, hp, h1, h2, h3, h4⟩ := opd_sound hs hx
    have hyv : a.eval hi = .int kd j := opd_sound hs hy
    have hc : (0 ≤ j ∧ j ≤ (cap : Int)) := by omega
    refine ⟨.slice (if cap = 0 then b else b.map (·.add 0)) j.toNat cap, ?_, b, cap, ?_, by rw [List.length_take]; omega, h2, by rw [List.length_take]; unfold lenMax; omega, fun i x hx => ?_⟩
    · simp [execOp, Instr.sliceAt, Instr.slice, hp, hyv, run_underlying ht.eq, Instr.sliceBounds, Instr.sliceBound, asIntOf, hc, run_sizeOf hv]
    · have : (if cap = 0 then b else b.map (·.add 0)) = b := by
        split
        · rfl
        · cases b with
          | none => rfl
          | some p => simp [Addr.add_zero']
      rw [this, List.length_take]
      congr 1
      omega
    · rw [List.getElem?_take] at hx
      split at hx
      · obtain ⟨p, h5, h6, h7⟩ := h4 i x hx
        exact ⟨rfl, p, h5, h6, h7⟩
      · cases hx

/-! ### A guard that is entered again -/

theorem loc_andH {c0 : Prop} (hg : c0) {c b : Operand} {p q : Prop} (hc : opd g c = some (dIf c0 (dB p))) (hb : opd g b = some (dIf (c0 ∧ p) (dB q))) : LocP P ⟨dst, .pick c b (.const (.bool false)), ty, pos, after, gd⟩ g N M (dB (p ∧ q)) :=
  locP_of_run fun I a w hs _ => by
    obtain ⟨t, ht, hp⟩ := (opd_sound hs hc).1 hg
    have hq := opd_sound hs hb
    cases t with
    | false =>
      have hnp : ¬ p := fun h => by simpa using hp.2 h
      exact ⟨.bool false, by simp [execOp, ht, asBool, show a.eval (.const (.bool false)) = .bool false from rfl], false, rfl, by simp [hnp]⟩
    | true =>
      obtain ⟨u, hu, hq⟩ := hq.1 ⟨hg, hp.1 rfl⟩
      exact ⟨.bool u, by simp [execOp, ht, asBool, hu], u, rfl, by simp [hq, hp.1 rfl]⟩
theorem loc_orH {c0 : Prop} (hg : c0) {c b : Operand} {p q : Prop} (hc : opd g c = some (dIf c0 (dB p))) (hb : opd g b = some (dIf (c0 ∧ ¬ p) (dB q))) : LocP P ⟨dst, .pick c (.const (.bool true)) b, ty, pos, after, gd⟩ g N M (dB (p ∨ q)) :=
  locP_of_run fun I a w hs _ => by
    obtain ⟨t, ht, hp⟩ := (opd_sound hs hc).1 hg
    have hq := opd_sound hs hb
    cases t with
    | true => exact ⟨.bool true, by simp [execOp, ht, asBool, show a.eval (.const (.bool true)) = .bool true from rfl], true, rfl, by simp [hp.1 rfl]⟩
    | false =>
      have hnp : ¬ p := fun h => by simpa using hp.2 h
      obtain ⟨u, hu, hq⟩ := hq.1 ⟨hg, hnp⟩
      exact ⟨.bool u, by simp [execOp, ht, asBool, hu], u, rfl, by simp [hq, hnp]⟩

end Go.Q
