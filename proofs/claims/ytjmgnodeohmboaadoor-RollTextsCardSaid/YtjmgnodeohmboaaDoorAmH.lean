/-
  THE ABSTRACT MACHINE, EIGHTEENTH PART: from a law's contract to its row: the arguments as they are read. No program is named here.
-/
import Derived.Test.YtjmgnodeohmboaaDoorAmG
import Derived.ProofKit
import Derived.Carry
import Derived.ChangeArms
namespace Go.Proofs.YtjmgnodeohmboaaDoor.Am
set_option linter.unusedSimpArgs false
set_option linter.unusedVariables false
open Go Go.RowKit Go.ChangeShapes Go.WideShapes

/-- Blocks that were there ahead of the call. -/
def old (w : World) : Nat → Prop := fun b => b < w.heap.size

theorem law_calls {P : Program} {f : FuncId} {sp : Spec} (h : CallOk P f sp) (he : Enters P f) {args : List AV} {vs : List Value} {w : World} {x : Value} (hsp : sp args [] = some (.ret (.v x), []))
    (hc : CR (old w) w [] args vs) (hG : Gl (old w) w := by exact ⟨by simp [globs], trivial⟩) : Calls P f vs.toArray w fun e w' => e = .returned x ∧ Below w.heap.size w w' := by
  have hm0 : MR (fun b => w.heap.size ≤ b) (old w) w [] [] := by
      refine ⟨rfl, fun i b l h => by simp at h, fun i j b h => ?_, fun i b h => ?_, fun b h => h, hG⟩
      · obtain ⟨_, _, h1, _⟩ := ownB_some h; simp at h1
      · obtain ⟨_, _, h1, _⟩ := ownB_some h; simp at h1
  rcases h with ⟨_, h⟩ | h | h
  · have hm : MR (fun b => w.heap.size ≤ b) (old w) w [] [] := by
      refine ⟨rfl, fun i b l h => by simp at h, fun i j b h => ?_, fun i b h => ?_, fun b h => h, hG⟩
      · obtain ⟨_, _, h1, _⟩ := ownB_some h; simp at h1
      · obtain ⟨_, _, h1, _⟩ := ownB_some h; simp at h1
    refine (h args [] _ [] hsp _ (old w) [] w vs (fun b hb => hb) hm hc).mono ?_
    rintro e w' ⟨F', B', _, _, hev, _, hr⟩
    refine ⟨?_, ⟨hev.os, hev.tape, hev.output, hev.size, fun k hk => hev.block k hk (by simpa using hk)⟩⟩
    cases e with
    | returned y => simp only [RelRes] at hr; rw [hr.of_v]
    | panicked ch => exact hr.elim
    | outgrown => exact hr.elim
  · obtain ⟨_, _, v, hv, hx⟩ := h args [] _ [] hsp
    obtain ⟨y, hy, _⟩ := hx (old w) w vs hc
    rw [enters_run he] at hy
    cases hy
  · obtain ⟨_, v, hv, hx⟩ := h args [] _ [] hsp
    obtain ⟨y, hy, _⟩ := hx _ (old w) [] w vs hm0 hc
    rw [enters_run he] at hy
    cases hy

/-- A call that writes nothing of what was there: its row's condition behind the call. -/
theorem post_of_below {H : Type} {enc : TypeId × Value → H} {P : Program} {f : Func} {s : ChangeSpec} {apart fresh handsOn again : Bool} {W W' : World} {args : Array Value} {v : Value} {ds gs : List (DataW H)} {before pa pv : List MemPlace}
    (hW : DataW.Whole enc P f.params.toList s.vars apart W args.toList ds gs before)
    (hres : ∀ (b : Nat) (sp : Nat → Bool) (hd : Bool), DataW.TrodAll enc P W' b sp hd f.resultTypes.toList (v.resultList f.resultTypes.size) (s.fn H (ds ++ gs)).results [])
    (hargs : ∀ sp : Nat → Bool, (∀ p ∈ before, sp p.block = true) → DataW.TrodAll enc P W' 0 sp true f.params.toList args.toList (s.fn H (ds ++ gs)).args pa)
    (hvars : ∀ sp : Nat → Bool, (∀ p ∈ before, sp p.block = true) → DataW.TrodVars enc P W' sp s.vars (s.fn H (ds ++ gs)).vars pv)
    (hps : before = pa ++ pv) (hb : Below W.heap.size W W')
    (hok : ∀ (j : Nat) (t : TypeId) (r : Value), f.resultTypes[j]? = some t → (v.resultList f.resultTypes.size)[j]? = some r → Value.okWide P W' .any 0 t r) :
    s.post enc P f apart fresh handsOn again W args v W' := by
  have hold : ∀ p ∈ before, (fun b => decide (b < W.heap.size)) p.block = true := fun p hp => by simpa using hW.lt p hp
  refine ⟨ds, gs, before, [], pa, pv, hW, hres _ _ _, hargs _ hold, hvars _ hold, hb.frame _, fun _ => ?_⟩
  have hlt := hW.lt
  obtain ⟨_, _, _, _, _, hz, hn⟩ := hW
  refine ⟨hok, _, _, ([] ++ pa) ++ pv, ⟨[] ++ pa, pv, trodAll_append (hargs _ (fun _ _ => rfl)) (hres _ _ _), hvars _ (fun _ _ => rfl), rfl, ?_, ?_⟩, ?_⟩
  · intro b off hp
    have hp' : MemPlace.cell b off ∈ before := by rw [hps]; simpa using hp
    rw [hb.frozen (p := ⟨b, off, none⟩) (hlt _ hp')]
    exact hz b off hp'
  · intro ha
    have := hn ha
    rw [hps] at this
    simpa using this
  · intro p hp _
    rw [hps]
    simpa using hp

section
variable {H : Type} {enc : TypeId × Value → H} {P : Program} {w : World} {spare : Nat → Bool} {held : Bool} {fuel : Nat} {t : TypeId} {cs : List Value} {x : DataW H × List MemPlace}

theorem cells_of {a : Addr} {n : Nat} {ys : List Value} (h : w.cells? 0 a n = some ys) : ys.length = n ∧ ∀ i, i < n → w.cell? ⟨a.block, a.off + i, none⟩ = ys[i]? ∧ (a.add i).spot = none := by
  unfold World.cells? at h
  rw [if_pos (Nat.zero_le _)] at h
  have hl := mapM_some_length h
  refine ⟨by simpa using hl, fun i hi => ?_⟩
  have hv := mapM_some_get h i i (by simp [hi])
  obtain ⟨v, hys⟩ : ∃ v, ys[i]? = some v := ⟨_, List.getElem?_eq_getElem (by rw [hl]; simpa using hi)⟩
  rw [hys] at hv ⊢
  have hspot : (a.add i).spot = none := by
    cases hsp : (a.add i).spot with
    | none => rfl
    | some s =>
      simp only [World.cell?] at hv
      split at hv
      · simp [hsp] at hv
      · cases hv
  refine ⟨?_, hspot⟩
  have e : a.add i = ⟨a.block, a.off + i, none⟩ := by
    unfold Addr.add at hspot ⊢
    split
    · rename_i h0
      subst h0
      rw [if_pos rfl] at hspot
      cases a
      simp_all
    · rfl
  rw [← e]; exact hv

/-- A slice that came as an argument: its elements, each as a relation tells. -/
theorem slice_of_trod {e : TypeId} (ht : P.underlying t = some (.slice e)) {n : Nat} (hn : P.cellsOf e = n) (hpos : 0 < n) (R : AV → Prop)
    (hel : ∀ (fuel : Nat) (cs : List Value) (y : DataW H × List MemPlace), DataW.trod enc P w 0 spare held fuel e cs = some y → cs.length = n → ∃ a, R a ∧ a.cells.length = n ∧ CR (old w) w [] a.cells cs)
    (h : DataW.trod enc P w 0 spare held fuel t cs = some x) : ∃ (v : Value) (es : List AV), cs = [v] ∧ VR (old w) w [] (.fsl n es) v ∧ (∀ a ∈ es, R a) ∧ es.length ≤ maxLen := by
  rcases DataW.trod_slice ht h with ⟨rfl, _⟩ | ⟨a, len, cap, elems, rest, m, rfl, rfl, _, _, hlc, hcap, hlen, hels, _, _⟩
  · exact ⟨_, [], rfl, .fslNil none 0, by simp, by simp [maxLen]⟩
  · rw [hn] at hels
    by_cases h0 : len = 0
    · subst h0
      exact ⟨_, [], rfl, .fslNil (some a) cap, by simp, by simp [maxLen]⟩
    have one : ∀ i, i < len → ∃ (ys : List Value) (b : AV), w.cells? 0 (a.add (i * n)) n = some ys ∧ R b ∧ b.cells.length = n ∧ CR (old w) w [] b.cells ys := by
      intro i hi
      have hb := hels i hi
      obtain ⟨y, hy⟩ : ∃ y, elems[i]? = some y := ⟨_, List.getElem?_eq_getElem (by omega)⟩
      rw [hy, Option.bind_eq_some_iff] at hb
      obtain ⟨ys, h1, h2⟩ := hb
      obtain ⟨b, r1, r2, r3⟩ := hel m ys y h2 (cells_of h1).1
      exact ⟨ys, b, h1, r1, r2, r3⟩
    have hspot : a.spot = none := by
      obtain ⟨ys, b, h1, _⟩ := one 0 (by omega)
      have := ((cells_of h1).2 0 hpos).2
      simpa [Addr.add] using this
    have addE : ∀ i, a.add i = ⟨a.block, a.off + i, none⟩ := by
      intro i
      unfold Addr.add
      split
      · rename_i h0; subst h0; cases a; simp_all
      · rfl
    have many : ∀ k, k ≤ len → ∃ (es : List AV) (xs : List Value), es.length = k ∧ (∀ b ∈ es, R b ∧ b.cells.length = n) ∧ CR (old w) w [] (AV.cellsAll es) xs ∧ xs.length = k * n ∧ ∀ j y, xs[j]? = some y → w.cell? ⟨a.block, a.off + j, none⟩ = some y := by
      intro k
      induction k with
      | zero => intro _; exact ⟨[], [], rfl, by simp, .nil, by simp, by simp⟩
      | succ k ih =>
        intro hk
        obtain ⟨es, xs, e1, e2, e3, e4, e5⟩ := ih (by omega)
        obtain ⟨ys, b, c1, c2, c3, c4⟩ := one k (by omega)
        obtain ⟨l1, l2⟩ := cells_of c1
        refine ⟨es ++ [b], xs ++ ys, by simp [e1], ?_, ?_, by simp [e4, l1, Nat.succ_mul], ?_⟩
        · intro b' hb'
          rcases List.mem_append.1 hb' with hb' | hb'
          · exact e2 b' hb'
          · rw [List.mem_singleton.1 hb']; exact ⟨c2, c3⟩
        · have : AV.cellsAll (es ++ [b]) = AV.cellsAll es ++ b.cells := by
            clear e1 e2 e3 e4 e5
            induction es with
            | nil => simp [AV.cellsAll]
            | cons e es ih => simp [AV.cellsAll, ih]
          rw [this]; exact CR.append e3 c4
        · intro j y hj
          by_cases hjk : j < xs.length
          · rw [List.getElem?_append_left hjk] at hj; exact e5 j y hj
          · rw [List.getElem?_append_right (by omega)] at hj
            have hlt : j - xs.length < n := by have := (List.getElem?_eq_some_iff.1 hj).1; omega
            have := (l2 (j - xs.length) hlt).1
            rw [hj, addE] at this
            simp only at this
            rw [show a.off + j = a.off + k * n + (j - xs.length) by omega]
            exact this
    obtain ⟨es, xs, e1, e2, e3, e4, e5⟩ := many len (Nat.le_refl _)
    obtain ⟨b, off, spot⟩ := a
    simp only at hspot e5
    subst hspot
    have hlt : b < w.heap.size := by
      obtain ⟨y, hy⟩ : ∃ y, xs[0]? = some y := ⟨_, List.getElem?_eq_getElem (by rw [e4]; exact Nat.mul_pos (by omega) hpos)⟩
      have := e5 0 y hy
      simp only [World.cell?] at this
      split at this
      · rename_i hh
        have := Array.getElem?_eq_some_iff.1 hh
        exact this.1
      · cases this
    have hv := VR.fsl (F := old w) (w := w) (B := []) (sz := n) (es := es) b off cap e3 (fun e he => (e2 e he).2) hlt e5 (by omega)
    rw [e1] at hv
    exact ⟨_, es, rfl, hv, fun a ha => (e2 a ha).1, by omega⟩
end
end Go.Proofs.YtjmgnodeohmboaaDoor.Am
