/-
  THE ABSTRACT MACHINE, EIGHTH PART: structs and arrays compared and built; slices cut; the rest of the operations. No program is named here.
-/
import Derived.Test.YtjmgnodeohmboaaDoorAm6
import Derived.ChangeKeysEq
namespace Go.Proofs.YtjmgnodeohmboaaDoor.Am
set_option linter.unusedSimpArgs false
set_option linter.unusedVariables false
open Go
section
variable {P : Program} {O F F' : Nat → Prop} {w w' : World} {B B' : List Loc} {ts : Nat → AV} {mem mem' : List Blk} {a : Act} {o : Oper}

theorem eqCells_split : ∀ (k1 k2 : List EK) (cs ds : List AV) (r : Bool), eqCells (k1 ++ k2) cs ds = some r → k1.length + k2.length = cs.length → k1.length + k2.length = ds.length →
    ∃ r1 r2, eqCells k1 (cs.take k1.length) (ds.take k1.length) = some r1 ∧ eqCells k2 (cs.drop k1.length) (ds.drop k1.length) = some r2 ∧ r = (r1 && r2)
  | [], k2, cs, ds, r, h, _, _ => ⟨true, r, by simp [eqCells], by simpa using h, by simp⟩
  | k :: k1, k2, cs, ds, r, h, h1, h2 => by
    cases cs with
    | nil => simp at h1
    | cons c cs => cases ds with
      | nil => simp at h2
      | cons d ds =>
        simp only [List.cons_append] at h
        simp only [List.length_cons] at h1 h2
        unfold eqCells at h
        split at h
        · rename_i hk _ _; cases hk
        · rename_i heq1 heq2 heq3; cases heq1; cases heq2; cases heq3
          split at h
          · rename_i _ a1 _ b1 hkk
            cases hr : eqCells (k1 ++ k2) cs ds with
            | none => simp [hr] at h
            | some r' =>
              obtain ⟨r1, r2, g1, g2, g3⟩ := eqCells_split k1 k2 cs ds r' hr (by omega) (by omega)
              simp [hr] at h
              exact ⟨(a1 == b1 && r1), r2, by simp [eqCells, hkk, g1], by simpa using g2, by rw [← h, g3, Bool.and_assoc]⟩
          · cases h
        · rename_i heq1 heq2 heq3; cases heq1; cases heq2; cases heq3
          rename_i a1 b1
          cases hr : eqCells (k1 ++ k2) cs ds with
          | none => simp [hr] at h
          | some r' =>
            obtain ⟨r1, r2, g1, g2, g3⟩ := eqCells_split k1 k2 cs ds r' hr (by omega) (by omega)
            simp [hr] at h
            exact ⟨(a1 == b1 && r1), r2, by simp [eqCells, g1], by simpa using g2, by rw [← h, g3, Bool.and_assoc]⟩
        · rename_i heq1 heq2 heq3; cases heq1; cases heq2; cases heq3
          rename_i a1 b1
          cases hr : eqCells (k1 ++ k2) cs ds with
          | none => simp [hr] at h
          | some r' =>
            obtain ⟨r1, r2, g1, g2, g3⟩ := eqCells_split k1 k2 cs ds r' hr (by omega) (by omega)
            simp [hr] at h
            exact ⟨(a1 == b1 && r1), r2, by simp [eqCells, g1], by simpa using g2, by rw [← h, g3, Bool.and_assoc]⟩
        · cases h

theorem eqI {cs ds : List AV} {r : Bool} (h : eqCells [.i] cs ds = some r) : ∃ k a b, cs = [.v (.int k a)] ∧ ds = [.v (.int k b)] ∧ r = (a == b) := by
  unfold eqCells at h
  split at h
  · contradiction
  · rename_i heq
    cases heq
    rename_i r1 _ _ s1
    split at h
    · rename_i hk
      subst hk
      cases r1 with
      | nil => cases s1 with
        | nil => simp [eqCells] at h; exact ⟨_, _, _, rfl, rfl, h.symm⟩
        | cons _ _ => simp [eqCells] at h
      | cons _ _ => simp [eqCells] at h
    · contradiction
  · rename_i heq; cases heq
  · rename_i heq; cases heq
  · contradiction
theorem eqS {cs ds : List AV} {r : Bool} (h : eqCells [.s] cs ds = some r) : ∃ a b, cs = [.v (.string a)] ∧ ds = [.v (.string b)] ∧ r = (a == b) := by
  unfold eqCells at h
  split at h
  · contradiction
  · rename_i heq; cases heq
  · rename_i heq
    cases heq
    rename_i r1 _ s1
    cases r1 with
    | nil => cases s1 with
      | nil => simp [eqCells] at h; exact ⟨_, _, rfl, rfl, h.symm⟩
      | cons _ _ => simp [eqCells] at h
    | cons _ _ => simp [eqCells] at h
  · rename_i heq; cases heq
  · contradiction
theorem eqB {cs ds : List AV} {r : Bool} (h : eqCells [.b] cs ds = some r) : ∃ a b, cs = [.v (.bool a)] ∧ ds = [.v (.bool b)] ∧ r = (a == b) := by
  unfold eqCells at h
  split at h
  · contradiction
  · rename_i heq; cases heq
  · rename_i heq; cases heq
  · rename_i heq
    cases heq
    rename_i r1 _ s1
    cases r1 with
    | nil => cases s1 with
      | nil => simp [eqCells] at h; exact ⟨_, _, rfl, rfl, h.symm⟩
      | cons _ _ => simp [eqCells] at h
    | cons _ _ => simp [eqCells] at h
  · contradiction

/-- A value of a type, by its cells. -/
def valOf (P : Program) (t : TypeId) (xs : List Value) (v : Value) : Prop := if aggOf P t then v = .agg xs.toArray else xs = [v]

theorem part_val {t : TypeId} {k : Bool × Nat} (hk : kOf P t = some k) (xs : List Value) (off : Nat) (hl : off + k.2 ≤ xs.length) (h1 : k.1 = false → k.2 = 1) :
    ∃ v, (part t xs.toArray off).run P w = .ok v w ∧ valOf P t ((xs.drop off).take k.2) v := by
  obtain ⟨r1, r2⟩ := run_agg (P := P) (w := w) hk
  have ha : aggOf P t = k.1 := by
    unfold kOf at hk
    split at hk
    · cases hk; rfl
    · cases hk
  cases hg : k.1 with
  | true =>
    refine ⟨.agg ((xs.drop off).take k.2).toArray, ?_, by simp [valOf, ha, hg]⟩
    simp only [part, Sem.run_bind, r1, Result.andThen_ok, hg, if_true, r2, Sem.run_pure]
    congr 2
    simp [List.extract_eq_take_drop]
  | false =>
    have hk1 := h1 hg
    have hlt : off < xs.length := by omega
    refine ⟨xs[off], ?_, ?_⟩
    · simp only [part, Sem.run_bind, r1, Result.andThen_ok, hg]
      simp [hlt]
    · simp only [valOf, ha, hg, hk1, Bool.false_eq_true, if_false]
      rw [List.drop_eq_getElem_cons hlt]; rfl

theorem flatK_one {d : Nat} {t : TypeId} {ks : List EK} (h : flatK P d t = some ks) (ha : aggOf P t = false) : ks.length = 1 := by
  cases d with
  | zero => simp [flatK] at h
  | succ d =>
    unfold flatK at h
    unfold aggOf at ha
    split at h
    · cases h; rfl
    · cases h; rfl
    · cases h; rfl
    · rename_i hu; simp [hu] at ha
    · rename_i hu; simp [hu] at ha
    · cases h

theorem eq_flat : ∀ (d : Nat) (k : Nat) (t : TypeId) (ks : List EK), flatK P d t = some ks → ∀ (cs ds : List AV) (xs ys : List Value) (r : Bool), CR F w B cs xs → CR F w B ds ys → ks.length = cs.length → ks.length = ds.length → eqCells ks cs ds = some r →
    ∀ vx vy, valOf P t xs vx → valOf P t ys vy → (Op.equalIn (k + d) t vx vy).run P w = .ok r w
  | 0, _, _, _, h => by simp [flatK] at h
  | d + 1, k, t, ks, h => by
    intro cs ds xs ys r hc hd hl1 hl2 he vx vy hx hy
    have ih := eq_flat d k
    unfold flatK at h
    split at h
    · rename_i ki hu
      cases h
      have ha : aggOf P t = false := by simp [aggOf, hu]
      simp only [valOf, ha, Bool.false_eq_true, if_false] at hx hy
      subst hx; subst hy
      obtain ⟨_, _, _, rfl, rfl, rfl⟩ := eqI he
      obtain ⟨x1, q1, h1⟩ := hc.of_one
      obtain ⟨y1, q2, h2⟩ := hd.of_one
      cases q1; cases q2
      rw [h1.of_v, h2.of_v, show k + (d + 1) = (k + d) + 1 by omega]
      exact run_equalIn_int w (k + d) t _ _ _ _ hu
    · rename_i hu
      cases h
      have ha : aggOf P t = false := by simp [aggOf, hu]
      simp only [valOf, ha, Bool.false_eq_true, if_false] at hx hy
      subst hx; subst hy
      obtain ⟨_, _, rfl, rfl, rfl⟩ := eqS he
      obtain ⟨x1, q1, h1⟩ := hc.of_one
      obtain ⟨y1, q2, h2⟩ := hd.of_one
      cases q1; cases q2
      rw [h1.of_v, h2.of_v, show k + (d + 1) = (k + d) + 1 by omega]
      rw [beq_toListBytes]; exact run_equalIn_string w (k + d) t _ _ hu
    · rename_i hu
      cases h
      have ha : aggOf P t = false := by simp [aggOf, hu]
      simp only [valOf, ha, Bool.false_eq_true, if_false] at hx hy
      subst hx; subst hy
      obtain ⟨_, _, rfl, rfl, rfl⟩ := eqB he
      obtain ⟨x1, q1, h1⟩ := hc.of_one
      obtain ⟨y1, q2, h2⟩ := hd.of_one
      cases q1; cases q2
      rw [h1.of_v, h2.of_v, show k + (d + 1) = (k + d) + 1 by omega]
      exact run_equalIn_bool' w (k + d) t _ _ hu
    · rename_i fs hu
      split at h
      · cases h
      · rename_i hst
        have ha : aggOf P t = true := by simp [aggOf, hu]
        simp only [valOf, ha, if_true] at hx hy
        subst hx; subst hy
        rw [show k + (d + 1) = (k + d) + 1 by omega]
        have hfo : P.fieldsOf t = fs := by unfold Program.fieldsOf; rw [hu]
        rw [run_equalIn_struct w (k + d) t _ _ (by rw [hfo]; exact hu) (by simpa using hst), hfo]
        have hxl : xs.length = cs.length := hc.length
        have hyl : ys.length = ds.length := hd.length
        have key : ∀ (l : List Field) (o : Nat) (ks : List EK), fieldsK P (flatK P d) l o = some ks → ∀ r, o + ks.length = cs.length → o + ks.length = ds.length → eqCells ks (cs.drop o) (ds.drop o) = some r →
            (Op.eqFields (k + d) xs.toArray ys.toArray l).run P w = .ok r w := by
          intro l
          induction l with
          | nil =>
            intro o ks h r h1 h2 he
            simp [fieldsK] at h; subst h
            simp at h1 h2
            rw [List.drop_of_length_le (by omega), List.drop_of_length_le (by omega)] at he
            simp [eqCells] at he; subst he
            simp [Op.eqFields]
          | cons f l ihl =>
            intro o ks h r h1 h2 he
            unfold fieldsK at h
            split at h
            · rename_i ks1 n hk1 hk2
              split at h
              · rename_i hcond
                obtain ⟨ho, hn, hname⟩ := hcond
                cases hq : fieldsK P (flatK P d) l (o + n.2) with
                | none => simp [hq] at h
                | some ks2 =>
                  simp [hq] at h; subst h
                  simp only [List.length_append] at h1 h2
                  obtain ⟨r1, r2, g1, g2, g3⟩ := eqCells_split ks1 ks2 _ _ r he (by simp; omega) (by simp; omega)
                  have hone : n.1 = false → n.2 = 1 := fun hf => by
                    have ha : aggOf P f.type = n.1 := by
                      unfold kOf at hk2
                      split at hk2
                      · cases hk2; rfl
                      · cases hk2
                    rw [hn]; exact flatK_one hk1 (by rw [ha, hf])
                  obtain ⟨va, ra, hva⟩ := part_val (w := w) hk2 xs f.offset (by omega) hone
                  obtain ⟨vb, rb, hvb⟩ := part_val (w := w) hk2 ys f.offset (by omega) hone
                  have hcr1 := (hc.drop o).take n.2
                  have hcr2 := (hd.drop o).take n.2
                  rw [← hn] at g1 g2
                  rw [ho] at ra rb hva hvb
                  have heq := ih f.type ks1 hk1 _ _ _ _ r1 hcr1 hcr2 (by simp; omega) (by simp; omega) g1 va vb hva hvb
                  have hrest := ihl (o + n.2) ks2 hq r2 (by omega) (by omega) (by simpa [List.drop_drop] using g2)
                  simp only [Op.eqFields]
                  rw [if_pos hname, ho]
                  simp only [Sem.run_bind, ra, rb, Result.andThen_ok, heq]
                  cases r1 with
                  | true => simp [hrest, g3]
                  | false => simp [g3]
              · cases h
            · cases h
        exact key fs.toList 0 ks h r (by omega) (by omega) (by simpa using he)
    · rename_i n e hu
      split at h
      · rename_i ks1 m hk1 hk2
        split at h
        · rename_i hcond
          obtain ⟨hm1, hm2⟩ := hcond
          cases h
          have ha : aggOf P t = true := by simp [aggOf, hu]
          simp only [valOf, ha, if_true] at hx hy
          subst hx; subst hy
          rw [show k + (d + 1) = (k + d) + 1 by omega]
          obtain ⟨i, hi, his⟩ := info_of (kOf_some hk2)
          rw [run_equalIn_array w (k + d) _ _ hu hi]
          have hcell : P.cellsOf e = m.2 := by simp [Program.cellsOf, hi, his]
          rw [hcell]
          have hxl : xs.length = cs.length := hc.length
          have hyl : ys.length = ds.length := hd.length
          have hone : m.1 = false → m.2 = 1 := fun hf => by
            have ha : aggOf P e = m.1 := by
              unfold kOf at hk2
              split at hk2
              · cases hk2; rfl
              · cases hk2
            rw [hm1]; exact flatK_one hk1 (by rw [ha, hf])
          have key : ∀ (q j : Nat) (r : Bool), j * m.2 + q * m.2 = cs.length → j * m.2 + q * m.2 = ds.length → eqCells (List.replicate q ks1).flatten (cs.drop (j * m.2)) (ds.drop (j * m.2)) = some r →
              (Op.eqItems (k + d) e m.2 xs.toArray ys.toArray (List.range' j q)).run P w = .ok r w := by
            intro q
            induction q with
            | zero =>
              intro j r h1 h2 he
              simp at h1 h2
              rw [List.drop_of_length_le (by omega), List.drop_of_length_le (by omega)] at he
              simp [eqCells] at he; subst he
              simp [Op.eqItems]
            | succ q ihq =>
              intro j r h1 h2 he
              rw [Nat.add_mul] at h1 h2
              simp only [List.replicate_succ, List.flatten_cons] at he
              have hlen : ((List.replicate q ks1).flatten).length = q * m.2 := by simp [hm1]
              obtain ⟨r1, r2, g1, g2, g3⟩ := eqCells_split ks1 _ _ _ r he (by simp only [hlen, List.length_drop]; omega) (by simp only [hlen, List.length_drop]; omega)
              obtain ⟨va, ra, hva⟩ := part_val (w := w) hk2 xs (j * m.2) (by omega) hone
              obtain ⟨vb, rb, hvb⟩ := part_val (w := w) hk2 ys (j * m.2) (by omega) hone
              have hcr1 := (hc.drop (j * m.2)).take m.2
              have hcr2 := (hd.drop (j * m.2)).take m.2
              rw [← hm1] at g1 g2
              have heq := ih e ks1 hk1 _ _ _ _ r1 hcr1 hcr2 (by simp; omega) (by simp; omega) g1 va vb hva hvb
              have hrest := ihq (j + 1) r2 (by rw [Nat.add_mul]; omega) (by rw [Nat.add_mul]; omega) (by simpa [List.drop_drop, Nat.add_mul] using g2)
              simp only [List.range'_succ, Op.eqItems]
              simp only [Sem.run_bind, ra, rb, Result.andThen_ok, heq]
              cases r1 with
              | true => simp [hrest, g3]
              | false => simp [g3]
          rw [List.range_eq_range']
          refine key n 0 r ?_ ?_ (by simpa using he)
          · simp at hl1 ⊢; rw [← hl1, hm1]
          · simp at hl2 ⊢; rw [← hl2, hm1]
        · cases h
      · cases h
    · cases h

end
end Go.Proofs.YtjmgnodeohmboaaDoor.Am
