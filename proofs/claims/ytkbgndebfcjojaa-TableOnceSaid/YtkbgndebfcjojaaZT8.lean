/-
  A VOTE TAKEN IN A TABLE (the program).
-/
import Derived.Test.YtkbgndebfcjojaaZT7
import Derived.Test.YtkbgndebfcjojaaZSIOp
namespace Go.Proofs.Ytkbgndebfcjojaa.Am
set_option linter.unusedSimpArgs false
set_option linter.unusedVariables false
open Go Go.Proofs
attribute [local irreducible] wpA
attribute [-simp] splice

theorem sort_of {α : Type} {key : α → Int} : ∀ {l : List α}, (∀ (i : Nat) (p m : α), l[i]? = some p → l[i + 1]? = some m → key p < key m) → SortK key l
  | [], _ => List.Pairwise.nil
  | [x], _ => List.pairwise_singleton _ _
  | x :: y :: l, h => by
    have h2 : SortK key (y :: l) := sort_of fun i p m hp hm => h (i + 1) p m (by simpa using hp) (by simpa using hm)
    have hxy : key x < key y := h 0 x y rfl rfl
    refine List.Pairwise.cons (fun z hz => ?_) h2
    rcases List.mem_cons.1 hz with rfl | hz
    · exact hxy
    · have := (List.pairwise_cons.1 h2).1 z hz
      omega
theorem right_sort {t : Tb} (h : rightT t = true) : SortK keyOp t.os := sort_of fun i p m hp hm => (rightL_iff.1 (rightT_iff.1 h).2.2).2 i p m hp hm
theorem right_all {t : Tb} (h : rightT t = true) : ∀ o ∈ t.os, rightO t.m t.b o = true := (rightL_iff.1 (rightT_iff.1 h).2.2).1
theorem right_base {t : Tb} (h : rightT t = true) {i : Nat} (hi : i < 16) : baseT t.b i ≤ 1000 ∧ (0 < baseT t.b i → hasS t.m i = true) := by
  have := rightV_iff.1 (rightT_iff.1 h).2.1 i hi
  simp only [badV, Bool.or_eq_false_iff, decide_eq_false_iff_not, Bool.and_eq_false_iff, Bool.not_eq_false'] at this
  refine ⟨by omega, fun h0 => ?_⟩
  rcases this.2 with h | h
  · omega
  · exact h

/-! ### What comes of a vote -/
structure Tt where
  t : Tb
  o : List Ou
  b : ByteArray
  i : Bool
  x : Int
def failT (t : Tb) (x : Int) : Tt := ⟨t, [], noS, false, x⟩
def zCs : Cs := ⟨false, false, false, [], []⟩
def caseT (l : List Op) (f : Nat) (q : Int) : Cs := match findK ((f : Int) * 2000 + q) l with
  | some o => o.c
  | none => zCs
def repK (o : Op) (l : List Op) : List Op := if isK' keyOp (keyOp o) l = true then l.set (posK keyOp (keyOp o) l) o else insK keyOp o l
def doneT (t : Tb) (n : Nm) (v : Vt) (l : List Op) : Tt := ⟨⟨t.v, t.m, t.b.set n.f (settleN l.length n.f (baseT t.b n.f) l).1, (settleN l.length n.f (baseT t.b n.f) l).2⟩, v.o, v.b, v.i, 0⟩
noncomputable def takeT (t : Tb) (n : Nm) (kind : Int) (who : Nat) (s : ByteArray) : Tt :=
  if mayT t n ≠ 0 then failT t (mayT t n)
  else if (takeV (caseT t.os n.f n.q) t.m n.f kind who s).x ≠ 0 then failT t (takeV (caseT t.os n.f n.q) t.m n.f kind who s).x
  else doneT t n (takeV (caseT t.os n.f n.q) t.m n.f kind who s) (repK ⟨n.f, n.q, (takeV (caseT t.os n.f n.q) t.m n.f kind who s).c⟩ t.os)
theorem may_zero {t : Tb} {n : Nm} (h : mayT t n = 0) : rightT t = true ∧ n.v = t.v ∧ hasS t.m n.f = true ∧ 0 ≤ n.q ∧ n.q < 1000 ∧ (baseT t.b n.f : Int) ≤ n.q ∧ n.q < (baseT t.b n.f : Int) + 8 := by
  unfold mayT at h
  split at h
  · omega
  · rename_i h1
    split at h
    · omega
    · rename_i h2
      split at h
      · omega
      · rename_i h3
        split at h
        · omega
        · rename_i h4
          split at h
          · omega
          · split at h
            · omega
            · exact ⟨by simpa using h1, by simpa using h2, by simpa using h3, by omega, by omega, by omega, by omega⟩
def avTt (r : Tt) : AV := .tup [avTb r.t, .fsl 2 (r.o.map avOu), .v (.string r.b), .v (.bool r.i), .v (.int .i64 r.x)]
theorem un_cs0 (e r d : Bool) : un avCs (.agg [.v (.bool e), .v (.bool r), .v (.bool d), .fsl 2 [], .fsl 2 []]) = some ⟨e, r, d, [], []⟩ := un_cs e r d [] []
attribute [simp] un_cs0
theorem settle_same : ∀ {k f n : Nat} {l : List Op}, (settleN k f n l).1 = n → (settleN k f n l).2 = l
  | 0, _, _, _, _ => rfl
  | k + 1, f, n, l, h => by
    have mono : ∀ (k f n : Nat) (l : List Op), n ≤ (settleN k f n l).1 := by
      intro k
      induction k with
      | zero => intro f n l; exact Nat.le_refl _
      | succ k ih =>
        intro f n l
        unfold settleN
        split
        · split
          · have := ih f (n + 1) (delK ((f : Int) * 2000 + (n : Int)) l); omega
          · exact Nat.le_refl _
        · exact Nat.le_refl _
    unfold settleN at h ⊢
    split at h
    · split at h
      · have := mono k f (n + 1) (delK ((f : Int) * 2000 + (n : Int)) l); omega
      · rename_i h1 h2; simp [h1, h2]
    · rename_i h1; simp [h1]
theorem rep_mem {o x : Op} {l : List Op} (h : x ∈ repK o l) : x = o ∨ x ∈ l := by
  unfold repK at h
  split at h
  · exact (List.mem_or_eq_of_mem_set h).symm
  · exact mem_insK.1 h
theorem rep_sort {o : Op} {l : List Op} (hs : SortK keyOp l) : SortK keyOp (repK o l) := by
  unfold repK
  split
  · rename_i h
    obtain ⟨x, hx, hk⟩ := is_at hs h
    unfold SortK at hs ⊢
    rw [List.pairwise_iff_getElem] at hs ⊢
    intro i j hi hj hij
    simp only [List.length_set] at hi hj
    have hxl := (List.getElem?_eq_some_iff.1 hx).1
    have hxe := (List.getElem?_eq_some_iff.1 hx).2
    have h1 := hs i j hi hj hij
    rw [List.getElem_set, List.getElem_set]
    split
    · rename_i h2
      subst h2
      rw [if_neg (by omega)]
      rw [hxe, hk] at h1
      exact h1
    · split
      · rename_i h3
        subst h3
        rw [hxe, hk] at h1
        exact h1
      · exact h1
  · rename_i h
    exact insK_sort hs (by simpa using h)
theorem repK_len {o : Op} {l : List Op} : (repK o l).length ≤ l.length + 1 := by
  unfold repK
  split
  · simp
  · rw [insK_length]; omega
theorem okSt_rep {v : Int} {m f : Nat} {b : List Nat} {l : List Op} {q : Int} {c : Cs} (hm : m < 65536) (hb : okV b) (hl : l.length ≤ 1000000) (hr : rightT ⟨v, m, b, l⟩ = true) (hf : hasS m f = true) (h0 : 0 ≤ q) (h1 : q < 1000) : okSt m b (repK ⟨f, q, c⟩ l) f := by
  have hf16 := has_lt hm hf
  refine ⟨hf16, hm, hb, (right_base hr hf16).1, by have := repK_len (o := ⟨f, q, c⟩) (l := l); omega, rep_sort (right_sort hr), fun o ho => ?_⟩
  rcases rep_mem ho with rfl | ho
  · exact ⟨⟨by simp only; omega, by simp only; omega, by simp only; omega⟩, h1⟩
  · have := right_all hr o ho
    exact ⟨right_ok hm this, (rightO_iff.1 this).2.2.2.1⟩
theorem set_shaped {l : List Op} {i : Nat} {o : Op} : ((l.map avOp).set i (avOp o)) = (l.set i o).map avOp := by rw [List.map_set]
noncomputable def spTakeT : Spec := sp5 avTb avNm (avI .i64) (avI .u8) avS (fun t n _ w _ => okTb t ∧ n.f < 256 ∧ 0 ≤ w ∧ w < 256) (fun t n k w s => avTt (takeT t n k w.toNat s))
set_option maxHeartbeats 32000000 in
theorem takeT_ok : CallOk Try.prog 12 spTakeT := by
  refine ok_12 (Env.put_ok [true] (Env.put_ok [true] (Env.put_ok [true, true, true] (Env.put_ok [true] (Env.put_ok [] (Env.put_ok [] (Env.none_ok _) (CallOk.fixD [.agg [.no, .no, .no, .k 2, .k 2]] takeV_ok))
    ownT_ok) (CallOk.borrow (g_23).enters may_ok)) insOp_ok) settle_ok)
    (CallOk.borrow (g_24).enters (CallOk.fixD [.no, .agg [.no, .no, .no, .no, .no, .k 2, .k 2]] (bsfOp_ok ordOp_ok)))) spTakeT (wb_sp5 ?_)
  rintro ⟨v, m, b, l⟩ ⟨nv, nf, nq⟩ k w s ⟨hok, hnf, hw0, hw1⟩
  obtain ⟨hm, hb, hll, hol⟩ := id hok
  simp only at hm hb hll hol hnf ⊢
  obtain ⟨w, rfl⟩ := Int.eq_ofNat_of_zero_le hw0
  have hm2 : (m : Int) < 65536 := by omega
  have hnf2 : (nf : Int) < 256 := by omega
  have hbl := hb.1
  simp only [avTb, avNm, avI, avS, Int.toNat_natCast]
  unfold ac_12
  by_cases hmay : mayT ⟨v, m, b, l⟩ ⟨nv, nf, nq⟩ = 0
  · -- MAIN
    have hmz := may_zero hmay
    obtain ⟨hrt, hnv, hhas, hq0, hq1, _⟩ := hmz
    simp only at hnv hhas hq0 hq1
    have hf16 := has_lt hm hhas
    have hf2 : (nf : Int) < 16 := by omega
    have hso := right_sort hrt
    simp only at hso
    have hsh := ops_shaped l
    have hll2 : l.length ≤ 100000000 := by omega
    have hoks : ∀ y ∈ l, okOp y := fun y hy => right_ok hm (right_all hrt y hy)
    have htake : takeT ⟨v, m, b, l⟩ ⟨nv, nf, nq⟩ k w s = if (takeV (caseT l nf nq) m nf k w s).x ≠ 0 then failT ⟨v, m, b, l⟩ (takeV (caseT l nf nq) m nf k w s).x
        else doneT ⟨v, m, b, l⟩ ⟨nv, nf, nq⟩ (takeV (caseT l nf nq) m nf k w s) (repK ⟨nf, nq, (takeV (caseT l nf nq) m nf k w s).c⟩ l) := by
      unfold takeT; rw [if_neg (by simp [hmay])]
    have hbsf := (bsfAt0 l nf nq).trans (if_pos ⟨hso, hll2, hoks, ⟨by simp only; omega, by simp only; omega, by simp only; omega⟩⟩)
    obtain ⟨T, hT⟩ : ∃ T, (nf : Int) * 2000 + nq = T := ⟨_, rfl⟩
    rw [hT] at hbsf
    obtain ⟨P, hPe⟩ : ∃ P, posK keyOp T l = P := ⟨_, rfl⟩
    have hP : (isK' keyOp T l = true → ∃ o, l[P]? = some o ∧ findK T l = some o ∧ keyOp o = T) ∧ (isK' keyOp T l = false → findK T l = none) := by
      refine ⟨fun h => ?_, find_no⟩
      obtain ⟨o, ho, hk⟩ := is_at hso h
      exact ⟨o, hPe ▸ ho, find_at hso ho hk, hk⟩
    obtain ⟨B, hB⟩ : ∃ B, isK' keyOp T l = B := ⟨_, rfl⟩
    rw [hPe, hB] at hbsf
    rw [hB] at hP
    cases B
    · have hfn := hP.2 rfl
      have hcs : caseT l nf nq = zCs := by unfold caseT; rw [hT, hfn]
      have hcok : okCs ⟨false, false, false, [], []⟩ := ⟨⟨by simp, by simp⟩, by simp, by simp⟩
      rw [hcs] at htake
      have hPl : P ≤ l.length := by rw [← hPe]; exact posK_le _ _
      have hPl' : (P : Int) ≤ (l.length : Int) := by omega
      have hrepK : ∀ c, repK ⟨nf, nq, c⟩ l = l.take P ++ [⟨nf, nq, c⟩] ++ l.drop P := fun c => by
        unfold repK
        have : keyOp ⟨nf, nq, c⟩ = T := hT
        rw [this, if_neg (by rw [hB]; simp)]
        unfold insK
        rw [this, hPe]
      unfold zCs at htake
      obtain ⟨⟨⟨ve, vr, vd, ves, vrs⟩, vo, vb, vi, vx⟩, htv⟩ : ∃ vv, takeV ⟨false, false, false, [], []⟩ m nf k w s = vv := ⟨_, rfl⟩
      rw [htv] at htake
      by_cases hvx : vx = 0
      · subst hvx
        have hxz : ((0 : Int) != 0) = false := rfl
        rw [if_neg (by simp)] at htake
        rw [htake]
        obtain ⟨l2, hl2⟩ : ∃ l2, l2 = repK ⟨nf, nq, ⟨ve, vr, vd, ves, vrs⟩⟩ l := ⟨_, rfl⟩
        have hst : okSt m b l2 nf := hl2 ▸ okSt_rep hm hb hll hrt hhas hq0 hq1
        rw [← hl2]
        rw [hrepK] at hl2
        have hrep : (l.map avOp).take P ++ .agg [.v (.int .u8 (nf : Nat)), .v (.int .i64 nq), .v (.bool ve), .v (.bool vr), .v (.bool vd), .fsl 2 (ves.map avBa), .fsl 2 (vrs.map avBa)] :: (l.map avOp).drop P = l2.map avOp := by rw [hl2]; simp [avOp, cOp]
        by_cases hs : (settleN l2.length nf (baseT b nf) l2).1 = baseT b nf
        · have hset : setM v m b l2 nf = [.var (tc v (m : Nat) b (.osl 1)), .arr 60 7 (l2.map avOp)] := by unfold setM; rw [if_pos hs]
          have hs2 := settle_same hs
          have hr1 : b.set nf (settleN l2.length nf (baseT b nf) l2).1 = b := by rw [hs]; exact set_self (by omega)
          have hr2 : (settleN l2.length nf (baseT b nf) l2).2 = l2 := hs2
          repeat' with_reducible first
          | refine stp ?_ | refine seg_both ?_ ?_ | refine seg_case (fun x h => ?_) (fun h => ?_) | refine seg_gate (fun h => ?_) (fun h => ?_) | refine seg_need ?_ ?_ | refine cond_v (fun h => ?_) (fun h => ?_)
          | refine seg_eval (by simp -dsimp -implicitDefEqProofs [hbl, zV_length, spOwnT, hok, spMay, hnf, hmay, hbsf, hPl, hPl', spInsOp, hsh, hll2, spTakeV, hcok, hm2, hnf2, hw1, htv, avVt, avCs, hxz, hrep, spSettle, hst, hset, Int.toNat_natCast]; rfl) ?_
          all_goals first
            | omega
            | exact hok
            | exact hcok
            | exact hst
            | (refine post_fin (vs := [.agg (tc v (m : Nat) b (.osl 7)), .fsl 2 (vo.map avOu), .v (.string vb), .v (.bool vi), .v (.int .i64 0)]) (by simp [rs_12, hbl]) rfl ⟨[7], [], ?_, ?_, ?_, ?_⟩ <;> simp [doneT, avTt, avTb, hr1, hr2])
            | trace_state
        · obtain ⟨bb, hbb⟩ : ∃ bb, bb = b.set nf (settleN l2.length nf (baseT b nf) l2).1 := ⟨_, rfl⟩
          have hbbl : bb.length = 16 := by rw [hbb, List.length_set]; exact hbl
          obtain ⟨l3, hl3⟩ : ∃ l3, l3 = (settleN l2.length nf (baseT b nf) l2).2 := ⟨_, rfl⟩
          have hset : setM v m b l2 nf = [.var (tc v (m : Nat) bb (.osl 2)), .gone, .arr 60 7 (l3.map avOp)] := by unfold setM; rw [if_neg hs, hbb, hl3]
          have hr1 : b.set nf (settleN l2.length nf (baseT b nf) l2).1 = bb := hbb.symm
          have hr2 : (settleN l2.length nf (baseT b nf) l2).2 = l3 := hl3.symm
          repeat' with_reducible first
          | refine stp ?_ | refine seg_both ?_ ?_ | refine seg_case (fun x h => ?_) (fun h => ?_) | refine seg_gate (fun h => ?_) (fun h => ?_) | refine seg_need ?_ ?_ | refine cond_v (fun h => ?_) (fun h => ?_)
          | refine seg_eval (by simp -dsimp -implicitDefEqProofs [hbl, zV_length, spOwnT, hok, spMay, hnf, hmay, hbsf, hPl, hPl', spInsOp, hsh, hll2, spTakeV, hcok, hm2, hnf2, hw1, htv, avVt, avCs, hxz, hrep, spSettle, hst, hset, hbbl, Int.toNat_natCast]; rfl) ?_
          all_goals first
            | omega
            | exact hok
            | exact hcok
            | exact hst
            | (refine post_fin (vs := [.agg (tc v (m : Nat) bb (.osl 8)), .fsl 2 (vo.map avOu), .v (.string vb), .v (.bool vi), .v (.int .i64 0)]) (by simp [rs_12, hbl, hbbl]) rfl ⟨[8], [], ?_, ?_, ?_, ?_⟩ <;> simp [doneT, avTt, avTb, hr1, hr2])
            | trace_state
      · rw [if_pos hvx] at htake
        rw [htake]
        generalize hx : vx = x at *
        have hxz : (x != 0) = true := by simp [hvx]
        repeat' with_reducible first
        | refine stp ?_ | refine seg_both ?_ ?_ | refine seg_case (fun x h => ?_) (fun h => ?_) | refine seg_gate (fun h => ?_) (fun h => ?_) | refine seg_need ?_ ?_ | refine cond_v (fun h => ?_) (fun h => ?_)
        | refine seg_eval (by simp -dsimp -implicitDefEqProofs [hbl, zV_length, spOwnT, hok, spMay, hnf, hmay, hbsf, hPl, hPl', spInsOp, hsh, hll2, spTakeV, hcok, hm2, hnf2, hw1, htv, avVt, avCs, hxz, Int.toNat_natCast]; rfl) ?_
        all_goals first
          | omega
          | exact hok
          | exact hcok
          | (refine post_finS (vs := [.agg (tc v (m : Nat) b (.osl 3)), .v (.slice none 0 0), .v (.string noS), .v (.bool false), .v (.int .i64 x)]) (by simp [rs_12, hbl, noS]) rfl
              (.tup (.cons (.rfl _) (.cons (.nil 0 2) (.cons (.rfl _) (.cons (.rfl _) (.cons (.rfl _) .nil)))))) ⟨[3], [], ?_, ?_, ?_, ?_⟩ <;> simp [failT, avTb])
          | trace_state
    · obtain ⟨o, ho, hfo, hko⟩ := hP.1 rfl
      have hPl : P < l.length := (List.getElem?_eq_some_iff.1 ho).1
      have hPl' : (P : Int) < (l.length : Int) := by omega
      have hget : l[P]'hPl = o := (List.getElem?_eq_some_iff.1 ho).2
      have hcs : caseT l nf nq = o.c := by unfold caseT; rw [hT, hfo]
      have hcok : okCs o.c := (hol o (List.mem_of_getElem? ho)).2.2
      obtain ⟨of, oq, oc⟩ := o
      obtain ⟨a1, a2, a3⟩ := hoks _ (List.mem_of_getElem? ho)
      simp only [keyOp] at hko a1 a2 a3 hcs hcok
      have e1 : of = nf := by omega
      have e2 : oq = nq := by omega
      subst e1 e2
      rw [hcs] at htake
      have hrepK : ∀ c, repK ⟨of, oq, c⟩ l = l.set P ⟨of, oq, c⟩ := fun c => by
        unfold repK
        have : keyOp ⟨of, oq, c⟩ = T := hT
        rw [this, if_pos hB, hPe]
      obtain ⟨ce, cr, cd, ces, crs⟩ := oc
      obtain ⟨⟨⟨ve, vr, vd, ves, vrs⟩, vo, vb, vi, vx⟩, htv⟩ : ∃ vv, takeV ⟨ce, cr, cd, ces, crs⟩ m of k w s = vv := ⟨_, rfl⟩
      rw [htv] at htake
      by_cases hvx : vx = 0
      · subst hvx
        have hxz : ((0 : Int) != 0) = false := rfl
        rw [if_neg (by simp)] at htake
        rw [htake]
        obtain ⟨l2, hl2⟩ : ∃ l2, l2 = repK ⟨of, oq, ⟨ve, vr, vd, ves, vrs⟩⟩ l := ⟨_, rfl⟩
        have hst : okSt m b l2 of := hl2 ▸ okSt_rep hm hb hll hrt hhas hq0 hq1
        rw [← hl2]
        rw [hrepK] at hl2
        have hrep : (l.map avOp).set P (.agg [.v (.int .u8 (of : Nat)), .v (.int .i64 oq), .v (.bool ve), .v (.bool vr), .v (.bool vd), .fsl 2 (ves.map avBa), .fsl 2 (vrs.map avBa)]) = l2.map avOp := by rw [hl2, List.map_set]; rfl
        by_cases hs : (settleN l2.length of (baseT b of) l2).1 = baseT b of
        · have hset : setM v m b l2 of = [.var (tc v (m : Nat) b (.osl 1)), .arr 60 7 (l2.map avOp)] := by unfold setM; rw [if_pos hs]
          have hs2 := settle_same hs
          have hr1 : b.set of (settleN l2.length of (baseT b of) l2).1 = b := by rw [hs]; exact set_self (by omega)
          have hr2 : (settleN l2.length of (baseT b of) l2).2 = l2 := hs2
          repeat' with_reducible first
          | refine stp ?_ | refine seg_both ?_ ?_ | refine seg_case (fun x h => ?_) (fun h => ?_) | refine seg_gate (fun h => ?_) (fun h => ?_) | refine seg_need ?_ ?_ | refine cond_v (fun h => ?_) (fun h => ?_)
          | refine seg_eval (by simp -dsimp -implicitDefEqProofs [hbl, zV_length, spOwnT, hok, spMay, hnf, hmay, hbsf, avOp, cOp, ho, hPl, hPl', hget, spTakeV, hcok, hm2, hnf2, hw1, htv, avVt, avCs, hxz, hrep, spSettle, hst, hset, Int.toNat_natCast]; rfl) ?_
          all_goals first
            | omega
            | exact hok
            | exact hcok
            | exact hst
            | (refine post_fin (vs := [.agg (tc v (m : Nat) b (.osl 3)), .fsl 2 (vo.map avOu), .v (.string vb), .v (.bool vi), .v (.int .i64 0)]) (by simp [rs_12, hbl]) rfl ⟨[3], [], ?_, ?_, ?_, ?_⟩ <;> simp [doneT, avTt, avTb, hr1, hr2])
            | trace_state
        · obtain ⟨bb, hbb⟩ : ∃ bb, bb = b.set of (settleN l2.length of (baseT b of) l2).1 := ⟨_, rfl⟩
          have hbbl : bb.length = 16 := by rw [hbb, List.length_set]; exact hbl
          obtain ⟨l3, hl3⟩ : ∃ l3, l3 = (settleN l2.length of (baseT b of) l2).2 := ⟨_, rfl⟩
          have hset : setM v m b l2 of = [.var (tc v (m : Nat) bb (.osl 2)), .gone, .arr 60 7 (l3.map avOp)] := by unfold setM; rw [if_neg hs, hbb, hl3]
          have hr1 : b.set of (settleN l2.length of (baseT b of) l2).1 = bb := hbb.symm
          have hr2 : (settleN l2.length of (baseT b of) l2).2 = l3 := hl3.symm
          repeat' with_reducible first
          | refine stp ?_ | refine seg_both ?_ ?_ | refine seg_case (fun x h => ?_) (fun h => ?_) | refine seg_gate (fun h => ?_) (fun h => ?_) | refine seg_need ?_ ?_ | refine cond_v (fun h => ?_) (fun h => ?_)
          | refine seg_eval (by simp -dsimp -implicitDefEqProofs [hbl, zV_length, spOwnT, hok, spMay, hnf, hmay, hbsf, avOp, cOp, ho, hPl, hPl', hget, spTakeV, hcok, hm2, hnf2, hw1, htv, avVt, avCs, hxz, hrep, spSettle, hst, hset, hbbl, Int.toNat_natCast]; rfl) ?_
          all_goals first
            | omega
            | exact hok
            | exact hcok
            | exact hst
            | (refine post_fin (vs := [.agg (tc v (m : Nat) bb (.osl 6)), .fsl 2 (vo.map avOu), .v (.string vb), .v (.bool vi), .v (.int .i64 0)]) (by simp [rs_12, hbl, hbbl]) rfl ⟨[6], [], ?_, ?_, ?_, ?_⟩ <;> simp [doneT, avTt, avTb, hr1, hr2])
            | trace_state
      · rw [if_pos hvx] at htake
        rw [htake]
        generalize hx : vx = x at *
        have hxz : (x != 0) = true := by simp [hvx]
        repeat' with_reducible first
        | refine stp ?_ | refine seg_both ?_ ?_ | refine seg_case (fun x h => ?_) (fun h => ?_) | refine seg_gate (fun h => ?_) (fun h => ?_) | refine seg_need ?_ ?_ | refine cond_v (fun h => ?_) (fun h => ?_)
        | refine seg_eval (by simp -dsimp -implicitDefEqProofs [hbl, zV_length, spOwnT, hok, spMay, hnf, hmay, hbsf, avOp, cOp, ho, hPl, hPl', hget, spTakeV, hcok, hm2, hnf2, hw1, htv, avVt, avCs, hxz, Int.toNat_natCast]; rfl) ?_
        all_goals first
          | omega
          | exact hok
          | exact hcok
          | (refine post_finS (vs := [.agg (tc v (m : Nat) b (.osl 3)), .v (.slice none 0 0), .v (.string noS), .v (.bool false), .v (.int .i64 x)]) (by simp [rs_12, hbl, noS]) rfl
              (.tup (.cons (.rfl _) (.cons (.nil 0 2) (.cons (.rfl _) (.cons (.rfl _) (.cons (.rfl _) .nil)))))) ⟨[3], [], ?_, ?_, ?_, ?_⟩ <;> simp [failT, avTb])
          | trace_state
  · -- FAIL
    have e : takeT ⟨v, m, b, l⟩ ⟨nv, nf, nq⟩ k w s = failT ⟨v, m, b, l⟩ (mayT ⟨v, m, b, l⟩ ⟨nv, nf, nq⟩) := by unfold takeT; rw [if_pos hmay]
    rw [e]
    generalize hx : mayT ⟨v, m, b, l⟩ ⟨nv, nf, nq⟩ = x at *
    have hxz : (x != 0) = true := by simp [hmay]
    repeat' with_reducible first
    | refine stp ?_ | refine seg_both ?_ ?_ | refine seg_case (fun x h => ?_) (fun h => ?_) | refine seg_gate (fun h => ?_) (fun h => ?_) | refine seg_need ?_ ?_ | refine cond_v (fun h => ?_) (fun h => ?_)
    | refine seg_eval (by simp -dsimp -implicitDefEqProofs [hbl, zV_length, spOwnT, hok, spMay, hnf, hx, hxz]; rfl) ?_
    all_goals first
      | exact hok
      | (refine post_finS (vs := [.agg (tc v (m : Nat) b (.osl 3)), .v (.slice none 0 0), .v (.string noS), .v (.bool false), .v (.int .i64 x)]) (by simp [rs_12, hbl, noS]) rfl
          (.tup (.cons (.rfl _) (.cons (.nil 0 2) (.cons (.rfl _) (.cons (.rfl _) (.cons (.rfl _) .nil)))))) ⟨[3], [], ?_, ?_, ?_, ?_⟩ <;> simp [failT, avTb])
      | trace_state
end Go.Proofs.Ytkbgndebfcjojaa.Am
