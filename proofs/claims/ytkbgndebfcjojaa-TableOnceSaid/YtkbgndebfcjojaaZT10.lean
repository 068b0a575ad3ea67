/-
  A VOTE TAKEN IN A TABLE (the document).
-/
import Derived.Test.YtkbgndebfcjojaaZT9
namespace Go.Proofs.Ytkbgndebfcjojaa.Am
set_option linter.unusedSimpArgs false
set_option linter.unusedVariables false
open Go Go.Proofs
attribute [local irreducible] wpA
attribute [-simp] splice

/-! ### What is told, as cells -/
def rc (v m : Int) (b : List Nat) (x o s i e : AV) : List AV := tc v m b x ++ [o, s, i, e]
section
variable {v m v' m' : Int} {b w : List Nat} {x o s i e x' o' s' i' e' : AV}
theorem rc_length (h : b.length = 16) : (rc v m b x o s i e).length = 23 := by simp [rc, tc_length h]
theorem rc_one : (rc v m b x o s i e).all AV.one = (x.one && (o.one && (s.one && (i.one && e.one)))) := by simp [rc, tc_one]
theorem rc_bare : AV.isBareAll (rc v m b x o s i e) = (x.isBare && (o.isBare && (s.isBare && (i.isBare && e.isBare)))) := by simp [rc, bareAll_append, tc_bare, AV.isBareAll]
theorem rc_frz (M : List Blk) : AV.frzAll M (rc v m b x o s i e) = rc v m b (x.frz M) (o.frz M) (s.frz M) (i.frz M) (e.frz M) := by simp [rc, frzAll_append, tc_frz, AV.frzAll]
theorem rc_res (M : List Blk) : AV.resAll M (rc v m b x o s i e) = rc v m b (x.res M) (o.res M) (s.res M) (i.res M) (e.res M) := by simp [rc, resAll_append, tc_res, AV.resAll]
theorem rc_mapId (f : Nat → Nat) : AV.mapIdAll f (rc v m b x o s i e) = rc v m b (x.mapId f) (o.mapId f) (s.mapId f) (i.mapId f) (e.mapId f) := by simp [rc, mapIdAll_append, tc_mapId, AV.mapIdAll]
theorem rc_ids : AV.idsAll (rc v m b x o s i e) = x.ids ++ (o.ids ++ (s.ids ++ (i.ids ++ e.ids))) := by simp [rc, idsAll_append, tc_ids, AV.idsAll]
theorem rc_slices : AV.slicesAll (rc v m b x o s i e) = x.slices ++ (o.slices ++ (s.slices ++ (i.slices ++ e.slices))) := by simp [rc, slicesAll_append, tc_slices, AV.slicesAll]
theorem rc_take23 (h : b.length = 16) : (rc v m b x o s i e).take 23 = rc v m b x o s i e := List.take_of_length_le (by rw [rc_length h]; omega)
theorem rc_take19 (h : b.length = 16) : (rc v m b x o s i e).take 19 = tc v m b x := by
  unfold rc; rw [List.take_append_of_le_length (by rw [tc_length h]; omega), tc_take19 h]
theorem rc_at {k : Nat} (h : b.length = 16) : (rc v m b x o s i e).drop (19 + k) = [o, s, i, e].drop k := by
  unfold rc
  rw [List.drop_append, List.drop_of_length_le (by rw [tc_length h]; omega), tc_length h]
  simp
theorem rc_19 (h : b.length = 16) : ((rc v m b x o s i e).drop 19).take 1 = [o] := by rw [rc_at (k := 0) h]; rfl
theorem rc_20 (h : b.length = 16) : ((rc v m b x o s i e).drop 20).take 1 = [s] := by rw [rc_at (k := 1) h]; rfl
theorem rc_21 (h : b.length = 16) : ((rc v m b x o s i e).drop 21).take 1 = [i] := by rw [rc_at (k := 2) h]; rfl
theorem rc_22 (h : b.length = 16) : ((rc v m b x o s i e).drop 22).take 1 = [e] := by rw [rc_at (k := 3) h]; rfl
theorem rc_all (h : b.length = 16) (h' : w.length = 16) : splice (rc v m b x o s i e) 0 (rc v' m' w x' o' s' i' e') = rc v' m' w x' o' s' i' e' := by
  simp only [splice, List.take_zero, List.nil_append, rc_length h', Nat.zero_add]
  rw [List.drop_of_length_le (by rw [rc_length h]; omega), List.append_nil]
theorem rc_putT (h : b.length = 16) (h' : w.length = 16) : splice (rc v m b x o s i e) 0 (tc v' m' w x') = rc v' m' w x' o s i e := by
  simp only [splice, List.take_zero, List.nil_append, tc_length h', Nat.zero_add]
  rw [show (19 : Nat) = 19 + 0 from rfl, rc_at h]; rfl
theorem rc_take (h : b.length = 16) (k : Nat) : (rc v m b x o s i e).take (19 + k) = tc v m b x ++ [o, s, i, e].take k := by
  unfold rc
  rw [List.take_append, List.take_of_length_le (by rw [tc_length h]; omega), tc_length h]
  simp
theorem rc_put19 (h : b.length = 16) (y : AV) : splice (rc v m b x o s i e) 19 [y] = rc v m b x y s i e := by
  simp only [splice, List.length_singleton]; rw [show (19 : Nat) = 19 + 0 from rfl, rc_take h, rc_at (k := 1) h]; simp [rc]
theorem rc_put20 (h : b.length = 16) (y : AV) : splice (rc v m b x o s i e) 20 [y] = rc v m b x o y i e := by
  simp only [splice, List.length_singleton]; rw [show (20 : Nat) = 19 + 1 from rfl, rc_take h, rc_at (k := 2) h]; simp [rc]
theorem rc_put21 (h : b.length = 16) (y : AV) : splice (rc v m b x o s i e) 21 [y] = rc v m b x o s y e := by
  simp only [splice, List.length_singleton]; rw [show (21 : Nat) = 19 + 2 from rfl, rc_take h, rc_at (k := 3) h]; simp [rc]
theorem rc_put22 (h : b.length = 16) (y : AV) : splice (rc v m b x o s i e) 22 [y] = rc v m b x o s i y := by
  simp only [splice, List.length_singleton]; rw [show (22 : Nat) = 19 + 3 from rfl, rc_take h, rc_at (k := 4) h]; simp [rc]
theorem lit23 (v m : Int) (x o s i e : AV) : [AV.v (.int .i64 v), AV.v (.int .u16 m), AV.v (.int .u16 0), AV.v (.int .u16 0), AV.v (.int .u16 0), AV.v (.int .u16 0), AV.v (.int .u16 0), AV.v (.int .u16 0), AV.v (.int .u16 0), AV.v (.int .u16 0), AV.v (.int .u16 0), AV.v (.int .u16 0), AV.v (.int .u16 0), AV.v (.int .u16 0), AV.v (.int .u16 0), AV.v (.int .u16 0), AV.v (.int .u16 0), AV.v (.int .u16 0), x, o, s, i, e] = rc v m zV x o s i e := rfl
theorem sameL_app {cs ds : List AV} (h : SameL cs ds) : ∀ l : List AV, SameL (l ++ cs) (l ++ ds)
  | [] => h
  | a :: l => .cons (.rfl a) (sameL_app h l)
theorem same_rc (v m : Int) (b : List Nat) (x s i e : AV) : Same (.agg (rc v m b x (.fsl 0 []) s i e)) (.agg (rc v m b x (.fsl 2 []) s i e)) := .agg (sameL_app (.cons (.nil 0 2) (.cons (.rfl _) (.cons (.rfl _) (.cons (.rfl _) .nil)))) _)
end
attribute [simp] rc_length rc_one rc_bare rc_frz rc_res rc_mapId rc_ids rc_slices rc_take23 rc_take19 rc_19 rc_20 rc_21 rc_22
attribute [simp high] lit23 rc_all rc_putT rc_put19 rc_put20 rc_put21 rc_put22
theorem un_op0 (f : Nat) (q : Int) (e r d : Bool) : un avOp (.agg [.v (.int .u8 (f : Nat)), .v (.int .i64 q), .v (.bool e), .v (.bool r), .v (.bool d), .fsl 2 [], .fsl 2 []]) = some ⟨f, q, e, r, d, [], []⟩ := un_op f q e r d [] []
attribute [simp] un_op0
def avTr (r : Tt) : AV := .agg (rc r.t.v (r.t.m : Nat) r.t.b (.fsl 7 (r.t.os.map avOp)) (.fsl 2 (r.o.map avOu)) (.v (.string r.b)) (.v (.bool r.i)) (.v (.int .i64 r.x)))
noncomputable def spTakeTR : Spec := sp5 avTb avNm (avI .i64) (avI .u8) avS (fun t n _ w _ => okTb t ∧ n.f < 256 ∧ 0 ≤ w ∧ w < 256) (fun t n k w s => avTr (takeT t n k w.toNat s))
set_option maxHeartbeats 32000000 in
theorem takeTR_ok : CallOk Try.prog 14 spTakeTR := by
  refine ok_14 (Env.put_ok [] (Env.put_ok [] (Env.put_ok [] (Env.put_ok [] (Env.none_ok _) mayR_ok) findT_ok) takeR_ok) (CallOk.fixD [.no, .agg [.no, .no, .no, .no, .no, .k 2, .k 2]] putR_ok)) spTakeTR (wb_sp5 ?_)
  rintro ⟨v, m, b, l⟩ ⟨nv, nf, nq⟩ k w s ⟨hok, hnf, hw0, hw1⟩
  obtain ⟨hm, hb, hll, hol⟩ := id hok
  simp only at hm hb hll hol hnf ⊢
  obtain ⟨w, rfl⟩ := Int.eq_ofNat_of_zero_le hw0
  have hm2 : (m : Int) < 65536 := by omega
  have hnf2 : (nf : Int) < 256 := by omega
  have hbl := hb.1
  simp only [avTb, avNm, avI, avS, Int.toNat_natCast]
  unfold ac_14
  by_cases hmay : mayT ⟨v, m, b, l⟩ ⟨nv, nf, nq⟩ = 0
  · obtain ⟨hrt, hnv, hhas, hq0, hq1, _⟩ := may_zero hmay
    simp only at hnv hhas hq0 hq1
    have hq2 : nq < 2000 := by omega
    have hf16 := has_lt hm hhas
    have hf2 : (nf : Int) < 16 := by omega
    have hle : 2 + nf ≤ 18 := by omega
    have hso := right_sort hrt
    simp only at hso
    have hll5 : l.length ≤ 1000005 := by omega
    have hll2 : l.length ≤ 1000002 := by omega
    have hoks : ∀ y ∈ l, okOp y := fun y hy => right_ok hm (right_all hrt y hy)
    have htake : takeT ⟨v, m, b, l⟩ ⟨nv, nf, nq⟩ k w s = if (takeV (caseT l nf nq) m nf k w s).x ≠ 0 then failT ⟨v, m, b, l⟩ (takeV (caseT l nf nq) m nf k w s).x
        else doneT ⟨v, m, b, l⟩ ⟨nv, nf, nq⟩ (takeV (caseT l nf nq) m nf k w s) (repK ⟨nf, nq, (takeV (caseT l nf nq) m nf k w s).c⟩ l) := by
      unfold takeT; rw [if_neg (by simp [hmay])]
    have hcok : okCs (caseT l nf nq) := by
      unfold caseT
      cases e : findK ((nf : Int) * 2000 + nq) l with
      | none => exact ⟨⟨by simp [zCs], by simp [zCs]⟩, by simp [zCs], by simp [zCs]⟩
      | some o => exact (hol o (find_some e).1).2.2
    obtain ⟨⟨ce, cr, cd, ces, crs⟩, hcs⟩ : ∃ c, caseT l nf nq = c := ⟨_, rfl⟩
    rw [hcs] at hcok htake
    obtain ⟨⟨⟨ve, vr, vd, ves, vrs⟩, vo, vb, vi, vx⟩, htv⟩ : ∃ vv, takeV ⟨ce, cr, cd, ces, crs⟩ m nf k w s = vv := ⟨_, rfl⟩
    rw [htv] at htake
    simp only at htake
    repeat' with_reducible first
    | refine stm ?_ | refine seg_both ?_ ?_ | refine seg_case (fun x h => ?_) (fun h => ?_) | refine seg_gate (fun h => ?_) (fun h => ?_) | refine seg_need ?_ ?_ | refine cond_v (fun h => ?_) (fun h => ?_)
    | refine seg_eval (by simp -dsimp -implicitDefEqProofs [hbl, zV_length, spMay, hok, hnf, hmay]; rfl) ?_
    refine wp_drawsR (fun ts mm => ts = [(5, .ptr 0 0 0), (6, .fptr (.agg [.v (.int .i64 nv), .v (.int .u8 (nf : Nat)), .v (.int .i64 nq)]) 0), (10, .ptr 1 0 0), (12, .ptr 2 0 0)] ∧
      mm = [.var (tc v (m : Nat) b (.fsl 7 (l.map avOp))), .var (rc 0 0 zV (.v (.slice none 0 0)) (.v (.slice none 0 0)) (.v (.string noS)) (.v (.bool false)) (.v (.int .i64 0))),
        .var [.v (.bool ve), .v (.bool vr), .v (.bool vd), .fsl 2 (ves.map avBa), .fsl 2 (vrs.map avBa), .fsl 2 (vo.map avOu), .v (.string vb), .v (.bool vi), .v (.int .i64 vx)]]) ?_ ?_
    · intro W hW
      repeat' with_reducible first
      | refine stp ?_ | refine seg_both ?_ ?_ | refine seg_case (fun x h => ?_) (fun h => ?_) | refine seg_gate (fun h => ?_) (fun h => ?_) | refine seg_need ?_ ?_ | refine cond_v (fun h => ?_) (fun h => ?_)
      | refine seg_eval (by simp -dsimp -implicitDefEqProofs [hbl, zV_length, spFind, hb, hll5, hoks, hnf2, hq0, hq2, hcs, avCs, spTakeR, hcok, hm2, hw1, htv, avTd, Int.toNat_natCast]; rfl) ?_
      all_goals first
        | omega
        | exact hok
        | exact hoks
        | exact hW _ _ ⟨[], [0, 2, 3], by simp, rfl, by simp, by simp [noS]⟩
        | trace_state
    · rintro ts mm ⟨rfl, rfl⟩
      by_cases hvx : vx = 0
      · subst hvx
        have hxz : ((0 : Int) != 0) = false := rfl
        rw [if_neg (by simp)] at htake
        rw [htake]
        obtain ⟨l2, hl2⟩ : ∃ l2, l2 = repK ⟨nf, nq, ⟨ve, vr, vd, ves, vrs⟩⟩ l := ⟨_, rfl⟩
        have hst : okSt m b l2 nf := hl2 ▸ okSt_rep hm hb hll hrt hhas hq0 hq1
        rw [← hl2]
        have hoo : okOp ⟨nf, nq, ⟨ve, vr, vd, ves, vrs⟩⟩ := ⟨by simp only; omega, hq0, hq2⟩
        obtain ⟨_, _, _, hn0, hl2l, hso2, hop2⟩ := hst
        have hfl : nf < b.length := by omega
        repeat' with_reducible first
        | refine stp ?_ | refine seg_both ?_ ?_ | refine seg_case (fun x h => ?_) (fun h => ?_) | refine seg_gate (fun h => ?_) (fun h => ?_) | refine seg_need ?_ ?_ | refine cond_v (fun h => ?_) (fun h => ?_)
        | refine seg_eval (by simp -dsimp -implicitDefEqProofs [hbl, zV_length, hxz, spPutR, hso, hoks, hoo, hll2, avOps, ← hl2]; rfl) ?_
        any_goals exact hoks
        refine wp_loop' (fun j ts mm => ∃ (n : Nat) (l' : List Op), j = l'.length ∧ n ≤ 1000 ∧ l'.length ≤ 1000001 ∧ SortK keyOp l' ∧ (∀ o ∈ l', okOp o ∧ o.q < 1000) ∧
          settleN l'.length nf n l' = settleN l2.length nf (baseT b nf) l2 ∧ ts = [(5, .ptr 0 0 0), (6, .fptr (.agg [.v (.int .i64 nv), .v (.int .u8 (nf : Nat)), .v (.int .i64 nq)]) 0), (10, .ptr 1 0 0), (12, .ptr 2 0 0), (13, .ptr 3 0 0)] ∧
          mm = [.var (tc v (m : Nat) b (.fsl 7 (l'.map avOp))), .var (rc 0 0 zV (.v (.slice none 0 0)) (.v (.slice none 0 0)) (.v (.string noS)) (.v (.bool false)) (.v (.int .i64 0))), .var [.v (.bool ve), .v (.bool vr), .v (.bool vd), .fsl 2 (ves.map avBa), .fsl 2 (vrs.map avBa), .fsl 2 (vo.map avOu), .v (.string vb), .v (.bool vi), .v (.int .i64 0)], .var (vc (b.set nf n))]) l2.length ?_ ?_
        · refine ⟨[], [0, 1, 2, 3], by simp, rfl, baseT b nf, l2, rfl, hn0, hl2l, hso2, hop2, rfl, by simp, ?_⟩
          rw [set_self hfl]
          simp [noS]
        · rintro j ts mm ⟨n, l', rfl, hn2, hll', hso', hop', hset, rfl, rfl⟩
          obtain ⟨bb, hbb⟩ : ∃ bb, bb = b.set nf n := ⟨_, rfl⟩
          have hbb1 : bb.length = 16 := by rw [hbb, List.length_set]; exact hbl
          have hfb : nf < bb.length := by omega
          have hba : bb[nf]? = some n := by rw [hbb, List.getElem?_set_self hfl]
          have hat : (bb.drop nf).take 1 = [n] := take_drop_one hba
          have hle1 : nf + 1 ≤ 16 := by omega
          have hwb : IntKind.wrap .i64 ((n : Nat) : Int) = ((n : Nat) : Int) := IntWalk.i64_in _ (by omega)
          have hnn0 : (0 : Int) ≤ (n : Int) := by omega
          have hnn1 : (n : Int) < 2000 := by omega
          obtain ⟨n1, hn1e⟩ : ∃ n1, n1 = n + 1 := ⟨_, rfl⟩
          have hw16 : IntKind.wrap .u16 ((n : Nat) + 1 : Int) = ((n1 : Nat) : Int) := by rw [IntWalk.u16_in _ (by omega), hn1e]; rfl
          have hset1 : bb.set nf n1 = b.set nf n1 := by rw [hbb, List.set_set]
          have hok' : ∀ o ∈ l', okOp o := fun o ho => (hop' o ho).1
          have hll5' : l'.length ≤ 1000005 := by omega
          have hll2' : l'.length ≤ 1000002 := by omega
          have hoz : okOp ⟨nf, n, ⟨false, false, false, [], []⟩⟩ := ⟨by simp only; omega, hnn0, hnn1⟩
          have hdl := del_sort (t := (nf : Int) * 2000 + (n : Int)) hso'
          have hdm : ∀ o ∈ delK ((nf : Int) * 2000 + (n : Int)) l', okOp o ∧ o.q < 1000 := fun o ho => hop' o (mem_del.1 ho).1
          have hstop := settle_stop (k := l'.length) (f := nf) (n := n) (l := l')
          have hgo := fun k o => settle_go (k := k) (f := nf) (n := n) (l := l') (o := o)
          have hkz : keyOp ⟨nf, n, ⟨false, false, false, [], []⟩⟩ = (nf : Int) * 2000 + (n : Int) := rfl
          rw [← hn1e] at hgo
          have hcase : (caseT l' nf n).d = true → ∃ o, findK ((nf : Int) * 2000 + (n : Int)) l' = some o ∧ o.c.d = true ∧ (delK ((nf : Int) * 2000 + (n : Int)) l').length + 1 = l'.length := fun h => by
            unfold caseT at h
            cases e : findK ((nf : Int) * 2000 + (n : Int)) l' with
            | none => rw [e] at h; cases h
            | some o =>
              rw [e] at h
              refine ⟨o, rfl, h, ?_⟩
              have hi : isK' keyOp ((nf : Int) * 2000 + (n : Int)) l' = true := List.any_eq_true.2 ⟨o, (find_some e).1, by simp [(find_some e).2]⟩
              obtain ⟨o', ho', hk'⟩ := is_at hso' hi
              rw [del_at hso' ho' hk']
              have := (List.getElem?_eq_some_iff.1 ho').1
              simp; omega
          have hcase0 : (caseT l' nf n).d = false → ∀ o, findK ((nf : Int) * 2000 + (n : Int)) l' = some o → o.c.d = false := fun h o e => by
            unfold caseT at h; rw [e] at h; exact h
          generalize hT : (nf : Int) * 2000 + (n : Int) = T at *
          obtain ⟨⟨de, dr, dd, des, drs⟩, hcd⟩ : ∃ c, caseT l' nf n = c := ⟨_, rfl⟩
          rw [hcd] at hcase hcase0
          rw [← hbb]
          repeat' with_reducible first
          | refine stm ?_ | refine seg_both ?_ ?_ | refine seg_case (fun x h => ?_) (fun h => ?_) | refine seg_gate (fun h => ?_) (fun h => ?_) | refine seg_need ?_ ?_ | refine cond_v (fun h => ?_) (fun h => ?_)
          | refine seg_eval (by simp -dsimp -implicitDefEqProofs; rfl) ?_
          refine wp_drawsRS (fun ts mm => ts = [(5, .ptr 0 0 0), (6, .fptr (.agg [.v (.int .i64 nv), .v (.int .u8 (nf : Nat)), .v (.int .i64 nq)]) 0), (10, .ptr 1 0 0), (12, .ptr 2 0 0), (13, .ptr 3 0 0), (65, .v (.bool dd))] ∧
            mm = [.var (tc v (m : Nat) b (.fsl 7 (l'.map avOp))), .var (rc 0 0 zV (.v (.slice none 0 0)) (.v (.slice none 0 0)) (.v (.string noS)) (.v (.bool false)) (.v (.int .i64 0))), .var [.v (.bool ve), .v (.bool vr), .v (.bool vd), .fsl 2 (ves.map avBa), .fsl 2 (vrs.map avBa), .fsl 2 (vo.map avOu), .v (.string vb), .v (.bool vi), .v (.int .i64 0)], .var (vc bb)]) ?_ ?_
          · intro W hW
            repeat' with_reducible first
            | refine stp ?_ | refine seg_both ?_ ?_ | refine seg_case (fun x h => ?_) (fun h => ?_) | refine seg_gate (fun h => ?_) (fun h => ?_) | refine seg_need ?_ ?_ | refine cond_v (fun h => ?_) (fun h => ?_)
            | refine seg_eval (by simp -dsimp -implicitDefEqProofs [hbl, hbb1, spFind, hb, hll5', hok', hnf2, hnn0, hnn1, hat, hle1, hf16, hf2, hwb, hcd, avCs, Int.toNat_natCast]; rfl) ?_
            all_goals first
              | omega
              | exact hok'
              | exact hW _ _ ⟨[], [0, 1, 2, 3], by simp, rfl, by simp, by simp [noS]⟩
              | trace_state
          · rintro ts mm ⟨rfl, rfl⟩
            cases dd
            · have hres := hstop (hcase0 rfl)
              rw [hres] at hset
              have hset' := hset.symm
              repeat' with_reducible first
              | refine stp ?_ | refine seg_both ?_ ?_ | refine seg_case (fun x h => ?_) (fun h => ?_) | refine seg_gate (fun h => ?_) (fun h => ?_) | refine seg_need ?_ ?_ | refine cond_v (fun h => ?_) (fun h => ?_)
              | refine seg_eval (by simp -dsimp -implicitDefEqProofs [hbl, hbb1, zV_length]; rfl) ?_
              all_goals first
                | omega
                | (refine post_fin (vs := [.agg (rc v (m : Nat) bb (.fsl 7 (l'.map avOp)) (.fsl 2 (vo.map avOu)) (.v (.string vb)) (.v (.bool vi)) (.v (.int .i64 0)))]) (by simp [rs_14, hbb1]) rfl ⟨[], [], ?_, ?_, ?_, ?_⟩ <;> simp [avTr, doneT, hset', hbb])
                | trace_state
            · obtain ⟨o, hfo, hod, hlen⟩ := hcase rfl
              have hoq := (hop' o (find_some hfo).1).2
              have hok2 := (find_some hfo).2
              have hn10 : n1 ≤ 1000 := by
                obtain ⟨a1, a2, a3⟩ := (hop' o (find_some hfo).1).1
                simp only [keyOp] at hok2
                omega
              obtain ⟨k, hk⟩ : ∃ k, l'.length = k + 1 := ⟨l'.length - 1, by omega⟩
              have hg := hgo k o hfo hod
              rw [hk, hg] at hset
              have hlen' : k = (delK T l').length := by omega
              repeat' with_reducible first
              | refine stm ?_ | refine seg_both ?_ ?_ | refine seg_case (fun x h => ?_) (fun h => ?_) | refine seg_gate (fun h => ?_) (fun h => ?_) | refine seg_need ?_ ?_ | refine cond_v (fun h => ?_) (fun h => ?_)
              | refine seg_eval (by simp -dsimp -implicitDefEqProofs; rfl) ?_
              refine wp_drawsR (fun ts mm => ts = [(5, .ptr 0 0 0), (6, .fptr (.agg [.v (.int .i64 nv), .v (.int .u8 (nf : Nat)), .v (.int .i64 nq)]) 0), (10, .ptr 1 0 0), (12, .ptr 2 0 0), (13, .ptr 3 0 0)] ∧
                mm = [.var (tc v (m : Nat) b (.fsl 7 ((delK T l').map avOp))), .var (rc 0 0 zV (.v (.slice none 0 0)) (.v (.slice none 0 0)) (.v (.string noS)) (.v (.bool false)) (.v (.int .i64 0))), .var [.v (.bool ve), .v (.bool vr), .v (.bool vd), .fsl 2 (ves.map avBa), .fsl 2 (vrs.map avBa), .fsl 2 (vo.map avOu), .v (.string vb), .v (.bool vi), .v (.int .i64 0)], .var (vc bb)]) ?_ ?_
              · intro W hW
                repeat' with_reducible first
                | refine stp ?_ | refine seg_both ?_ ?_ | refine seg_case (fun x h => ?_) (fun h => ?_) | refine seg_gate (fun h => ?_) (fun h => ?_) | refine seg_need ?_ ?_ | refine cond_v (fun h => ?_) (fun h => ?_)
                | refine seg_eval (by simp -dsimp -implicitDefEqProofs [hbl, hbb1, spPutR, hso', hok', hoz, hll2', hat, hle1, hf16, hf2, hwb, hkz, avOps]; rfl) ?_
                all_goals first
                  | omega
                  | exact ⟨hso', hok', hoz, hll2'⟩
                  | exact hW _ _ ⟨[], [0, 1, 2, 3], by simp, rfl, by simp, by simp [noS]⟩
                  | trace_state
              · rintro ts mm ⟨rfl, rfl⟩
                repeat' with_reducible first
                | refine stp ?_ | refine seg_both ?_ ?_ | refine seg_case (fun x h => ?_) (fun h => ?_) | refine seg_gate (fun h => ?_) (fun h => ?_) | refine seg_need ?_ ?_ | refine cond_v (fun h => ?_) (fun h => ?_)
                | refine seg_eval (by simp -dsimp -implicitDefEqProofs [hbl, hbb1, hat, hle1, hf16, hf2, hfb, hw16]; rfl) ?_
                all_goals first
                  | omega
                  | exact ⟨k, by omega, [], [0, 1, 2, 3], by simp, rfl, n1, delK T l', hlen', by omega, by omega, hdl, hdm, by rw [← hlen']; exact hset, by simp, by simp [hset1, noS]⟩
                  | trace_state
      · rw [if_pos hvx] at htake
        rw [htake]
        have hxz : (vx != 0) = true := by simp [hvx]
        repeat' with_reducible first
        | refine stp ?_ | refine seg_both ?_ ?_ | refine seg_case (fun x h => ?_) (fun h => ?_) | refine seg_gate (fun h => ?_) (fun h => ?_) | refine seg_need ?_ ?_ | refine cond_v (fun h => ?_) (fun h => ?_)
        | refine seg_eval (by simp -dsimp -implicitDefEqProofs [hbl, zV_length, hxz]; rfl) ?_
        all_goals first
          | (refine post_finS (vs := [.agg (rc v (m : Nat) b (.fsl 7 (l.map avOp)) (.v (.slice none 0 0)) (.v (.string noS)) (.v (.bool false)) (.v (.int .i64 vx)))]) (by simp [rs_14, hbl, noS]) rfl (same_rc ..) ⟨[], [], ?_, ?_, ?_, ?_⟩ <;> simp [failT])
          | trace_state
  · have e : takeT ⟨v, m, b, l⟩ ⟨nv, nf, nq⟩ k w s = failT ⟨v, m, b, l⟩ (mayT ⟨v, m, b, l⟩ ⟨nv, nf, nq⟩) := by unfold takeT; rw [if_pos hmay]
    rw [e]
    generalize hx : mayT ⟨v, m, b, l⟩ ⟨nv, nf, nq⟩ = x at *
    have hxz : (x != 0) = true := by simp [hmay]
    repeat' with_reducible first
    | refine stp ?_ | refine seg_both ?_ ?_ | refine seg_case (fun x h => ?_) (fun h => ?_) | refine seg_gate (fun h => ?_) (fun h => ?_) | refine seg_need ?_ ?_ | refine cond_v (fun h => ?_) (fun h => ?_)
    | refine seg_eval (by simp -dsimp -implicitDefEqProofs [hbl, zV_length, hok, spMay, hnf, hx, hxz]; rfl) ?_
    all_goals first
      | exact hok
      | (refine post_finS (vs := [.agg (rc v (m : Nat) b (.fsl 7 (l.map avOp)) (.v (.slice none 0 0)) (.v (.string noS)) (.v (.bool false)) (.v (.int .i64 x)))]) (by simp [rs_14, hbl, noS]) rfl (same_rc ..) ⟨[], [], ?_, ?_, ?_, ?_⟩ <;> simp [failT])
      | trace_state
end Go.Proofs.Ytkbgndebfcjojaa.Am
