/-
  BROADCASTS THAT GO ON, AS ELEMENTS; a table as cells; the order.
-/
import Derived.Test.YtkbgndebfcjojaaZW8
import Derived.Test.YtkbgndebfcjojaaZQ5
import Derived.Test.YtkbgndebfcjojaaZQ6
import Derived.Test.YtkbgndebfcjojaaZCodeB
namespace Go.Proofs.Ytkbgndebfcjojaa.Am
set_option linter.unusedSimpArgs false
set_option linter.unusedVariables false
open Go Go.Proofs
attribute [local irreducible] wpA

/-! ### A table as cells -/
def tc (v m : Int) (b : List Nat) (x : AV) : List AV := .v (.int .i64 v) :: .v (.int .u16 m) :: (vc b ++ [x])
theorem flatAll_append : ∀ a b : List AV, AV.flatAll (a ++ b) = (AV.flatAll a && AV.flatAll b)
  | [], b => rfl
  | x :: a, b => by simp [AV.flatAll, flatAll_append a b, Bool.and_assoc]
theorem lendAll_append (m : List Blk) : ∀ a b : List AV, AV.lendAll m (a ++ b) = AV.lendAll m a ++ AV.lendAll m b
  | [], b => rfl
  | x :: a, b => by simp [AV.lendAll, lendAll_append m a b]
section
variable {v m v' m' : Int} {b w : List Nat} {x y : AV}
theorem tc_length (h : b.length = 16) : (tc v m b x).length = 19 := by simp [tc, vc_length, h]
theorem tc_one : (tc v m b x).all AV.one = x.one := by simp [tc, vc_one, AV.one, Value.oneCell']
theorem tc_bare : AV.isBareAll (tc v m b x) = x.isBare := by simp [tc, AV.isBareAll, AV.isBare, bareAll_append, vc_bare]
theorem tc_frz (M : List Blk) : AV.frzAll M (tc v m b x) = tc v m b (x.frz M) := by simp [tc, AV.frzAll, AV.frz, frzAll_append, vc_frz]
theorem tc_res (M : List Blk) : AV.resAll M (tc v m b x) = tc v m b (x.res M) := by simp [tc, AV.resAll, AV.res, resAll_append, vc_res]
theorem tc_mapId (f : Nat → Nat) : AV.mapIdAll f (tc v m b x) = tc v m b (x.mapId f) := by simp [tc, AV.mapIdAll, AV.mapId, mapIdAll_append, vc_mapId]
theorem tc_ids : AV.idsAll (tc v m b x) = x.ids := by simp [tc, AV.idsAll, AV.ids, idsAll_append, vc_ids]
theorem tc_slices : AV.slicesAll (tc v m b x) = x.slices := by simp [tc, AV.slicesAll, AV.slices, slicesAll_append, vc_slices]
theorem tc_lend (M : List Blk) : AV.lendAll M (tc v m b x) = tc v m b (x.lend M) := by simp [tc, AV.lendAll, AV.lend, lendAll_append, vc_lend]
theorem tc_flat : AV.flatAll (tc v m b x) = x.flat := by simp [tc, AV.flatAll, AV.flat, flatAll_append, vc_flat]
theorem tc_take1 : (tc v m b x).take 1 = [.v (.int .i64 v)] := by simp [tc]
theorem tc_mem : ((tc v m b x).drop 1).take 1 = [.v (.int .u16 m)] := by simp [tc]
theorem tc_mem' : ((tc v m b x).tail).take 1 = [.v (.int .u16 m)] := by simp [tc]
theorem tc_base (h : b.length = 16) : ((tc v m b x).drop 2).take 16 = vc b := by
  simp only [tc, List.drop_succ_cons, List.drop_zero]
  rw [List.take_append_of_le_length (by simp [vc_length, h]), List.take_of_length_le (by simp [vc_length, h])]
theorem tc_last (h : b.length = 16) : ((tc v m b x).drop 18).take 1 = [x] := by
  simp only [tc, List.drop_succ_cons]
  rw [List.drop_append_of_le_length (by simp [vc_length, h]), List.drop_of_length_le (by simp [vc_length, h])]
  rfl
theorem tc_at {i n : Nat} (hi : b[i]? = some n) : ((tc v m b x).drop (2 + i)).take 1 = [.v (.int .u16 n)] := by
  have hl : i < b.length := (List.getElem?_eq_some_iff.1 hi).1
  refine take_drop_one ?_
  rw [Nat.add_comm]
  simp only [tc, List.getElem?_cons_succ]
  rw [List.getElem?_append_left (by rw [vc_length]; exact hl), vc_get, hi]
  rfl
theorem tc_take19 (h : b.length = 16) : (tc v m b x).take 19 = tc v m b x := List.take_of_length_le (by rw [tc_length h]; omega)
theorem tc_all (h : b.length = 16) (h' : w.length = 16) : splice (tc v m b x) 0 (tc v' m' w y) = tc v' m' w y := by
  simp only [splice, List.take_zero, List.nil_append, tc_length h', Nat.zero_add]
  rw [List.drop_of_length_le (by rw [tc_length h]; omega), List.append_nil]
theorem tc_putx (h : b.length = 16) (y : AV) : splice (tc v m b x) 18 [y] = tc v m b y := by
  simp only [splice, tc, List.take_succ_cons, List.drop_succ_cons, List.length_singleton]
  rw [List.take_append_of_le_length (by simp [vc_length, h]), List.take_of_length_le (by simp [vc_length, h]), List.drop_of_length_le (by simp [vc_length, h])]
  simp
theorem tc_put (i n : Nat) (h : i < b.length) : splice (tc v m b x) (2 + i) [.v (.int .u16 n)] = tc v m (b.set i n) x := by
  have e := vc_splice b i n h
  simp only [splice, List.length_singleton] at e ⊢
  rw [Nat.add_comm 2 i]
  simp only [tc, List.take_succ_cons, List.drop_succ_cons]
  rw [List.take_append_of_le_length (by rw [vc_length]; omega), List.drop_append_of_le_length (by rw [vc_length]; omega), ← e]
  simp
theorem tc_putb (h : b.length = 16) (h' : w.length = 16) : splice (tc v m b x) 2 (vc w) = tc v m w x := by
  simp only [splice, vc_length, h', tc, List.take_succ_cons, List.take_zero, List.drop_succ_cons]
  rw [List.drop_append_of_le_length (by simp [vc_length, h]), List.drop_of_length_le (by simp [vc_length, h])]
  simp
theorem lit19 (v m : Int) (x : AV) : [AV.v (.int .i64 v), AV.v (.int .u16 m), AV.v (.int .u16 0), AV.v (.int .u16 0), AV.v (.int .u16 0), AV.v (.int .u16 0), AV.v (.int .u16 0), AV.v (.int .u16 0), AV.v (.int .u16 0), AV.v (.int .u16 0), AV.v (.int .u16 0), AV.v (.int .u16 0), AV.v (.int .u16 0), AV.v (.int .u16 0), AV.v (.int .u16 0), AV.v (.int .u16 0), AV.v (.int .u16 0), AV.v (.int .u16 0), x] = tc v m zV x := rfl
theorem tc_inj (h : tc v m b x = tc v' m' w y) (hl : b.length = w.length) : v = v' ∧ m = m' ∧ b = w ∧ x = y := by
  simp only [tc, List.cons.injEq, AV.v.injEq, Value.int.injEq, true_and] at h
  obtain ⟨h1, h2, h3⟩ := h
  obtain ⟨h4, h5⟩ := List.append_inj h3 (by simp [vc_length, hl])
  exact ⟨h1, h2, vc_inj h4, by simpa using h5⟩
end
attribute [simp] tc_length tc_one tc_bare tc_frz tc_res tc_mapId tc_ids tc_slices tc_lend tc_flat tc_take1 tc_mem tc_mem' tc_base tc_last tc_take19
attribute [simp high] lit19 tc_all tc_putx tc_put tc_putb
attribute [-simp] splice

/-! ### Broadcasts -/
structure Op where
  f : Nat
  q : Int
  c : Cs
def cOp (o : Op) : List AV := [.v (.int .u8 (o.f : Nat)), .v (.int .i64 o.q), .v (.bool o.c.e), .v (.bool o.c.r), .v (.bool o.c.d), .fsl 2 (o.c.es.map avBa), .fsl 2 (o.c.rs.map avBa)]
def avOp (o : Op) : AV := .agg (cOp o)
def avOps (l : List Op) : AV := .fsl 7 (l.map avOp)
theorem inj_avOp {x y : Op} (h : avOp x = avOp y) : x = y := by
  obtain ⟨f, q, e, r, d, es, rs⟩ := x; obtain ⟨f', q', e', r', d', es', rs'⟩ := y
  simp only [avOp, cOp, AV.agg.injEq, List.cons.injEq, AV.v.injEq, Value.int.injEq, Value.bool.injEq, AV.fsl.injEq, true_and, and_true] at h
  obtain ⟨h1, h2, h3, h4, h5, h6, h7⟩ := h
  have h1 : f = f' := by omega
  subst h1 h2 h3 h4 h5
  rw [map_avBa h6, map_avBa h7]
theorem map_avOp : ∀ {l m : List Op}, l.map avOp = m.map avOp → l = m
  | [], [], _ => rfl
  | [], _ :: _, h => by simp at h
  | _ :: _, [], h => by simp at h
  | a :: l, b :: m, h => by
    simp only [List.map_cons, List.cons.injEq] at h
    rw [inj_avOp h.1, map_avOp h.2]
theorem un_op (f : Nat) (q : Int) (e r d : Bool) (es rs : List Ba) : un avOp (.agg [.v (.int .u8 (f : Nat)), .v (.int .i64 q), .v (.bool e), .v (.bool r), .v (.bool d), .fsl 2 (es.map avBa), .fsl 2 (rs.map avBa)]) = some ⟨f, q, e, r, d, es, rs⟩ :=
  un_av (av := avOp) (fun _ _ h => inj_avOp h) ⟨f, q, e, r, d, es, rs⟩
theorem un_op' (o : Op) : un avOp (.agg (cOp o)) = some o := un_av (av := avOp) (fun _ _ h => inj_avOp h) o
theorem un_ops (l : List Op) : un avOps (.fsl 7 (l.map avOp)) = some l := un_av (av := avOps) (fun x y h => by simp only [avOps, AV.fsl.injEq, true_and] at h; exact map_avOp h) l
attribute [simp] un_op un_op' un_ops
def okOp (o : Op) : Prop := o.f < 256 ∧ 0 ≤ o.q ∧ o.q < 2000
def keyOp (o : Op) : Int := (o.f : Int) * 2000 + o.q
theorem flatOp (o : Op) (_ : okOp o) : FlatL (cOp o) := flat_cons (flat_int _ _) (flat_cons (flat_int _ _) (flat_cons (flat_bool _) (flat_cons (flat_bool _) (flat_cons (flat_bool _) (flat_cons (flat_fsl _ _) (flat_cons (flat_fsl _ _) flat_nil))))))
theorem lenOp (o : Op) (_ : okOp o) : (cOp o).length = 7 := rfl
theorem takeOp (o : Op) (_ : okOp o) : (cOp o).take 7 = cOp o := rfl
theorem op_shaped (o : Op) : (avOp o).shaped = true := by simp [avOp, cOp, AV.shaped, AV.one, Value.oneCell']
theorem ops_shaped (l : List Op) : (l.map avOp).all AV.shaped = true := map_shaped fun x _ => op_shaped x

/-! ### The order -/
theorem nan64_ok : CallOk Try.prog 69 (sp1 (avI .i64) (fun _ => True) fun _ => .v (.bool false)) := by
  refine ok_69 (Env.none_ok _) _ (wb_sp1 ?_)
  intro n _
  simp only [avI]
  unfold ac_69
  repeat' with_reducible first
  | refine stp ?_ | refine seg_both ?_ ?_ | refine seg_case (fun x h => ?_) (fun h => ?_) | refine seg_gate (fun h => ?_) (fun h => ?_) | refine seg_need ?_ ?_ | refine cond_v (fun h => ?_) (fun h => ?_)
  | refine seg_eval (by simp -dsimp -implicitDefEqProofs; rfl) ?_
  all_goals first
    | exact post_bool rfl (by simp)
    | trace_state
theorem cmp64_ok : CallOk Try.prog 51 (sp2 (avI .i64) (avI .i64) (fun _ _ => True) fun a b => .v (.int .i64 (cmpI a b))) := by
  refine ok_51 (Env.put_ok [] (Env.none_ok _) nan64_ok) _ (wb_sp2 ?_)
  intro a b _
  simp only [avI]
  unfold ac_51
  repeat' with_reducible first
  | refine stp ?_ | refine seg_both ?_ ?_ | refine seg_case (fun x h => ?_) (fun h => ?_) | refine seg_gate (fun h => ?_) (fun h => ?_) | refine seg_need ?_ ?_ | refine cond_v (fun h => ?_) (fun h => ?_)
  | refine seg_eval (by simp -dsimp -implicitDefEqProofs [avI]; rfl) ?_
  all_goals
    simp only [decide_eq_true_eq, decide_eq_false_iff_not] at *
    refine post_fin rfl rfl ⟨[], [], rfl, rfl, ?_, rfl⟩
    unfold cmpI
  · rw [if_pos ‹_›]; rfl
  · rw [if_neg ‹_›, if_pos ‹_›]; rfl
  · rw [if_neg ‹_›, if_neg ‹_›]; rfl
def spOr : Spec
  | [.fsl 1 [.v (.int .i64 a), .v (.int .i64 b)]], [] => some (.ret (.v (.int .i64 (if a = 0 then b else a))), [])
  | _, _ => none
set_option maxHeartbeats 4000000 in
theorem or_ok : CallOk Try.prog 49 spOr := by
  refine ok_49 (Env.none_ok _) spOr fun args mem r mem1 h => ?_
  unfold spOr at h
  split at h
  case h_2 => cases h
  rename_i a b
  cases h
  have w1 : IntKind.wrap .i64 1 = 1 := by decide
  have w2 : IntKind.wrap .i64 2 = 2 := by decide
  unfold ac_49
  repeat' with_reducible first
  | refine stp ?_ | refine seg_both ?_ ?_ | refine seg_case (fun x h => ?_) (fun h => ?_) | refine seg_gate (fun h => ?_) (fun h => ?_) | refine seg_need ?_ ?_ | refine cond_v (fun h => ?_) (fun h => ?_)
  | refine seg_eval (by simp -dsimp -implicitDefEqProofs; rfl) ?_
  refine wp_loop' (fun j ts mm => ((j = 2 ∧ ts = [(3, .v (.int .i64 0)), (6, .fsl 1 [.v (.int .i64 a), .v (.int .i64 b)]), (7, .v (.int .i64 2)), (8, .v (.int .i64 0))]) ∨ (j = 1 ∧ a = 0 ∧ ts = [(3, .v (.int .i64 0)), (6, .fsl 1 [.v (.int .i64 a), .v (.int .i64 b)]), (7, .v (.int .i64 2)), (8, .v (.int .i64 1))]) ∨
    (j = 0 ∧ a = 0 ∧ b = 0 ∧ ts = [(3, .v (.int .i64 0)), (6, .fsl 1 [.v (.int .i64 a), .v (.int .i64 b)]), (7, .v (.int .i64 2)), (8, .v (.int .i64 2))])) ∧ mm = []) 2 ?_ ?_
  · exact ⟨[], [], by simp, by simp, .inl ⟨rfl, by simp⟩, by simp⟩
  · rintro j ts mm ⟨h, rfl⟩
    rcases h with ⟨rfl, rfl⟩ | ⟨rfl, h1, rfl⟩ | ⟨rfl, h1, h2, rfl⟩
    · by_cases ha : a = 0
      · have hb : (a != 0) = false := by simp [ha]
        repeat' with_reducible first
        | refine stp ?_ | refine seg_both ?_ ?_ | refine seg_case (fun x h => ?_) (fun h => ?_) | refine seg_gate (fun h => ?_) (fun h => ?_) | refine seg_need ?_ ?_ | refine cond_v (fun h => ?_) (fun h => ?_)
        | refine seg_eval (by simp -dsimp -implicitDefEqProofs [hb, w1, w2]; rfl) ?_
        all_goals first
          | exact ⟨1, by omega, [], [], by simp, by simp, .inr (.inl ⟨rfl, ha, by simp⟩), by simp⟩
          | trace_state
      · have hb : (a != 0) = true := by simp [ha]
        rw [if_neg ha]
        repeat' with_reducible first
        | refine stp ?_ | refine seg_both ?_ ?_ | refine seg_case (fun x h => ?_) (fun h => ?_) | refine seg_gate (fun h => ?_) (fun h => ?_) | refine seg_need ?_ ?_ | refine cond_v (fun h => ?_) (fun h => ?_)
        | refine seg_eval (by simp -dsimp -implicitDefEqProofs [hb, w1, w2]; rfl) ?_
        all_goals first
          | exact post_fin rfl rfl ⟨[], [], rfl, rfl, rfl, rfl⟩
          | trace_state
    · rw [if_pos h1]
      by_cases hb0 : b = 0
      · have hb : (b != 0) = false := by simp [hb0]
        repeat' with_reducible first
        | refine stp ?_ | refine seg_both ?_ ?_ | refine seg_case (fun x h => ?_) (fun h => ?_) | refine seg_gate (fun h => ?_) (fun h => ?_) | refine seg_need ?_ ?_ | refine cond_v (fun h => ?_) (fun h => ?_)
        | refine seg_eval (by simp -dsimp -implicitDefEqProofs [hb, w1, w2]; rfl) ?_
        all_goals first
          | exact ⟨0, by omega, [], [], by simp, by simp, .inr (.inr ⟨rfl, h1, hb0, by simp⟩), by simp⟩
          | trace_state
      · have hb : (b != 0) = true := by simp [hb0]
        repeat' with_reducible first
        | refine stp ?_ | refine seg_both ?_ ?_ | refine seg_case (fun x h => ?_) (fun h => ?_) | refine seg_gate (fun h => ?_) (fun h => ?_) | refine seg_need ?_ ?_ | refine cond_v (fun h => ?_) (fun h => ?_)
        | refine seg_eval (by simp -dsimp -implicitDefEqProofs [hb, w1, w2]; rfl) ?_
        all_goals first
          | exact post_fin rfl rfl ⟨[], [], rfl, rfl, rfl, rfl⟩
          | trace_state
    · rw [if_pos h1, h2]
      repeat' with_reducible first
      | refine stp ?_ | refine seg_both ?_ ?_ | refine seg_case (fun x h => ?_) (fun h => ?_) | refine seg_gate (fun h => ?_) (fun h => ?_) | refine seg_need ?_ ?_ | refine cond_v (fun h => ?_) (fun h => ?_)
      | refine seg_eval (by simp -dsimp -implicitDefEqProofs; rfl) ?_
      all_goals first
        | exact post_fin rfl rfl ⟨[], [], rfl, rfl, rfl, rfl⟩
        | trace_state
noncomputable def spOrdOp : Spec := sp2 avOp avOp (fun a b => okOp a ∧ okOp b) fun a b => .v (.int .i64 (cmpI (keyOp a) (keyOp b)))
open Classical in
theorem ordAtOp (a b : Op) : spOrdOp [.agg (cOp a), .agg (cOp b)] [] = if okOp a ∧ okOp b then some (.ret (.v (.int .i64 (cmpI (keyOp a) (keyOp b)))), []) else none := by
  simp only [spOrdOp, sp2, un_op']
theorem cmp_keys {a b : Op} (ha : okOp a) (hb : okOp b) : (if cmpI (a.f : Nat) (b.f : Nat) = 0 then cmpI a.q b.q else cmpI (a.f : Nat) (b.f : Nat)) = cmpI (keyOp a) (keyOp b) := by
  obtain ⟨h1, h2, h3⟩ := ha
  obtain ⟨h4, h5, h6⟩ := hb
  unfold cmpI keyOp
  repeat' split
  all_goals omega
theorem ordOp_ok : CallOk Try.prog 25 spOrdOp := by
  refine ok_25 (Env.put_ok [] (Env.put_ok [] (Env.put_ok [true] (Env.none_ok _) (CallOk.borrow (g_49).enters or_ok)) cmp8_ok) cmp64_ok) spOrdOp (wb_sp2 ?_)
  rintro a b ⟨ha, hb⟩
  have hk := cmp_keys ha hb
  simp only [avOp, cOp]
  unfold ac_25
  repeat' with_reducible first
  | refine stp ?_ | refine seg_both ?_ ?_ | refine seg_case (fun x h => ?_) (fun h => ?_) | refine seg_gate (fun h => ?_) (fun h => ?_) | refine seg_need ?_ ?_ | refine cond_v (fun h => ?_) (fun h => ?_)
  | refine seg_eval (by simp -dsimp -implicitDefEqProofs [spCmp8, spOr, avI]; rfl) ?_
  all_goals first
    | omega
    | (rw [hk]; exact post_fin rfl rfl ⟨[], [], rfl, rfl, rfl, rfl⟩)
    | trace_state
end Go.Proofs.Ytkbgndebfcjojaa.Am
