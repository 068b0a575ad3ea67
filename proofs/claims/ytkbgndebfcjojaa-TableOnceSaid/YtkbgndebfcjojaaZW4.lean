/-
  A VOTE TAKEN (the program).
-/
import Derived.Test.YtkbgndebfcjojaaZW3
namespace Go.Proofs.Ytkbgndebfcjojaa.Am
set_option linter.unusedSimpArgs false
set_option linter.unusedVariables false
open Go Go.Proofs
attribute [local irreducible] wpA
attribute [-simp] splice

/-! ### What comes of a vote -/
abbrev Ou := Int × ByteArray
def avOu (o : Ou) : AV := .agg [.v (.int .i64 o.1), .v (.string o.2)]
structure Vt where
  c : Cs
  o : List Ou
  b : ByteArray
  i : Bool
  x : Int
def noS : ByteArray := ⟨#[]⟩
def failV (c : Cs) (x : Int) : Vt := ⟨c, [], noS, false, x⟩
def readyV (c : Cs) (s : ByteArray) : Cs × List Ou := if c.r = true then (c, []) else (⟨c.e, true, c.d, c.es, c.rs⟩, [(3, s)])
def readiesS (n : Int) : Int := faultyS n + 1
def enoughS (n : Int) : Int := 2 * faultyS n + 1
def echoV (c : Cs) (n who : Nat) (s : ByteArray) : Vt :=
  if votedB c.es who = true then failV c 6 else
  if echoesS n ≤ (sizeS (withS (forB c.es s) who) : Int) then ⟨(readyV ⟨c.e, c.r, c.d, withB c.es who s, c.rs⟩ s).1, (readyV ⟨c.e, c.r, c.d, withB c.es who s, c.rs⟩ s).2, noS, false, 0⟩
  else ⟨⟨c.e, c.r, c.d, withB c.es who s, c.rs⟩, [], noS, false, 0⟩
def doneV (p : Cs × List Ou) (n : Int) (many : Int) (s : ByteArray) : Vt :=
  if p.1.d = false ∧ enoughS n ≤ many then ⟨⟨p.1.e, p.1.r, true, p.1.es, p.1.rs⟩, p.2, s, true, 0⟩ else ⟨p.1, p.2, noS, false, 0⟩
def readiedV (c : Cs) (n who : Nat) (s : ByteArray) : Vt :=
  if votedB c.rs who = true then failV c 6 else
  doneV (if readiesS n ≤ (sizeS (withS (forB c.rs s) who) : Int) then readyV ⟨c.e, c.r, c.d, c.es, withB c.rs who s⟩ s else (⟨c.e, c.r, c.d, c.es, withB c.rs who s⟩, [])) n (sizeS (withS (forB c.rs s) who)) s
def takeV (c : Cs) (m frm : Nat) (kind : Int) (who : Nat) (s : ByteArray) : Vt :=
  if kind < 1 ∨ 3 < kind ∨ 1000 < s.size then failV c 2
  else if hasS m who = false ∨ hasS m frm = false ∨ kind = 1 ∧ who ≠ frm then failV c 10
  else if kind = 1 then (if c.e = true then failV c 6 else ⟨⟨true, c.r, c.d, c.es, c.rs⟩, [(2, s)], noS, false, 0⟩)
  else if kind = 2 then echoV c (sizeS m) who s
  else readiedV c (sizeS m) who s

noncomputable def spOwnC : Spec := sp1 avCs okCs avCs
set_option maxHeartbeats 4000000 in
theorem ownC_ok : CallOk Try.prog 40 spOwnC := by
  refine ok_40 (Env.put_ok [] (Env.none_ok _) cloneF_ok) spOwnC (wb_sp1 ?_)
  rintro ⟨e, r, d, es, rs⟩ ⟨⟨h1, h2⟩, h3, h4⟩
  simp only [avCs] at h1 h3 ⊢
  unfold ac_40
  repeat' with_reducible first
  | refine stm ?_ | refine seg_both ?_ ?_ | refine seg_case (fun x h => ?_) (fun h => ?_) | refine seg_gate (fun h => ?_) (fun h => ?_) | refine seg_need ?_ ?_ | refine cond_v (fun h => ?_) (fun h => ?_)
  | refine seg_eval (by simp -dsimp -implicitDefEqProofs; rfl) ?_
  refine wp_drawsR (fun ts mm => ts = [(1, .ptr 0 0 0), (2, .ptr 1 0 0)] ∧ mm = [.var [.v (.bool e), .v (.bool r), .v (.bool d), .fsl 2 (es.map avBa), .fsl 2 (rs.map avBa)], .var [.v (.bool false), .v (.bool false), .v (.bool false), .v (.slice none 0 0), .v (.slice none 0 0)]]) ?_ ?_
  · intro W hW
    repeat' with_reducible first
    | refine stp ?_ | refine seg_both ?_ ?_ | refine seg_case (fun x h => ?_) (fun h => ?_) | refine seg_gate (fun h => ?_) (fun h => ?_) | refine seg_need ?_ ?_ | refine cond_v (fun h => ?_) (fun h => ?_)
    | refine seg_eval (by simp -dsimp -implicitDefEqProofs [spCloneF, avBas, h1, h3]; rfl) ?_
    all_goals first
      | omega
      | exact hW _ _ ⟨[], [0, 1], rfl, rfl, by simp, by simp⟩
      | trace_state
  · rintro ts mm ⟨rfl, rfl⟩
    repeat' with_reducible first
    | refine stp ?_ | refine seg_both ?_ ?_ | refine seg_case (fun x h => ?_) (fun h => ?_) | refine seg_gate (fun h => ?_) (fun h => ?_) | refine seg_need ?_ ?_ | refine cond_v (fun h => ?_) (fun h => ?_)
    | refine seg_eval (by simp -dsimp -implicitDefEqProofs; rfl) ?_
    all_goals first
      | exact post_fin rfl rfl ⟨[], [], rfl, rfl, rfl, rfl⟩
      | trace_state
open Classical in
noncomputable def spFail : Spec
  | [.v (.int .i64 x), .fptr a 0], [] => match un avCs a with
    | some c => if okCs c then some (.ret (.tup [avCs c, .fsl 2 [], .v (.string noS), .v (.bool false), .v (.int .i64 x)]), []) else none
    | _ => none
  | _, _ => none
theorem fail_ok : CallOk Try.prog 39 spFail := by
  refine ok_39 (Env.put_ok [] (Env.none_ok _) ownC_ok) spFail fun args mem r mem1 h => ?_
  unfold spFail at h
  split at h
  case h_2 => cases h
  rename_i x a
  split at h
  case h_2 => cases h
  rename_i c hc
  split at h
  case isFalse => cases h
  rename_i hok
  cases h
  rw [un_some hc]
  obtain ⟨e, r, d, es, rs⟩ := c
  simp only [avCs]
  unfold ac_39
  repeat' with_reducible first
  | refine stp ?_ | refine seg_both ?_ ?_ | refine seg_case (fun x h => ?_) (fun h => ?_) | refine seg_gate (fun h => ?_) (fun h => ?_) | refine seg_need ?_ ?_ | refine cond_v (fun h => ?_) (fun h => ?_)
  | refine seg_eval (by simp -dsimp -implicitDefEqProofs [spOwnC, avCs, hok]; rfl) ?_
  all_goals first
    | exact hok
    | exact post_finS rfl rfl (.tup (.cons (.rfl _) (.cons (.nil 0 2) (.cons (.rfl _) (.cons (.rfl _) (.cons (.rfl _) .nil)))))) ⟨[], [], rfl, rfl, rfl, rfl⟩
    | trace_state
theorem readies_ok : CallOk Try.prog 43 (sp1 (avI .i64) (fun _ => True) fun n => .v (.int .i64 (readiesS n))) := by
  refine ok_43 (Env.put_ok [] (Env.none_ok _) faulty_ok) _ (wb_sp1 ?_)
  intro n _
  have hr := faulty_range n
  have w : IntKind.wrap .i64 (faultyS n + 1) = faultyS n + 1 := IntWalk.i64_in _ (by omega)
  simp only [avI, readiesS]
  unfold ac_43
  repeat' with_reducible first
  | refine stp ?_ | refine seg_both ?_ ?_ | refine seg_case (fun x h => ?_) (fun h => ?_) | refine seg_gate (fun h => ?_) (fun h => ?_) | refine seg_need ?_ ?_ | refine cond_v (fun h => ?_) (fun h => ?_)
  | refine seg_eval (by simp -dsimp -implicitDefEqProofs [spFaulty, w]; rfl) ?_
  all_goals exact post_fin rfl rfl ⟨[], [], rfl, rfl, rfl, rfl⟩
theorem enough_ok : CallOk Try.prog 46 (sp1 (avI .i64) (fun _ => True) fun n => .v (.int .i64 (enoughS n))) := by
  refine ok_46 (Env.put_ok [] (Env.none_ok _) faulty_ok) _ (wb_sp1 ?_)
  intro n _
  have hr := faulty_range n
  have w0 : IntKind.wrap .i64 (2 * faultyS n) = 2 * faultyS n := IntWalk.i64_in _ (by omega)
  have w : IntKind.wrap .i64 (2 * faultyS n + 1) = 2 * faultyS n + 1 := IntWalk.i64_in _ (by omega)
  simp only [avI, enoughS]
  unfold ac_46
  repeat' with_reducible first
  | refine stp ?_ | refine seg_both ?_ ?_ | refine seg_case (fun x h => ?_) (fun h => ?_) | refine seg_gate (fun h => ?_) (fun h => ?_) | refine seg_need ?_ ?_ | refine cond_v (fun h => ?_) (fun h => ?_)
  | refine seg_eval (by simp -dsimp -implicitDefEqProofs [spFaulty, w0, w]; rfl) ?_
  all_goals exact post_fin rfl rfl ⟨[], [], rfl, rfl, rfl, rfl⟩
theorem readiesR_ok : CallOk Try.prog 77 (sp1 (avI .i64) (fun _ => True) fun n => .v (.int .i64 (readiesS n))) := by
  refine ok_77 (Env.put_ok [] (Env.none_ok _) faultyR_ok) _ (wb_sp1 ?_)
  intro n _
  have hr := faulty_range n
  have w : IntKind.wrap .i64 (faultyS n + 1) = faultyS n + 1 := IntWalk.i64_in _ (by omega)
  simp only [avI, readiesS]
  unfold ac_77
  repeat' with_reducible first
  | refine stp ?_ | refine seg_both ?_ ?_ | refine seg_case (fun x h => ?_) (fun h => ?_) | refine seg_gate (fun h => ?_) (fun h => ?_) | refine seg_need ?_ ?_ | refine cond_v (fun h => ?_) (fun h => ?_)
  | refine seg_eval (by simp -dsimp -implicitDefEqProofs [spFaulty, w]; rfl) ?_
  all_goals exact post_fin rfl rfl ⟨[], [], rfl, rfl, rfl, rfl⟩
theorem enoughR_ok : CallOk Try.prog 78 (sp1 (avI .i64) (fun _ => True) fun n => .v (.int .i64 (enoughS n))) := by
  refine ok_78 (Env.put_ok [] (Env.none_ok _) faultyR_ok) _ (wb_sp1 ?_)
  intro n _
  have hr := faulty_range n
  have w0 : IntKind.wrap .i64 (2 * faultyS n) = 2 * faultyS n := IntWalk.i64_in _ (by omega)
  have w : IntKind.wrap .i64 (2 * faultyS n + 1) = 2 * faultyS n + 1 := IntWalk.i64_in _ (by omega)
  simp only [avI, enoughS]
  unfold ac_78
  repeat' with_reducible first
  | refine stp ?_ | refine seg_both ?_ ?_ | refine seg_case (fun x h => ?_) (fun h => ?_) | refine seg_gate (fun h => ?_) (fun h => ?_) | refine seg_need ?_ ?_ | refine cond_v (fun h => ?_) (fun h => ?_)
  | refine seg_eval (by simp -dsimp -implicitDefEqProofs [spFaulty, w0, w]; rfl) ?_
  all_goals exact post_fin rfl rfl ⟨[], [], rfl, rfl, rfl, rfl⟩
end Go.Proofs.Ytkbgndebfcjojaa.Am
