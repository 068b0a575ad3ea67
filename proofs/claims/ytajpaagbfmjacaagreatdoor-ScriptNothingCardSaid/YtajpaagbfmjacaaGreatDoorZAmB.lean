/-
  THE ABSTRACT MACHINE, TWELFTH PART: whole bodies, what is to be shown of them. No program is named here.
-/
import Derived.Test.YtajpaagbfmjacaaGreatDoorZQ2
import Derived.Deep.LoopGhost
import Derived.Orders
namespace Go.Proofs.YtajpaagbfmjacaaGreatDoor.Am
set_option linter.unusedSimpArgs false
set_option linter.unusedVariables false
open Go

/-- What is known of the slots. -/
abbrev Tm := List (Nat × AV)

def tget : Tm → Nat → AV
  | [], _ => .any
  | (k, v) :: r, n => if k = n then v else tget r n

def tset (d : Nat) (v : AV) : Tm → Tm
  | [] => []
  | (k, u) :: r => if k = d then (k, v) :: r else (k, u) :: tset d v r

def tkill (ks : List Nat) : Tm → Tm
  | [] => []
  | (k, u) :: r => if ks.contains k = true then tkill ks r else (k, u) :: tkill ks r

def tput (ts : Tm) (d : Option Nat) (v : AV) : Tm :=
  match d with
  | some d => (d, v) :: ts
  | none => ts

def tkeep (keep : List Nat) (ts : Tm) : Tm := keep.map fun k => (k, tget ts k)

def tids : Tm → List Nat
  | [] => []
  | (_, u) :: r => u.ids ++ tids r

def tmap (f : Nat → Nat) : Tm → Tm
  | [] => []
  | (k, u) :: r => (k, u.mapId f) :: tmap f r

def upd (σ : Nat → AV) (d : Option Nat) (v : AV) : Nat → AV :=
  match d with
  | some d => fun n => if d = n then v else σ n
  | none => σ

theorem tget_tput (ts : Tm) (d : Option Nat) (v : AV) : tget (tput ts d v) = upd (tget ts) d v := by
  cases d with
  | none => rfl
  | some d => funext n; simp [tput, tget, upd]

theorem tset_same (d : Nat) : ∀ ts : Tm, tset d (tget ts d) ts = ts
  | [] => rfl
  | (k, u) :: r => by
    simp only [tset, tget]
    split
    · rfl
    · rw [tset_same d r]

theorem tget_tkill (ks : List Nat) : ∀ (ts : Tm) (n : Nat), tget (tkill ks ts) n = .any ∨ tget (tkill ks ts) n = tget ts n
  | [], n => .inl rfl
  | (k, u) :: r, n => by
    simp only [tkill]
    split
    · rename_i hk
      rcases tget_tkill ks r n with h | h
      · exact .inl h
      · by_cases hkn : k = n
        · subst hkn
          left
          clear h
          induction r with
          | nil => rfl
          | cons p r ih =>
            obtain ⟨k', u'⟩ := p
            simp only [tkill]
            split
            · exact ih
            · rename_i hk'
              simp only [tget]
              rw [if_neg (fun e : k' = k => hk' (by rw [e]; exact hk))]
              exact ih
        · right; rw [h]; simp [tget, hkn]
    · simp only [tget]
      split
      · exact .inr rfl
      · exact tget_tkill ks r n

theorem tget_tkeep (ts : Tm) : ∀ (keep : List Nat) (n : Nat), tget (tkeep keep ts) n = .any ∨ tget (tkeep keep ts) n = tget ts n
  | [], n => .inl rfl
  | k :: r, n => by
    simp only [tkeep, List.map_cons, tget]
    split
    · rename_i h; subst h; exact .inr rfl
    · exact tget_tkeep ts r n

theorem tget_tmap (f : Nat → Nat) : ∀ (ts : Tm) (n : Nat), tget (tmap f ts) n = (tget ts n).mapId f
  | [], n => by simp [tmap, tget, AV.mapId]
  | (k, u) :: r, n => by
    simp only [tmap, tget]
    split
    · rfl
    · exact tget_tmap f r n

theorem tids_get : ∀ (ts : Tm) (n i : Nat), i ∈ (tget ts n).ids → i ∈ tids ts
  | [], n, i, h => by simp [tget, AV.ids] at h
  | (k, u) :: r, n, i, h => by
    simp only [tget] at h
    simp only [tids, List.mem_append]
    split at h
    · exact .inl h
    · exact .inr (tids_get r n i h)

/-! ### What is to be shown -/
inductive AExit where
  | normal
  | exit (id : Nat)
  | ret
  | pan (v : AV)

abbrev Post := AExit → Tm → List Blk → Prop

def AExit.thenA (next : Tm → List Blk → Prop) (Q : Post) : Post
  | .normal, ts, m => next ts m
  | e, ts, m => Q e ts m

def AExit.inBlk (id : Nat) (Q : Post) : Post
  | .exit j, ts, m => if j = id then Q .normal ts m else Q (.exit j) ts m
  | e, ts, m => Q e ts m

def optK {α : Type} (o : Option α) (K : α → Prop) : Prop :=
  match o with
  | none => False
  | some x => K x

/-- One operation, and then the rest. -/
def stepK (Γ : Env) (o : AOper) (ts : Tm) (m : List Blk) (Q : Post) (rest : Tm → List Blk → Prop) : Prop :=
  optK (stepA Γ (tget ts) m o.op) fun p => match p with
    | (.ret v, m') => rest (tput (tkill o.kill ts) o.dst v) m'
    | (.pan v, m') => Q (.pan v) [] m'

/-- A guard's slot, once it is known. -/
def guardK (ts : Tm) (d : Nat) (b : Bool) (yes no : Tm → Prop) : Prop :=
  match tget ts d with
  | .v (.bool t) => (t = b → yes (tset d (.v (.bool b)) ts)) ∧ (t = !b → no (tset d (.v (.bool !b)) ts))
  | _ => False

/-- What stands in the slot of an operation that was passed by. -/
abbrev skipV : AV := .v (.tuple #[])
/-- An operation whose guard was passed by is passed by. -/
def skipK (ts : Tm) (d : Nat) (no : Tm → Prop) (K : Prop) : Prop :=
  match tget ts d with
  | .v (.tuple ⟨[]⟩) => no ts
  | _ => K

def gateK (g : Option (Nat × Bool)) (ts : Tm) (yes no : Tm → Prop) : Prop :=
  match g with
  | none => yes ts
  | some (d, b) => skipK ts d no (guardK ts d b yes no)

/-- Operations, one by one. -/
def runW (Γ : Env) : List AOper → Tm → List Blk → Post → Prop
  | [], ts, m, Q => Q .normal ts m
  | o :: r, ts, m, Q => gateK o.guard ts (fun ts => stepK Γ o ts m Q fun ts' m' => runW Γ r ts' m' Q) (fun ts => runW Γ r (tput (tkill o.kill ts) o.dst skipV) m Q)

def condK (ts : Tm) (c : AOpd) (yes no : Tm → Prop) : Prop :=
  match c with
  | .t d => guardK ts d true yes no
  | .c (.bool t) => (t = true → yes ts) ∧ (t = false → no ts)
  | _ => False

def isFsl : AV → Bool
  | .fsl .. => true
  | .v (.slice none 0 0) => true
  | _ => false

/-- Operations that look at no memory. -/
def freeA (σ : Nat → AV) : AOp → Bool
  | .mov _ | .pick .. | .bld .. | .chk _ | .isi .. | .bin .. | .eqs .. | .un .. | .cvt .. | .cvs _ | .mki .. | .fad .. | .fld .. | .iaa .. | .ixs .. | .ixa .. | .ext .. | .lenA _ | .mnn _ | .mxx _ | .mkf .. | .s2b .. => true
  | .len s x => s || isFsl (x.ev σ)
  | .b2s x => isFsl (x.ev σ)
  | .iax _ x _ => isFsl (x.ev σ)
  | .slc s _ x _ _ => s || isFsl (x.ev σ)
  | .slo _ x _ => isFsl (x.ev σ)
  | .sla .. => true
  | .ld _ _ x => match x.ev σ with
    | .fptr .. => true
    | _ => false
  | _ => false

/-- Operations in one of the orders that may be. -/
def planW (Γ : Env) : Plan → Tm → List Blk → Post → Prop
  | .done, ts, m, Q => Q .normal ts m
  | .stop, _, _, _ => True
  | .tak _ o nx, ts, m, Q => gateK o.guard ts (fun ts => freeA (tget ts) o.op = true ∧ optK (stepA Γ (tget ts) m o.op) fun p => match p with
      | (.ret v, _) => planW Γ nx (tput ts o.dst v) m Q
      | (.pan _, _) => False) (fun ts => planW Γ nx (tput ts o.dst skipV) m Q)
  | .alt _ o nx ot, ts, m, Q => gateK o.guard ts (fun ts => optK (stepA Γ (tget ts) m o.op) fun p => match p with
      | (.ret v, m') => planW Γ nx (tput ts o.dst v) m' Q
      | (.pan v, m') => Q (.pan v) [] m') (fun ts => planW Γ nx (tput ts o.dst skipV) m Q) ∧ planW Γ ot ts m Q

/-- A nil slice is a slice of the call's own, too; and a slice of its own may get a new number. -/
def adoptA (ad : List (Nat × Nat × Nat)) (ts : Tm) (m : List Blk) : Option (Tm × List Blk) :=
  match ad with
  | [] => some (ts, m)
  | (d, t, sz) :: r => match tget ts d with
    | .v (.slice none 0 0) => if 0 < sz then adoptA r (tput ts (some d) (.osl m.length)) (m ++ [.arr t sz []]) else none
    | .osl i => match m[i]? with
      | some (.arr t' sz' es) => adoptA r (tput ts (some d) (.osl m.length)) (m.set i .gone ++ [.arr t' sz' es])
      | _ => none
    | _ => none

/-- The state in other words: some slots, some blocks, numbered anew. -/
def into (N : Nat) (keep : List Nat) (J : Tm → List Blk → Prop) (ts : Tm) (m : List Blk) : Prop :=
  ∃ (ad : List (Nat × Nat × Nat)) (ids : List Nat), optK (adoptA ad ts m) fun p =>
    subOk ids p.2 (tids (tkeep keep p.1)) = true ∧ ids.take N = List.range N ∧ J (tmap (idx ids) (tkeep keep p.1)) (subM ids p.2)

/-- What a slot leads to is written no more from here on: a variable of the call's own by its pointer, or slices. -/
def sealA (d : Nat) (ts : Tm) (m : List Blk) : Option (Tm × List Blk) :=
  match tget ts d with
  | .ptr id 0 0 => match m[id]? with
    | some (.var cs) =>
      if AV.isBareAll cs = true then some (tput (tkill [d] ts) (some d) (.fptr (.agg cs) 0), m.set id .gone)
      else if AV.isBareAll (AV.kfzAll m cs) = true then some (tput (tkill [d] ts) (some d) (.fptr (.agg (AV.kfzAll m cs)) 0), (freezeIds (AV.slicesAll cs) m).set id .gone) else none
    | _ => none
  | a => some (tput (tkill [d] ts) (some d) (a.kfz m), freezeIds a.slices m)

/-- A slice of the call's own with all that it has room for. -/
def openA (d : Nat) (ts : Tm) (m : List Blk) (K : Tm → List Blk → Prop) : Prop :=
  match tget ts d with
  | .osl id => match m[id]? with
    | some (.arr t sz es) => (∀ k : Nat, es.length + k ≤ maxLen → K (tput (tkill [d] ts) (some d) (.win id 0 es.length)) (m.set id (.buf t sz (es ++ List.replicate k (.agg (List.replicate sz .any)))))) ∧
        (es = [] → K (tput (tkill [d] ts) (some d) (.v (.slice none 0 0))) (m.set id .gone))
    | _ => False
  | .v (.slice none 0 0) => K ts m
  | _ => False

/-- The first elements of such a one are a slice of the call's own again. -/
def closeA (d : Nat) (ts : Tm) (m : List Blk) : Option (Tm × List Blk) :=
  match tget ts d with
  | .win id 0 n => match m[id]? with
    | some (.buf t sz es) => if n ≤ es.length then some (tput (tkill [d] ts) (some d) (.osl m.length), m.set id .gone ++ [.arr t sz (es.take n)]) else none
    | _ => none
  | .v (.slice none 0 0) => some (ts, m)
  | _ => none

/-- An empty slice as the value that it is. -/
def concA (d : Nat) (ts : Tm) (K : Tm → Prop) : Prop :=
  match tget ts d with
  | .fsl _ [] => ∀ (base : Option Addr) (cap : Nat), K (tput (tkill [d] ts) (some d) (.v (.slice base 0 cap)))
  | _ => K ts

/-- What is to be shown of a body: weakest preconditions over abstract states. -/
def wpA (Γ : Env) (N : Nat) : ACode → Post → Tm → List Blk → Prop
  | .skip, Q, ts, m => Q .normal ts m
  | .region false _ ops, Q, ts, m => runW Γ ops ts m Q
  | .region true _ _, _, _, _ => False
  | .draws p _ _, Q, ts, m => planW Γ p ts m Q
  | .seq a b, Q, ts, m => wpA Γ N a (AExit.thenA (wpA Γ N b Q) Q) ts m
  | .cond c a b, Q, ts, m => condK ts c (fun ts => wpA Γ N a Q ts m) (fun ts => wpA Γ N b Q ts m)
  | .block id b, Q, ts, m => wpA Γ N b (AExit.inBlk id Q) ts m
  | .loop keep b, Q, ts, m => ∃ (I : Nat → Tm → List Blk → Prop) (n : Nat), into N keep (I n) ts m ∧ ∀ n ts m, I n ts m → wpA Γ N b (AExit.thenA (fun ts' m' => ∃ k, k < n ∧ into N keep (I k) ts' m') Q) ts m
  | .drop ks b, Q, ts, m => wpA Γ N b Q (tkill ks ts) m
  | .pack keep b, Q, ts, m => into N keep (wpA Γ N b Q) ts m
  | .seal_ d b, Q, ts, m => optK (sealA d ts m) fun p => wpA Γ N b Q p.1 p.2
  | .open_ d b, Q, ts, m => openA d ts m fun ts m => wpA Γ N b Q ts m
  | .close_ d b, Q, ts, m => optK (closeA d ts m) fun p => wpA Γ N b Q p.1 p.2
  | .conc d b, Q, ts, m => concA d ts fun ts => wpA Γ N b Q ts m
  | .exit id, Q, ts, m => Q (.exit id) ts m
  | .ret, Q, ts, m => Q .ret ts m
  | .bad, _, _, _ => False

/-! ### The notes taken away -/
def AOper.plain (o : AOper) : AOper := { o with kill := [] }

def ACode.plain : ACode → ACode
  | .skip => .skip
  | .region d p ops => .region d p (ops.map AOper.plain)
  | .draws _ p ops => .region true p (ops.map AOper.plain)
  | .seq a b => .seq a.plain b.plain
  | .cond c a b => .cond c a.plain b.plain
  | .block id b => .block id b.plain
  | .loop _ b => .loop [] b.plain
  | .drop _ b => b.plain
  | .pack _ b => b.plain
  | .seal_ _ b => b.plain
  | .open_ _ b => b.plain
  | .close_ _ b => b.plain
  | .conc _ b => b.plain
  | .exit id => .exit id
  | .ret => .ret
  | .bad => .bad

def optReads : Option AOpd → List Nat
  | some (.t n) => [n]
  | _ => []
def opdReads : AOpd → List Nat
  | .t n => [n]
  | .c _ => []
def opdsReads (l : List AOpd) : List Nat := l.flatMap opdReads

def AOp.reads : AOp → List Nat
  | .mov x | .box x | .chk x | .un _ x | .cvt _ x | .cvs x | .b2s x | .s2b _ x | .mki _ x | .fad _ x | .fld _ _ _ x | .ext _ x | .len _ x | .pan x | .ld _ _ x => opdReads x
  | .pick c a b => opdReads c ++ opdReads a ++ opdReads b
  | .alloc _ | .lenA _ => []
  | .bld _ ps => opdsReads (ps.map fun p => p.2.2)
  | .bsl _ _ ps => opdsReads ps
  | .st _ a x | .bin _ _ a x | .eqs _ _ a x | .iax _ a x | .iaa _ _ a x | .ixs a x | .ixa _ _ _ a x | .app _ _ _ a x | .aps _ a x => opdReads a ++ opdReads x
  | .slc _ _ x lo hi => opdReads x ++ optReads lo ++ optReads hi
  | .call _ xs | .mnn xs | .mxx xs | .mkf _ xs => opdsReads xs
  | .calv f xs => opdReads f ++ opdsReads xs
  | .isn _ _ x | .isi _ x | .cap x | .clr _ x => opdReads x
  | .mkm => []
  | .bad | .alc .. => []
  | .cup x | .cpu _ _ x | .usd x | .sla _ x => opdReads x
  | .eqp _ x y | .ust _ x y | .slo _ x y | .mks _ _ _ x y => opdReads x ++ opdReads y
  | .lkp _ _ m k => opdReads m ++ opdReads k
  | .mup m k v => opdReads m ++ opdReads k ++ opdReads v
  | .cpy _ d s | .ap0 _ _ _ _ d s => opdReads d ++ opdReads s
  | .sl3 _ x lo hi mx => opdReads x ++ optReads lo ++ optReads hi ++ optReads mx

def AOper.reads (o : AOper) : List Nat := o.op.reads ++ (match o.guard with | some (d, _) => [d] | none => [])

def apartA (x y : AOper) : Bool :=
  (match x.dst with
   | some d => !y.reads.contains d && y.dst != some d
   | none => true) &&
  (match y.dst with
   | some d => !x.reads.contains d
   | none => true)

def donAt (i : Nat) (dn : Nat → Bool) : Nat → Bool := fun k => k == i || dn k

def isRdy (pre : List (List Nat)) (dn : Nat → Bool) (i : Nat) : Bool := !dn i && (match pre[i]? with | some l => l.all dn | none => false)

def altsOf : Plan → List Nat
  | .alt i _ _ ot => i :: altsOf ot
  | _ => []

def altsOf? : Plan → Option (List Nat)
  | .alt i _ _ ot => some (i :: altsOf ot)
  | .stop => none
  | _ => some []

/-- All that is ready is looked at. -/
def coverOk (pre : List (List Nat)) (k : Nat) (dn : Nat → Bool) : Plan → Bool
  | .alt i _ _ ot => (List.range k).all fun j => !isRdy pre dn j || (i :: altsOf ot).contains j
  | .stop => false
  | .done => true
  | .tak .. => true

/-- Does the plan look at every order, or at one where all come to the same? -/
def planOk (pre : List (List Nat)) (ops : List AOper) : Plan → Nat → (Nat → Bool) → Bool
  | .done, _, dn => (List.range ops.length).all fun i => !isRdy pre dn i
  | .stop, _, _ => true
  | .tak i o nx, n, dn => n != 0 && decide (i < ops.length) && isRdy pre dn i && (List.range ops.length).all (fun j => j == i || dn j || (match pre[j]?, ops[j]? with | some l, some oj => l.contains i || apartA o oj | _, _ => false)) &&
      coverOk pre ops.length (donAt i dn) nx && planOk pre ops nx (n - 1) (donAt i dn)
  | .alt i _ nx ot, n, dn => n != 0 && decide (i < ops.length) && isRdy pre dn i && coverOk pre ops.length (donAt i dn) nx && planOk pre ops nx (n - 1) (donAt i dn) && planOk pre ops ot n dn

def Plan.pairs (ops : List AOper) : Plan → List (AOper × AOper)
  | .done => []
  | .stop => []
  | .tak i o nx => (o, ops.getD i default) :: nx.pairs ops
  | .alt i o nx ot => (o, ops.getD i default) :: (nx.pairs ops ++ ot.pairs ops)

def ACode.pairs : ACode → List (AOper × AOper)
  | .draws p _ ops => p.pairs ops
  | .seq a b => a.pairs ++ b.pairs
  | .cond _ a b => a.pairs ++ b.pairs
  | .block _ b => b.pairs
  | .loop _ b => b.pairs
  | .drop _ b => b.pairs
  | .pack _ b => b.pairs
  | .seal_ _ b => b.pairs
  | .open_ _ b => b.pairs
  | .close_ _ b => b.pairs
  | .conc _ b => b.pairs
  | .skip | .region .. | .exit _ | .ret | .bad => []

/-- How many slots there are, and which are never written. -/
structure Lim where
  n : Nat
  no : List Nat

def dstOk (T : Lim) (ops : List AOper) : Bool := ops.all fun o => match o.dst with | some d => decide (d < T.n) && !T.no.contains d | none => true

def ACode.chk (T : Lim) : ACode → Bool
  | .region _ _ ops => dstOk T ops
  | .draws p pre ops => dstOk T ops && coverOk pre ops.length (fun _ => false) p && planOk pre ops p ops.length (fun _ => false)
  | .seq a b => a.chk T && b.chk T
  | .cond _ a b => a.chk T && b.chk T
  | .block _ b => b.chk T
  | .loop _ b => b.chk T
  | .drop _ b => b.chk T
  | .pack _ b => b.chk T
  | .seal_ _ b => b.chk T
  | .open_ _ b => b.chk T
  | .close_ _ b => b.chk T
  | .conc _ b => b.chk T
  | .skip | .exit _ | .ret | .bad => true

/-- The notes are sound. -/
def Fine (T : Lim) (ac : ACode) : Prop := ac.chk T = true ∧ ac.pairs.map Prod.fst = ac.pairs.map Prod.snd

/-! ### Every order, abstractly -/
def wantS (σ : Nat → AV) : Option (Nat × Bool) → Option Bool
  | none => some true
  | some (d, b) => match σ d with
    | .v (.bool t) => some (t == b)
    | .v (.tuple ⟨[]⟩) => some false
    | _ => none

def gStep (Γ : Env) (o : AOper) (σ : Nat → AV) (m : List Blk) (Qp : AV → List Blk → Prop) (K : (Nat → AV) → List Blk → Prop) : Prop :=
  match wantS σ o.guard with
  | some true => optK (stepA Γ σ m o.op) fun p => match p with
    | (.ret v, m') => K (upd σ o.dst v) m'
    | (.pan v, m') => Qp v m'
  | some false => K (upd σ o.dst skipV) m
  | none => False

def noRdy (pre : List (List Nat)) (k : Nat) (dn : Nat → Bool) : Prop := ∀ i, i < k → isRdy pre dn i = false

def anyS (Γ : Env) (pre : List (List Nat)) (ops : List AOper) (Qp : AV → List Blk → Prop) (Qn : (Nat → AV) → List Blk → Prop) : Nat → (Nat → Bool) → (Nat → AV) → List Blk → Prop
  | 0, dn, σ, m => noRdy pre ops.length dn ∧ Qn σ m
  | n + 1, dn, σ, m => (noRdy pre ops.length dn → Qn σ m) ∧ ∀ i o, ops[i]? = some o → isRdy pre dn i = true → gStep Γ o σ m Qp (anyS Γ pre ops Qp Qn n (donAt i dn))

section
variable {Γ : Env} {pre : List (List Nat)} {ops : List AOper} {Qp : AV → List Blk → Prop} {Qn : (Nat → AV) → List Blk → Prop} {σ σ' : Nat → AV} {m m' : List Blk}

theorem ev_congr {x : AOpd} (h : ∀ t ∈ opdReads x, σ t = σ' t) : x.ev σ = x.ev σ' := by
  cases x with
  | t n => exact h n (by simp [opdReads])
  | c v => rfl

theorem evs_congr {xs : List AOpd} (h : ∀ t ∈ opdsReads xs, σ t = σ' t) : xs.map (·.ev σ) = xs.map (·.ev σ') :=
  List.map_congr_left fun x hx => ev_congr fun t ht => h t (by simp only [opdsReads, List.mem_flatMap]; exact ⟨x, hx, ht⟩)

theorem bound_congr {d : Nat} {x : Option AOpd} (h : ∀ t ∈ optReads x, σ t = σ' t) : boundOf σ d x = boundOf σ' d x := by
  cases x with
  | none => rfl
  | some x => simp only [boundOf]; rw [ev_congr (x := x) (by cases x with | t n => exact h | c v => exact fun t ht => (by simp [opdReads] at ht))]

theorem stepA_congr {op : AOp} (h : ∀ t ∈ op.reads, σ t = σ' t) : stepA Γ σ m op = stepA Γ σ' m op := by
  have two : ∀ {x y : AOpd}, (∀ t ∈ opdReads x ++ opdReads y, σ t = σ' t) → x.ev σ = x.ev σ' ∧ y.ev σ = y.ev σ' := fun h => ⟨ev_congr fun t ht => h t (by simp [ht]), ev_congr fun t ht => h t (by simp [ht])⟩
  cases op with
  | bad => rfl
  | alc t z => rfl
  | cup x => simp only [stepA]; rw [ev_congr h]
  | cpu u k x => simp only [stepA]; rw [ev_congr h]
  | usd x => simp only [stepA]; rw [ev_congr h]
  | eqp neg x y => obtain ⟨e1, e2⟩ := two h; simp only [stepA]; rw [e1, e2]
  | ust e x y => obtain ⟨e1, e2⟩ := two h; simp only [stepA]; rw [e1, e2]
  | mov x => simp only [stepA]; rw [ev_congr h]
  | box x => simp only [stepA]; rw [ev_congr h]
  | chk x => simp only [stepA]; rw [ev_congr h]
  | un _ x => simp only [stepA]; rw [ev_congr h]
  | cvt _ x => simp only [stepA]; rw [ev_congr h]
  | cvs x => simp only [stepA]; rw [ev_congr h]
  | b2s x => simp only [stepA]; rw [ev_congr h]
  | s2b _ x => simp only [stepA]; rw [ev_congr h]
  | mki _ x => simp only [stepA]; rw [ev_congr h]
  | fad _ x => simp only [stepA]; rw [ev_congr h]
  | fld _ _ _ x => simp only [stepA]; rw [ev_congr h]
  | ext _ x => simp only [stepA]; rw [ev_congr h]
  | len s x => cases s <;> simp only [stepA] <;> rw [ev_congr h]
  | pan x => simp only [stepA]; rw [ev_congr h]
  | ld _ _ x => simp only [stepA]; rw [ev_congr h]
  | isn _ _ x => simp only [stepA]; rw [ev_congr h]
  | isi _ x => simp only [stepA]; rw [ev_congr h]
  | mkm => rfl
  | lkp z ok m k => simp only [stepA]; obtain ⟨e1, e2⟩ := two h; rw [e1, e2]
  | mup m k v =>
    simp only [AOp.reads, List.mem_append] at h
    simp only [stepA]
    rw [ev_congr (fun n hn => h n (.inl (.inl hn))), ev_congr (fun n hn => h n (.inl (.inr hn))), ev_congr (fun n hn => h n (.inr hn))]
  | cap x => simp only [stepA]; rw [ev_congr h]
  | clr _ x => simp only [stepA]; rw [ev_congr h]
  | alloc z => rfl
  | lenA n => rfl
  | pick c a b =>
    simp only [AOp.reads, List.mem_append] at h
    simp only [stepA]
    rw [ev_congr (x := c) (fun t ht => h t (.inl (.inl ht))), ev_congr (x := a) (fun t ht => h t (.inl (.inr ht))), ev_congr (x := b) (fun t ht => h t (.inr ht))]
  | bld z ps =>
    simp only [stepA]
    have : ∀ ps : List (Nat × Nat × AOpd), (∀ t ∈ opdsReads (ps.map fun p => p.2.2), σ t = σ' t) → (ps.map fun p => (p.1, p.2.1, p.2.2.ev σ)) = ps.map fun p => (p.1, p.2.1, p.2.2.ev σ') := by
      intro ps h
      refine List.map_congr_left fun p hp => ?_
      rw [ev_congr (x := p.2.2) (fun t ht => h t (by simp only [opdsReads, List.mem_flatMap, List.mem_map]; exact ⟨_, ⟨p, hp, rfl⟩, ht⟩))]
    rw [this ps h]
  | bsl t sz ps =>
    simp only [stepA]
    have h1 : ∀ x ∈ ps, x.ev σ = x.ev σ' := fun x hx => ev_congr fun t ht => h t (by simp only [AOp.reads, opdsReads, List.mem_flatMap]; exact ⟨x, hx, ht⟩)
    have h2 : (ps.all fun x => (x.ev σ).shaped && (x.ev σ).isBare && (x.ev σ).cells.length == sz) = (ps.all fun x => (x.ev σ').shaped && (x.ev σ').isBare && (x.ev σ').cells.length == sz) := by
      rw [Bool.eq_iff_iff]; simp only [List.all_eq_true]
      exact ⟨fun hh x hx => by rw [← h1 x hx]; exact hh x hx, fun hh x hx => by rw [h1 x hx]; exact hh x hx⟩
    rw [h2, evs_congr h]
  | st n a x => simp only [stepA]; obtain ⟨e1, e2⟩ := two h; rw [e1, e2]
  | bin _ _ a x => simp only [stepA]; obtain ⟨e1, e2⟩ := two h; rw [e1, e2]
  | eqs _ _ a x => simp only [stepA]; obtain ⟨e1, e2⟩ := two h; rw [e1, e2]
  | iax _ a x => simp only [stepA]; obtain ⟨e1, e2⟩ := two h; rw [e1, e2]
  | iaa _ _ a x => simp only [stepA]; obtain ⟨e1, e2⟩ := two h; rw [e1, e2]
  | ixs a x => simp only [stepA]; obtain ⟨e1, e2⟩ := two h; rw [e1, e2]
  | ixa _ _ _ a x => simp only [stepA]; obtain ⟨e1, e2⟩ := two h; rw [e1, e2]
  | app _ _ _ a x => simp only [stepA]; obtain ⟨e1, e2⟩ := two h; rw [e1, e2]
  | aps _ a x => simp only [stepA]; obtain ⟨e1, e2⟩ := two h; rw [e1, e2]
  | cpy _ a x => simp only [stepA]; obtain ⟨e1, e2⟩ := two h; rw [e1, e2]
  | ap0 _ _ _ _ a x => simp only [stepA]; obtain ⟨e1, e2⟩ := two h; rw [e1, e2]
  | sla n x => simp only [stepA]; rw [ev_congr h]
  | mks _ _ _ a x => simp only [stepA]; obtain ⟨e1, e2⟩ := two h; rw [e1, e2]
  | slo n x lo =>
    simp only [AOp.reads, List.mem_append] at h
    have e1 := ev_congr (x := x) (fun t ht => h t (.inl ht))
    have e2 : boundOf σ 0 (some lo) = boundOf σ' 0 (some lo) := bound_congr (fun t ht => h t (.inr (by cases lo with
      | t n => simpa [optReads, opdReads] using ht
      | c v => simp [optReads] at ht)))
    simp only [stepA, e1, e2]
  | sl3 n x lo hi mx =>
    simp only [AOp.reads, List.mem_append] at h
    have e1 := ev_congr (x := x) (fun t ht => h t (.inl (.inl (.inl ht))))
    have e2 : ∀ d, boundOf σ d lo = boundOf σ' d lo := fun d => bound_congr (fun t ht => h t (.inl (.inl (.inr ht))))
    have e3 : ∀ d, boundOf σ d hi = boundOf σ' d hi := fun d => bound_congr (fun t ht => h t (.inl (.inr ht)))
    have e4 : ∀ d, boundOf σ d mx = boundOf σ' d mx := fun d => bound_congr (fun t ht => h t (.inr ht))
    simp only [stepA, e1, e2, e3, e4]
  | slc s n x lo hi =>
    simp only [AOp.reads, List.mem_append] at h
    have e1 := ev_congr (x := x) (fun t ht => h t (.inl (.inl ht)))
    have e2 : ∀ d, boundOf σ d lo = boundOf σ' d lo := fun d => bound_congr (fun t ht => h t (.inl (.inr ht)))
    have e3 : ∀ d, boundOf σ d hi = boundOf σ' d hi := fun d => bound_congr (fun t ht => h t (.inr ht))
    cases s <;> simp only [stepA, e1, e2, e3]
  | call f xs => simp only [stepA]; rw [evs_congr h]
  | mnn xs => simp only [stepA]; rw [evs_congr h]
  | mxx xs => simp only [stepA]; rw [evs_congr h]
  | mkf f xs => simp only [stepA]; rw [evs_congr h]
  | calv f xs =>
    simp only [AOp.reads, List.mem_append] at h
    simp only [stepA]
    rw [ev_congr (x := f) (fun t ht => h t (.inl ht)), evs_congr (xs := xs) (fun t ht => h t (.inr ht))]

theorem upd_ne {d : Option Nat} {v : AV} {t : Nat} (h : ∀ k, d = some k → k ≠ t) : upd σ d v t = σ t := by
  cases d with
  | none => rfl
  | some k => simp [upd, h k rfl]

theorem upd_comm {d e : Option Nat} {v u : AV} (h : ∀ k, d = some k → e ≠ some k) : upd (upd σ d v) e u = upd (upd σ e u) d v := by
  cases d with
  | none => rfl
  | some k => cases e with
    | none => rfl
    | some j =>
      have hne : j ≠ k := fun hh => h k rfl (hh ▸ rfl)
      funext n
      simp only [upd]
      by_cases h1 : k = n
      · subst h1; simp [hne]
      · simp [h1]

theorem donAt_comm (i j : Nat) (dn : Nat → Bool) : donAt i (donAt j dn) = donAt j (donAt i dn) := by
  funext k; simp only [donAt]; cases (k == i) <;> cases (k == j) <;> rfl

theorem rdy_mono {i j : Nat} {dn : Nat → Bool} (h : isRdy pre dn j = true) (hne : j ≠ i) : isRdy pre (donAt i dn) j = true := by
  unfold isRdy at *
  simp only [Bool.and_eq_true, Bool.not_eq_true'] at *
  refine ⟨by simp [donAt, hne, h.1], ?_⟩
  cases hp : pre[j]? with
  | none => simp [hp] at h
  | some l =>
    simp only [hp, List.all_eq_true] at h ⊢
    intro x hx
    simp [donAt, h.2 x hx]

theorem apart_spec {x y : AOper} (h : apartA x y = true) : (∀ d, x.dst = some d → d ∉ y.reads) ∧ (∀ d, x.dst = some d → y.dst ≠ some d) ∧ (∀ d, y.dst = some d → d ∉ x.reads) := by
  refine ⟨fun d hd => ?_, fun d hd => ?_, fun d hd => ?_⟩ <;> simp [apartA, hd] at h
  · exact h.1.1
  · exact h.1.2
  · exact h.2

theorem want_upd {o : AOper} {d : Option Nat} {v : AV} (h : ∀ k, d = some k → k ∉ o.reads) : wantS (upd σ d v) o.guard = wantS σ o.guard := by
  cases hg : o.guard with
  | none => rfl
  | some g =>
    obtain ⟨k, b⟩ := g
    simp only [wantS]
    rw [upd_ne (t := k) (fun j hj e => h j hj (by subst e; simp [AOper.reads, hg]))]

theorem step_upd {o : AOper} {d : Option Nat} {v : AV} (h : ∀ k, d = some k → k ∉ o.reads) : stepA Γ (upd σ d v) m o.op = stepA Γ σ m o.op :=
  stepA_congr fun t ht => upd_ne fun k hk e => h k hk (by subst e; simp [AOper.reads, ht])

/-- The operation gives this value, whatever the memory is. -/
def YieldsA (Γ : Env) (o : AOper) (v : AV) (σ : Nat → AV) : Prop :=
  (wantS σ o.guard = some true ∧ ∀ m, stepA Γ σ m o.op = some (.ret v, m)) ∨ (wantS σ o.guard = some false ∧ v = skipV)

theorem YieldsA.upd {o : AOper} {v u : AV} {d : Option Nat} (hy : YieldsA Γ o v σ) (h : ∀ k, d = some k → k ∉ o.reads) : YieldsA Γ o v (upd σ d u) := by
  unfold YieldsA at *
  simp only [want_upd h, step_upd h]
  exact hy

theorem YieldsA.gStep {o : AOper} {v : AV} (hy : YieldsA Γ o v σ) {K : (Nat → AV) → List Blk → Prop} (h : K (Am.upd σ o.dst v) m) : gStep Γ o σ m Qp K := by
  unfold Am.gStep
  rcases hy with ⟨h1, h2⟩ | ⟨h1, rfl⟩
  · rw [h1]; simp only [h2 m, optK]; exact h
  · rw [h1]; exact h

theorem anyS_first {i : Nat} {oi : AOper} {v : AV} (hi : ops[i]? = some oi) : ∀ (n : Nat) (dn : Nat → Bool) (σ : Nat → AV) (m : List Blk),
    (∀ j oj, ops[j]? = some oj → j ≠ i → dn j = false → (∀ l, pre[j]? = some l → i ∉ l) → apartA oi oj = true) →
    isRdy pre dn i = true → YieldsA Γ oi v σ → anyS Γ pre ops Qp Qn n (donAt i dn) (upd σ oi.dst v) m → anyS Γ pre ops Qp Qn (n + 1) dn σ m := by
  have hlt : i < ops.length := (List.getElem?_eq_some_iff.1 hi).1
  intro n
  induction n with
  | zero =>
    intro dn σ m _ hr hy H
    refine ⟨fun h => (by rw [h i hlt] at hr; cases hr), fun j oj hj hjr => ?_⟩
    by_cases hji : j = i
    · subst hji
      rw [hi] at hj; cases hj
      exact hy.gStep H
    · have := rdy_mono hjr hji
      rw [H.1 j (List.getElem?_eq_some_iff.1 hj).1] at this
      cases this
  | succ n ih =>
    intro dn σ m hfree hr hy H
    refine ⟨fun h => (by rw [h i hlt] at hr; cases hr), fun j oj hj hjr => ?_⟩
    by_cases hji : j = i
    · subst hji
      rw [hi] at hj; cases hj
      exact hy.gStep H
    · have h1 := H.2 j oj hj (rdy_mono hjr hji)
      have hdj : dn j = false := by simp only [isRdy, Bool.and_eq_true, Bool.not_eq_true'] at hjr; exact hjr.1
      have hnot : ∀ l, pre[j]? = some l → i ∉ l := fun l hl hin => by
        simp only [isRdy, hl, Bool.and_eq_true, List.all_eq_true, Bool.not_eq_true'] at hjr hr
        have := hjr.2 i hin
        rw [hr.1] at this; cases this
      obtain ⟨a1, a2, a3⟩ := apart_spec (hfree j oj hj hji hdj hnot)
      have hfree' : ∀ k ok, ops[k]? = some ok → k ≠ i → donAt j dn k = false → (∀ l, pre[k]? = some l → i ∉ l) → apartA oi ok = true := fun k ok hk hki hd hno => by
        refine hfree k ok hk hki ?_ hno
        simp only [donAt, Bool.or_eq_false_iff] at hd; exact hd.2
      have step : ∀ (u : AV) (m' : List Blk), anyS Γ pre ops Qp Qn n (donAt j (donAt i dn)) (upd (upd σ oi.dst v) oj.dst u) m' → anyS Γ pre ops Qp Qn (n + 1) (donAt j dn) (upd σ oj.dst u) m' := by
        intro u m' hh
        refine ih (donAt j dn) (upd σ oj.dst u) m' hfree' (rdy_mono hr (Ne.symm hji)) (hy.upd a3) ?_
        rw [donAt_comm, ← upd_comm a2]
        exact hh
      unfold gStep at h1 ⊢
      rw [want_upd a1, step_upd a1] at h1
      split
      · rename_i hw
        rw [hw] at h1
        simp only [] at h1
        cases hs : stepA Γ σ m oj.op with
        | none => rw [hs] at h1; exact h1
        | some p =>
          rw [hs] at h1
          obtain ⟨r, m2⟩ := p
          cases r with
          | ret u => exact step u m2 h1
          | pan u => exact h1
      · rename_i hw
        rw [hw] at h1
        exact step skipV m h1
      · rename_i hw
        rw [hw] at h1
        exact h1

theorem isFsl_spec {x : AV} (h : isFsl x = true) : (∃ sz es, x = .fsl sz es) ∨ x = .v (.slice none 0 0) := by
  unfold isFsl at h
  split at h
  · exact .inl ⟨_, _, rfl⟩
  · exact .inr rfl
  · cases h

theorem free_spec {op : AOp} (hf : freeA σ op = true) {r : Res} (hs : stepA Γ σ m op = some (r, m')) : ∀ m2, stepA Γ σ m2 op = some (r, m2) := by
  intro m2
  cases op <;> simp only [freeA] at hf <;> first | (cases hf; done) | skip
  case mov x => simp only [stepA, Option.some.injEq, Prod.mk.injEq] at hs ⊢; exact ⟨hs.1, trivial⟩
  case mkf f xs => simp only [stepA, Option.some.injEq, Prod.mk.injEq] at hs ⊢; exact ⟨hs.1, trivial⟩
  case lenA n => simp only [stepA, Option.some.injEq, Prod.mk.injEq] at hs ⊢; exact ⟨hs.1, trivial⟩
  case pick c a b => simp only [stepA] at hs ⊢; split at hs <;> first | (cases hs; done) | (split at hs <;> simp_all <;> grind)
  case bld z ps => simp only [stepA, Option.map_eq_some_iff, Prod.mk.injEq] at hs ⊢; obtain ⟨cs, h1, h2, _⟩ := hs; exact ⟨cs, h1, h2, trivial⟩
  case mnn xs => simp only [stepA] at hs ⊢; split at hs <;> simp_all <;> grind
  case mxx xs => simp only [stepA] at hs ⊢; split at hs <;> simp_all <;> grind
  case slc s n x lo hi =>
    cases s with
    | true => simp only [stepA] at hs ⊢; split at hs <;> first | (cases hs; done) | (split at hs <;> simp_all <;> grind)
    | false =>
      simp only [Bool.false_or] at hf
      rcases isFsl_spec hf with ⟨sz, es, h⟩ | h <;> simp only [stepA, h, AV.frz, AV.slices, freezeIds] at hs ⊢ <;> split at hs <;> simp_all <;> grind
  case sla n x => simp only [stepA] at hs ⊢; split at hs <;> simp_all <;> grind
  case slo n x lo => rcases isFsl_spec hf with ⟨sz, es, h⟩ | h <;> simp only [stepA, h] at hs ⊢ <;> split at hs <;> simp_all <;> grind
  case len s x =>
    cases s with
    | true => simp only [stepA] at hs ⊢; split at hs <;> simp_all <;> grind
    | false =>
      simp only [Bool.false_or] at hf
      rcases isFsl_spec hf with ⟨sz, es, h⟩ | h <;> simp only [stepA, h, elemsW, elems] at hs ⊢ <;> simp_all <;> grind
  case b2s x => rcases isFsl_spec hf with ⟨sz, es, h⟩ | h <;> simp only [stepA, h, elems] at hs ⊢ <;> simp_all <;> grind
  case iax n x i => rcases isFsl_spec hf with ⟨sz, es, h⟩ | h <;> simp only [stepA, h] at hs ⊢ <;> first | (cases hs; done) | (split at hs <;> simp_all <;> grind)
  case ld g n x =>
    split at hf
    · rename_i e o h
      simp only [stepA, h, cellsAt] at hs ⊢
      split at hs <;> simp_all <;> grind
    · cases hf
  case fld g off n x => simp only [stepA] at hs ⊢; split at hs <;> simp_all <;> grind
  case ixa len n g x i => simp only [stepA] at hs ⊢; split at hs <;> simp_all <;> grind
  case bin => simp only [stepA] at hs ⊢; split at hs <;> simp_all <;> grind
  case eqs => simp only [stepA] at hs ⊢; split at hs <;> simp_all <;> grind
  case ixs => simp only [stepA] at hs ⊢; split at hs <;> simp_all <;> grind
  case iaa len n x i =>
    have key : ∀ m, stepA Γ σ m (.iaa len n x i) = (match x.ev σ, intOf? (i.ev σ) with
        | .ptr id j o, some k => if 0 ≤ k ∧ k < len then some (AV.ptr id j (o + k.toNat * n)) else none
        | .fptr e o, some k => if 0 ≤ k ∧ k < len then some (AV.fptr e (o + k.toNat * n)) else none
        | .v (.pointer (some ⟨b, q, none⟩)), some k => match globA b with
          | some cs => if 0 ≤ k ∧ k < len then some (AV.fptr (.agg (cs.map .v)) (q + k.toNat * n)) else none
          | none => none
        | _, _ => none).map fun v => (Res.ret v, m) := by
      intro m
      simp only [stepA]
      generalize x.ev σ = a
      generalize intOf? (i.ev σ) = c
      cases c with
      | none => cases a <;> first | rfl | (rename_i y; cases y <;> first | rfl | (rename_i z; cases z <;> first | rfl | (rename_i z; obtain ⟨_, _, s⟩ := z; cases s <;> rfl)))
      | some k => cases a <;> first
        | rfl
        | (simp only; split <;> rfl)
        | (rename_i y; cases y <;> first
            | rfl
            | (rename_i z; cases z with
               | none => rfl
               | some z => obtain ⟨q, p, s⟩ := z; cases s <;> first | rfl | (simp only; cases globA q <;> first | rfl | (simp only; split <;> rfl))))
    rw [key] at hs ⊢
    obtain ⟨v, h1, h2⟩ := Option.map_eq_some_iff.1 hs
    rw [h1]
    simp only [Prod.mk.injEq] at h2
    rw [← h2.1]
    rfl
  case isi neg x =>
    simp only [stepA] at hs ⊢
    cases hq : nilV (x.ev σ) <;> simp_all <;> grind
  all_goals (simp only [stepA] at hs ⊢; split at hs <;> simp_all <;> grind)

theorem guardK_ok {d : Nat} {b : Bool} {ts : Tm} {yes no : Tm → Prop} (h : guardK ts d b yes no) : ∃ t, tget ts d = .v (.bool t) ∧ ((t == b) = true → yes ts) ∧ ((t == b) = false → no ts) := by
  unfold guardK at h
  split at h
  · rename_i t ht
    refine ⟨t, ht, fun e => ?_, fun e => ?_⟩
    · have e : t = b := by simpa using e
      have := h.1 e; subst e; rwa [← ht, tset_same] at this
    · have e : t = !b := by cases t <;> cases b <;> simp_all
      have := h.2 e; rw [← e] at this; rwa [← ht, tset_same] at this
  · exact h.elim
theorem gateK_ok {g : Option (Nat × Bool)} {ts : Tm} {yes no : Tm → Prop} (h : gateK g ts yes no) : ∃ t, wantS (tget ts) g = some t ∧ (t = true → yes ts) ∧ (t = false → no ts) := by
  unfold gateK at h
  split at h
  · exact ⟨true, rfl, fun _ => h, fun e => by cases e⟩
  · rename_i d b
    unfold skipK at h
    split at h
    · rename_i ht
      exact ⟨false, by simp [wantS, ht], nofun, fun _ => h⟩
    · obtain ⟨t, ht, h1, h2⟩ := guardK_ok h
      exact ⟨t == b, by simp [wantS, ht], h1, h2⟩

theorem plan_any {Q : Post} (hQn : ∀ ts m, Q .normal ts m → Qn (tget ts) m) (hQp : ∀ v m, Q (.pan v) [] m → Qp v m) : ∀ (p : Plan) (n : Nat) (dn : Nat → Bool) (ts : Tm) (m : List Blk), (∀ q ∈ p.pairs ops, q.1 = q.2) → planOk pre ops p n dn = true → planW Γ p ts m Q →
    (coverOk pre ops.length dn p = true → anyS Γ pre ops Qp Qn n dn (tget ts) m) ∧ ∀ j ∈ altsOf p, ∀ o, ops[j]? = some o → n ≠ 0 ∧ gStep Γ o (tget ts) m Qp (anyS Γ pre ops Qp Qn (n - 1) (donAt j dn))
  | .done, n, dn, ts, m, _, hok, hw => by
    refine ⟨fun _ => ?_, fun j hj => by simp [altsOf] at hj⟩
    have hno : noRdy pre ops.length dn := fun i hi => by
      simp only [planOk, List.all_eq_true, List.mem_range, Bool.not_eq_true'] at hok
      exact hok i hi
    cases n with
    | zero => exact ⟨hno, hQn _ _ hw⟩
    | succ n => exact ⟨fun _ => hQn _ _ hw, fun i o hi hr => by rw [hno i (List.getElem?_eq_some_iff.1 hi).1] at hr; cases hr⟩
  | .stop, n, dn, ts, m, _, hok, hw => ⟨fun h => by simp [coverOk] at h, fun j hj => by simp [altsOf] at hj⟩
  | .tak i o nx, n, dn, ts, m, hp, hok, hw => by
    refine ⟨fun _ => ?_, fun j hj => by simp [altsOf] at hj⟩
    simp only [planOk, Bool.and_eq_true, bne_iff_ne, ne_eq, decide_eq_true_eq] at hok
    obtain ⟨⟨⟨⟨⟨h0, hlt⟩, hr⟩, hfree⟩, hcov⟩, hnx⟩ := hok
    obtain ⟨n', rfl⟩ : ∃ n', n = n' + 1 := ⟨n - 1, by omega⟩
    simp only [Nat.add_sub_cancel] at hnx
    have hoi : ops[i]? = some o := by
      have := hp (o, ops.getD i default) (by simp [Plan.pairs])
      rw [List.getD_eq_getElem?_getD, List.getElem?_eq_getElem hlt] at this
      rw [List.getElem?_eq_getElem hlt]; simp at this; rw [this]
    have hp' : ∀ q ∈ nx.pairs ops, q.1 = q.2 := fun q hq => hp q (by simp [Plan.pairs, hq])
    have hfree' : ∀ j oj, ops[j]? = some oj → j ≠ i → dn j = false → (∀ l, pre[j]? = some l → i ∉ l) → apartA o oj = true := fun j oj hj hji hd hno => by
      simp only [List.all_eq_true, List.mem_range] at hfree
      have := hfree j (List.getElem?_eq_some_iff.1 hj).1
      cases hl : pre[j]? with
      | none =>
        simp only [hl, Bool.or_eq_true, beq_iff_eq, hji, hd, false_or, Bool.false_eq_true] at this
      | some l =>
        simp only [hl, hj, Bool.or_eq_true, beq_iff_eq, hji, hd, false_or, Bool.false_eq_true] at this
        rcases this with h | h
        · exact absurd (by simp at h; exact h) (hno l hl)
        · exact h
    simp only [planW] at hw
    obtain ⟨t, ht, hy, hn⟩ := gateK_ok hw
    cases t with
    | true =>
      obtain ⟨hf, hs⟩ := hy rfl
      cases hst : stepA Γ (tget ts) m o.op with
      | none => rw [hst] at hs; exact hs.elim
      | some q =>
        obtain ⟨r, m1⟩ := q
        rw [hst] at hs
        cases r with
        | pan v => exact hs.elim
        | ret v =>
          have hfr := free_spec hf hst
          refine anyS_first hoi n' dn _ m hfree' hr (v := v) (.inl ⟨ht, hfr⟩) ?_
          rw [← tget_tput]
          exact (plan_any hQn hQp nx n' _ _ m hp' hnx hs).1 hcov
    | false =>
      refine anyS_first hoi n' dn _ m hfree' hr (v := skipV) (.inr ⟨ht, rfl⟩) ?_
      rw [← tget_tput]
      exact (plan_any hQn hQp nx n' _ _ m hp' hnx (hn rfl)).1 hcov
  | .alt i o nx ot, n, dn, ts, m, hp, hok, hw => by
    simp only [planOk, Bool.and_eq_true, bne_iff_ne, ne_eq, decide_eq_true_eq] at hok
    obtain ⟨⟨⟨⟨⟨h0, hlt⟩, hr⟩, hcov⟩, hnx⟩, hot⟩ := hok
    have hoi : ops[i]? = some o := by
      have := hp (o, ops.getD i default) (by simp [Plan.pairs])
      rw [List.getD_eq_getElem?_getD, List.getElem?_eq_getElem hlt] at this
      rw [List.getElem?_eq_getElem hlt]; simp at this; rw [this]
    have hp1 : ∀ q ∈ nx.pairs ops, q.1 = q.2 := fun q hq => hp q (by simp [Plan.pairs, hq])
    have hp2 : ∀ q ∈ ot.pairs ops, q.1 = q.2 := fun q hq => hp q (by simp [Plan.pairs, hq])
    simp only [planW] at hw
    obtain ⟨hw1, hw2⟩ := hw
    have hhead : gStep Γ o (tget ts) m Qp (anyS Γ pre ops Qp Qn (n - 1) (donAt i dn)) := by
      obtain ⟨t, ht, hy, hn⟩ := gateK_ok hw1
      unfold gStep
      rw [ht]
      cases t with
      | true =>
        have hs := hy rfl
        simp only []
        cases hst : stepA Γ (tget ts) m o.op with
        | none => rw [hst] at hs; exact hs.elim
        | some q =>
          obtain ⟨r, m1⟩ := q
          rw [hst] at hs
          cases r with
          | pan v => exact hQp _ _ hs
          | ret v =>
            simp only [optK]
            rw [← tget_tput]
            exact (plan_any hQn hQp nx _ _ _ m1 hp1 hnx hs).1 hcov
      | false =>
        simp only []
        rw [← tget_tput]
        exact (plan_any hQn hQp nx _ _ _ m hp1 hnx (hn rfl)).1 hcov
    have hall : ∀ j ∈ altsOf (.alt i o nx ot), ∀ o', ops[j]? = some o' → n ≠ 0 ∧ gStep Γ o' (tget ts) m Qp (anyS Γ pre ops Qp Qn (n - 1) (donAt j dn)) := by
      intro j hj o' ho'
      simp only [altsOf, List.mem_cons] at hj
      rcases hj with rfl | hj
      · rw [hoi] at ho'; cases ho'; exact ⟨h0, hhead⟩
      · exact (plan_any hQn hQp ot n dn ts m hp2 hot hw2).2 j hj o' ho'
    refine ⟨fun hc => ?_, hall⟩
    obtain ⟨n', rfl⟩ : ∃ n', n = n' + 1 := ⟨n - 1, by omega⟩
    refine ⟨fun h => (by rw [h i hlt] at hr; cases hr), fun j oj hj hjr => ?_⟩
    have hja : j ∈ altsOf (.alt i o nx ot) := by
      simp only [coverOk, List.all_eq_true, List.mem_range, Bool.or_eq_true, Bool.not_eq_true', List.contains_iff_mem] at hc
      rcases hc j (List.getElem?_eq_some_iff.1 hj).1 with h | h
      · rw [hjr] at h; cases h
      · exact h
    exact (hall j hja oj hj).2

end
end Go.Proofs.YtajpaagbfmjacaaGreatDoor.Am
