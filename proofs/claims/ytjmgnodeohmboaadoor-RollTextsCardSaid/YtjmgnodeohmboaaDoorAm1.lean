/-
  THE ABSTRACT MACHINE, SECOND PART: the abstract operations, how the model's operations are made into them, and what each of them does. No program is named here.
-/
import Derived.Test.YtjmgnodeohmboaaDoorAm0
namespace Go.Proofs.YtjmgnodeohmboaaDoor.Am
set_option linter.unusedSimpArgs false
set_option linter.unusedVariables false
open Go

/-- An operand. -/
inductive AOpd where
  | t (n : Nat)
  | c (v : Value)
  deriving Inhabited

def AOpd.ev (ts : Nat → AV) : AOpd → AV
  | .t n => ts n
  | .c v => .v v

/-- The kind of a cell that can be compared. -/
inductive EK where
  | i | s | b

inductive AOp where
  | mov (x : AOpd)
  | pick (c a b : AOpd)
  | alloc (z : List Value)
  | box (x : AOpd)
  | bld (z : List Value) (parts : List (Nat × Nat × AOpd))
  | bsl (t sz : Nat) (parts : List AOpd)
  | ld (g : Bool) (n : Nat) (a : AOpd)
  | st (n : Nat) (a x : AOpd)
  | chk (x : AOpd)
  | bin (tb : Bool) (op : BinOp) (x y : AOpd)
  | eqs (neg : Bool) (ks : List EK) (x y : AOpd)
  | un (op : UnOp) (x : AOpd)
  | cvt (k : IntKind) (x : AOpd)
  | cvs (x : AOpd)
  | b2s (x : AOpd)
  | s2b (t : Nat) (x : AOpd)
  | mki (t : Nat) (x : AOpd)
  | slc (s : Bool) (sz : Nat) (x : AOpd) (lo hi : Option AOpd)
  | fad (off : Nat) (x : AOpd)
  | fld (g : Bool) (off n : Nat) (x : AOpd)
  | iax (sz : Nat) (x i : AOpd)
  | iaa (len sz : Nat) (x i : AOpd)
  | ixs (x i : AOpd)
  | ixa (len sz : Nat) (g : Bool) (x i : AOpd)
  | ext (k : Nat) (x : AOpd)
  | call (f : FuncId) (xs : List AOpd)
  | calv (f : AOpd) (xs : List AOpd)
  | len (s : Bool) (x : AOpd)
  | lenA (n : Nat)
  | app (t sz byt : Nat) (s x : AOpd)
  | aps (t : Nat) (s x : AOpd)
  | mnn (xs : List AOpd)
  | mxx (xs : List AOpd)
  | pan (x : AOpd)
  | mkf (f : FuncId) (caps : List AOpd)
  | isn (p neg : Bool) (x : AOpd)
  | isi (neg : Bool) (x : AOpd)
  | cap (x : AOpd)
  | cpy (sz : Nat) (d s : AOpd)
  | ap0 (t sz byt : Nat) (z : List Value) (s k : AOpd)
  | clr (z : List Value) (x : AOpd)
  | sl3 (sz : Nat) (x : AOpd) (lo hi mx : Option AOpd)
  deriving Inhabited

/-! ### How the model's operations are made into them -/
def compOpd : Operand → AOpd
  | .tmp t => .t t
  | .const v => .c v
  | .global g => .c (.pointer (some ⟨g, 0, none⟩))
  | .func f => .c (.func (.func f) #[] #[])

section
variable (P : Program)
def szOf (t : TypeId) : Option Nat := (P.info? t).map (·.size)
def aggOf (t : TypeId) : Bool := match P.underlying t with | some (.struct _) | some (.array _ _) => true | _ => false
/-- Is it a struct or an array, and how many cells has it? -/
def kOf (t : TypeId) : Option (Bool × Nat) := match P.underlying t, szOf P t with | some _, some n => some (aggOf P t, n) | _, _ => none
def zeroOf (t : TypeId) : Option (List Value) := ((P.info? t).bind (·.zero)).map fun z => z.cells.toList
def structOf (t : TypeId) : Option (Array Field) := match P.underlying t with | some (.struct fs) => some fs | _ => none
def elemOf? (t : TypeId) : Option TypeId := match P.underlying t with | some (.slice e) => some e | _ => none
def isInt (t : TypeId) : Bool := match P.underlying t with | some (.int _) => true | _ => false
def isBool (t : TypeId) : Bool := match P.underlying t with | some .bool => true | _ => false
def isStr (t : TypeId) : Bool := match P.underlying t with | some .string => true | _ => false
def isU8 (t : TypeId) : Bool := match P.underlying t with | some (.int .u8) => true | _ => false

def fieldsK (K : TypeId → Option (List EK)) : List Field → Nat → Option (List EK)
  | [], _ => some []
  | f :: r, o => match K f.type, kOf P f.type with
    | some ks, some n => if f.offset = o ∧ n.2 = ks.length ∧ f.name ≠ "_" then (fieldsK K r (o + n.2)).map (ks ++ ·) else none
    | _, _ => none

/-- The kinds of the cells of a type all whose values are numbers, texts and bools. -/
def flatK : Nat → TypeId → Option (List EK)
  | 0, _ => none
  | d + 1, t => match P.underlying t with
    | some (.int _) => some [.i]
    | some .string => some [.s]
    | some .bool => some [.b]
    | some (.struct fs) => if P.stoodInHeld t then none else fieldsK P (flatK d) fs.toList 0
    | some (.array n e) => match flatK d e, kOf P e with
      | some ks, some m => if m.2 = ks.length ∧ m.2 ≠ 0 then some (List.replicate n ks).flatten else none
      | _, _ => none
    | _ => none

def partsS (fs : Array Field) : List (Nat × Operand) → Option (List (Nat × Nat × AOpd))
  | [] => some []
  | (i, x) :: r => match fs[i]?, partsS fs r with
    | some f, some q => (szOf P f.type).map fun n => (f.offset, n, compOpd x) :: q
    | _, _ => none

def isZ8 : Value → Bool
  | .int .u8 0 => true
  | _ => false

def compApp : List Operand → List TypeId → Option AOp
  | [s, x], [t, u] =>
    match elemOf? P t with
    | some e => match P.info? e with
      | some i => match i.zero with
        | some z => if z.cells.size == i.size && i.size != 0 then
            (if t == u then some (.app e i.size i.bytes (compOpd s) (compOpd x))
             else if isInt P u && z.cells.toList.all Value.oneCell' then some (.ap0 e i.size i.bytes z.cells.toList (compOpd s) (compOpd x))
             else if isStr P u && isZ8 z && i.size == 1 && i.bytes == 1 then some (.aps e (compOpd s) (compOpd x)) else none)
          else none
        | none => none
      | none => none
    | none => none
  | _, _ => none

/-- Is it a comparison with nil? -/
def nilC (t : TypeId) (op : BinOp) (y : Operand) : Option (Bool × Bool) :=
  match P.underlying t, y, op with
  | some (.slice _), .const (.slice none _ _), .eql => some (false, false)
  | some (.slice _), .const (.slice none _ _), .neq => some (false, true)
  | some (.pointer _), .const (.pointer none), .eql => some (true, false)
  | some (.pointer _), .const (.pointer none), .neq => some (true, true)
  | _, _, _ => none

def nilI (t : TypeId) (op : BinOp) (y : Operand) : Option Bool :=
  match P.underlying t, y, op with
  | some (.interface _), .const .nilIface, .eql => some false
  | some (.interface _), .const .nilIface, .neq => some true
  | _, _, _ => none

def compCpy : List Operand → List TypeId → Option AOp
  | [d, s], [t, u] => match elemOf? P t, elemOf? P u with
    | some e, some _ => (szOf P e).map fun n => .cpy n (compOpd d) (compOpd s)
    | _, _ => none
  | _, _ => none
def compClr : List Operand → List TypeId → Option AOp
  | [x], [t] => match elemOf? P t with
    | some e => (zeroOf P e).bind fun z => if z.all Value.oneCell' = true then some (.clr z (compOpd x)) else none
    | none => none
  | _, _ => none

def compOp (type : TypeId) : Op → Option AOp
  | .move x | .assign x => some (.mov (compOpd x))
  | .pick c a b => some (.pick (compOpd c) (compOpd a) (compOpd b))
  | .alloc t => (zeroOf P t).map .alloc
  | .box _ x => some (.box (compOpd x))
  | .build t parts =>
    match zeroOf P t, P.underlying t with
    | some z, some (.struct fs) => if fs.all (fun (f : Field) => (szOf P f.type).isSome) then (partsS P fs parts.toList).map fun ps => .bld z ps else none
    | some z, some (.array _ e) => (szOf P e).map fun n => .bld z (parts.toList.map fun (i, x) => (i * n, n, compOpd x))
    | _, _ => none
  | .buildSlice t len parts =>
    match elemOf? P t with
    | some e => match szOf P e, zeroOf P e with
      | some n, some z => if n != 0 && z.length == n && parts.toList.map (·.1) == List.range len && len * n ≤ 16777216 then some (.bsl e n (parts.toList.map fun p => compOpd p.2)) else none
      | _, _ => none
    | none => none
  | .load t a => (kOf P t).map fun k => .ld k.1 k.2 (compOpd a)
  | .store t a x => (szOf P t).map fun n => .st n (compOpd a) (compOpd x)
  | .nilCheck x => some (.chk (compOpd x))
  | .binOp op t x y _ => if aggOf P t then (match op with
      | .eql => if P.eqGuardType P.depth t then none else (flatK P 6 t).map fun ks => .eqs false ks (compOpd x) (compOpd y)
      | .neq => if P.eqGuardType P.depth t then none else (flatK P 6 t).map fun ks => .eqs true ks (compOpd x) (compOpd y)
      | _ => none) else match nilC P t op y with
      | some q => some (.isn q.1 q.2 (compOpd x))
      | none => match nilI P t op y with
        | some neg => some (.isi neg (compOpd x))
        | none => some (.bin (isBool P t) op (compOpd x) (compOpd y))
  | .unOp op _ x => some (.un op (compOpd x))
  | .convert s d x =>
    match P.underlying s, P.underlying d with
    | some (.int _), some (.int k) => some (.cvt k (compOpd x))
    | some .string, some .string => some (.cvs (compOpd x))
    | some (.slice e), some .string => if isU8 P e then some (.b2s (compOpd x)) else none
    | some .string, some (.slice e) => if isU8 P e then some (.s2b e (compOpd x)) else none
    | _, _ => none
  | .makeInterface t x => match P.underlying t with
    | some (.interface _) | none => none
    | _ => some (.mki t (compOpd x))
  | .slice t x lo hi none => match P.underlying t with
    | some .string => some (.slc true 0 (compOpd x) (lo.map compOpd) (hi.map compOpd))
    | some (.slice e) => (szOf P e).map fun n => .slc false n (compOpd x) (lo.map compOpd) (hi.map compOpd)
    | _ => none
  | .slice t x lo (some hi) (some mx) => match P.underlying t with
    | some (.slice e) => (szOf P e).map fun n => .sl3 n (compOpd x) (lo.map compOpd) (some (compOpd hi)) (some (compOpd mx))
    | _ => none
  | .fieldAddr s x i => match structOf P s with
    | some fs => (fs[i]?).bind fun f => match szOf P f.type with | some (_ + 1) => some (.fad f.offset (compOpd x)) | _ => none
    | none => none
  | .field s x i => match structOf P s with
    | some fs => (fs[i]?).bind fun f => (kOf P f.type).map fun k => .fld k.1 f.offset k.2 (compOpd x)
    | none => none
  | .indexAddr t x i => match P.underlying t with
    | some (.slice e) => (szOf P e).map fun n => .iax n (compOpd x) (compOpd i)
    | some (.array len e) => (szOf P e).map fun n => .iaa len n (compOpd x) (compOpd i)
    | _ => none
  | .index t x i => match P.underlying t with
    | some .string => some (.ixs (compOpd x) (compOpd i))
    | some (.array len e) => (kOf P e).map fun k => .ixa len k.2 k.1 (compOpd x) (compOpd i)
    | _ => none
  | .extract x k => some (.ext k (compOpd x))
  | .panic x => some (.pan (compOpd x))
  | .makeFunc (.func f) first caps => if first.isEmpty then some (.mkf f (caps.toList.map compOpd)) else none
  | .call { callee := .value (.func f), args, .. } => some (.call f (args.toList.map compOpd))
  | .call { callee := .value x, args, .. } => some (.calv (compOpd x) (args.toList.map compOpd))
  | .call { callee := .builtin .len, args, argTypes } =>
    match argTypes[0]?, args[0]? with
    | some t, some x => match P.underlying t with
      | some .string => some (.len true (compOpd x))
      | some (.slice _) => some (.len false (compOpd x))
      | some (.array n _) => some (.lenA n)
      | _ => none
    | _, _ => none
  | .call { callee := .builtin .cap, args, argTypes } => match argTypes[0]?, args[0]? with
    | some t, some x => (elemOf? P t).map fun _ => .cap (compOpd x)
    | _, _ => none
  | .call { callee := .builtin .copy, args, argTypes } => compCpy P args.toList argTypes.toList
  | .call { callee := .builtin .clear, args, argTypes } => compClr P args.toList argTypes.toList
  | .call { callee := .builtin .append, args, argTypes } => compApp P args.toList argTypes.toList
  | .call { callee := .builtin .min, args, .. } => some (.mnn (args.toList.map compOpd))
  | .call { callee := .builtin .max, args, .. } => some (.mxx (args.toList.map compOpd))
  | _ => none

/-- An operation with its place, its guard (by the slot that it looks at) and what comes before it. -/
structure AOper where
  dst : Option Nat
  op : AOp
  guard : Option (Nat × Bool)
  /-- the slots that nobody looks at any more (a note of the one who evaluates) -/
  kill : List Nat := []
  deriving Inhabited

def compOper (ops : Array Oper) (o : Oper) : Option AOper :=
  match compOp P o.type o.op with
  | none => none
  | some op => match o.guard with
    | none => some ⟨o.dst, op, none, []⟩
    | some (j, b) => ((ops[j]?).bind (·.dst)).map fun d => ⟨o.dst, op, some (d, b), []⟩

/-- In which orders operations are looked at, where the machine may choose one. -/
inductive Plan where
  | done
  | stop
  | tak (i : Nat) (o : AOper) (next : Plan)
  | alt (i : Nat) (o : AOper) (next others : Plan)

inductive ACode where
  | skip
  | region (draw : Bool) (pre : List (List Nat)) (ops : List AOper)
  | draws (plan : Plan) (pre : List (List Nat)) (ops : List AOper)
  | seq (a b : ACode)
  | cond (c : AOpd) (a b : ACode)
  | block (id : Nat) (b : ACode)
  | loop (keep : List Nat) (b : ACode)
  | drop (ks : List Nat) (b : ACode)
  | pack (keep : List Nat) (b : ACode)
  | seal_ (d : Nat) (b : ACode)
  | open_ (d : Nat) (b : ACode)
  | close_ (d : Nat) (b : ACode)
  | conc (d : Nat) (b : ACode)
  | exit (id : Nat)
  | ret
  deriving Inhabited

def preOf (ops : List Oper) : List (List Nat) := ops.map fun o => (o.after.toList.filter (Region.binds .any ·)).map (·.on)

def compCode : Code → Option ACode
  | .skip => some .skip
  | .region _ ops draw => (ops.toList.mapM (compOper P ops)).map fun l => .region draw (if draw then preOf ops.toList else []) l
  | .seq a b => match compCode a, compCode b with | some x, some y => some (.seq x y) | _, _ => none
  | .cond c a b => match compCode a, compCode b with | some x, some y => some (.cond (compOpd c) x y) | _, _ => none
  | .block id b => (compCode b).map (.block id)
  | .loop b => (compCode b).map (.loop [])
  | .exit id => some (.exit id)
  | .ret => some .ret
  | _ => none
end

/-! ### What they do -/
inductive Res where
  | ret (a : AV)
  | pan (a : AV)

abbrev Spec := List AV → List Blk → Option (Res × List Blk)

/-- Is it the value of one cell? -/
def AV.one : AV → Bool
  | .v x => x.oneCell'
  | .any | .agg _ | .tup _ => false
  | _ => true

/-- Are its cells known? -/
def AV.shaped : AV → Bool
  | .agg cs => cs.all AV.one
  | a => a.one

mutual
/-- Its slices are given away: nobody writes them any more. -/
def AV.frz (mem : List Blk) : AV → AV
  | .agg cs => .agg (AV.frzAll mem cs)
  | .tup cs => .tup (AV.frzAll mem cs)
  | .osl id => match mem[id]? with
    | some (.arr _ sz es) => .fsl sz es
    | some (.frz a) => a
    | _ => .osl id
  | .v (.slice none 0 0) => .fsl 0 []
  | a => a
def AV.frzAll (mem : List Blk) : List AV → List AV
  | [] => []
  | a :: as => a.frz mem :: AV.frzAll mem as
end

mutual
/-- The slices of its own that it names. -/
def AV.slices : AV → List Nat
  | .agg cs | .tup cs => AV.slicesAll cs
  | .osl id => [id]
  | _ => []
def AV.slicesAll : List AV → List Nat
  | [] => []
  | a :: as => a.slices ++ AV.slicesAll as
end

def Blk.freeze : Blk → Blk
  | .arr _ sz es => .frz (.fsl sz es)
  | b => b

def freezeIds : List Nat → List Blk → List Blk
  | [], mem => mem
  | i :: is, mem => freezeIds is (mem.modify i Blk.freeze)

mutual
/-- The same value, where every block that it names has another number. -/
def AV.mapId (f : Nat → Nat) : AV → AV
  | .agg cs => .agg (AV.mapIdAll f cs)
  | .tup cs => .tup (AV.mapIdAll f cs)
  | .fn g cs => .fn g (AV.mapIdAll f cs)
  | .osl id => .osl (f id)
  | .ptr id i o => .ptr (f id) i o
  | .ifc t a => .ifc t (a.mapId f)
  | .any => .any
  | .v x => .v x
  | .fsl sz es => .fsl sz es
  | .fptr e o => .fptr e o
  | .win id off n => .win (f id) off n
def AV.mapIdAll (f : Nat → Nat) : List AV → List AV
  | [] => []
  | a :: as => a.mapId f :: AV.mapIdAll f as
end

mutual
/-- The blocks that it names. -/
def AV.ids : AV → List Nat
  | .agg cs => AV.idsAll cs
  | .tup cs => AV.idsAll cs
  | .fn _ cs => AV.idsAll cs
  | .osl id => [id]
  | .ptr id _ _ => [id]
  | .ifc _ a => a.ids
  | .any => []
  | .v _ => []
  | .fsl .. => []
  | .fptr .. => []
  | .win id _ _ => [id]
def AV.idsAll : List AV → List Nat
  | [] => []
  | a :: as => a.ids ++ AV.idsAll as
end

mutual
/-- Its given-away slices are told as such. -/
def AV.res (mem : List Blk) : AV → AV
  | .agg cs => .agg (AV.resAll mem cs)
  | .tup cs => .tup (AV.resAll mem cs)
  | .fn g cs => .fn g (AV.resAll mem cs)
  | .osl id => match mem[id]? with
    | some (.frz a) => a
    | _ => .osl id
  | .ptr id i o => .ptr id i o
  | .ifc t a => .ifc t (a.res mem)
  | .any => .any
  | .v x => match x with
    | .slice none 0 0 => .fsl 0 []
    | y => .v y
  | .fsl sz es => .fsl sz es
  | .fptr e o => .fptr e o
  | .win id off n => .win id off n
def AV.resAll (mem : List Blk) : List AV → List AV
  | [] => []
  | a :: as => a.res mem :: AV.resAll mem as
end

def Blk.mapId (f : Nat → Nat) : Blk → Blk
  | .var cs => .var (AV.mapIdAll f cs)
  | .gone => .gone
  | .arr t sz es => .arr t sz es
  | .frz a => .frz a
  | .buf t sz es => .buf t sz es

def Blk.ids : Blk → List Nat
  | .var cs => AV.idsAll cs
  | .gone => []
  | .arr .. => []
  | .frz _ => []
  | .buf .. => []

def addNew (acc : List Nat) : List Nat → List Nat
  | [] => acc
  | i :: is => if i ∈ acc then addNew acc is else addNew (acc ++ [i]) is

/-- The blocks that blocks name, so many steps far. -/
def closeIds (mem : List Blk) : Nat → List Nat → List Nat
  | 0, ids => ids
  | n + 1, ids => closeIds mem n (addNew ids (ids.flatMap fun i => (mem.getD i .gone).ids))

/-- Are these numbers all that is needed? -/
def subOk (ids : List Nat) (mem : List Blk) (named : List Nat) : Bool :=
  decide ids.Nodup && ids.all (· < mem.length) && named.all (ids.contains ·) && ids.all fun i => (mem.getD i .gone).ids.all (ids.contains ·)

/-- The place of a number in a list of numbers. -/
def idx (ids : List Nat) (i : Nat) : Nat := ids.idxOf i

def subM (ids : List Nat) (mem : List Blk) : List Blk := ids.map fun i => (mem.getD i .gone).mapId (idx ids)

def back (ids : List Nat) (n i : Nat) : Nat := if i < ids.length then ids.getD i 0 else n + (i - ids.length)

/-- The blocks come back, each to its place. -/
def putM : List Nat → List Blk → List Blk → List Blk
  | i :: is, b :: bs, mem => putM is bs (mem.set i b)
  | _, _, mem => mem

def intOf? : AV → Option Int
  | .v (.int _ n) => some n
  | _ => none

/-- What a slice of any kind has. -/
def elems (mem : List Blk) : AV → Option (Nat × List AV)
  | .fsl sz es => some (sz, es)
  | .osl id => match mem[id]? with
    | some (.arr _ sz es) => some (sz, es)
    | some (.frz (.fsl sz es)) => some (sz, es)
    | _ => none
  | .v (.slice _ 0 _) => some (0, [])
  | _ => none

/-- Cells behind a pointer. -/
def cellsAt (mem : List Blk) (n : Nat) : AV → Option (List AV)
  | .ptr id i o => match mem[id]? with
    | some (.var cs) => if i = 0 ∧ o + n ≤ cs.length then some ((cs.drop o).take n) else none
    | some (.arr _ _ es) => match es[i]? with
      | some e => if o + n ≤ e.cells.length then some ((e.cells.drop o).take n) else none
      | none => none
    | _ => none
  | .fptr e o => if o + n ≤ e.cells.length then some ((e.cells.drop o).take n) else none
  | _ => none

def mk (g : Bool) (cs : List AV) : Option AV :=
  if g then some (.agg cs) else match cs with
    | [c] => some c
    | _ => none

def splice (cs : List AV) (o : Nat) (new : List AV) : List AV := cs.take o ++ new ++ cs.drop (o + new.length)

/-- An element with other cells. -/
def AV.recell : AV → List AV → AV
  | .agg _, cs => .agg cs
  | a, cs => cs.headD a

def putAt (mem : List Blk) (new : List AV) : AV → Option (List Blk)
  | .ptr id i o => match mem[id]? with
    | some (.var cs) => if i = 0 ∧ o + new.length ≤ cs.length then some (mem.set id (.var (splice cs o new))) else none
    | some (.arr t sz es) => match es[i]? with
      | some e => if o + new.length ≤ e.cells.length ∧ AV.isBareAll new = true then some (mem.set id (.arr t sz (es.set i (e.recell (splice e.cells o new))))) else none
      | none => none
    | _ => none
  | _ => none

def fillA (cells : List AV) : List (Nat × Nat × AV) → Option (List AV)
  | [] => some cells
  | (off, n, v) :: rest => if v.shaped = true ∧ v.cells.length = n ∧ off + n ≤ cells.length then fillA (splice cells off v.cells) rest else none

def strBytes (s : ByteArray) : List UInt8 := s.data.toList

@[reducible] def andI (k : IntKind) (a b : Int) : Int := k.wrap (BitVec.ofInt k.bits a &&& BitVec.ofInt k.bits b).toNat
@[reducible] def orI (k : IntKind) (a b : Int) : Int := k.wrap (BitVec.ofInt k.bits a ||| BitVec.ofInt k.bits b).toNat
@[reducible] def xorI (k : IntKind) (a b : Int) : Int := k.wrap (BitVec.ofInt k.bits a ^^^ BitVec.ofInt k.bits b).toNat
@[reducible] def andNotI (k : IntKind) (a b : Int) : Int := k.wrap (BitVec.ofInt k.bits a &&& ~~~(BitVec.ofInt k.bits b)).toNat
@[reducible] def notI (k : IntKind) (n : Int) : Int := k.wrap (BitVec.ofInt k.bits (if k.signed then -1 else k.max) ^^^ BitVec.ofInt k.bits n).toNat

/-- Operators on values of one cell. -/
def binI (op : BinOp) (k : IntKind) (a : Int) (k' : IntKind) (b : Int) : Option Value :=
  match op with
  | .shl => if 0 ≤ b then some (.int k (k.wrap (a * 2 ^ (min b.toNat k.bits)))) else none
  | .shr => if 0 ≤ b then some (.int k (a.fdiv (2 ^ (min b.toNat k.bits)))) else none
  | .add => if k = k' then some (.int k (k.wrap (a + b))) else none
  | .sub => if k = k' then some (.int k (k.wrap (a - b))) else none
  | .mul => if k = k' then some (.int k (k.wrap (a * b))) else none
  | .quo => if k = k' ∧ b ≠ 0 then some (.int k (k.wrap (a.tdiv b))) else none
  | .rem => if k = k' ∧ b ≠ 0 then some (.int k (a.tmod b)) else none
  | .and => if k = k' then some (.int k (andI k a b)) else none
  | .or => if k = k' then some (.int k (orI k a b)) else none
  | .xor => if k = k' then some (.int k (xorI k a b)) else none
  | .andNot => if k = k' then some (.int k (andNotI k a b)) else none
  | .eql => if k = k' then some (.bool (a == b)) else none
  | .neq => if k = k' then some (.bool (a != b)) else none
  | .lss => if k = k' then some (.bool (decide (a < b))) else none
  | .leq => if k = k' then some (.bool (decide (a ≤ b))) else none
  | .gtr => if k = k' then some (.bool (decide (b < a))) else none
  | .geq => if k = k' then some (.bool (decide (b ≤ a))) else none
def binF (op : BinOp) (k : FloatKind) (a : Nat) (k' : FloatKind) (b : Nat) : Option Value :=
  match op with
  | .eql => if k = k' then some (.bool (k.format.order a b == some .eq)) else none
  | .neq => if k = k' then some (.bool (k.format.order a b != some .eq)) else none
  | _ => none
def binS (op : BinOp) (a b : ByteArray) : Option Value :=
  match op with
  | .add => if a.size + b.size ≤ 9223372036854775807 then some (.string (a ++ b)) else none
  | .eql => some (.bool (a == b))
  | .neq => some (.bool (a != b))
  | _ => none
def binB (tb : Bool) (op : BinOp) (a b : Bool) : Option Value :=
  match op with
  | .eql => if tb = true then some (.bool (a == b)) else none
  | .neq => if tb = true then some (.bool (a != b)) else none
  | _ => none
def binV (tb : Bool) (op : BinOp) : Value → Value → Option Value
  | .int k a, .int k' b => binI op k a k' b
  | .float k a, .float k' b => binF op k a k' b
  | .string a, .string b => binS op a b
  | .bool a, .bool b => binB tb op a b
  | _, _ => none

def unV : UnOp → Value → Option Value
  | .not, .bool b => some (.bool !b)
  | .neg, .int k n => some (.int k (k.wrap (0 - n)))
  | .xor, .int k n => some (.int k (notI k n))
  | _, _ => none

/-- Are the cells the same, one by one? -/
def eqCells : List EK → List AV → List AV → Option Bool
  | [], [], [] => some true
  | .i :: ks, .v (.int k a) :: r, .v (.int k' b) :: s => if k = k' then (eqCells ks r s).map (a == b && ·) else none
  | .s :: ks, .v (.string a) :: r, .v (.string b) :: s => (eqCells ks r s).map (a == b && ·)
  | .b :: ks, .v (.bool a) :: r, .v (.bool b) :: s => (eqCells ks r s).map (a == b && ·)
  | _, _, _ => none

/-- The bytes of a slice of bytes. -/
def bytesOf : List AV → Option (List UInt8)
  | [] => some []
  | .v (.int .u8 n) :: r => (bytesOf r).map (UInt8.ofNat n.toNat :: ·)
  | _ => none

def minI : AV → List AV → Option AV
  | x, [] => some x
  | .v (.int k a), .v (.int _ b) :: r => minI (.v (.int k (if b < a then b else a))) r
  | _, _ => none
def maxI : AV → List AV → Option AV
  | x, [] => some x
  | .v (.int k a), .v (.int _ b) :: r => maxI (.v (.int k (if a < b then b else a))) r
  | _, _ => none

/-- For each function: which arguments keep their blocks, and what a call does. -/
abbrev Env := FuncId → Option (List Bool × Spec)

/-- The slices that are given away with the arguments. -/
def fzOf : List Bool → List AV → List Nat
  | true :: ms, _ :: as => fzOf ms as
  | false :: ms, a :: as => a.slices ++ fzOf ms as
  | [], as => AV.slicesAll as
  | _ :: _, [] => []

def prepA (mem : List Blk) : List Bool → List AV → List AV
  | true :: ms, a :: as => a :: prepA mem ms as
  | false :: ms, a :: as => a.res mem :: prepA mem ms as
  | [], as => AV.resAll mem as
  | _ :: _, [] => []

def Res.mapId (f : Nat → Nat) : Res → Res
  | .ret a => .ret (a.mapId f)
  | .pan a => .pan (a.mapId f)

def callB (sp : Spec) (m1 : List Blk) (as : List AV) (ids : List Nat) : Option (Res × List Blk) :=
  if subOk ids m1 (AV.idsAll as) = true then
    match sp (AV.mapIdAll (idx ids) as) (subM ids m1) with
    | some (r, mo) => if ids.length ≤ mo.length then some (r.mapId (back ids m1.length), putM ids ((mo.take ids.length).map (Blk.mapId (back ids m1.length))) m1 ++ (mo.drop ids.length).map (Blk.mapId (back ids m1.length))) else none
    | none => none
  else none

def callA (Γ : Env) (mem : List Blk) (f : FuncId) (args : List AV) : Option (Res × List Blk) :=
  match Γ f with
  | none => none
  | some (ms, sp) =>
    let m1 := freezeIds (fzOf ms args) mem
    let as := prepA m1 ms args
    callB sp m1 as (closeIds m1 3 (addNew [] (AV.idsAll as)))

def boundOf (ts : Nat → AV) (d : Nat) : Option AOpd → Option Nat
  | none => some d
  | some x => match intOf? (x.ev ts) with
    | some n => if 0 ≤ n then some n.toNat else none
    | none => none

/-- What a slice of any kind has, parts too. -/
def elemsW (mem : List Blk) : AV → Option (Nat × List AV)
  | .win id off n => match mem[id]? with
    | some (.buf _ sz es) => some (sz, (es.drop off).take n)
    | _ => none
  | a => elems mem a

/-- A slice or a pointer against nil. -/
def nilQ (mem : List Blk) : Bool → AV → Option Bool
  | false, .fsl _ (_ :: _) => some false
  | false, .osl id => match mem[id]? with
    | some (.arr _ _ (_ :: _)) => some false
    | _ => none
  | true, .ptr .. => some false
  | true, .fptr .. => some false
  | false, .v (.slice b _ _) => some b.isNone
  | true, .v (.pointer b) => some b.isNone
  | _, _ => none

/-- An interface's value against nil. -/
def nilV : AV → Option Bool
  | .ifc .. => some false
  | .v .nilIface => some true
  | _ => none

def stepA (Γ : Env) (ts : Nat → AV) (mem : List Blk) : AOp → Option (Res × List Blk)
  | .mov x => some (.ret (x.ev ts), mem)
  | .pick c a b => match c.ev ts with
    | .v (.bool t) => match a.ev ts, b.ev ts with
      | .v (.bool x), .v (.bool y) => some (.ret (.v (.bool (cond t x y))), mem)
      | x, y => some (.ret (cond t x y), mem)
    | _ => none
  | .alloc z => some (.ret (.ptr mem.length 0 0), mem ++ [.var (z.map .v)])
  | .box x => if (x.ev ts).shaped = true then some (.ret (.ptr mem.length 0 0), mem ++ [.var (x.ev ts).cells]) else none
  | .bld z ps => (fillA (z.map .v) (ps.map fun p => (p.1, p.2.1, p.2.2.ev ts))).map fun cs => (.ret (.agg cs), mem)
  | .bsl t sz ps =>
    if (ps.all fun x => (x.ev ts).shaped && (x.ev ts).isBare && (x.ev ts).cells.length == sz) = true then some (.ret (.osl mem.length), mem ++ [.arr t sz (ps.map (·.ev ts))]) else none
  | .ld g n a => match cellsAt mem n (a.ev ts) with
    | some cs => (mk g cs).map fun v => (.ret v, mem)
    | none => none
  | .st n a x => if (x.ev ts).shaped = true ∧ (x.ev ts).cells.length = n then (putAt mem (x.ev ts).cells (a.ev ts)).map fun m => (.ret .any, m) else none
  | .chk x => match x.ev ts with
    | .ptr id i o => some (.ret (.ptr id i o), mem)
    | .fptr e o => some (.ret (.fptr e o), mem)
    | .fn f cs => some (.ret (.fn f cs), mem)
    | .v (.func (.func f) xs ys) => some (.ret (.v (.func (.func f) xs ys)), mem)
    | _ => none
  | .bin tb op x y => match x.ev ts, y.ev ts with
    | .v a, .v b => (binV tb op a b).map fun r => (.ret (.v r), mem)
    | _, _ => none
  | .isn p neg x => (nilQ mem p (x.ev ts)).map fun q => (.ret (.v (.bool (neg != q))), mem)
  | .isi neg x => (nilV (x.ev ts)).map fun q => (.ret (.v (.bool (neg != q))), mem)
  | .eqs neg ks x y => match x.ev ts, y.ev ts with
    | .agg a, .agg b => (eqCells ks a b).map fun r => (.ret (.v (.bool (if neg then !r else r))), mem)
    | _, _ => none
  | .un op x => match x.ev ts with
    | .v a => (unV op a).map fun r => (.ret (.v r), mem)
    | _ => none
  | .cvt k x => match x.ev ts with
    | .v (.int _ n) => some (.ret (.v (.int k (k.wrap n))), mem)
    | _ => none
  | .cvs x => match x.ev ts with
    | .v (.string s) => some (.ret (.v (.string s)), mem)
    | _ => none
  | .b2s x => match elems mem (x.ev ts) with
    | some (sz, es) => if sz = 1 ∨ es = [] then (bytesOf es).map fun l => (.ret (.v (.string ⟨l.toArray⟩)), mem) else none
    | none => none
  | .s2b _ x => match x.ev ts with
    | .v (.string s) => some (.ret (.fsl 1 (s.data.toList.map fun b => .v (.int .u8 b.toNat))), mem)
    | _ => none
  | .mki t x => match x.ev ts with
    | .any => none
    | a => some (.ret (.ifc t a), mem)
  | .slc true _ x lo hi => match x.ev ts with
    | .v (.string s) => match boundOf ts 0 lo, boundOf ts s.size hi with
      | some l, some h => if l ≤ h ∧ h ≤ s.size then some (.ret (.v (.string (s.extract l h))), mem) else none
      | _, _ => none
    | _ => none
  | .slc false n x lo hi => match (x.ev ts).frz mem with
    | .fsl sz es => match boundOf ts 0 lo, boundOf ts es.length hi with
      | some l, some h => if l ≤ h ∧ h ≤ es.length ∧ (sz = n ∨ es = []) then some (.ret (.fsl sz ((es.drop l).take (h - l))), freezeIds (x.ev ts).slices mem) else none
      | _, _ => none
    | .win id off k => match mem[id]? with
      | some (.buf _ sz es) => match boundOf ts 0 lo, boundOf ts k hi with
        | some l, some h => if l ≤ h ∧ off + h ≤ es.length ∧ sz = n then some (.ret (.win id (off + l) (h - l)), mem) else none
        | _, _ => none
      | _ => none
    | _ => none
  | .fad off x => match x.ev ts with
    | .ptr id i o => some (.ret (.ptr id i (o + off)), mem)
    | .fptr e o => some (.ret (.fptr e (o + off)), mem)
    | _ => none
  | .fld g off n x => match x.ev ts with
    | .agg cs => if off + n ≤ cs.length then (mk g ((cs.drop off).take n)).map fun v => (.ret v, mem) else none
    | _ => none
  | .iax n x i => match x.ev ts, intOf? (i.ev ts) with
    | .fsl sz es, some k => if 0 ≤ k ∧ sz = n then (es[k.toNat]?).map fun e => (.ret (.fptr e 0), mem) else none
    | .osl id, some k => match mem[id]? with
      | some (.arr _ sz es) => if 0 ≤ k ∧ k < es.length ∧ sz = n then some (.ret (.ptr id k.toNat 0), mem) else none
      | some (.frz (.fsl sz es)) => if 0 ≤ k ∧ sz = n then (es[k.toNat]?).map fun e => (.ret (.fptr e 0), mem) else none
      | _ => none
    | _, _ => none
  | .iaa len n x i => match x.ev ts, intOf? (i.ev ts) with
    | .ptr id j o, some k => if 0 ≤ k ∧ k < len then some (.ret (.ptr id j (o + k.toNat * n)), mem) else none
    | .fptr e o, some k => if 0 ≤ k ∧ k < len then some (.ret (.fptr e (o + k.toNat * n)), mem) else none
    | _, _ => none
  | .ixs x i => match x.ev ts, intOf? (i.ev ts) with
    | .v (.string s), some k => if 0 ≤ k then (s.data.toList[k.toNat]?).map fun b => (.ret (.v (.int .u8 b.toNat)), mem) else none
    | _, _ => none
  | .ixa len n g x i => match x.ev ts, intOf? (i.ev ts) with
    | .agg cs, some k => if 0 ≤ k ∧ k < len ∧ k.toNat * n + n ≤ cs.length then (mk g ((cs.drop (k.toNat * n)).take n)).map fun v => (.ret v, mem) else none
    | _, _ => none
  | .ext k x => match x.ev ts with
    | .tup vs => (vs[k]?).map fun v => (.ret v, mem)
    | _ => none
  | .call f xs => callA Γ mem f (xs.map (·.ev ts))
  | .calv f xs => match f.ev ts with
    | .v (.func (.func g) ⟨[]⟩ ⟨[]⟩) => callA Γ mem g (xs.map (·.ev ts))
    | .fn g caps => callA Γ mem g (xs.map (·.ev ts) ++ caps)
    | _ => none
  | .len true x => match x.ev ts with
    | .v (.string s) => some (.ret (.v (.int .i64 s.size)), mem)
    | _ => none
  | .len false x => (elemsW mem (x.ev ts)).map fun p => (.ret (.v (.int .i64 p.2.length)), mem)
  | .lenA n => some (.ret (.v (.int .i64 n)), mem)
  | .app t sz byt s x =>
    match s.ev ts, elems mem (x.ev ts) with
    | .osl id, some (sz2, es2) => match mem[id]? with
      | some (.arr t1 sz1 es) =>
        if t1 = t ∧ sz1 = sz ∧ (sz2 = sz ∨ es2 = []) ∧ (x.ev ts).slices ≠ [id] ∧ (es.length + es2.length) * byt ≤ 140737488355328 ∧ es.length + es2.length ≤ 140737488355328 ∧ es2.all AV.shaped = true then some (.ret (.osl mem.length), mem.set id .gone ++ [.arr t sz (es ++ es2)]) else none
      | _ => none
    | .v (.slice none 0 0), some (sz2, es2) =>
      if (sz2 = sz ∨ es2 = []) ∧ es2.length * byt ≤ 140737488355328 ∧ es2.length ≤ 140737488355328 ∧ es2.all AV.shaped = true then some (.ret (.osl mem.length), mem ++ [.arr t sz es2]) else none
    | .win id off n, _ => match mem[id]?, elemsW mem (x.ev ts) with
      | some (.buf t1 sz1 es), some (sz2, es2) =>
        if t1 = t ∧ sz1 = sz ∧ (sz2 = sz ∨ es2 = []) ∧ off + n + es2.length ≤ es.length ∧ es2.all AV.shaped = true then some (.ret (.win id off (n + es2.length)), mem.set id (.buf t sz (es.take (off + n) ++ es2 ++ es.drop (off + n + es2.length)))) else none
      | _, _ => none
    | _, _ => none
  | .aps t s x =>
    match s.ev ts, x.ev ts with
    | .osl id, .v (.string y) => match mem[id]? with
      | some (.arr t1 sz1 es) => if t1 = t ∧ sz1 = 1 ∧ es.length + y.size ≤ 140737488355328 then some (.ret (.osl mem.length), mem.set id .gone ++ [.arr t 1 (es ++ y.data.toList.map fun b => .v (.int .u8 b.toNat))]) else none
      | _ => none
    | _, _ => none
  | .mnn xs => match xs.map (·.ev ts) with
    | y :: r => (minI y r).map fun v => (.ret v, mem)
    | [] => none
  | .mxx xs => match xs.map (·.ev ts) with
    | y :: r => (maxI y r).map fun v => (.ret v, mem)
    | [] => none
  | .pan x => match x.ev ts with
    | .ifc t a => some (.pan (.ifc t a), mem)
    | _ => none
  | .mkf f caps => some (.ret (.fn f (caps.map (·.ev ts))), mem)
  | .cap x => match x.ev ts with
    | .win id off _ => match mem[id]? with
      | some (.buf _ _ es) => some (.ret (.v (.int .i64 ((es.length - off : Nat) : Int))), mem)
      | _ => none
    | _ => none
  | .cpy sz d s => match d.ev ts with
    | .win id off n => match mem[id]?, elemsW mem (s.ev ts) with
      | some (.buf t sz1 es), some (sz2, es2) =>
        if sz1 = sz ∧ (sz2 = sz ∨ es2 = []) ∧ off + n ≤ es.length ∧ (es2.take n).all AV.shaped = true then some (.ret (.v (.int .i64 ((min es2.length n : Nat) : Int))), mem.set id (.buf t sz (es.take off ++ es2.take n ++ es.drop (off + min es2.length n)))) else none
      | _, _ => none
    | _ => none
  | .ap0 t sz byt z s k => match s.ev ts, k.ev ts with
    | .win id off n, .v (.int .i64 k) => match mem[id]? with
      | some (.buf t1 sz1 es) =>
        if t1 = t ∧ sz1 = sz ∧ off + n ≤ es.length ∧ 0 ≤ k ∧ es.length < off + n + k.toNat ∧ (n + k.toNat) * byt ≤ 140737488355328 ∧ n + k.toNat ≤ 140737488355328 ∧ ((es.drop off).take n).all AV.shaped = true then some (.ret (.osl mem.length), mem ++ [.arr t sz ((es.drop off).take n ++ List.replicate k.toNat (.agg (z.map .v)))]) else none
      | _ => none
    | _, _ => none
  | .clr z x => match x.ev ts with
    | .win id off n => match mem[id]? with
      | some (.buf t sz es) => if z.length = sz ∧ off + n ≤ es.length then some (.ret (.tup []), mem.set id (.buf t sz (es.take off ++ List.replicate n (.agg (z.map .v)) ++ es.drop (off + n)))) else none
      | _ => none
    | _ => none
  | .sl3 n x lo hi mx => match x.ev ts with
    | .fsl sz es => match boundOf ts 0 lo, boundOf ts es.length hi, boundOf ts es.length mx with
      | some l, some h, some m => if l ≤ h ∧ h ≤ m ∧ m ≤ es.length ∧ (sz = n ∨ es = []) then some (.ret (.fsl sz ((es.drop l).take (h - l))), mem) else none
      | _, _, _ => none
    | a => match elemsW mem a with
      | some (_, es) => match boundOf ts 0 lo, boundOf ts es.length hi, boundOf ts es.length mx with
        | some l, some h, some m => if l ≤ h ∧ h ≤ m ∧ m ≤ es.length then some (.ret .any, mem) else none
        | _, _, _ => none
      | none => none

end Go.Proofs.YtjmgnodeohmboaaDoor.Am
