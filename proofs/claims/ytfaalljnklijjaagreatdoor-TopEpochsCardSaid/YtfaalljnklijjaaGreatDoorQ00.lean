/- What this text proves serves the claim of its last text: a part of a verified executor, its walks and its runs (X1, X2, S1, S2, S3, S4, S5, S6, S7, S8, S9). -/
import GoSem.Step
import Derived.Orders
import Derived.Below
import Derived.Laws.Sem
import Derived.Laws.Cells
import Derived.Laws.IdiomCopy
import Derived.Laws.World
import Derived.MapKept
import Derived.Laws.Bits
import Derived.Laws.Strings
import Derived.Lib.Strings
import Derived.Laws.BytesString
import Derived.Laws.StructEq
set_option linter.all false
section
namespace Go.X
noncomputable section
inductive T (α : Type) where
  | nil
  | node (v : Option α) (l r : T α)
namespace T
variable {α : Type}
def get (t : T α) : Nat → Option α :=
  T.rec (fun _ => none) (fun v _ _ gl gr n => Nat.rec v (fun m _ => Nat.rec (gl (Nat.div m 2)) (fun _ _ => gr (Nat.div m 2)) (Nat.mod m 2)) n) t
def putF (d : Nat) : T α → Nat → Option α → T α :=
  Nat.rec (fun t _ _ => t) (fun _ ih t n x =>
    T.rec (Nat.rec (.node x .nil .nil) (fun m _ => Nat.rec (.node none (ih .nil (Nat.div m 2) x) .nil) (fun _ _ => .node none .nil (ih .nil (Nat.div m 2) x)) (Nat.mod m 2)) n)
      (fun v l r _ _ => Nat.rec (.node x l r) (fun m _ => Nat.rec (.node v (ih l (Nat.div m 2) x) r) (fun _ _ => .node v l (ih r (Nat.div m 2) x)) (Nat.mod m 2)) n) t) d
def put (t : T α) (n : Nat) (v : Option α) : T α := putF (Nat.succ n) t n v
end T
inductive Ix where
  | z | l (i : Ix) | r (i : Ix)
def ixF (d : Nat) : Nat → Ix := Nat.rec (fun _ => .z) (fun _ ih n => Nat.rec .z (fun m _ => Nat.rec (.l (ih (Nat.div m 2))) (fun _ _ => .r (ih (Nat.div m 2))) (Nat.mod m 2)) n) d
def ixOf (n : Nat) : Ix := ixF (Nat.succ n) n
def Ix.beq : Ix → Ix → Bool
  | .z, .z => true
  | .l i, .l j => i.beq j
  | .r i, .r j => i.beq j
  | _, _ => false
namespace T
variable {α : Type}
def getI (i : Ix) : T α → Option α :=
  Ix.rec (fun t => T.rec none (fun v _ _ _ _ => v) t) (fun _ ih t => T.rec none (fun _ l _ _ _ => ih l) t) (fun _ ih t => T.rec none (fun _ _ r _ _ => ih r) t) i
def putI (i : Ix) : α → T α → T α :=
  Ix.rec (fun x t => T.rec (.node (some x) .nil .nil) (fun _ l r _ _ => .node (some x) l r) t)
    (fun _ ih x t => T.rec (.node none (ih x .nil) .nil) (fun v l r _ _ => .node v (ih x l) r) t)
    (fun _ ih x t => T.rec (.node none .nil (ih x .nil)) (fun v l r _ _ => .node v l (ih x r)) t) i
end T
def mapMO {α β : Type} (f : α → Option β) : List α → Option (List β)
  | [] => some []
  | a :: l => match f a with
    | none => none
    | some b => match mapMO f l with
      | none => none
      | some r => some (b :: r)
inductive XV where
  | bool (b : Bool)
  | int (k : IntKind) (n : Int)
  | str (s : List Nat)
  | ptr (b o : Nat)
  | nilp
  | slice (b o len : Nat) (cap es : Nat) (ex : Bool)
  | nils
  | map (b : Nat)
  | nilm
  | func (f : FuncId) (cap : List XV)
  | nilf
  | nili
  | agg (c : List XV)
  | tup (c : List XV)
  deriving Inhabited
inductive XO where
  | cells (c : List XV) (ro : Bool) (tg : Option Nat)
  | map (es : List (XV × XV))
  | sit (s : List Nat) (pos : Nat)
structure XH where
  t : T XO
  next : Nat
def XH.get (h : XH) (n : Nat) : Option XO := h.t.get n
def XH.set (h : XH) (n : Nat) (o : XO) : XH := match h with | ⟨t, k⟩ => ⟨t.put n (some o), k⟩
def XH.del (h : XH) (n : Nat) : XH := match h with | ⟨t, k⟩ => ⟨t.put n none, k⟩
def XH.new (h : XH) (o : XO) : XH := match h with | ⟨t, k⟩ => ⟨t.put k (some o), Nat.succ k⟩
inductive XA where
  | t (i : Ix)
  | c (v : XV)
  deriving Inhabited
inductive XP where
  | one | many (n : Nat)
  deriving Inhabited
inductive XK where
  | bool | int (k : IntKind) | str | ptr (e : Nat) | slice (e : Nat) | array (n e : Nat) | map (k e : Nat) | struct (fs : List (Nat × Nat)) | func | iface | other
structure XTy where
  k : XK
  size : Nat
  bytes : Nat
  zero : Option XV
inductive PO where
  | mov (x : XA)
  | pick (c a b : XA)
  | build (zero : List XV) (parts : List (Nat × Nat × XA))
  | nilCheck (x : XA)
  | bin (tag : XK) (op : BinOp) (x y : XA)
  | un (op : UnOp) (x : XA)
  | convI (k : IntKind) (x : XA)
  | convSS (x : XA)
  | makeFunc (f : FuncId) (cs : List XA)
  | sliceS (x : XA) (lo hi : Option XA)
  | sliceL (es : Nat) (x : XA) (lo hi mx : Option XA)
  | sliceA (n es : Nat) (x : XA) (lo hi : Option XA)
  | addr (off : Nat) (x : XA)
  | fieldv (p : XP) (off : Nat) (x : XA)
  | idxA (n es : Nat) (x i : XA)
  | idxL (es : Nat) (x i : XA)
  | ixStr (x i : XA)
  | ixAgg (p : XP) (n es : Nat) (x i : XA)
  | extract (x : XA) (i : Nat)
  | min (xs : List XA)
  | max (xs : List XA)
inductive RO where
  | load (p : XP) (a : XA)
  | lookup (st : Bool) (zero : XV) (x k : XA) (ok : Bool)
  | len (k : XK) (x : XA)
  | convBS (x : XA)
inductive AO where
  | alloc (e : Nat) (zero : List XV)
  | box (v : XA)
  | buildSlice (es : Nat) (zero : List XV) (parts : List (Nat × Nat × XA)) (len : Nat)
  | makeMap
  | makeSlice (es : Nat) (zero : List XV) (bytes : Nat) (l c : XA)
  | convSB (x : XA)
  | rangeS (x : XA)
inductive EO where
  | store (size : Nat) (a v : XA)
  | mapUpdate (st : Bool) (m k v : XA)
  | call (f : FuncId) (args : List XA)
  | callv (f : XA) (args : List XA)
  | append (es bytes e : Nat) (s x : XA)
  | copy (es : Nat) (d s : XA)
  | delete (st : Bool) (m k : XA)
  | clear (es : Nat) (zero : List XV) (x : XA)
  | nextS (x : XA)
inductive XOp where
  | p (o : PO) | r (o : RO) | a (o : AO) | e (o : EO) | bad
structure XOper where
  dst : Option Ix
  op : XOp
  guard : Option (Ix × Bool)
structure PItem where
  ix : Nat
  oper : XOper
  lo : Nat
  hi : Nat
  need : List Nat
inductive XC where
  | skip
  | region (ops : List XOper)
  | drawn (plan : List PItem)
  | seq (a b : XC)
  | cond (c : XA) (a b : XC)
  | block (id : Nat) (a : XC)
  | loop (a : XC)
  | exit (id : Nat)
  | ret
  | bad
def ofV : Nat → Value → Option XV
  | 0, _ => none
  | d + 1, v => match v with
    | .bool b => some (.bool b)
    | .int k n => some (.int k n)
    | .string s => some (.str (s.data.toList.map UInt8.toNat))
    | .pointer none => some .nilp
    | .slice none 0 0 => some .nils
    | .map none => some .nilm
    | .nilFunc => some .nilf
    | .nilIface => some .nili
    | .func (.func f) ⟨[]⟩ cap => match mapMO (ofV d) cap.toList with | some l => some (.func f l) | none => none
    | .agg cs => match mapMO (ofV d) cs.toList with | some l => some (.agg l) | none => none
    | .tuple cs => match mapMO (ofV d) cs.toList with | some l => some (.tup l) | none => none
    | _ => none
def XV.cells : XV → List XV
  | .agg c => c
  | v => [v]
def kindOf : TypeDesc → XK
  | .bool => .bool | .int k => .int k | .string => .str | .pointer e => .ptr e | .slice e => .slice e | .array n e => .array n e
  | .map k e => .map k e | .struct fs => .struct (fs.toList.map fun f => (f.offset, f.type)) | .func .. => .func | .interface _ => .iface | _ => .other
def mkTy (P : Program) (t : TypeId) : Option XTy :=
  match P.info? t, P.underlying t with
  | some i, some d =>
    some { k := kindOf d, size := i.size, bytes := i.bytes, zero := i.zero.bind (ofV 4) }
  | _, _ => none
section compile
variable (ty : Nat → Option XTy)
def xa : Operand → Option XA
  | .tmp t => some (.t (ixOf t))
  | .const v => (ofV 4 v).map .c
  | .global g => bif Nat.ble g 63 then some (.c (.ptr g 0)) else none
  | .func f => some (.c (.func f []))
def xao : Option Operand → Option (Option XA)
  | none => some none
  | some x => (xa x).map some
def zeroOf (t : TypeId) : Option XV := (ty t).bind (·.zero)
def sizeOf' (t : TypeId) : Option Nat := (ty t).map (·.size)
def kOf (t : TypeId) : Option XK := (ty t).map (·.k)
def partOf (t : TypeId) : Option XP :=
  match ty t with
  | some y => match y.k with
    | .struct _ | .array .. => some (.many y.size)
    | _ => some .one
  | none => none
def places (t : TypeId) (parts : List (Nat × Operand)) : Option (List (Nat × Nat × XA)) :=
  match kOf ty t with
  | some (.struct fs) => match fs.all (fun f => (sizeOf' ty f.2).isSome) with
    | true => mapMO (fun (i, x) => do
      let (off, t) ← fs[i]?
      pure (off, ← sizeOf' ty t, ← xa x)) parts
    | false => none
  | some (.array _ e) | some (.slice e) => match sizeOf' ty e with
    | some s => mapMO (fun (i, x) => do pure (i * s, s, ← xa x)) parts
    | none => none
  | _ => none
def xcall (c : Call) : Option XOp := do
  let args ← mapMO xa c.args.toList
  match c.callee with
  | .value (.func f) => pure (.e (.call f args))
  | .value x => pure (.e (.callv (← xa x) args))
  | .builtin .len => match args with
    | [x] => do pure (.r (.len (← kOf ty (← c.argTypes[0]?)) x))
    | _ => none
  | .builtin .append => match args with
    | [s, x] => match kOf ty (← c.argTypes[0]?) with
      | some (.slice e) => match kOf ty (← c.argTypes[1]?) with
        | some (.slice _) => do
          let y ← ty e
          let z ← y.zero
          match Nat.beq z.cells.length y.size with
          | true => pure (.e (.append y.size y.bytes e s x))
          | false => none
        | some .str => do
          let y ← ty e
          let z ← y.zero
          match Nat.beq z.cells.length y.size with
          | true => pure (.e (.append y.size y.bytes e s x))
          | false => none
        | _ => none
      | _ => none
    | _ => none
  | .builtin .copy => match args with
    | [d, s] => match kOf ty (← c.argTypes[0]?) with
      | some (.slice e) => do pure (.e (.copy (← sizeOf' ty e) d s))
      | _ => none
    | _ => none
  | .builtin .delete => match args with
    | [m, x] => match kOf ty (← c.argTypes[0]?) with
      | some (.map k _) => match kOf ty k with
        | some (.int _) => pure (.e (.delete false m x))
        | some .str => pure (.e (.delete true m x))
        | _ => none
      | _ => none
    | _ => none
  | .builtin .clear => match args with
    | [x] => match kOf ty (← c.argTypes[0]?) with
      | some (.slice e) => do pure (.e (.clear (← sizeOf' ty e) (← zeroOf ty e).cells x))
      | _ => none
    | _ => none
  | .builtin .min => pure (.p (.min args))
  | .builtin .max => pure (.p (.max args))
  | _ => none
def xop (o : Op) : Option XOp :=
  match o with
  | .move x | .assign x => do pure (.p (.mov (← xa x)))
  | .pick c a b => do pure (.p (.pick (← xa c) (← xa a) (← xa b)))
  | .alloc e => do pure (.a (.alloc e (← zeroOf ty e).cells))
  | .box _ v => do pure (.a (.box (← xa v)))
  | .build t ps => match kOf ty t with
    | some (.slice _) => none
    | _ => do pure (.p (.build (← zeroOf ty t).cells (← places ty t ps.toList)))
  | .buildSlice t n ps => match kOf ty t with
    | some (.slice e) => do
      let y ← ty e
      let z ← y.zero
      match Nat.beq z.cells.length y.size && Nat.ble (n * y.size) 1000 with
      | true => do pure (.a (.buildSlice y.size (List.replicate n z.cells).flatten (← places ty t ps.toList) n))
      | false => none
    | _ => none
  | .insert t m k v | .mapUpdate t m k v => match kOf ty t with
    | some (.map kt _) => match kOf ty kt with
      | some (.int _) => do pure (.e (.mapUpdate false (← xa m) (← xa k) (← xa v)))
      | some .str => do pure (.e (.mapUpdate true (← xa m) (← xa k) (← xa v)))
      | _ => none
    | _ => none
  | .load t a => do pure (.r (.load (← partOf ty t) (← xa a)))
  | .store t a v => do pure (.e (.store (← sizeOf' ty t) (← xa a) (← xa v)))
  | .nilCheck x => do pure (.p (.nilCheck (← xa x)))
  | .binOp op t x y _ => do pure (.p (.bin (← kOf ty t) op (← xa x) (← xa y)))
  | .unOp op _ x => do pure (.p (.un op (← xa x)))
  | .convert s d x =>
    match kOf ty s, kOf ty d with
    | some (.int _), some (.int k) => do pure (.p (.convI k (← xa x)))
    | some .str, some .str => do pure (.p (.convSS (← xa x)))
    | some .str, some (.slice e) => match kOf ty e with
      | some (.int .u8) => do pure (.a (.convSB (← xa x)))
      | _ => none
    | some (.slice e), some .str => match kOf ty e with
      | some (.int .u8) => do pure (.r (.convBS (← xa x)))
      | _ => none
    | _, _ => none
  | .makeFunc (.func f) ⟨[]⟩ cs => do pure (.p (.makeFunc f (← mapMO xa cs.toList)))
  | .makeMap _ none => some (.a .makeMap)
  | .makeSlice t l c => match kOf ty t with
    | some (.slice e) => do
      let y ← ty e
      let z ← y.zero
      match Nat.beq z.cells.length y.size with
      | true => do pure (.a (.makeSlice y.size z.cells y.bytes (← xa l) (← xa c)))
      | false => none
    | _ => none
  | .slice t x lo hi mx => do
    let lo ← xao lo
    let hi ← xao hi
    let mx ← xao mx
    let x ← xa x
    match kOf ty t, mx with
    | some .str, none => pure (.p (.sliceS x lo hi))
    | some (.slice e), _ => pure (.p (.sliceL (← sizeOf' ty e) x lo hi mx))
    | some (.array n e), none => pure (.p (.sliceA n (← sizeOf' ty e) x lo hi))
    | _, _ => none
  | .fieldAddr s x f => match kOf ty s with
    | some (.struct fs) => match fs[f]? with
      | some (off, t) => match sizeOf' ty t with
        | some (_ + 1) => do pure (.p (.addr off (← xa x)))
        | _ => none
      | none => none
    | _ => none
  | .field t x f => match kOf ty t with
    | some (.struct fs) => match fs[f]? with
      | some (off, t) => do pure (.p (.fieldv (← partOf ty t) off (← xa x)))
      | none => none
    | _ => none
  | .indexAddr t x i => match kOf ty t with
    | some (.array n e) => do pure (.p (.idxA n (← sizeOf' ty e) (← xa x) (← xa i)))
    | some (.slice e) => do pure (.p (.idxL (← sizeOf' ty e) (← xa x) (← xa i)))
    | _ => none
  | .index t x i => match kOf ty t with
    | some .str => do pure (.p (.ixStr (← xa x) (← xa i)))
    | some (.array n e) => do pure (.p (.ixAgg (← partOf ty e) n (← sizeOf' ty e) (← xa x) (← xa i)))
    | _ => none
  | .lookup t x k ok => match kOf ty t with
    | some (.map kt e) => match kOf ty kt with
      | some (.int _) => do pure (.r (.lookup false (← zeroOf ty e) (← xa x) (← xa k) ok))
      | some .str => do pure (.r (.lookup true (← zeroOf ty e) (← xa x) (← xa k) ok))
      | _ => none
    | _ => none
  | .extract x i => do pure (.p (.extract (← xa x) i))
  | .range t x => match kOf ty t with
    | some .str => do pure (.a (.rangeS (← xa x)))
    | _ => none
  | .next x true => do pure (.e (.nextS (← xa x)))
  | .call c => xcall ty c
  | _ => none
def dstOk (n : Nat) : Option Tmp → Bool
  | some d => Nat.ble (Nat.succ d) n
  | none => true
def guardX (ops : Array Oper) : Option (Nat × Bool) → Option (Option (Ix × Bool))
  | none => some none
  | some (j, b) => match (ops[j]?).bind (·.dst) with | some t => some (some (ixOf t, b)) | none => none
def xoper (n : Nat) (ops : Array Oper) (o : Oper) : XOper :=
  match dstOk n o.dst, guardX ops o.guard, xop ty o.op with
  | true, some g, some x => { dst := o.dst.map ixOf, op := x, guard := g }
  | _, _, _ => { dst := none, op := .bad, guard := none }
end compile
def XA.tmps : XA → List Ix | .t n => [n] | .c _ => []
def oTmps : Option XA → List Ix | some x => x.tmps | none => []
def PO.tmps : PO → List Ix
  | .mov x | .nilCheck x | .un _ x | .convI _ x | .convSS x | .addr _ x | .fieldv _ _ x | .extract x _ => x.tmps
  | .pick c a b => c.tmps ++ a.tmps ++ b.tmps
  | .build _ ps => ps.flatMap fun p => p.2.2.tmps
  | .bin _ _ x y | .idxA _ _ x y | .idxL _ x y | .ixStr x y | .ixAgg _ _ _ x y => x.tmps ++ y.tmps
  | .makeFunc _ cs | .min cs | .max cs => cs.flatMap XA.tmps
  | .sliceS x lo hi | .sliceA _ _ x lo hi => x.tmps ++ oTmps lo ++ oTmps hi
  | .sliceL _ x lo hi mx => x.tmps ++ oTmps lo ++ oTmps hi ++ oTmps mx
def RO.tmps : RO → List Ix
  | .load _ a => a.tmps | .lookup _ _ x k _ => x.tmps ++ k.tmps | .len _ x | .convBS x => x.tmps
def AO.tmps : AO → List Ix
  | .alloc _ _ | .makeMap => []
  | .box v | .convSB v | .rangeS v => v.tmps
  | .buildSlice _ _ ps _ => ps.flatMap fun p => p.2.2.tmps
  | .makeSlice _ _ _ l c => l.tmps ++ c.tmps
def EO.tmps : EO → List Ix
  | .store _ a v => a.tmps ++ v.tmps
  | .mapUpdate _ m k v => m.tmps ++ k.tmps ++ v.tmps
  | .call _ as => as.flatMap XA.tmps
  | .callv f as => f.tmps ++ as.flatMap XA.tmps
  | .append _ _ _ s x | .copy _ s x => s.tmps ++ x.tmps
  | .delete _ m k => m.tmps ++ k.tmps
  | .clear _ _ x | .nextS x => x.tmps
def XOp.tmps : XOp → List Ix | .p o => o.tmps | .r o => o.tmps | .a o => o.tmps | .e o => o.tmps | .bad => []
def XOper.tmps (o : XOper) : List Ix := o.op.tmps ++ (match o.guard with | some (t, _) => [t] | none => [])
def XOper.isE (o : XOper) : Bool := match o.op with | .e _ | .bad => true | _ => false
def XOper.isA (o : XOper) : Bool := match o.op with | .a _ => true | _ => false
def bitOf (m i : Nat) : Bool := Nat.testBit m i
def emit (bs : List Nat) (all : List (Nat × XOper)) : List Nat → (done : List Nat) → List Nat
  | [], done => done ++ (all.filterMap fun (i, _) => if done.contains i then none else some i)
  | e :: es, done =>
    let m := (bs[e]?).getD 0
    let anc := all.filterMap fun (i, _) => if bitOf m i && !done.contains i then some i else none
    emit bs all es (done ++ anc ++ [e])
def unordered (bs : List Nat) (i j : Nat) : Bool := !(bitOf ((bs[i]?).getD 0) j) && !(bitOf ((bs[j]?).getD 0) i)
def distinct : List Ix → Bool
  | [] => true
  | a :: l => l.all (fun b => !a.beq b) && distinct l
def distinctN : List Nat → Bool
  | [] => true
  | a :: l => l.all (fun b => !Nat.beq a b) && distinctN l
def notDst (t : Ix) : Option Ix → Bool
  | some d => !d.beq t
  | none => true
def ordOk (n : Nat) (m : Nat → Nat) (isE : Nat → Bool) : List Nat → List Nat → Bool
  | [], _ => true
  | i :: l, done => Nat.blt i n && Nat.blt (m i) (Nat.pow 2 n) && (List.range n).all (fun b => !bitOf (m i) b || done.contains b) && (!isE i || done.all (fun b => bitOf (m i) b)) && ordOk n m isE l (i :: done)
def readOk (bs : List Nat) (all : List (Nat × XOper)) : Bool :=
  all.all fun (i, o) => o.tmps.all fun t => all.all fun (j, p) => Nat.beq i j || notDst t p.dst || !unordered bs i j
def isEAt (ops : List XOper) (i : Nat) : Bool := match ops[i]? with | some o => o.isE | none => false
def isAAt (ops : List XOper) (i : Nat) : Bool := match ops[i]? with | some o => o.isA | none => false
def mkItem (bs : List Nat) (ops : List XOper) (ord es : List Nat) (i : Nat) : Option PItem :=
  (ops[i]?).map fun o =>
    { ix := i, oper := o, need := ord.filter fun j => isAAt ops j && bitOf ((bs[i]?).getD 0) j, lo := (es.filter fun e => bitOf ((bs[i]?).getD 0) e).length,
      hi := (es.filter fun e => !bitOf ((bs[e]?).getD 0) i).length }
def planOk (bs : List Nat) (ops : List XOper) (ord : List Nat) : Bool :=
  Nat.beq ord.length ops.length && distinctN ord && ordOk ops.length (fun i => (bs[i]?).getD 0) (isEAt ops) ord [] && distinct (ops.filterMap fun o => o.dst) && readOk bs ((List.range ops.length).zip ops)
def mkPlan (bs : List Nat) (ops : List XOper) : Option (List PItem) :=
  let all := (List.range ops.length).zip ops
  let ord := emit bs all (all.filterMap fun (i, o) => if o.isE then some i else none) []
  match planOk bs ops ord with
  | true => mapMO (mkItem bs ops ord (ord.filter (isEAt ops))) ord
  | false => none
def xcode (ty : Nat → Option XTy) (n : Nat) : Code → XC
  | .skip => .skip
  | .region _ ops d => if d then
      match mkPlan (Region.before ops).toList (ops.toList.map (xoper ty n ops)) with
      | some p => .drawn p
      | none => .bad
    else .region (ops.toList.map (xoper ty n ops))
  | .seq a b => .seq (xcode ty n a) (xcode ty n b)
  | .cond c a b => match xa c with | some c => .cond c (xcode ty n a) (xcode ty n b) | none => .bad
  | .block id a => .block id (xcode ty n a)
  | .loop a => .loop (xcode ty n a)
  | .exit id => .exit id
  | .ret => .ret
  | _ => .bad
def leq : List Nat → List Nat → Bool :=
  List.rec (fun m => List.rec true (fun _ _ _ => false) m) (fun a _ ih m => List.rec false (fun b m _ => Bool.rec false (ih m) (Nat.beq a b)) m)
def llt : List Nat → List Nat → Bool
  | _, [] => false
  | [], _ :: _ => true
  | a :: l, b :: m => bif Nat.blt a b then true else bif Nat.beq a b then llt l m else false
def nth {α : Type} : List α → Nat → Option α :=
  List.rec (fun _ => none) (fun a _ ih n => Nat.rec (some a) (fun m _ => ih m) n)
def mapX {α β : Type} (f : α → β) : List α → List β := List.rec [] (fun a _ ih => f a :: ih)
def lenX {α : Type} : List α → Nat := List.rec 0 (fun _ _ ih => Nat.succ ih)
def appX {α : Type} (l m : List α) : List α := List.rec m (fun a _ ih => a :: ih) l
def dropX {α : Type} (n : Nat) : List α → List α := Nat.rec (fun l => l) (fun _ ih l => List.rec [] (fun _ r _ => ih r) l) n
def takeX {α : Type} (n : Nat) : List α → List α := Nat.rec (fun _ => []) (fun _ ih l => List.rec [] (fun a r _ => a :: ih r) l) n
def takeN {α : Type} (n : Nat) : List α → Option (List α) :=
  Nat.rec (fun _ => some []) (fun _ ih l => List.rec none (fun a r _ => Option.rec none (fun m => some (a :: m)) (ih r)) l) n
def wrapN : IntKind → Nat → Nat
  | .u8, n => Nat.mod n 256
  | .u16, n => Nat.mod n 65536
  | .u32, n => Nat.mod n 4294967296
  | .u64, n => Nat.mod n 18446744073709551616
  | _, n => n
def wrapX (k : IntKind) (n : Int) : Int :=
  match k, n with
  | .u8, .ofNat n => .ofNat (Nat.mod n 256)
  | .u16, .ofNat n => .ofNat (Nat.mod n 65536)
  | .u32, .ofNat n => .ofNat (Nat.mod n 4294967296)
  | .u64, .ofNat n => .ofNat (Nat.mod n 18446744073709551616)
  | .i64, .ofNat n => bif Nat.ble n 9223372036854775807 then .ofNat n else IntKind.wrap .i64 (.ofNat n)
  | .i64, .negSucc n => bif Nat.ble n 9223372036854775807 then .negSucc n else IntKind.wrap .i64 (.negSucc n)
  | k, n => IntKind.wrap k n
def modOf : IntKind → Nat
  | .u8 | .i8 => 256
  | .u16 | .i16 => 65536
  | .u32 | .i32 => 4294967296
  | .u64 | .i64 => 18446744073709551616
def modI (k : IntKind) : Int → Nat
  | .ofNat a => Nat.mod a (modOf k)
  | .negSucc a => Nat.sub (Nat.pred (modOf k)) (Nat.mod a (modOf k))
def bitX (f : Nat → Nat → Nat) (k : IntKind) (a b : Int) : Option XV := some (.int k (wrapX k (.ofNat (f (modI k a) (modI k b)))))
def eqI : Int → Int → Bool
  | .ofNat a, .ofNat b => Nat.beq a b
  | .negSucc a, .negSucc b => Nat.beq a b
  | _, _ => false
def ltI : Int → Int → Bool
  | .ofNat a, .ofNat b => Nat.ble (Nat.succ a) b
  | .negSucc a, .negSucc b => Nat.ble (Nat.succ b) a
  | .negSucc _, .ofNat _ => true
  | .ofNat _, .negSucc _ => false
def addI : Int → Int → Int
  | .ofNat a, .ofNat b => .ofNat (Nat.add a b)
  | a, b => Int.add a b
def subI : Int → Int → Int
  | .ofNat a, .ofNat b => bif Nat.ble b a then .ofNat (Nat.sub a b) else Int.negSucc (Nat.pred (Nat.sub b a))
  | a, b => Int.sub a b
def mulI : Int → Int → Int
  | .ofNat a, .ofNat b => .ofNat (Nat.mul a b)
  | a, b => Int.mul a b
def quoI (k : IntKind) : Int → Int → Option XV
  | .ofNat a, .ofNat b => Nat.rec none (fun _ _ => some (.int k (wrapX k (.ofNat (Nat.div a b))))) b
  | _, _ => none
def remI (k : IntKind) : Int → Int → Option XV
  | .ofNat a, .ofNat b => Nat.rec none (fun _ _ => some (.int k (.ofNat (Nat.mod a b)))) b
  | .negSucc a, .ofNat b => Nat.rec none (fun _ _ => some (.int k (Int.neg (.ofNat (Nat.mod (Nat.succ a) b))))) b
  | _, _ => none
def shlI (k : IntKind) : Int → Int → Option XV
  | .ofNat a, .ofNat b => bif Nat.ble b k.bits then some (.int k (wrapX k (.ofNat (Nat.shiftLeft a b)))) else none
  | _, _ => none
def shrI (k : IntKind) : Int → Int → Option XV
  | .ofNat a, .ofNat b => bif Nat.ble b k.bits then some (.int k (.ofNat (Nat.shiftRight a b))) else none
  | _, _ => none
def intR (k : IntKind) (n : Int) : Option XV := some (.int k n)
def binI (op : BinOp) (k : IntKind) (a b : Int) : Option XV :=
  match op with
  | .add => intR k (wrapX k (addI a b))
  | .sub => intR k (wrapX k (subI a b))
  | .mul => intR k (wrapX k (mulI a b))
  | .quo => quoI k a b
  | .rem => remI k a b
  | .and => bitX Nat.land k a b
  | .or => bitX Nat.lor k a b
  | .xor => bitX Nat.xor k a b
  | .andNot => bitX (fun a b => Nat.xor a (Nat.land a b)) k a b
  | .shl => shlI k a b
  | .shr => shrI k a b
  | .eql => some (.bool (eqI a b))
  | .neq => some (.bool (not (eqI a b)))
  | .lss => some (.bool (ltI a b))
  | .leq => some (.bool (not (ltI b a)))
  | .gtr => some (.bool (ltI b a))
  | .geq => some (.bool (not (ltI a b)))
def keq : IntKind → IntKind → Bool
  | .i8, .i8 => true | .i16, .i16 => true | .i32, .i32 => true | .i64, .i64 => true
  | .u8, .u8 => true | .u16, .u16 => true | .u32, .u32 => true | .u64, .u64 => true
  | _, _ => false
def isShift : BinOp → Bool
  | .shl => true | .shr => true | _ => false
def binS (op : BinOp) (a b : List Nat) : Option XV :=
  match op with
  | .add => bif Nat.ble (Nat.add (lenX a) (lenX b)) 1000000 then some (.str (appX a b)) else none
  | .eql => some (.bool (leq a b))
  | .neq => some (.bool (not (leq a b)))
  | .lss => some (.bool (llt a b))
  | .gtr => some (.bool (not (or (llt a b) (leq a b))))
  | .leq => some (.bool (or (llt a b) (leq a b)))
  | .geq => some (.bool (not (llt a b)))
  | _ => none
def xeq (st : Bool) (x y : XV) : Option Bool :=
  match st, x, y with
  | false, .int j a, .int k b => bif keq j k then some (eqI a b) else none
  | true, .str a, .str b => some (leq a b)
  | _, _, _ => none
def xeqT : XK → XV → XV → Option Bool
  | .bool, .bool a, .bool b => some (a == b)
  | .ptr _, .nilp, .nilp => some true
  | .ptr _, .nilp, .ptr .. => some false
  | .ptr _, .ptr .., .nilp => some false
  | .slice _, .nils, .nils => some true
  | .slice _, .nils, .slice .. => some false
  | .slice _, .slice .., .nils => some false
  | .map .., .nilm, .nilm => some true
  | .map .., .nilm, .map _ => some false
  | .map .., .map _, .nilm => some false
  | .func, .nilf, .nilf => some true
  | .func, .nilf, .func .. => some false
  | .func, .func .., .nilf => some false
  | _, _, _ => none
def binE (k : XK) (op : BinOp) (x y : XV) : Option XV :=
  match op, xeqT k x y with
  | .eql, some b => some (.bool b)
  | .neq, some b => some (.bool (not b))
  | _, _ => none
def xbin (k : XK) (op : BinOp) (x y : XV) : Option XV :=
  match x, y with
  | .int k a, .int j b => bif or (keq k j) (isShift op) then binI op k a b else none
  | .str a, .str b => binS op a b
  | x, y => binE k op x y
def xun (op : UnOp) (x : XV) : Option XV :=
  match op, x with
  | .neg, .int k n => intR k (wrapX k (subI 0 n))
  | .xor, .int .u32 (.ofNat n) => some (.int .u32 (.ofNat (Nat.sub 4294967295 (Nat.mod n 4294967296))))
  | .xor, .int .i64 n => some (.int .i64 (wrapX .i64 (.ofNat (Nat.sub 18446744073709551615 (modI .i64 n)))))
  | .not, .bool b => some (.bool (not b))
  | _, _ => none
def splice (c : List XV) (n : Nat) (v : List XV) : List XV :=
  appX (takeX n c) (appX v (dropX (Nat.add n (lenX v)) c))
def set1 (n : Nat) (v : XV) : List XV → List XV :=
  Nat.rec (fun l => List.rec [] (fun _ r _ => v :: r) l) (fun _ ih l => List.rec [] (fun a r _ => a :: ih r) l) n
def fillx : List (Nat × Nat × XV) → List XV → Option (List XV)
  | [], c => some c
  | (off, size, v) :: r, c => bif Nat.beq (lenX v.cells) size then bif Nat.ble (Nat.add off size) (lenX c) then fillx r (splice c off v.cells) else none else none
def takeP (p : XP) (c : List XV) (o : Nat) : Option XV :=
  match p with
  | .one => nth c o
  | .many n => Option.rec none (fun l => some (.agg l)) (takeN n (dropX o c))
def findK (st : Bool) (k : XV) : List (XV × XV) → Option (Option XV)
  | [] => some none
  | (k', v) :: r => match xeq st k k' with | some true => some (some v) | some false => findK st k r | none => none
def setK (st : Bool) (k v : XV) : List (XV × XV) → Option (List (XV × XV))
  | [] => some [(k, v)]
  | (k', v') :: r => match xeq st k k' with | some true => some ((k, v) :: r) | some false => (setK st k v r).map ((k', v') :: ·) | none => none
def delK (st : Bool) (k : XV) : List (XV × XV) → Option (List (XV × XV))
  | [] => some []
  | (k', v') :: r => match xeq st k k' with | some true => some r | some false => (delK st k r).map ((k', v') :: ·) | none => none
def natOf : XV → Option Nat
  | .int _ (.ofNat n) => some n
  | _ => none
def oNat (d : Nat) : Option XV → Option Nat
  | none => some d
  | some v => natOf v
def bnds (len m : Nat) (lo hi : Option XV) : Option (Nat × Nat) :=
  match oNat len hi, oNat 0 lo with
  | some h, some l => bif Nat.ble l h then bif Nat.ble h m then some (l, h) else none else none
  | _, _ => none
def u8s (l : List Nat) : List XV := mapX (fun b => .int .u8 (.ofNat b)) l
def cellsB (h : XH) (b o n : Nat) : Option (List XV) :=
  match h.get b with
  | some (.cells c _ _) => takeN n (dropX o c)
  | _ => none
def cellsOf (h : XH) (es : Nat) (n : Nat) : XV → Option (List XV)
  | .nils => some []
  | .slice b o _ _ _ _ => cellsB h b o (Nat.mul n es)
  | .str s => bif Nat.beq es 1 then some (u8s (takeX n s)) else none
  | _ => none
def lenOf : XV → Option Nat
  | .nils => some 0
  | .slice _ _ n _ _ _ => some n
  | .str s => some (lenX s)
  | _ => none
abbrev XF := T XV
def XF.put (f : XF) (d : Option Ix) (v : XV) : XF := Option.rec f (fun d => T.putI d v f) d
def ev (fr : XF) : XA → XV
  | .t n => Option.rec (.tup []) (fun v => v) (T.getI n fr)
  | .c v => v
def evs (fr : XF) (l : List XA) : List XV := mapX (ev fr) l
def evo (fr : XF) : Option XA → Option XV
  | none => none
  | some x => some (ev fr x)
def evp (fr : XF) (ps : List (Nat × Nat × XA)) : List (Nat × Nat × XV) := mapX (fun p => (p.1, p.2.1, ev fr p.2.2)) ps
def foldMin : Int → List XV → IntKind → Option XV
  | a, [], k => some (.int k a)
  | a, .int _ b :: r, k => foldMin (bif ltI b a then b else a) r k
  | _, _ :: _, _ => none
def foldMax : Int → List XV → IntKind → Option XV
  | a, [], k => some (.int k a)
  | a, .int _ b :: r, k => foldMax (bif ltI a b then b else a) r k
  | _, _ :: _, _ => none
def pPick (c a b : XV) : Option XV := match c with | .bool t => some (bif t then a else b) | _ => none
def pBuild (z : List XV) (ps : List (Nat × Nat × XV)) : Option XV := Option.rec none (fun l => some (.agg l)) (fillx ps z)
def pNil (x : XV) : Option XV := match x with | .ptr b o => some (.ptr b o) | _ => none
def pConvI (k : IntKind) (x : XV) : Option XV := match x with | .int _ n => some (.int k (wrapX k n)) | _ => none
def pConvSS (x : XV) : Option XV := match x with | .str s => some (.str s) | _ => none
def pSliceS (x : XV) (lo hi : Option XV) : Option XV :=
  match x with
  | .str s => match bnds (lenX s) (lenX s) lo hi with
    | some (l, u) => some (.str (takeX (Nat.sub u l) (dropX l s)))
    | none => none
  | _ => none
def offAt (m l o es : Nat) : Nat := bif Nat.beq m l then o else Nat.add o (Nat.mul l es)
def pSliceL (es : Nat) (x : XV) (lo hi : Option XV) : Option XV :=
  match x with
  | .slice b o len cap es' e => match bnds len cap lo hi with
    | some (l, u) => bif Nat.beq es es' then some (.slice b (bif e then offAt cap l o es else Nat.add o (Nat.mul l es)) (Nat.sub u l) (Nat.sub cap l) es e) else none
    | none => none
  | .nils => match bnds 0 0 lo hi with
    | some _ => some .nils
    | none => none
  | _ => none
def pSliceM (es : Nat) (x : XV) (lo hi : Option XV) (m : XV) : Option XV :=
  match x, natOf m, hi with
  | .slice b o len cap es' e, some m, some hi => match bnds len m lo (some hi) with
    | some (l, u) => bif and (or e (Nat.ble 1 cap)) (and (Nat.beq es es') (Nat.ble m cap)) then some (.slice b (offAt m l o es) (Nat.sub u l) (Nat.sub m l) es true) else none
    | none => none
  | _, _, _ => none
def pSliceA (n es : Nat) (x : XV) (lo hi : Option XV) : Option XV :=
  match x with
  | .ptr b o => match bnds n n lo hi with
    | some (l, u) => some (.slice b (offAt n l o es) (Nat.sub u l) (Nat.sub n l) es true)
    | none => none
  | _ => none
def pAddr (off : Nat) (x : XV) : Option XV := match x with | .ptr b o => some (.ptr b (Nat.add o off)) | _ => none
def pField (p : XP) (off : Nat) (x : XV) : Option XV := match x with | .agg c => takeP p c off | _ => none
def pIdxA (n es : Nat) (x i : XV) : Option XV :=
  match x, natOf i with
  | .ptr b o, some i => bif Nat.ble (Nat.succ i) n then some (.ptr b (Nat.add o (Nat.mul i es))) else none
  | _, _ => none
def pIdxL (es : Nat) (x i : XV) : Option XV :=
  match x, natOf i with
  | .slice b o len _ es' _, some i => bif and (Nat.ble (Nat.succ i) len) (Nat.beq es es') then some (.ptr b (Nat.add o (Nat.mul i es))) else none
  | _, _ => none
def pIxStr (x i : XV) : Option XV :=
  match x, natOf i with
  | .str s, some i => Option.rec none (fun b => some (.int .u8 (.ofNat b))) (nth s i)
  | _, _ => none
def pIxAgg (p : XP) (n es : Nat) (x i : XV) : Option XV :=
  match x, natOf i with
  | .agg c, some i => bif Nat.ble (Nat.succ i) n then takeP p c (Nat.mul i es) else none
  | _, _ => none
def pExtract (x : XV) (i : Nat) : Option XV := match x with | .tup vs => nth vs i | _ => none
def pMin (xs : List XV) : Option XV := match xs with | .int k a :: r => foldMin a r k | _ => none
def pMax (xs : List XV) : Option XV := match xs with | .int k a :: r => foldMax a r k | _ => none
def runP (fr : XF) : PO → Option XV
  | .mov x => some (ev fr x)
  | .pick c a b => pPick (ev fr c) (ev fr a) (ev fr b)
  | .build z ps => pBuild z (evp fr ps)
  | .nilCheck x => pNil (ev fr x)
  | .bin k op x y => xbin k op (ev fr x) (ev fr y)
  | .un op x => xun op (ev fr x)
  | .convI k x => pConvI k (ev fr x)
  | .convSS x => pConvSS (ev fr x)
  | .makeFunc f cs => some (.func f (evs fr cs))
  | .sliceS x lo hi => pSliceS (ev fr x) (evo fr lo) (evo fr hi)
  | .sliceL es x lo hi none => pSliceL es (ev fr x) (evo fr lo) (evo fr hi)
  | .sliceL es x lo hi (some m) => pSliceM es (ev fr x) (evo fr lo) (evo fr hi) (ev fr m)
  | .sliceA n es x lo hi => pSliceA n es (ev fr x) (evo fr lo) (evo fr hi)
  | .addr off x => pAddr off (ev fr x)
  | .fieldv p off x => pField p off (ev fr x)
  | .idxA n es x i => pIdxA n es (ev fr x) (ev fr i)
  | .idxL es x i => pIdxL es (ev fr x) (ev fr i)
  | .ixStr x i => pIxStr (ev fr x) (ev fr i)
  | .ixAgg p n es x i => pIxAgg p n es (ev fr x) (ev fr i)
  | .extract x i => pExtract (ev fr x) i
  | .min xs => pMin (evs fr xs)
  | .max xs => pMax (evs fr xs)
def bytesOf : List XV → Option (List Nat)
  | [] => some []
  | .int .u8 (.ofNat n) :: r => Option.rec none (fun l => some (Nat.mod n 256 :: l)) (bytesOf r)
  | _ => none
def rLoad (h : XH) (p : XP) (a : XV) : Option XV :=
  match a with
  | .ptr b o => match h.get b with
    | some (.cells c _ _) => takeP p c o
    | _ => none
  | _ => none
def mapOf (h : XH) (x : XV) : Option (List (XV × XV)) :=
  match x with
  | .nilm => some []
  | .map b => match h.get b with | some (.map es) => some es | _ => none
  | _ => none
def lookR (z : XV) (c : Bool) : Option (Option XV) → Option XV
  | some (some v) => some (bif c then .tup [v, .bool true] else v)
  | some none => some (bif c then .tup [z, .bool false] else z)
  | none => none
def rLookup (st : Bool) (h : XH) (z x k : XV) (c : Bool) : Option XV :=
  match mapOf h x with
  | some es => lookR z c (findK st k es)
  | none => none
def rLen (h : XH) (k : XK) (x : XV) : Option XV :=
  match k, x with
  | .map .., .map b => match h.get b with | some (.map es) => some (.int .i64 (.ofNat (lenX es))) | _ => none
  | .map .., .nilm => some (.int .i64 (.ofNat 0))
  | .str, .str s => some (.int .i64 (.ofNat (lenX s)))
  | .slice _, .nils => some (.int .i64 (.ofNat 0))
  | .slice _, .slice _ _ n _ _ _ => some (.int .i64 (.ofNat n))
  | _, _ => none
def rConvBS (h : XH) (x : XV) : Option XV :=
  match x with
  | .nils => some (.str [])
  | .slice b o len _ es _ => bif Nat.beq es 1 then match cellsB h b o len with
    | some l => Option.rec none (fun s => some (.str s)) (bytesOf l)
    | none => none
    else none
  | _ => none
def runR (fr : XF) (h : XH) : RO → Option XV
  | .load p a => rLoad h p (ev fr a)
  | .lookup st z x k c => rLookup st h z (ev fr x) (ev fr k) c
  | .len k x => rLen h k (ev fr x)
  | .convBS x => rConvBS h (ev fr x)
inductive NV where
  | ptr | slice (len cap es : Nat) (ex : Bool) | map
def NV.of : NV → Nat → XV
  | .ptr, n => .ptr n 0
  | .slice len cap es ex, n => .slice n 0 len cap es ex
  | .map, n => .map n
def aBuild (es len : Nat) (c : Option (List XV)) : Option (XO × NV) := Option.rec none (fun c => some (.cells c false none, .slice len len es true)) c
def aMake (es : Nat) (z : List XV) (bytes : Nat) (l c : XV) : Option (XO × NV) :=
  match natOf l, natOf c with
  | some l, some c => bif and (Nat.ble l c) (and (Nat.ble c 1000000) (Nat.ble (Nat.mul c bytes) 1000000)) then some (.cells (List.replicate c z).flatten false none, .slice l c es true) else none
  | _, _ => none
def aConvSB (x : XV) : Option (XO × NV) :=
  match x with
  | .str s => bif Nat.ble (lenX s) 1000000 then some (.cells (u8s s) false none, .slice (lenX s) (lenX s) 1 false) else none
  | _ => none
def aRange (x : XV) : Option (XO × NV) := match x with | .str s => some (.sit s 0, .ptr) | _ => none
def runA (fr : XF) : AO → Option (XO × NV)
  | .alloc e z => some (.cells z false (some (Nat.mul 2 e)), .ptr)
  | .box v => some (.cells (ev fr v).cells false none, .ptr)
  | .buildSlice es z ps len => aBuild es len (fillx (evp fr ps) z)
  | .makeMap => some (.map [], .map)
  | .makeSlice es z bytes l c => aMake es z bytes (ev fr l) (ev fr c)
  | .convSB x => aConvSB (ev fr x)
  | .rangeS x => aRange (ev fr x)
abbrev R := Option (XV × XH)
def unit : XV := .tup []
def one : XV → Bool
  | .agg _ => false
  | .tup _ => false
  | _ => true
def allOne : List XV → Bool := List.rec true (fun v _ ih => Bool.rec false ih (one v))
def wr (h : XH) (b o : Nat) (vs : List XV) : Option XH :=
  match h.get b with
  | some (.cells c false tg) => bif and (Nat.ble (Nat.add o (lenX vs)) (lenX c)) (allOne vs) then some (h.set b (.cells (splice c o vs) false tg)) else none
  | _ => none
def unitR (h : Option XH) : R := Option.rec none (fun h => some (unit, h)) h
def eStore (h : XH) (size : Nat) (a v : XV) : R :=
  match a with
  | .ptr b o => bif Nat.beq (lenX v.cells) size then unitR (wr h b o v.cells) else none
  | _ => none
def setM (h : XH) (b : Nat) (es : Option (List (XV × XV))) : R := Option.rec none (fun es => some (unit, h.set b (.map es))) es
def eMapUpdate (h : XH) (st : Bool) (m k v : XV) : R :=
  match m with
  | .map b => match h.get b with
    | some (.map es) => setM h b (setK st k v es)
    | _ => none
  | _ => none
def eDelete (h : XH) (st : Bool) (m k : XV) : R :=
  match m with
  | .map b => match h.get b with
    | some (.map es) => setM h b (delK st k es)
    | _ => none
  | .nilm => some (unit, h)
  | _ => none
def rowTag (e : Nat) : Option Nat := some (Nat.succ (Nat.mul 2 e))
def growTag (o e : Nat) : Option Nat → Option Nat
  | some t => bif and (Nat.beq o 0) (Nat.beq t (Nat.succ (Nat.mul 2 e))) then some t else none
  | none => none
def newS (h : XH) (n es : Nat) (tg : Option Nat) (c : List XV) : R := some (.slice h.next 0 n n es false, h.new (.cells c false tg))
def growS (h : XH) (b o len es : Nat) (e : Bool) (n bytes et : Nat) (new : List XV) : R :=
  match cellsB h b o (Nat.mul len es) with
  | some old => bif Nat.ble (Nat.mul (Nat.add len n) (Nat.succ bytes)) 1000000 then
      (bif e then newS h (Nat.add len n) es (rowTag et) (appX old new)
      else match h.get b with
        | some (.cells _ false tg) => bif allOne new then newS (h.del b) (Nat.add len n) es (growTag o et tg) (appX old new) else none
        | _ => none)
    else none
  | none => none
def appN (h : XH) (es bytes et n : Nat) (new : List XV) (s : XV) : R :=
  match s with
  | .nils => bif Nat.beq n 0 then some (.nils, h) else bif Nat.ble (Nat.mul n (Nat.succ bytes)) 1000000 then newS h n es (rowTag et) new else none
  | .slice b o len cap es' e => bif Nat.beq es es' then
      (bif Nat.ble (Nat.add len n) cap then Option.rec none (fun h => some (.slice b o (Nat.add len n) cap es e, h)) (wr h b (Nat.add o (Nat.mul len es)) new)
      else growS h b o len es e n bytes et new)
    else none
  | _ => none
def eAppend (h : XH) (es bytes et : Nat) (s x : XV) : R :=
  match lenOf x with
  | some n => match cellsOf h es n x with
    | some new => appN h es bytes et n new s
    | none => none
  | none => none
def eCopy (h : XH) (es : Nat) (d s : XV) : R :=
  match lenOf s, lenOf d with
  | some n, some m => match cellsOf h es (Nat.min n m) s with
    | some new => match d with
      | .nils => some (.int .i64 (.ofNat 0), h)
      | .slice b o _ _ es' _ => bif Nat.beq es es' then Option.rec none (fun h => some (.int .i64 (.ofNat (Nat.min n m)), h)) (wr h b o new) else none
      | _ => none
    | none => none
  | _, _ => none
def eClear (h : XH) (es : Nat) (z : List XV) (x : XV) : R :=
  match x with
  | .nils => some (unit, h)
  | .slice b o len _ es' _ => bif Nat.beq len 0 then some (unit, h) else bif and (Nat.beq es es') (Nat.beq (lenX z) es) then unitR (wr h b o (List.replicate len z).flatten) else none
  | _ => none
def eNext (h : XH) (x : XV) : R :=
  match x with
  | .ptr b 0 => match h.get b with
    | some (.sit s pos) => match nth s pos with
      | some c => bif Nat.ble c 127 then some (.tup [.bool true, .int .i64 (.ofNat pos), .int .i32 (.ofNat c)], h.set b (.sit s (Nat.succ pos))) else none
      | none => some (.tup [.bool false], h)
    | _ => none
  | _ => none
def runE (call : FuncId → List XV → XH → R) (fr : XF) (h : XH) : EO → R
  | .store size a v => eStore h size (ev fr a) (ev fr v)
  | .mapUpdate st m k v => eMapUpdate h st (ev fr m) (ev fr k) (ev fr v)
  | .call f args => call f (evs fr args) h
  | .callv f args => match ev fr f with
    | .func f cs => call f (appX (evs fr args) cs) h
    | _ => none
  | .append es bytes et s x => eAppend h es bytes et (ev fr s) (ev fr x)
  | .copy es d s => eCopy h es (ev fr d) (ev fr s)
  | .delete st m k => eDelete h st (ev fr m) (ev fr k)
  | .clear es z x => eClear h es z (ev fr x)
  | .nextS x => eNext h (ev fr x)
def wantedX (fr : XF) : Option (Ix × Bool) → Bool
  | none => true
  | some (t, b) => match T.getI t fr with | some (.bool x) => x == b | _ => false
def runOp (call : FuncId → List XV → XH → R) (fr : XF) (h : XH) : XOp → R
  | .p o => Option.rec none (fun v => some (v, h)) (runP fr o)
  | .r o => Option.rec none (fun v => some (v, h)) (runR fr h o)
  | .a o => Option.rec none (fun x => some (x.2.of h.next, h.new x.1)) (runA fr o)
  | .e o => runE call fr h o
  | .bad => none
def runOps (call : FuncId → List XV → XH → R) : List XOper → XF → XH → Option (XF × XH) :=
  List.rec (fun fr h => some (fr, h)) (fun o _ ih fr h =>
    Bool.rec (ih (XF.put fr o.dst unit) h) (Option.rec none (fun x => ih (XF.put fr o.dst x.1) x.2) (runOp call fr h o.op)) (wantedX fr o.guard))
mutual
def XV.beq : XV → XV → Bool
  | .bool a, .bool b => a == b
  | .int j a, .int k b => and (keq j k) (eqI a b)
  | .str a, .str b => leq a b
  | .ptr a b, .ptr c d => Nat.beq a c && Nat.beq b d
  | .nilp, .nilp => true
  | .slice a b c d e f, .slice a' b' c' d' e' f' => Nat.beq a a' && Nat.beq b b' && Nat.beq c c' && Nat.beq d d' && Nat.beq e e' && f == f'
  | .nils, .nils => true
  | .map a, .map b => Nat.beq a b
  | .nilm, .nilm => true
  | .func f l, .func g m => Nat.beq f g && XV.beqs l m
  | .nilf, .nilf => true
  | .nili, .nili => true
  | .agg l, .agg m => XV.beqs l m
  | .tup l, .tup m => XV.beqs l m
  | _, _ => false
def XV.beqs : List XV → List XV → Bool
  | [], [] => true
  | a :: l, b :: m => XV.beq a b && XV.beqs l m
  | _, _ => false
end
structure NewO where
  ix : Nat
  st : Nat
  name : Nat
  o : XO
structure Chk where
  fr : XF
  o : RO
  v : XV
  lo : Nat
  hi : Nat
  need : List NewO
def addNew (k : Nat) : List NewO → XH → XH
  | [], h => h
  | a :: l, h => bif Nat.ble k a.st then (addNew k l h).set a.name a.o else addNew k l h
def chkAt (c : Chk) : Nat → List XH → Bool
  | _, [] => true
  | k, h :: hs => (bif Nat.blt k c.lo then true else bif Nat.blt c.hi k then true else match runR c.fr (addNew k c.need h) c.o with | some v => XV.beq v c.v | none => false) && chkAt c (k + 1) hs
def newOk (a : NewO) : Nat → List XH → Bool
  | _, [] => true
  | k, h :: hs => (bif Nat.ble k a.st then (match h.get a.name with | none => Nat.ble h.next a.name | some _ => false) else Nat.blt a.name h.next) && newOk a (k + 1) hs
def rangeOk (h : XH) : List XH → Bool
  | [] => false
  | a :: l => (a :: l).all fun b => Nat.ble a.next b.next && Nat.ble b.next h.next
def endOk (h : XH) (hs : List XH) (as : List NewO) (cs : List Chk) : Bool :=
  cs.all (fun c => chkAt c 0 hs) && as.all (fun a => newOk a 0 hs && Nat.blt a.name h.next) && distinctN (as.map (·.name)) && rangeOk h hs
def runPlan (call : FuncId → List XV → XH → R) : List PItem → XF → XH → List XH → List NewO → List Chk → Option (XF × XH) :=
  List.rec (fun fr h hs as cs => Bool.rec none (some (fr, h)) (endOk h hs.reverse as cs))
    (fun i _ ih fr h hs as cs =>
      match wantedX fr i.oper.guard with
      | false => ih (XF.put fr i.oper.dst unit) h (match i.oper.op with | .e _ => h :: hs | .bad => h :: hs | _ => hs) as cs
      | true => match i.oper.op with
        | .p o => Option.rec none (fun v => ih (XF.put fr i.oper.dst v) h hs as cs) (runP fr o)
        | .r o => Option.rec none (fun v => ih (XF.put fr i.oper.dst v) h hs as ({ fr := fr, o := o, v := v, lo := i.lo, hi := i.hi, need := as.filter fun a => i.need.contains a.ix } :: cs)) (runR fr h o)
        | .a o => Option.rec none (fun x => ih (XF.put fr i.oper.dst (x.2.of h.next)) (h.new x.1) hs ({ ix := i.ix, st := Nat.pred (lenX hs), name := h.next, o := x.1 } :: as) cs) (runA fr o)
        | .e o => Option.rec none (fun x => ih (XF.put fr i.oper.dst x.1) x.2 (x.2 :: hs) as cs) (runE call fr h o)
        | .bad => none)
inductive Ex where
  | normal | exit (id : Nat) | ret
inductive XRes where
  | tmp (t : Ix) | cell (a : Ix) (p : XP)
structure XFn where
  results : List XRes
  body : XC
def mkRes (ty : Nat → Option XTy) : ResultVar → Option XRes
  | .tmp t => some (.tmp (ixOf t))
  | .cell a t => (partOf ty t).map (XRes.cell (ixOf a))
def mkFn (ty : Nat → Option XTy) (fn : Func) : Option XFn :=
  match fn.body, mapMO (mkRes ty) fn.results.toList with
  | some b, some rs => some { results := rs, body := xcode ty fn.ntmps b }
  | _, _ => none
def args0 : List XV → Nat → T XV → T XV :=
  List.rec (fun _ t => t) (fun v _ ih i t => ih (Nat.succ i) (T.putI (ixOf i) v t))
def resOf (fr : XF) (h : XH) : XRes → Option XV
  | .tmp t => some (ev fr (.t t))
  | .cell a p => runR fr h (.load p (.t a))
def tupOf : List XV → XV
  | [v] => v
  | vs => .tup vs
abbrev Run := XC → XF → XH → Option (Ex × XF × XH)
inductive Pr where   -- functions with a body in the model's code, and those that are reckoned otherwise
  | fn (f : XFn)
  | intr (i : Nat)
structure Env where
  fn : Nat → Option Pr
  intr : (FuncId → List XV → XH → R) → Nat → List XV → XH → R
def finX (rs : List XRes) : Ex × XF × XH → R
  | (.exit _, _, _) => none
  | (_, fr, h) => Option.rec none (fun vs => some (tupOf vs, h)) (mapMO (resOf fr h) rs)
def fnX (x : XFn) (run : Run) (args : List XV) (h : XH) : R :=
  Option.rec none (finX x.results) (run x.body (args0 args 0 .nil) h)
def callX (E : Env) (run : Run) : FuncId → List XV → XH → R := fun f args h =>
  match E.fn f with
  | some (.fn x) => fnX x run args h
  | _ => none
def callE (E : Env) (run : Run) : FuncId → List XV → XH → R := fun f args h =>
  match E.fn f with
  | some (.fn x) => fnX x run args h
  | some (.intr i) => E.intr (callX E run) i args h
  | none => none
def norm : Option (XF × XH) → Option (Ex × XF × XH)
  | some (fr, h) => some (.normal, fr, h)
  | none => none
def seqX (b : XF → XH → Option (Ex × XF × XH)) : Option (Ex × XF × XH) → Option (Ex × XF × XH)
  | some (.normal, fr, h) => b fr h
  | r => r
def condX (v : XV) (a b : Option (Ex × XF × XH)) : Option (Ex × XF × XH) :=
  match v with
  | .bool t => Bool.rec b a t
  | _ => none
def blockX (id : Nat) : Option (Ex × XF × XH) → Option (Ex × XF × XH)
  | some (.exit i, fr, h) => some (bif Nat.beq i id then .normal else .exit i, fr, h)
  | r => r
def runB (E : Env) (run : Run) : XC → XF → XH → Option (Ex × XF × XH)
  | .skip, fr, h => some (.normal, fr, h)
  | .region ops, fr, h => norm (runOps (callE E run) ops fr h)
  | .drawn plan, fr, h => norm (runPlan (callE E run) plan fr h [h] [] [])
  | .seq a b, fr, h => seqX (run b) (run a fr h)
  | .cond c a b, fr, h => condX (ev fr c) (run a fr h) (run b fr h)
  | .block id a, fr, h => blockX id (run a fr h)
  | .loop a, fr, h => seqX (run (.loop a)) (run a fr h)
  | .exit id, fr, h => some (.exit id, fr, h)
  | .ret, fr, h => some (.ret, fr, h)
  | .bad, _, _ => none
def run (E : Env) (n : Nat) : Run := Nat.rec (fun _ _ _ => none) (fun _ ih => runB E ih) n
inductive TE where
  | fn (f : Func) | intr (i : Nat)
def mkEnv (ty : T XTy) (tab : T TE) (intr : (FuncId → List XV → XH → R) → Nat → List XV → XH → R) : Env :=
  { fn := fun f => match tab.get f with
      | some (.fn fn) => (mkFn ty.get fn).map .fn
      | some (.intr i) => some (.intr i)
      | none => none
    intr := intr }
end
end Go.X
end
section
namespace Go.X
noncomputable section
def rotr (x n : Nat) : Nat := Nat.lor (Nat.shiftRight x n) (Nat.mod (Nat.shiftLeft x (Nat.sub 32 n)) 4294967296)
def sg0 (x : Nat) : Nat := Nat.xor (Nat.xor (rotr x 7) (rotr x 18)) (Nat.shiftRight x 3)
def sg1 (x : Nat) : Nat := Nat.xor (Nat.xor (rotr x 17) (rotr x 19)) (Nat.shiftRight x 10)
def bg0 (x : Nat) : Nat := Nat.xor (Nat.xor (rotr x 2) (rotr x 13)) (rotr x 22)
def bg1 (x : Nat) : Nat := Nat.xor (Nat.xor (rotr x 6) (rotr x 11)) (rotr x 25)
def add32 (x y : Nat) : Nat := Nat.mod (Nat.add x y) 4294967296
def forceN {α : Type} (n : Nat) (k : α) : α := bif Nat.beq n n then k else k
def sched : Nat → List Nat → List Nat
  | 0, w => w
  | n + 1, w => match w with
    | w1 :: w2 :: w3 :: w4 :: w5 :: w6 :: w7 :: w8 :: w9 :: w10 :: w11 :: w12 :: w13 :: w14 :: w15 :: w16 :: r =>
      let v := Nat.mod (Nat.add (Nat.add (Nat.add w16 (sg0 w15)) w7) (sg1 w2)) 4294967296
      forceN v (sched n (v :: w1 :: w2 :: w3 :: w4 :: w5 :: w6 :: w7 :: w8 :: w9 :: w10 :: w11 :: w12 :: w13 :: w14 :: w15 :: w16 :: r))
    | _ => w
def chh (e f g : Nat) : Nat := Nat.xor (Nat.land e f) (Nat.land (Nat.sub 4294967295 e) g)
def maj (a b c : Nat) : Nat := Nat.xor (Nat.xor (Nat.land a b) (Nat.land a c)) (Nat.land b c)
structure S8 where
  (a b c d e f g h : Nat)
def rounds : List Nat → List Nat → S8 → S8
  | k :: ks, w :: ws, ⟨a, b, c, d, e, f, g, h⟩ =>
    let t1 := Nat.add (Nat.add (Nat.add (Nat.add h (bg1 e)) (chh e f g)) k) w
    let t2 := Nat.add (bg0 a) (maj a b c)
    let x := Nat.mod (Nat.add t1 t2) 4294967296
    let y := Nat.mod (Nat.add d t1) 4294967296
    forceN x (forceN y (rounds ks ws ⟨x, a, b, c, y, e, f, g⟩))
  | _, _, s => s
def word4 : List Nat → List Nat
  | a :: b :: c :: d :: r => Nat.add (Nat.mul (Nat.add (Nat.mul (Nat.add (Nat.mul a 256) b) 256) c) 256) d :: word4 r
  | _ => []
def kWords : List Nat := [0x428a2f98, 0x71374491, 0xb5c0fbcf, 0xe9b5dba5, 0x3956c25b, 0x59f111f1, 0x923f82a4, 0xab1c5ed5,
  0xd807aa98, 0x12835b01, 0x243185be, 0x550c7dc3, 0x72be5d74, 0x80deb1fe, 0x9bdc06a7, 0xc19bf174,
  0xe49b69c1, 0xefbe4786, 0x0fc19dc6, 0x240ca1cc, 0x2de92c6f, 0x4a7484aa, 0x5cb0a9dc, 0x76f988da,
  0x983e5152, 0xa831c66d, 0xb00327c8, 0xbf597fc7, 0xc6e00bf3, 0xd5a79147, 0x06ca6351, 0x14292967,
  0x27b70a85, 0x2e1b2138, 0x4d2c6dfc, 0x53380d13, 0x650a7354, 0x766a0abb, 0x81c2c92e, 0x92722c85,
  0xa2bfe8a1, 0xa81a664b, 0xc24b8b70, 0xc76c51a3, 0xd192e819, 0xd6990624, 0xf40e3585, 0x106aa070,
  0x19a4c116, 0x1e376c08, 0x2748774c, 0x34b0bcb5, 0x391c0cb3, 0x4ed8aa4a, 0x5b9cca4f, 0x682e6ff3,
  0x748f82ee, 0x78a5636f, 0x84c87814, 0x8cc70208, 0x90befffa, 0xa4506ceb, 0xbef9a3f7, 0xc67178f2]
def iWords : S8 := ⟨0x6a09e667, 0xbb67ae85, 0x3c6ef372, 0xa54ff53a, 0x510e527f, 0x9b05688c, 0x1f83d9ab, 0x5be0cd19⟩
def mixB (s : S8) (blk : List Nat) : S8 :=
  match s, rounds kWords (sched 48 (word4 blk).reverse).reverse s with
  | ⟨a, b, c, d, e, f, g, h⟩, ⟨a', b', c', d', e', f', g', h'⟩ =>
    ⟨add32 a a', add32 b b', add32 c c', add32 d d', add32 e e', add32 f f', add32 g g', add32 h h'⟩
def mixAll : Nat → S8 → List Nat → S8
  | 0, s, _ => s
  | n + 1, s, b => mixAll n (mixB s (b.take 64)) (b.drop 64)
def be4 (w : Nat) : List Nat := [Nat.mod (Nat.shiftRight w 24) 256, Nat.mod (Nat.shiftRight w 16) 256, Nat.mod (Nat.shiftRight w 8) 256, Nat.mod w 256]
def be8 (w : Nat) : List Nat := be4 (Nat.shiftRight w 32) ++ be4 w
def shaPad (b : List Nat) : List Nat :=
  b ++ 128 :: (List.replicate (Nat.mod (Nat.sub 119 (Nat.mod b.length 64)) 64) 0 ++ be8 (Nat.mul b.length 8))
def shaOut : S8 → List Nat
  | ⟨a, b, c, d, e, f, g, h⟩ => be4 a ++ be4 b ++ be4 c ++ be4 d ++ be4 e ++ be4 f ++ be4 g ++ be4 h
def sha (b : List Nat) : List Nat := shaOut (mixAll (Nat.div (shaPad b).length 64) iWords (shaPad b))
def cellAt (h : XH) (b o : Nat) : Option XV := match h.get b with
  | some (.cells c _ _) => nth c o
  | _ => none
def setCell (h : XH) (b o : Nat) (v : XV) : Option XH := wr h b o [v]
def countN (c : Nat) : List Nat → Nat := List.rec 0 (fun b _ ih => bif Nat.beq b c then Nat.succ ih else ih)
def upI : Int → Int
  | .ofNat n => .ofNat (Nat.succ n)
  | .negSucc _ => .negSucc 0
def indexN (c : Nat) : List Nat → Int := List.rec (.negSucc 0) (fun b _ ih => bif Nat.beq b c then .ofNat 0 else upI ih)
def iCount (args : List XV) (h : XH) : R :=
  match args with
  | [.str s, .int .u8 (.ofNat c)] => some (.int .i64 (.ofNat (countN (Nat.mod c 256) s)), h)
  | _ => none
def iIndex (args : List XV) (h : XH) : R :=
  match args with
  | [.str s, .int .u8 (.ofNat c)] => some (.int .i64 (indexN (Nat.mod c 256) s), h)
  | _ => none
def iLoad (k : IntKind) (args : List XV) (h : XH) : R :=
  match args with
  | [.ptr b o] => match cellAt h b o with
    | some (.int j n) => bif keq k j then some (.int j n, h) else none
    | _ => none
  | _ => none
def iStore (k : IntKind) (args : List XV) (h : XH) : R :=
  match args with
  | [.ptr b o, .int j n] => bif keq k j then unitR (wr h b o [.int j n]) else none
  | _ => none
def iAdd (k : IntKind) (args : List XV) (h : XH) : R :=
  match args with
  | [.ptr b o, .int j d] => match cellAt h b o with
    | some (.int i n) => bif and (keq k i) (keq k j) then
        match wr h b o [.int k (wrapX k (n + d))] with
        | some h => some (.int k (wrapX k (n + d)), h)
        | none => none
      else none
    | _ => none
  | _ => none
def iAdd64 (args : List XV) (h : XH) : R :=
  match args with
  | [.int .u64 (.ofNat x), .int .u64 (.ofNat y), .int .u64 (.ofNat c)] => bif Nat.ble c 1 then some (.tup [.int .u64 (.ofNat (Nat.mod (Nat.add (Nat.add x y) c) 18446744073709551616)), .int .u64 (.ofNat (Nat.div (Nat.add (Nat.add x y) c) 18446744073709551616))], h) else none
  | _ => none
def iOnce (call : FuncId → List XV → XH → R) (args : List XV) (h : XH) : R :=
  match args with
  | [.ptr b o, .func f cs] => match cellAt h b o with
    | some (.int .u32 (.ofNat 0)) => match cellAt h b (Nat.succ o) with
      | some (.int .i32 (.ofNat 0)) => Option.rec none (fun h1 => Option.rec none (fun r => match cellAt r.2 b (Nat.succ o) with
          | some (.int .i32 (.ofNat 1)) => Option.rec none (fun h3 => unitR (wr h3 b (Nat.succ o) [.int .i32 (.ofNat 0)])) (wr r.2 b o [.int .u32 (.ofNat 1)])
          | _ => none) (call f cs h1)) (wr h b (Nat.succ o) [.int .i32 (.ofNat 1)])
      | _ => none
    | some (.int .u32 (.ofNat (_ + 1))) => some (unit, h)
    | _ => none
  | _ => none
def iString (T : Nat) (args : List XV) (h : XH) : R :=
  match args with
  | [.ptr b o] => match cellAt h b (Nat.succ o) with
    | some .nils => some (.str [], h)
    | some (.slice n f l c es ex) => match h.get n with
      | some (.cells cs false (some t)) => bif and (and (Nat.beq t (Nat.succ (Nat.mul 2 T))) (Nat.beq es 1)) (and (Nat.beq f 0) (and (Nat.ble 1 l) (Nat.ble l 1000000))) then
          match takeN l cs with
          | some vs => match bytesOf vs with
            | some r => some (.str r, h.del n)
            | none => none
          | none => none
        else none
      | _ => none
    | _ => none
  | _ => none
def natKeys : List (XV × XV) → Option (List Nat)
  | [] => some []
  | (.int .i64 (.ofNat n), _) :: r => bif Nat.ble n 1000000000000000 then (match natKeys r with | some l => some (n :: l) | none => none) else none
  | _ => none
def insN (x : Nat) : List Nat → List Nat
  | [] => [x]
  | y :: l => bif Nat.ble x y then x :: y :: l else y :: insN x l
def sortN : List Nat → List Nat
  | [] => []
  | x :: l => insN x (sortN l)
def intsX : List Nat → List XV
  | [] => []
  | x :: l => .int .i64 (.ofNat x) :: intsX l
def iSorted (G : Nat) (args : List XV) (h : XH) : R :=
  match args with
  | [.func f [.ptr b o]] => bif and (Nat.beq f G) (Nat.beq o 0) then
      match h.get b with
      | some (.cells [.map m] _ (some _)) => match h.get m with
        | some (.map es) => bif Nat.ble (lenX es) 1000 then
            match natKeys es with
            | some ks => match sortN ks with
              | [] => some (.nils, h)
              | a :: l => some (.slice h.next 0 (lenX (a :: l)) (lenX (a :: l)) 1 false, h.new (.cells (intsX (a :: l)) false none))
            | none => none
          else none
        | _ => none
      | _ => none
    else none
  | _ => none
def iKeys (G T : Nat) (args : List XV) (h : XH) : R :=
  match args with
  | [.map m] => some (.func G [.ptr h.next 0], h.new (.cells [.map m] false (some (Nat.mul 2 T))))
  | _ => none
def iClone (args : List XV) (h : XH) : R :=
  match args with
  | [.str s] => bif Nat.ble (lenX s) 1000000 then some (.str s, h) else none
  | _ => none
def repX (s : List Nat) : Nat → List Nat := Nat.rec [] (fun _ ih => appX s ih)
def iRepeat (args : List XV) (h : XH) : R :=
  match args with
  | [.str s, .int .i64 (.ofNat n)] => bif and (Nat.ble (Nat.mul (lenX s) n) 1000000) (Nat.ble n 1000000) then some (.str (repX s n), h) else none
  | _ => none
def strsOf : List XV → Option (List (List Nat))
  | [] => some []
  | .str s :: r => Option.rec none (fun l => some (s :: l)) (strsOf r)
  | _ => none
def joinX (sep : List Nat) : List (List Nat) → List Nat
  | [] => []
  | [a] => a
  | a :: b :: l => appX a (appX sep (joinX sep (b :: l)))
def iJoin (args : List XV) (h : XH) : R :=
  match args with
  | [.slice b o n c es ex, .str sep] => bif and (Nat.beq es 1) (Nat.ble n 1000000) then match cellsB h b o n with
    | some cs => match strsOf cs with
      | some l => bif Nat.ble (lenX (joinX sep l)) 1000000 then some (.str (joinX sep l), h) else none
      | none => none
    | none => none
    else none
  | _ => none
def iCheck (T : Nat) (args : List XV) (h : XH) : R :=
  match args with
  | [.ptr b o] => match h.get b with
    | some (.cells c false (some t)) => bif and (Nat.beq t T) (and (Nat.beq (lenX c) 2) (Nat.beq o 0)) then
        match nth c 0 with
        | some .nilp => unitR (wr h b 0 [.ptr b 0])
        | some (.ptr b' o') => bif and (Nat.beq b b') (Nat.beq o' 0) then some (unit, h) else none
        | _ => none
      else none
    | _ => none
  | _ => none
def intr (call : FuncId → List XV → XH → R) (i : Nat) (args : List XV) (h : XH) : R :=
  match i with
  | 1 => iOnce call args h
  | 5 => iClone args h
  | 6 => iRepeat args h
  | 7 => iLoad .i64 args h
  | 17 => iLoad .u32 args h
  | 27 => iLoad .i32 args h
  | 8 => iStore .i64 args h
  | 18 => iStore .u32 args h
  | 28 => iStore .i32 args h
  | 9 => iAdd .i64 args h
  | 19 => iAdd .u32 args h
  | 29 => iAdd .i32 args h
  | 11 => iAdd64 args h
  | 13 => iCount args h
  | 14 => iIndex args h
  | 15 => iJoin args h
  | i => bif Nat.ble 1000000 i then iKeys (Nat.sub (Nat.div i 1000) 1000) (Nat.mod i 1000) args h else bif Nat.ble 3000 i then iSorted (Nat.sub i 3000) args h else bif Nat.ble 2000 i then iString (Nat.sub i 2000) args h else bif Nat.ble 1000 i then iCheck (Nat.mul 2 (Nat.sub i 1000)) args h else none
end
end Go.X
end
section
namespace Go.X
theorem Ix.beq_iff : ∀ {i j : Ix}, i.beq j = true ↔ i = j
  | .z, .z => by simp [Ix.beq]
  | .z, .l _ => by simp [Ix.beq]
  | .z, .r _ => by simp [Ix.beq]
  | .l _, .z => by simp [Ix.beq]
  | .r _, .z => by simp [Ix.beq]
  | .l _, .r _ => by simp [Ix.beq]
  | .r _, .l _ => by simp [Ix.beq]
  | .l i, .l j => by simp [Ix.beq, Ix.beq_iff (i := i) (j := j)]
  | .r i, .r j => by simp [Ix.beq, Ix.beq_iff (i := i) (j := j)]
def Ix.num : Ix → Nat
  | .z => 0
  | .l i => 2 * i.num + 1
  | .r i => 2 * i.num + 2
theorem num_ixF : ∀ (d n : Nat), n < d → (ixF d n).num = n
  | 0, n, h => by omega
  | d + 1, n, h => by
    cases n with
    | zero => rfl
    | succ m =>
      have ih := num_ixF d (m / 2) (by omega)
      show (Nat.rec (motive := fun _ => Ix) (.l (ixF d (m / 2))) (fun _ _ => .r (ixF d (m / 2))) (m % 2) : Ix).num = _
      rcases Nat.mod_two_eq_zero_or_one m with e | e <;> rw [e] <;> simp only [Ix.num, ih] <;> omega
theorem num_ixOf (n : Nat) : (ixOf n).num = n := num_ixF _ _ (Nat.lt_succ_self n)
theorem ixOf_inj {n m : Nat} (h : ixOf n = ixOf m) : n = m := by rw [← num_ixOf n, h, num_ixOf]
instance : DecidableEq Ix := fun i j => decidable_of_iff _ (Ix.beq_iff (i := i) (j := j))
namespace T
variable {α : Type}
theorem gI_nil (i : Ix) : getI i (.nil : T α) = none := by cases i <;> rfl
theorem gI_z (v : Option α) (l r : T α) : getI .z (.node v l r) = v := rfl
theorem gI_l (i : Ix) (v : Option α) (l r : T α) : getI (.l i) (.node v l r) = getI i l := rfl
theorem gI_r (i : Ix) (v : Option α) (l r : T α) : getI (.r i) (.node v l r) = getI i r := rfl
theorem pI_z_nil (x : α) : putI .z x (.nil : T α) = .node (some x) .nil .nil := rfl
theorem pI_z (x : α) (v : Option α) (l r : T α) : putI .z x (.node v l r) = .node (some x) l r := rfl
theorem pI_l_nil (i : Ix) (x : α) : putI (.l i) x (.nil : T α) = .node none (putI i x .nil) .nil := rfl
theorem pI_l (i : Ix) (x : α) (v : Option α) (l r : T α) : putI (.l i) x (.node v l r) = .node v (putI i x l) r := rfl
theorem pI_r_nil (i : Ix) (x : α) : putI (.r i) x (.nil : T α) = .node none .nil (putI i x .nil) := rfl
theorem pI_r (i : Ix) (x : α) (v : Option α) (l r : T α) : putI (.r i) x (.node v l r) = .node v l (putI i x r) := rfl
theorem getI_same (i : Ix) : ∀ (x : α) (t : T α), getI i (putI i x t) = some x := by
  induction i with
  | z => intro x t; cases t <;> rfl
  | l i ih => intro x t; cases t <;> simp only [pI_l_nil, pI_l, gI_l, ih]
  | r i ih => intro x t; cases t <;> simp only [pI_r_nil, pI_r, gI_r, ih]
theorem getI_other (i : Ix) : ∀ (j : Ix) (x : α) (t : T α), j ≠ i → getI j (putI i x t) = getI j t := by
  induction i with
  | z => intro j x t h; cases t <;> cases j <;> first | exact absurd rfl h | simp only [pI_z_nil, pI_z, gI_l, gI_r, gI_nil]
  | l i ih =>
    intro j x t h
    cases t <;> cases j <;> simp only [pI_l_nil, pI_l, gI_z, gI_l, gI_r, gI_nil] <;> (rw [ih _ _ _ (fun e => h (by rw [e]))]) <;> simp only [gI_nil]
  | r i ih =>
    intro j x t h
    cases t <;> cases j <;> simp only [pI_r_nil, pI_r, gI_z, gI_l, gI_r, gI_nil] <;> (rw [ih _ _ _ (fun e => h (by rw [e]))]) <;> simp only [gI_nil]
theorem g_nil (n : Nat) : get (.nil : T α) n = none := rfl
theorem g_z (v : Option α) (l r : T α) : get (.node v l r) 0 = v := rfl
theorem g_s (v : Option α) (l r : T α) (m : Nat) : get (.node v l r) (m + 1) = if m % 2 = 0 then get l (m / 2) else get r (m / 2) := by
  show (Nat.rec (motive := fun _ => Option α) (get l (m / 2)) (fun _ _ => get r (m / 2)) (m % 2) : Option α) = _
  rcases Nat.mod_two_eq_zero_or_one m with e | e <;> rw [e] <;> rfl
theorem pF_nil_z (d : Nat) (x : Option α) : putF (d + 1) (.nil : T α) 0 x = .node x .nil .nil := rfl
theorem pF_z (d : Nat) (v x : Option α) (l r : T α) : putF (d + 1) (.node v l r) 0 x = .node x l r := rfl
theorem pF_nil_s (d m : Nat) (x : Option α) : putF (d + 1) (.nil : T α) (m + 1) x = if m % 2 = 0 then .node none (putF d .nil (m / 2) x) .nil else .node none .nil (putF d .nil (m / 2) x) := by
  show (Nat.rec (motive := fun _ => T α) (.node none (putF d .nil (m / 2) x) .nil) (fun _ _ => .node none .nil (putF d .nil (m / 2) x)) (m % 2) : T α) = _
  rcases Nat.mod_two_eq_zero_or_one m with e | e <;> rw [e] <;> rfl
theorem pF_s (d m : Nat) (v x : Option α) (l r : T α) : putF (d + 1) (.node v l r) (m + 1) x = if m % 2 = 0 then .node v (putF d l (m / 2) x) r else .node v l (putF d r (m / 2) x) := by
  show (Nat.rec (motive := fun _ => T α) (.node v (putF d l (m / 2) x) r) (fun _ _ => .node v l (putF d r (m / 2) x)) (m % 2) : T α) = _
  rcases Nat.mod_two_eq_zero_or_one m with e | e <;> rw [e] <;> rfl
theorem get_putF (d : Nat) : ∀ (n m : Nat) (x : Option α) (t : T α), n < d → get (putF d t n x) m = if m = n then x else get t m := by
  induction d with
  | zero => intro n m x t h; omega
  | succ d ih =>
    intro n m x t h
    cases n with
    | zero => cases t <;> cases m <;> simp [pF_nil_z, pF_z, g_z, g_s, g_nil]
    | succ n =>
      have key : ∀ t, get (putF d t (n / 2) x) (n / 2) = x := fun t => by rw [ih _ _ _ _ (by omega), if_pos rfl]
      cases t with
      | nil =>
        rw [pF_nil_s]
        cases m with
        | zero => split <;> simp [g_z, g_nil]
        | succ m =>
          split <;> rw [g_s] <;> split <;> simp only [g_nil] <;> first
            | (rw [ih _ _ _ _ (by omega)]
               by_cases e : m = n
               · subst e; simp
               · rw [if_neg (by omega), if_neg (by omega)]; rfl)
            | (rw [if_neg (by omega)])
      | node v l r =>
        rw [pF_s]
        cases m with
        | zero => split <;> simp [g_z]
        | succ m =>
          split <;> rw [g_s, g_s] <;> split <;> first
            | (rw [ih _ _ _ _ (by omega)]
               by_cases e : m = n
               · subst e; simp
               · rw [if_neg (by omega), if_neg (by omega)])
            | (rw [if_neg (by omega)])
theorem get_put (t : T α) (n m : Nat) (x : Option α) : get (put t n x) m = if m = n then x else get t m := get_putF _ _ _ _ _ (Nat.lt_succ_self n)
end T
theorem XH.get_set (h : XH) (n m : Nat) (o : XO) : (h.set n o).get m = if m = n then some o else h.get m := T.get_put _ _ _ _
theorem XH.get_del (h : XH) (n m : Nat) : (h.del n).get m = if m = n then none else h.get m := T.get_put _ _ _ _
theorem XH.get_new (h : XH) (m : Nat) (o : XO) : (h.new o).get m = if m = h.next then some o else h.get m := T.get_put _ _ _ _
@[simp] theorem XH.next_set (h : XH) (n : Nat) (o : XO) : (h.set n o).next = h.next := rfl
@[simp] theorem XH.next_del (h : XH) (n : Nat) : (h.del n).next = h.next := rfl
@[simp] theorem XH.next_new (h : XH) (o : XO) : (h.new o).next = h.next + 1 := rfl
section lists
variable {α β : Type}
theorem nth_eq (l : List α) : ∀ n, nth l n = l[n]? := by
  induction l with
  | nil => intro n; rfl
  | cons a l ih => intro n; cases n with
    | zero => rfl
    | succ n => exact ih n
theorem mapX_eq (f : α → β) (l : List α) : mapX f l = l.map f := by
  induction l with
  | nil => rfl
  | cons a l ih => show f a :: mapX f l = _; rw [ih]; rfl
theorem lenX_eq (l : List α) : lenX l = l.length := by
  induction l with
  | nil => rfl
  | cons a l ih => show Nat.succ (lenX l) = _; rw [ih]; rfl
theorem appX_eq (l m : List α) : appX l m = l ++ m := by
  induction l with
  | nil => rfl
  | cons a l ih => show a :: appX l m = _; rw [ih]; rfl
theorem dropX_eq (n : Nat) : ∀ l : List α, dropX n l = l.drop n := by
  induction n with
  | zero => intro l; rfl
  | succ n ih => intro l; cases l with
    | nil => rfl
    | cons a l => exact ih l
theorem takeX_eq (n : Nat) : ∀ l : List α, takeX n l = l.take n := by
  induction n with
  | zero => intro l; rfl
  | succ n ih => intro l; cases l with
    | nil => rfl
    | cons a l => show a :: takeX n l = _; rw [ih]; rfl
theorem takeN_eq (n : Nat) : ∀ (l m : List α), takeN n l = some m → m = l.take n ∧ m.length = n := by
  induction n with
  | zero => intro l m h; obtain rfl : [] = m := Option.some.inj h; simp
  | succ n ih => intro l m h; cases l with
    | nil => exact absurd h (by simp [takeN])
    | cons a l =>
      have h' : (Option.rec none (fun m => some (a :: m)) (takeN n l) : Option (List α)) = some m := h
      cases e : takeN n l with
      | none => rw [e] at h'; simp at h'
      | some k =>
        rw [e] at h'
        obtain rfl : a :: k = m := Option.some.inj h'
        obtain ⟨h1, h2⟩ := ih l k e
        subst h1
        exact ⟨rfl, by simp at h2 ⊢; omega⟩
theorem leq_iff (l : List Nat) : ∀ m, leq l m = true ↔ l = m := by
  induction l with
  | nil => intro m; cases m <;> simp [leq]
  | cons a l ih => intro m; cases m with
    | nil => simp [leq]
    | cons b m =>
      show (Bool.rec false (leq l m) (Nat.beq a b) : Bool) = true ↔ _
      cases e : Nat.beq a b with
      | false =>
        have : a ≠ b := fun h => by subst h; simp at e
        simp [this]
      | true =>
        have : a = b := Nat.eq_of_beq_eq_true e
        subst this
        simpa using ih m
theorem mapMO_cons {f : α → Option β} {a : α} {l : List α} {r : List β} (h : mapMO f (a :: l) = some r) : ∃ b k, f a = some b ∧ mapMO f l = some k ∧ r = b :: k := by
  unfold mapMO at h
  split at h
  · simp at h
  · split at h
    · simp at h
    · rename_i b hb _ k hk; exact ⟨b, k, hb, hk, (Option.some.inj h).symm⟩
end lists
end Go.X
end
section
namespace Go.X
open Go.RowKit
abbrev Rho := Nat → Option (Nat × Nat × Nat)
mutual
inductive VR (ρ : Rho) : XV → Value → Prop
  | bool (b : Bool) : VR ρ (.bool b) (.bool b)
  | int (k : IntKind) (n : Int) : VR ρ (.int k n) (.int k n)
  | str (l : List Nat) (s : ByteArray) (h : s.data.toList.map UInt8.toNat = l) : VR ρ (.str l) (.string s)
  | ptr (n o b off lim : Nat) (h : ρ n = some (b, off, lim)) : VR ρ (.ptr n o) (.pointer (some ⟨b, off + o, none⟩))
  | nilp : VR ρ .nilp (.pointer none)
  | slice (n o len cap es : Nat) (ex : Bool) (b off lim : Nat) (a : Addr) (c : Nat) (h : ρ n = some (b, off, lim)) (h1 : len ≤ cap) (h2 : cap ≤ c)
      (hex : ex = true → c = cap ∧ a = ⟨b, off + o, none⟩) (hne : ex = false → (0 < c → a = ⟨b, off + o, none⟩) ∧ o + c * es ≤ lim) :
      VR ρ (.slice n o len cap es ex) (.slice (some a) len c)
  | nils : VR ρ .nils (.slice none 0 0)
  | map (n b off lim : Nat) (h : ρ n = some (b, off, lim)) : VR ρ (.map n) (.map (some b))
  | nilm : VR ρ .nilm (.map none)
  | func (f : FuncId) (cs : List XV) (vs : List Value) (h : VRs ρ cs vs) : VR ρ (.func f cs) (.func (.func f) #[] vs.toArray)
  | nilf : VR ρ .nilf .nilFunc
  | nili : VR ρ .nili .nilIface
  | agg (cs : List XV) (vs : List Value) (h : VRs ρ cs vs) : VR ρ (.agg cs) (.agg vs.toArray)
  | tup (cs : List XV) (vs : List Value) (h : VRs ρ cs vs) : VR ρ (.tup cs) (.tuple vs.toArray)
inductive VRs (ρ : Rho) : List XV → List Value → Prop
  | nil : VRs ρ [] []
  | cons (x : XV) (v : Value) (l : List XV) (m : List Value) (h : VR ρ x v) (t : VRs ρ l m) : VRs ρ (x :: l) (v :: m)
end
def Ext (ρ ρ' : Rho) : Prop := ∀ n x, ρ n = some x → ρ' n = some x
theorem Ext.refl (ρ : Rho) : Ext ρ ρ := fun _ _ h => h
theorem Ext.trans {a b c : Rho} (h : Ext a b) (k : Ext b c) : Ext a c := fun n x e => k n x (h n x e)
mutual
theorem VR.mono {ρ ρ' : Rho} (e : Ext ρ ρ') : ∀ {x : XV} {v : Value}, VR ρ x v → VR ρ' x v
  | _, _, .bool b => .bool b
  | _, _, .int k n => .int k n
  | _, _, .str l s h => .str l s h
  | _, _, .ptr n o b off lim h => .ptr n o b off lim (e _ _ h)
  | _, _, .nilp => .nilp
  | _, _, .slice n o len cap es ex b off lim a c h h1 h2 h3 h4 => .slice n o len cap es ex b off lim a c (e _ _ h) h1 h2 h3 h4
  | _, _, .nils => .nils
  | _, _, .map n b off lim h => .map n b off lim (e _ _ h)
  | _, _, .nilm => .nilm
  | _, _, .func f cs vs h => .func f cs vs (VRs.mono e h)
  | _, _, .nilf => .nilf
  | _, _, .nili => .nili
  | _, _, .agg cs vs h => .agg cs vs (VRs.mono e h)
  | _, _, .tup cs vs h => .tup cs vs (VRs.mono e h)
theorem VRs.mono {ρ ρ' : Rho} (e : Ext ρ ρ') : ∀ {l : List XV} {m : List Value}, VRs ρ l m → VRs ρ' l m
  | _, _, .nil => .nil
  | _, _, .cons x v l m h t => .cons x v l m (h.mono e) (t.mono e)
end
theorem VRs.len {ρ : Rho} : ∀ {l : List XV} {m : List Value}, VRs ρ l m → l.length = m.length
  | _, _, .nil => rfl
  | _, _, .cons _ _ _ _ _ t => by simp [t.len]
theorem VRs.append {ρ : Rho} : ∀ {l l' : List XV} {m m' : List Value}, VRs ρ l m → VRs ρ l' m' → VRs ρ (l ++ l') (m ++ m')
  | _, _, _, _, .nil, h => h
  | _, _, _, _, .cons x v l m h t, k => .cons x v _ _ h (t.append k)
theorem VRs.take {ρ : Rho} : ∀ (n : Nat) {l : List XV} {m : List Value}, VRs ρ l m → VRs ρ (l.take n) (m.take n)
  | 0, _, _, _ => by simpa using VRs.nil
  | n + 1, _, _, .nil => by simpa using VRs.nil
  | n + 1, _, _, .cons x v l m h t => .cons x v _ _ h (t.take n)
theorem VRs.drop {ρ : Rho} : ∀ (n : Nat) {l : List XV} {m : List Value}, VRs ρ l m → VRs ρ (l.drop n) (m.drop n)
  | 0, _, _, h => h
  | n + 1, _, _, .nil => by simpa using VRs.nil
  | n + 1, _, _, .cons x v l m h t => t.drop n
theorem VRs.get {ρ : Rho} : ∀ {l : List XV} {m : List Value}, VRs ρ l m → ∀ {n : Nat} {x : XV}, l[n]? = some x → ∃ v, m[n]? = some v ∧ VR ρ x v
  | _, _, .nil, n, x, h => by simp at h
  | _, _, .cons y v l m hy t, 0, x, h => by
    obtain rfl : y = x := by simpa using h
    exact ⟨v, rfl, hy⟩
  | _, _, .cons y v l m hy t, n + 1, x, h => t.get (n := n) (by simpa using h)
theorem VRs.get' {ρ : Rho} : ∀ {l : List XV} {m : List Value}, VRs ρ l m → ∀ {n : Nat} {v : Value}, m[n]? = some v → ∃ x, l[n]? = some x ∧ VR ρ x v
  | _, _, .nil, n, x, h => by simp at h
  | _, _, .cons y v l m hy t, 0, x, h => by
    obtain rfl : v = x := by simpa using h
    exact ⟨y, rfl, hy⟩
  | _, _, .cons y v l m hy t, n + 1, x, h => t.get' (n := n) (by simpa using h)
theorem VRs.replicate {ρ : Rho} {x : XV} {v : Value} (h : VR ρ x v) : ∀ n, VRs ρ (List.replicate n x) (List.replicate n v)
  | 0 => .nil
  | n + 1 => .cons _ _ _ _ h (VRs.replicate h n)
theorem VRs.reps {ρ : Rho} {l : List XV} {m : List Value} (h : VRs ρ l m) : ∀ n, VRs ρ (List.replicate n l).flatten (List.replicate n m).flatten
  | 0 => .nil
  | n + 1 => by simpa [List.replicate_succ] using h.append (VRs.reps h n)
theorem VR.cells {ρ : Rho} {x : XV} {v : Value} (h : VR ρ x v) : VRs ρ x.cells v.cells.toList := by
  cases h with
  | agg cs vs h => simpa [XV.cells, Value.cells] using h
  | bool b => exact .cons _ _ _ _ (.bool b) .nil
  | int k n => exact .cons _ _ _ _ (.int k n) .nil
  | str l s h => exact .cons _ _ _ _ (.str l s h) .nil
  | ptr n o b off lim h => exact .cons _ _ _ _ (.ptr n o b off lim h) .nil
  | nilp => exact .cons _ _ _ _ .nilp .nil
  | slice n o len cap es ex b off lim a c h h1 h2 h3 h4 => exact .cons _ _ _ _ (.slice n o len cap es ex b off lim a c h h1 h2 h3 h4) .nil
  | nils => exact .cons _ _ _ _ .nils .nil
  | map n b off lim h => exact .cons _ _ _ _ (.map n b off lim h) .nil
  | nilm => exact .cons _ _ _ _ .nilm .nil
  | func f cs vs h => exact .cons _ _ _ _ (.func f cs vs h) .nil
  | nilf => exact .cons _ _ _ _ .nilf .nil
  | nili => exact .cons _ _ _ _ .nili .nil
  | tup cs vs h => exact .cons _ _ _ _ (.tup cs vs h) .nil
inductive MRs (ρ : Rho) : List (XV × XV) → List MapEntry → Prop
  | nil : MRs ρ [] []
  | cons (k v : XV) (e : MapEntry) (l : List (XV × XV)) (m : List MapEntry) (hk : VR ρ k e.key) (hv : VR ρ v e.val) (t : MRs ρ l m) : MRs ρ ((k, v) :: l) (e :: m)
theorem MRs.mono {ρ ρ' : Rho} (e : Ext ρ ρ') {l : List (XV × XV)} {m : List MapEntry} (h : MRs ρ l m) : MRs ρ' l m := by
  induction h with
  | nil => exact .nil
  | cons k v e' l m hk hv t ih => exact .cons _ _ _ _ _ (hk.mono e) (hv.mono e) ih
theorem MRs.len {ρ : Rho} {l : List (XV × XV)} {m : List MapEntry} (h : MRs ρ l m) : l.length = m.length := by
  induction h with
  | nil => rfl
  | cons _ _ _ _ _ _ _ _ ih => simp [ih]
structure CR (ρ : Rho) (w : World) (cs : List XV) (ro : Bool) (tg : Option Nat) (b off lim : Nat) : Prop where
  len : cs.length ≤ lim
  there : ∀ j, j < lim → (w.cell? ⟨b, off + j, none⟩).isSome = true
  free : ro = false → ∀ j, j < lim → w.frozen? ⟨b, off + j, none⟩ = false
  vals : ∃ vs, VRs ρ cs vs ∧ ∀ j v, vs[j]? = some v → w.cell? ⟨b, off + j, none⟩ = some v
  lt : b < w.heap.size
  tag : ∀ t, tg = some t → off = 0 ∧ ∃ m, w.shape? b = some (t / 2, m) ∧ cs.length ≤ m ∧ (t % 2 = 0 → m = cs.length)
def OR (ρ : Rho) (w : World) (b off lim : Nat) : XO → Prop
  | .cells cs ro tg => CR ρ w cs ro tg b off lim
  | .map es => ∃ ents clk, w.heap[b]? = some (.map ents clk) ∧ MRs ρ es ents.toList ∧ MapKept.Stamped ents clk
  | .sit s pos => off = 0 ∧ ∃ t, w.heap[b]? = some (.stringIter t pos) ∧ t.data.toList.map UInt8.toNat = s
structure Rep (ρ : Rho) (H : XH) (w : World) : Prop where
  obj : ∀ n o, H.get n = some o → ∃ b off lim, ρ n = some (b, off, lim) ∧ OR ρ w b off lim o
  inj : ∀ n m o o' b x y x' y', H.get n = some o → H.get m = some o' → ρ n = some (b, x, y) → ρ m = some (b, x', y') → n = m
def XO.ro : XO → Bool
  | .cells _ r _ => r
  | _ => false
def Foot (ρ : Rho) (H : XH) (b : Nat) : Prop := ∃ n o x y, H.get n = some o ∧ o.ro = false ∧ ρ n = some (b, x, y)
def All (ρ : Rho) (H : XH) (b : Nat) : Prop := ∃ n o x y, H.get n = some o ∧ ρ n = some (b, x, y)
def Free (ρ : Rho) (n m : Nat) : Prop := ∀ k, n ≤ k → k < m → ρ k = none
structure Step (ρ : Rho) (H : XH) (w : World) (ρ' : Rho) (H' : XH) (w' : World) : Prop where
  rep : Rep ρ' H' w'
  le : H.next ≤ H'.next
  out : ∀ n, n < H.next ∨ H'.next ≤ n → ρ' n = ρ n
  ext : Ext ρ ρ'
  os : w'.os = w.os
  tape : w'.tape = w.tape
  output : w'.output = w.output
  size : w.heap.size ≤ w'.heap.size
  keep : ∀ b, b < w.heap.size → ¬ Foot ρ H b → w'.heap[b]? = w.heap[b]?
  foot : ∀ b, Foot ρ' H' b → Foot ρ H b ∨ w.heap.size ≤ b
  all : ∀ b, All ρ' H' b → All ρ H b ∨ w.heap.size ≤ b
theorem Step.refl {ρ : Rho} {H : XH} {w : World} (h : Rep ρ H w) : Step ρ H w ρ H w :=
  ⟨h, Nat.le_refl _, fun _ _ => rfl, Ext.refl _, rfl, rfl, rfl, Nat.le_refl _, fun _ _ _ => rfl, fun _ h => .inl h, fun _ h => .inl h⟩
theorem Step.trans {ρ ρ1 ρ2 : Rho} {H H1 H2 : XH} {w w1 w2 : World} (a : Step ρ H w ρ1 H1 w1) (b : Step ρ1 H1 w1 ρ2 H2 w2) : Step ρ H w ρ2 H2 w2 where
  rep := b.rep
  le := Nat.le_trans a.le b.le
  out n h := by
    have l1 := a.le
    have l2 := b.le
    rw [b.out n (by omega), a.out n (by omega)]
  ext := a.ext.trans b.ext
  os := b.os.trans a.os
  tape := b.tape.trans a.tape
  output := b.output.trans a.output
  size := Nat.le_trans a.size b.size
  keep k hk hf := by
    have := a.size
    rw [b.keep k (by omega) (fun h => (a.foot k h).elim hf (fun h => by omega)), a.keep k hk hf]
  foot k h := by
    have := a.size
    rcases b.foot k h with h | h
    · exact a.foot k h
    · exact .inr (by omega)
  all k h := by
    have := a.size
    rcases b.all k h with h | h
    · exact a.all k h
    · exact .inr (by omega)
theorem cell_of_block {w w' : World} {a : Addr} (h : w'.heap[a.block]? = w.heap[a.block]?) : w'.cell? a = w.cell? a := by simp only [World.cell?, h]
theorem frozen_of_block {w w' : World} {a : Addr} (h : w'.heap[a.block]? = w.heap[a.block]?) : w'.frozen? a = w.frozen? a := by simp only [World.frozen?, h]
theorem OR.of_block {ρ ρ' : Rho} {w w' : World} {b off lim : Nat} {o : XO} (e : Ext ρ ρ') (hs : w.heap.size ≤ w'.heap.size) (h : w'.heap[b]? = w.heap[b]?) (k : OR ρ w b off lim o) : OR ρ' w' b off lim o := by
  cases o with
  | cells cs ro tg =>
    obtain ⟨h1, h2, h3, ⟨vs, h4, h5⟩, h6, h7⟩ := k
    exact ⟨h1, fun j hj => by rw [cell_of_block h]; exact h2 j hj, fun hr j hj => by rw [frozen_of_block h]; exact h3 hr j hj, ⟨vs, h4.mono e, fun j v hv => by rw [cell_of_block h]; exact h5 j v hv⟩, by omega, fun t ht => by
      have : w'.shape? b = w.shape? b := by simp only [World.shape?, h]
      rw [this]
      exact h7 t ht⟩
  | map es =>
    obtain ⟨en, clk, h1, h2, h3⟩ := k
    exact ⟨en, clk, h.trans h1, h2.mono e, h3⟩
  | sit s pos =>
    obtain ⟨h0, t, h1, h2⟩ := k
    exact ⟨h0, t, h.trans h1, h2⟩
theorem OR.lt {ρ : Rho} {w : World} {b off lim : Nat} {o : XO} (k : OR ρ w b off lim o) : b < w.heap.size := by
  cases o with
  | cells cs ro tg => exact CR.lt k
  | map es => obtain ⟨en, clk, h1, h2⟩ := k; exact (Array.getElem?_eq_some_iff.1 h1).1
  | sit s pos => obtain ⟨_, t, h1, h2⟩ := k; exact (Array.getElem?_eq_some_iff.1 h1).1
theorem Step.drawn {ρ : Rho} {H : XH} {w w' : World} (h : Rep ρ H w) (hh : w'.heap = w.heap) (h1 : w'.os = w.os) (h2 : w'.tape = w.tape) (h3 : w'.output = w.output) : Step ρ H w ρ H w' where
  rep := ⟨fun n o ho => by
    obtain ⟨b, off, lim, hb, k⟩ := h.obj n o ho
    exact ⟨b, off, lim, hb, k.of_block (Ext.refl _) (by rw [hh]; exact Nat.le_refl _) (by rw [hh])⟩, h.inj⟩
  le := Nat.le_refl _
  out _ _ := rfl
  ext := Ext.refl _
  os := h1
  tape := h2
  output := h3
  size := by rw [hh]; exact Nat.le_refl _
  keep _ _ _ := by rw [hh]
  foot _ h := .inl h
  all _ h := .inl h
theorem Step.set {ρ : Rho} {H : XH} {w w' : World} {n : Nat} {o o' : XO} {b off lim : Nat} (h : Rep ρ H w) (hn : H.get n = some o) (hr : o.ro = false) (hρ : ρ n = some (b, off, lim))
    (ho : OR ρ w' b off lim o') (hr' : o'.ro = false) (h1 : w'.os = w.os) (h2 : w'.tape = w.tape) (h3 : w'.output = w.output) (hs : w'.heap.size = w.heap.size) (hb : ∀ k, k ≠ b → w'.heap[k]? = w.heap[k]?) :
    Step ρ H w ρ (H.set n o') w' where
  rep := by
    refine ⟨fun m p hp => ?_, fun m k p p' c x y x' y' hm hk hx hy => ?_⟩
    · rw [XH.get_set] at hp
      by_cases e : m = n
      · subst e
        rw [if_pos rfl] at hp
        obtain rfl := Option.some.inj hp
        exact ⟨b, off, lim, hρ, ho⟩
      · rw [if_neg e] at hp
        obtain ⟨c, x, y, hc, k⟩ := h.obj m p hp
        have hne : c ≠ b := fun e' => by subst e'; exact e (h.inj _ _ _ _ _ _ _ _ _ hp hn hc hρ)
        exact ⟨c, x, y, hc, k.of_block (Ext.refl _) (by omega) (hb c hne)⟩
    · rw [XH.get_set] at hm hk
      have f : ∀ q r, (if q = n then some o' else H.get q) = some r → ∃ r', H.get q = some r' := by
        intro q r hq
        by_cases e : q = n
        · subst e; exact ⟨_, hn⟩
        · rw [if_neg e] at hq; exact ⟨_, hq⟩
      obtain ⟨_, hm⟩ := f _ _ hm
      obtain ⟨_, hk⟩ := f _ _ hk
      exact h.inj _ _ _ _ _ _ _ _ _ hm hk hx hy
  le := Nat.le_refl _
  out _ _ := rfl
  ext := Ext.refl _
  os := h1
  tape := h2
  output := h3
  size := by omega
  keep k hk hf := hb k (fun e => hf (by subst e; exact ⟨n, o, off, lim, hn, hr, hρ⟩))
  foot k := by
    rintro ⟨m, p, x, y, hm, hp, hx⟩
    rw [XH.get_set] at hm
    by_cases e : m = n
    · subst e
      exact .inl ⟨m, o, x, y, hn, hr, hx⟩
    · rw [if_neg e] at hm
      exact .inl ⟨m, p, x, y, hm, hp, hx⟩
  all k := by
    rintro ⟨m, p, x, y, hm, hx⟩
    rw [XH.get_set] at hm
    by_cases e : m = n
    · subst e
      exact .inl ⟨m, o, x, y, hn, hx⟩
    · rw [if_neg e] at hm
      exact .inl ⟨m, p, x, y, hm, hx⟩
def upd (ρ : Rho) (n : Nat) (x : Nat × Nat × Nat) : Rho := fun m => if m = n then some x else ρ m
theorem Ext.upd {ρ : Rho} {n : Nat} {x : Nat × Nat × Nat} (h : ρ n = none) : Ext ρ (upd ρ n x) := fun m y hm => by
  unfold X.upd
  rw [if_neg (fun e => by rw [e, h] at hm; cases hm)]
  exact hm
theorem Step.new {ρ : Rho} {H : XH} {w w' : World} {o : XO} {b off lim : Nat} (h : Rep ρ H w) (hf : ρ H.next = none) (hu : ∀ n p x y, H.get n = some p → ρ n = some (b, x, y) → False)
    (hv : w.heap.size ≤ b) (ho : OR (upd ρ H.next (b, off, lim)) w' b off lim o) (h1 : w'.os = w.os) (h2 : w'.tape = w.tape) (h3 : w'.output = w.output) (hs : w.heap.size ≤ w'.heap.size)
    (hb : ∀ k, k < w.heap.size → w'.heap[k]? = w.heap[k]?) : Step ρ H w (upd ρ H.next (b, off, lim)) (H.new o) w' where
  rep := by
    have hE := Ext.upd (x := (b, off, lim)) hf
    refine ⟨fun m p hp => ?_, fun m k p p' c x y x' y' hm hk hx hy => ?_⟩
    · rw [XH.get_new] at hp
      by_cases e : m = H.next
      · subst e
        rw [if_pos rfl] at hp
        obtain rfl := Option.some.inj hp
        exact ⟨b, off, lim, by simp [upd], ho⟩
      · rw [if_neg e] at hp
        obtain ⟨c, x, y, hc, k⟩ := h.obj m p hp
        exact ⟨c, x, y, hE _ _ hc, k.of_block hE hs (hb c k.lt)⟩
    · rw [XH.get_new] at hm hk
      unfold upd at hx hy
      by_cases e : m = H.next <;> by_cases e' : k = H.next
      · rw [e, e']
      · rw [if_neg e'] at hk hy
        rw [if_pos e] at hx
        injection hx with hx
        injection hx with hx _
        subst hx
        exact (hu _ _ _ _ hk hy).elim
      · rw [if_neg e] at hm hx
        rw [if_pos e'] at hy
        injection hy with hy
        injection hy with hy _
        subst hy
        exact (hu _ _ _ _ hm hx).elim
      · rw [if_neg e] at hm hx
        rw [if_neg e'] at hk hy
        exact h.inj _ _ _ _ _ _ _ _ _ hm hk hx hy
  le := Nat.le_succ _
  out n hn := by
    unfold upd
    rw [if_neg (by simp at hn; omega)]
  ext := Ext.upd hf
  os := h1
  tape := h2
  output := h3
  size := hs
  keep k hk _ := hb k hk
  foot k := by
    rintro ⟨m, p, x, y, hm, hp, hx⟩
    rw [XH.get_new] at hm
    unfold upd at hx
    by_cases e : m = H.next
    · rw [if_pos e] at hx
      injection hx with hx
      injection hx with hx _
      exact .inr (by omega)
    · rw [if_neg e] at hm hx
      exact .inl ⟨m, p, x, y, hm, hp, hx⟩
  all k := by
    rintro ⟨m, p, x, y, hm, hx⟩
    rw [XH.get_new] at hm
    unfold upd at hx
    by_cases e : m = H.next
    · rw [if_pos e] at hx
      injection hx with hx
      injection hx with hx _
      exact .inr (by omega)
    · rw [if_neg e] at hm hx
      exact .inl ⟨m, p, x, y, hm, hx⟩
theorem Step.renew {ρ : Rho} {H : XH} {w w' : World} {n : Nat} {o o' : XO} {b off lim off' lim' : Nat} (h : Rep ρ H w) (hf : ρ H.next = none) (hn : H.get n = some o) (hr : o.ro = false) (hρ : ρ n = some (b, off, lim))
    (ho : OR (upd ρ H.next (b, off', lim')) w' b off' lim' o') (h1 : w'.os = w.os) (h2 : w'.tape = w.tape) (h3 : w'.output = w.output) (hs : w'.heap.size = w.heap.size)
    (hb : ∀ k, k ≠ b → w'.heap[k]? = w.heap[k]?) : Step ρ H w (upd ρ H.next (b, off', lim')) ((H.del n).new o') w' := by
  have hE := Ext.upd (x := (b, off', lim')) hf
  have f : ∀ q r, q ≠ H.next → ((H.del n).new o').get q = some r → q ≠ n ∧ H.get q = some r := by
    intro q r hq hr
    rw [XH.get_new, XH.get_del, XH.next_del, if_neg hq] at hr
    by_cases e : q = n
    · rw [if_pos e] at hr; cases hr
    · rw [if_neg e] at hr; exact ⟨e, hr⟩
  have g : ∀ q r x y, q ≠ n → H.get q = some r → ρ q = some (b, x, y) → False := fun q r x y hq hr hx => hq (h.inj _ _ _ _ _ _ _ _ _ hr hn hx hρ)
  refine ⟨⟨fun m p hp => ?_, fun m k p p' c x y x' y' hm hk hx hy => ?_⟩, Nat.le_succ _, fun m hm => ?_, hE, h1, h2, h3, by omega, fun k hk hF => ?_, ?_, ?_⟩
  · by_cases e : m = H.next
    · subst e
      rw [XH.get_new, XH.next_del, if_pos rfl] at hp
      obtain rfl := Option.some.inj hp
      exact ⟨b, off', lim', by simp [upd], ho⟩
    · obtain ⟨e2, hp⟩ := f _ _ e hp
      obtain ⟨c, x, y, hc, k⟩ := h.obj m p hp
      exact ⟨c, x, y, hE _ _ hc, k.of_block hE (by omega) (hb c (fun e' => by subst e'; exact g _ _ _ _ e2 hp hc))⟩
  · by_cases e : m = H.next <;> by_cases e' : k = H.next
    · rw [e, e']
    · obtain ⟨e2, hk⟩ := f _ _ e' hk
      unfold upd at hx hy
      rw [if_neg e'] at hy
      rw [if_pos e] at hx
      injection hx with hx
      injection hx with hx _
      subst hx
      exact (g _ _ _ _ e2 hk hy).elim
    · obtain ⟨e2, hm⟩ := f _ _ e hm
      unfold upd at hx hy
      rw [if_neg e] at hx
      rw [if_pos e'] at hy
      injection hy with hy
      injection hy with hy _
      subst hy
      exact (g _ _ _ _ e2 hm hx).elim
    · obtain ⟨_, hm⟩ := f _ _ e hm
      obtain ⟨_, hk⟩ := f _ _ e' hk
      unfold upd at hx hy
      rw [if_neg e] at hx
      rw [if_neg e'] at hy
      exact h.inj _ _ _ _ _ _ _ _ _ hm hk hx hy
  · unfold upd
    rw [if_neg (by simp at hm; omega)]
  · exact hb k (fun e => hF (by subst e; exact ⟨n, o, off, lim, hn, hr, hρ⟩))
  · rintro k ⟨m, p, x, y, hm, hp, hx⟩
    unfold upd at hx
    by_cases e : m = H.next
    · rw [if_pos e] at hx
      injection hx with hx
      injection hx with hx _
      subst hx
      exact .inl ⟨n, o, off, lim, hn, hr, hρ⟩
    · rw [if_neg e] at hx
      exact .inl ⟨m, p, x, y, (f _ _ e hm).2, hp, hx⟩
  · rintro k ⟨m, p, x, y, hm, hx⟩
    unfold upd at hx
    by_cases e : m = H.next
    · rw [if_pos e] at hx
      injection hx with hx
      injection hx with hx _
      subst hx
      exact .inl ⟨n, o, off, lim, hn, hρ⟩
    · rw [if_neg e] at hx
      exact .inl ⟨m, p, x, y, (f _ _ e hm).2, hx⟩
theorem Step.del {ρ : Rho} {H : XH} {w : World} (n : Nat) (h : Rep ρ H w) : Step ρ H w ρ (H.del n) w := by
  have f : ∀ q r, (H.del n).get q = some r → H.get q = some r := by
    intro q r hq
    rw [XH.get_del] at hq
    by_cases e : q = n
    · rw [if_pos e] at hq; cases hq
    · rwa [if_neg e] at hq
  exact ⟨⟨fun m p hp => h.obj m p (f _ _ hp), fun m k p p' c x y x' y' hm hk hx hy => h.inj _ _ _ _ _ _ _ _ _ (f _ _ hm) (f _ _ hk) hx hy⟩,
    Nat.le_refl _, fun _ _ => rfl, Ext.refl _, rfl, rfl, rfl, Nat.le_refl _, fun _ _ _ => rfl, fun k ⟨m, p, x, y, hm, hp, hx⟩ => .inl ⟨m, p, x, y, f _ _ hm, hp, hx⟩, fun k ⟨m, p, x, y, hm, hx⟩ => .inl ⟨m, p, x, y, f _ _ hm, hx⟩⟩
end Go.X
end
section
namespace Go.X
open Go.RowKit
theorem mapMO_VRs {ρ : Rho} {d : Nat} (ih : ∀ v x, ofV d v = some x → VR ρ x v) : ∀ (l : List Value) (m : List XV), mapMO (ofV d) l = some m → VRs ρ m l
  | [], m, h => by simp [mapMO] at h; subst h; exact .nil
  | v :: l, m, h => by
    obtain ⟨b, k, h1, h2, rfl⟩ := mapMO_cons h
    exact .cons _ _ _ _ (ih _ _ h1) (mapMO_VRs ih _ _ h2)
theorem ofV_VR {ρ : Rho} : ∀ (d : Nat) (v : Value) (x : XV), ofV d v = some x → VR ρ x v
  | 0, _, _, h => by simp [ofV] at h
  | d + 1, v, x, h => by
    have ih := ofV_VR (ρ := ρ) d
    unfold ofV at h
    split at h
    · simp at h; subst h; exact .bool _
    · simp at h; subst h; exact .int _ _
    · simp at h; subst h; exact .str _ _ rfl
    · simp at h; subst h; exact .nilp
    · simp at h; subst h; exact .nils
    · simp at h; subst h; exact .nilm
    · simp at h; subst h; exact .nilf
    · simp at h; subst h; exact .nili
    · rename_i f cap
      split at h
      · rename_i l hl
        simp at h; subst h
        have := VR.func (ρ := ρ) f l cap.toList (mapMO_VRs ih _ _ hl)
        simpa using this
      · simp at h
    · rename_i cs
      split at h
      · rename_i l hl
        simp at h; subst h
        have := VR.agg (ρ := ρ) l cs.toList (mapMO_VRs ih _ _ hl)
        simpa using this
      · simp at h
    · rename_i cs
      split at h
      · rename_i l hl
        simp at h; subst h
        have := VR.tup (ρ := ρ) l cs.toList (mapMO_VRs ih _ _ hl)
        simpa using this
      · simp at h
    · simp at h
def GlobOK (ρ : Rho) : Prop := ∀ g, g ≤ 63 → ∃ lim, ρ g = some (g, 0, lim)
theorem GlobOK.mono {ρ ρ' : Rho} (e : Ext ρ ρ') (h : GlobOK ρ) : GlobOK ρ' := fun g hg => let ⟨l, hl⟩ := h g hg; ⟨l, e _ _ hl⟩
structure FrR (ρ : Rho) (n : Nat) (fr : XF) (a : Act) : Prop where
  size : n ≤ a.tmps.size
  vals : ∀ t, VR ρ (ev fr (.t (ixOf t))) (a.tmps.getD t undef)
  glob : GlobOK ρ
  defers : a.defers = []
theorem FrR.mono {ρ ρ' : Rho} {n : Nat} {fr : XF} {a : Act} (e : Ext ρ ρ') (h : FrR ρ n fr a) : FrR ρ' n fr a :=
  ⟨h.size, fun t => (h.vals t).mono e, h.glob.mono e, h.defers⟩
theorem ev_put (fr : XF) (i j : Ix) (x : XV) : ev (XF.put fr (some i) x) (.t j) = if j = i then x else ev fr (.t j) := by
  show (Option.rec (.tup []) (fun v => v) (T.getI j (T.putI i x fr)) : XV) = _
  by_cases h : j = i
  · subst h; rw [T.getI_same, if_pos rfl]
  · rw [T.getI_other _ _ _ _ h, if_neg h]; rfl
theorem FrR.put {ρ : Rho} {n : Nat} {fr : XF} {a : Act} {x : XV} {v : Value} {d : Option Tmp} (h : FrR ρ n fr a) (hd : dstOk n d = true) (hv : VR ρ x v) : FrR ρ n (XF.put fr (d.map ixOf) x) (a.put d v) := by
  cases d with
  | none => exact h
  | some d =>
    have hlt : d < n := Nat.le_of_ble_eq_true hd
    have hs := h.size
    refine ⟨by simp [Act.put, hs], fun t => ?_, h.glob, h.defers⟩
    rw [show (some d : Option Tmp).map ixOf = some (ixOf d) from rfl, ev_put]
    by_cases e : t = d
    · subst e
      simp only [Act.put]
      have : t < a.tmps.size := Nat.lt_of_lt_of_le hlt hs
      simp [Array.getD, this, hv]
    · rw [if_neg (fun e' => e (ixOf_inj e'))]
      have := h.vals t
      simp only [Act.put, Array.getD_eq_getD_getElem?, Array.getElem?_setIfInBounds_ne (Ne.symm e)] at this ⊢
      exact this
theorem VR.undef {ρ : Rho} : VR ρ unit undef := VR.tup (ρ := ρ) [] [] .nil
section
variable {P : Program} {ty : Nat → Option XTy} {ρ : Rho} {n : Nat} {fr : XF} {a : Act}
theorem xa_sound {x : Operand} {y : XA} (h : xa x = some y) (hf : FrR ρ n fr a) : VR ρ (ev fr y) (a.eval x) := by
  cases x with
  | tmp t => simp [xa] at h; subst h; exact hf.vals t
  | const v =>
    simp [xa] at h
    obtain ⟨x, hx, rfl⟩ := h
    exact ofV_VR _ _ _ hx
  | global g =>
    simp only [xa] at h
    cases e : Nat.ble g 63 with
    | false => rw [e] at h; simp at h
    | true =>
      rw [e] at h
      obtain rfl := Option.some.inj h
      obtain ⟨lim, hl⟩ := hf.glob g (Nat.le_of_ble_eq_true e)
      exact VR.ptr g 0 g 0 lim hl
  | func f =>
    simp [xa] at h
    subst h
    exact VR.func (ρ := ρ) f [] [] .nil
theorem xas_sound : ∀ {l : List Operand} {m : List XA}, mapMO xa l = some m → FrR ρ n fr a → VRs ρ (evs fr m) (l.map a.eval)
  | [], m, h, _ => by simp [mapMO] at h; subst h; exact .nil
  | x :: l, m, h, hf => by
    obtain ⟨b, k, h1, h2, rfl⟩ := mapMO_cons h
    exact .cons _ _ _ _ (xa_sound h1 hf) (xas_sound h2 hf)
def VRo (ρ : Rho) (x : Option XV) (v : Option Value) : Prop := match x, v with
  | none, none => True
  | some x, some v => VR ρ x v
  | _, _ => False
theorem xao_sound {x : Option Operand} {y : Option XA} (h : xao x = some y) (hf : FrR ρ n fr a) : VRo ρ (evo fr y) (x.map a.eval) := by
  cases x with
  | none => simp [xao] at h; subst h; trivial
  | some x =>
    simp [xao] at h
    obtain ⟨y', hy, rfl⟩ := h
    exact xa_sound hy hf
end
def TyOK (P : Program) (ty : Nat → Option XTy) : Prop := ∀ t y, ty t = some y → mkTy P t = some y
structure TyFact (P : Program) (t : Nat) (y : XTy) where
  i : TypeInfo
  d : TypeDesc
  hi : P.info? t = some i
  hd : P.underlying t = some d
  size : y.size = i.size
  bytes : y.bytes = i.bytes
  zero : ∀ x, y.zero = some x → ∃ v, i.zero = some v ∧ ∀ ρ, VR ρ x v
  k : y.k = kindOf d
theorem mkTy_fact {P : Program} {t : Nat} {y : XTy} (h : mkTy P t = some y) : Nonempty (TyFact P t y) := by
  unfold mkTy at h
  split at h
  · rename_i i d hi hd
    obtain rfl := Option.some.inj h
    exact ⟨⟨i, d, hi, hd, rfl, rfl, fun x hx => by
      cases hz : i.zero with
      | none => rw [hz] at hx; simp at hx
      | some v => rw [hz] at hx; exact ⟨v, rfl, fun ρ => ofV_VR _ _ _ (by simpa using hx)⟩, rfl⟩⟩
  · simp at h
section
variable {P : Program} {ty : Nat → Option XTy} (hT : TyOK P ty)
include hT
theorem ty_fact {t : Nat} {y : XTy} (h : ty t = some y) : Nonempty (TyFact P t y) := mkTy_fact (hT t y h)
theorem size_fact {t s : Nat} (h : sizeOf' ty t = some s) (w : World) : (sizeOf t).run P w = .ok s w := by
  unfold sizeOf' at h
  cases e : ty t with
  | none => rw [e] at h; simp at h
  | some y =>
    obtain ⟨f⟩ := ty_fact hT e
    rw [e] at h
    obtain rfl : y.size = s := by simpa using h
    simp [sizeOf, typeInfo, f.hi, f.size]
theorem zero_fact {t : Nat} {x : XV} (h : zeroOf ty t = some x) (w : World) : ∃ v, (zeroValue t).run P w = .ok v w ∧ ∀ ρ, VR ρ x v := by
  unfold zeroOf at h
  cases e : ty t with
  | none => rw [e] at h; simp at h
  | some y =>
    obtain ⟨f⟩ := ty_fact hT e
    rw [e] at h
    obtain ⟨v, hv, hr⟩ := f.zero x (by simpa using h)
    exact ⟨v, by simp [zeroValue, typeInfo, f.hi, hv], hr⟩
theorem k_fact {t : Nat} {k : XK} (h : kOf ty t = some k) : ∃ d, P.underlying t = some d ∧ k = kindOf d := by
  unfold kOf at h
  cases e : ty t with
  | none => rw [e] at h; simp at h
  | some y =>
    obtain ⟨f⟩ := ty_fact hT e
    rw [e] at h
    obtain rfl : y.k = k := by simpa using h
    exact ⟨f.d, f.hd, f.k⟩
theorem k_str {t : Nat} (h : kOf ty t = some .str) : P.underlying t = some .string := by
  obtain ⟨d, hd, hk⟩ := k_fact hT h
  cases d <;> simp [kindOf] at hk; exact hd
theorem k_int {t : Nat} {k : IntKind} (h : kOf ty t = some (.int k)) : P.underlying t = some (.int k) := by
  obtain ⟨d, hd, hk⟩ := k_fact hT h
  cases d <;> simp [kindOf] at hk; rw [hk]; exact hd
theorem k_slice {t e : Nat} (h : kOf ty t = some (.slice e)) : P.underlying t = some (.slice e) := by
  obtain ⟨d, hd, hk⟩ := k_fact hT h
  cases d <;> simp [kindOf] at hk; rw [hk]; exact hd
theorem k_array {t n e : Nat} (h : kOf ty t = some (.array n e)) : P.underlying t = some (.array n e) := by
  obtain ⟨d, hd, hk⟩ := k_fact hT h
  cases d <;> simp [kindOf] at hk; rw [hk.1, hk.2]; exact hd
theorem k_map {t k e : Nat} (h : kOf ty t = some (.map k e)) : P.underlying t = some (.map k e) := by
  obtain ⟨d, hd, hk⟩ := k_fact hT h
  cases d <;> simp [kindOf] at hk; rw [hk.1, hk.2]; exact hd
theorem k_struct {t : Nat} {fs : List (Nat × Nat)} (h : kOf ty t = some (.struct fs)) : ∃ gs, P.underlying t = some (.struct gs) ∧ fs = gs.toList.map fun f => (f.offset, f.type) := by
  obtain ⟨d, hd, hk⟩ := k_fact hT h
  cases d <;> simp [kindOf] at hk
  exact ⟨_, hd, hk⟩
omit hT in
theorem und_run {t : Nat} {d : TypeDesc} (h : P.underlying t = some d) (w : World) : (underlying t).run P w = .ok d w := by simp [underlying, h]
theorem part_fact {t : Nat} {p : XP} (h : partOf ty t = some p) (w : World) : match p with
    | .one => (isAgg t).run P w = .ok false w
    | .many n => (isAgg t).run P w = .ok true w ∧ (sizeOf t).run P w = .ok n w := by
  unfold partOf at h
  cases e : ty t with
  | none => rw [e] at h; simp at h
  | some y =>
    obtain ⟨f⟩ := ty_fact hT e
    rw [e] at h
    have hk := f.k
    have hd := f.hd
    have hs : (sizeOf t).run P w = .ok y.size w := by simp [sizeOf, typeInfo, f.hi, f.size]
    simp only at h
    cases hdd : f.d <;> rw [hdd] at hk hd <;> simp only [kindOf] at hk <;> rw [hk] at h <;> simp only [Option.some.injEq] at h <;> subst h <;>
      first
        | (simp [isAgg, underlying, hd]; done)
        | exact ⟨by simp [isAgg, underlying, hd], hs⟩
end
end Go.X
end
section
namespace Go.X
open Go.RowKit
theorem wrap64_in (n : Int) (h : -9223372036854775808 ≤ n) (h' : n ≤ 9223372036854775807) : IntKind.i64.wrap n = n := by
  have e1 : (2 ^ IntKind.i64.bits : Int) = 18446744073709551616 := by decide
  have e2 : (2 ^ (IntKind.i64.bits - 1) : Int) = 9223372036854775808 := by decide
  unfold IntKind.wrap
  rw [e1, e2, show IntKind.i64.signed = true from rfl]
  simp only [Bool.true_and, decide_eq_true_eq, ge_iff_le]
  split <;> omega
theorem wrap64_nat {n : Nat} (h : n ≤ 9223372036854775807) : IntKind.i64.wrap (n : Int) = (n : Int) := wrap64_in _ (by omega) (by omega)
theorem wrap64_neg {n : Nat} (h : n ≤ 9223372036854775807) : IntKind.i64.wrap (Int.negSucc n) = Int.negSucc n := wrap64_in _ (by omega) (by omega)
theorem wrapX_eq (k : IntKind) (n : Int) : wrapX k n = k.wrap n := by
  unfold wrapX
  split
  · rename_i n; show ((n % 256 : Nat) : Int) = _; simp [IntKind.wrap, IntKind.bits, IntKind.signed]
  · rename_i n; show ((n % 65536 : Nat) : Int) = _; simp [IntKind.wrap, IntKind.bits, IntKind.signed]
  · rename_i n; show ((n % 4294967296 : Nat) : Int) = _; simp [IntKind.wrap, IntKind.bits, IntKind.signed]
  · rename_i n; show ((n % 18446744073709551616 : Nat) : Int) = _; simp [IntKind.wrap, IntKind.bits, IntKind.signed]
  · rename_i n
    cases e : Nat.ble n 9223372036854775807 with
    | false => rw [cond_false]
    | true =>
      have := Nat.le_of_ble_eq_true e
      rw [cond_true]
      exact (wrap64_nat this).symm
  · rename_i n
    cases e : Nat.ble n 9223372036854775807 with
    | false => rw [cond_false]
    | true =>
      have := Nat.le_of_ble_eq_true e
      rw [cond_true]
      have h2 : IntKind.i64.wrap (Int.negSucc n) = Int.negSucc n := wrap64_neg this
      rw [h2]
  · rfl
theorem keq_iff {j k : IntKind} : keq j k = true ↔ j = k := by cases j <;> cases k <;> simp [keq]
theorem eqI_iff (a b : Int) : eqI a b = (a == b) := by
  cases a <;> cases b <;> simp only [eqI] <;> rw [Bool.eq_iff_iff] <;> simp
  exact Int.ofNat_inj.symm
theorem ltI_iff (a b : Int) : ltI a b = decide (a < b) := by
  cases a <;> cases b <;> simp only [ltI] <;> rw [Bool.eq_iff_iff] <;> simp <;> omega
theorem addI_eq (a b : Int) : addI a b = a + b := by
  cases a <;> cases b <;> simp only [addI] <;> rfl
theorem subI_eq (a b : Int) : subI a b = a - b := by
  cases a <;> cases b <;> simp only [subI] <;> try rfl
  rename_i a b
  cases e : Nat.ble b a with
  | true =>
    have := Nat.le_of_ble_eq_true e
    show ((a - b : Nat) : Int) = _
    simp; omega
  | false =>
    have : ¬ b ≤ a := fun h => by rw [Nat.ble_eq_true_of_le h] at e; cases e
    show Int.negSucc (Nat.pred (b - a)) = _
    simp [Nat.pred_eq_sub_one]; omega
theorem mulI_eq (a b : Int) : mulI a b = a * b := by
  cases a <;> cases b <;> simp only [mulI] <;> rfl
theorem natAbs_mod_two {a m : Nat} (k : IntKind) (hm : modOf k = m) : (BitVec.ofInt k.bits (a : Int)).toNat = a % m := by
  subst hm
  rw [BitVec.ofInt_natCast, BitVec.toNat_ofNat]
  cases k <;> rfl
theorem modI_eq (k : IntKind) (a : Int) : (BitVec.ofInt k.bits a).toNat = modI k a := by
  cases a with
  | ofNat a => exact natAbs_mod_two k rfl
  | negSucc a =>
    have hk : ((2 ^ k.bits : Nat) : Int) = (modOf k : Int) := by cases k <;> rfl
    have hp : 0 < modOf k := by cases k <;> decide
    rw [BitVec.toNat_ofInt, hk]
    show (Int.negSucc a % (modOf k : Int)).toNat = modOf k - 1 - a % modOf k
    have hl := Nat.mod_lt a hp
    have : Int.negSucc a % (modOf k : Int) = ((modOf k - 1 - a % modOf k : Nat) : Int) := by
      rw [Int.negSucc_emod a (by omega)]
      omega
    rw [this]
    rfl
theorem bitX_sound {f : Nat → Nat → Nat} {k : IntKind} {a b : Int} {x : XV} {g : BitVec k.bits → BitVec k.bits → BitVec k.bits}
    (hg : ∀ u v : BitVec k.bits, (g u v).toNat = f u.toNat v.toNat) (h : bitX f k a b = some x) : x = .int k (k.wrap ((g (BitVec.ofInt k.bits a) (BitVec.ofInt k.bits b)).toNat : Int)) := by
  obtain rfl := Option.some.inj h
  rw [wrapX_eq, hg, modI_eq, modI_eq]
  rfl
theorem andNot_nat {w : Nat} (u v : BitVec w) : (u &&& ~~~v).toNat = Nat.xor u.toNat (Nat.land u.toNat v.toNat) := by
  have : u &&& ~~~v = u ^^^ (u &&& v) := by
    apply BitVec.eq_of_getLsbD_eq
    intro i hi
    simp only [BitVec.getLsbD_and, BitVec.getLsbD_not, BitVec.getLsbD_xor, hi, decide_true, Bool.true_and]
    cases u.getLsbD i <;> cases v.getLsbD i <;> rfl
  rw [this]; rfl
section
variable {P : Program} {w : World} {ρ : Rho}
theorem eqGuard_plain {op : BinOp} {t : TypeId} {x y : Operand} {a b : Value} (h : ∀ cs ds, ¬ (a = .agg cs ∧ b = .agg ds)) (h' : ¬ (a = .nilIface ∧ b = .nilIface)) : (eqGuard op t x y a b).run P w = .ok () w := by
  have key : (match a, b with
    | .nilIface, .nilIface => 0
    | .agg _, .agg _ => 1
    | _, _ => 2) = 2 := by
    split
    · exact absurd ⟨rfl, rfl⟩ h'
    · exact absurd ⟨rfl, rfl⟩ (h _ _)
    · rfl
  cases a <;> cases b <;> first
    | (simp at key; done)
    | (cases op <;> rfl)
end
end Go.X
end
section
namespace Go.X
open Go.RowKit
set_option linter.unusedSimpArgs false
set_option linter.unusedSectionVars false
def Does (P : Program) (ρ : Rho) (a : Act) (w : World) (oper : Oper) (x : XV) : Prop := ∃ v, (execOp a.eval oper).run P w = .ok (.value v) w ∧ VR ρ x v
theorem VR.inv_int {ρ : Rho} {k : IntKind} {n : Int} {v : Value} (h : VR ρ (.int k n) v) : v = .int k n := by cases h; rfl
theorem VR.inv_bool {ρ : Rho} {b : Bool} {v : Value} (h : VR ρ (.bool b) v) : v = .bool b := by cases h; rfl
theorem VR.inv_str {ρ : Rho} {l : List Nat} {v : Value} (h : VR ρ (.str l) v) : ∃ s : ByteArray, v = .string s ∧ s.data.toList.map UInt8.toNat = l := by cases h; exact ⟨_, rfl, by assumption⟩
theorem VR.inv_ptr {ρ : Rho} {b o : Nat} {v : Value} (h : VR ρ (.ptr b o) v) : ∃ c off lim, v = .pointer (some ⟨c, off + o, none⟩) ∧ ρ b = some (c, off, lim) := by cases h; exact ⟨_, _, _, rfl, by assumption⟩
theorem VR.inv_agg {ρ : Rho} {l : List XV} {v : Value} (h : VR ρ (.agg l) v) : ∃ vs : List Value, v = .agg vs.toArray ∧ VRs ρ l vs := by cases h; exact ⟨_, rfl, by assumption⟩
theorem VR.inv_tup {ρ : Rho} {l : List XV} {v : Value} (h : VR ρ (.tup l) v) : ∃ vs : List Value, v = .tuple vs.toArray ∧ VRs ρ l vs := by cases h; exact ⟨_, rfl, by assumption⟩
theorem VR.inv_func {ρ : Rho} {f : FuncId} {l : List XV} {v : Value} (h : VR ρ (.func f l) v) : ∃ vs : List Value, v = .func (.func f) #[] vs.toArray ∧ VRs ρ l vs := by cases h; exact ⟨_, rfl, by assumption⟩
theorem VR.inv_map {ρ : Rho} {b : Nat} {v : Value} (h : VR ρ (.map b) v) : ∃ c off lim, v = .map (some c) ∧ ρ b = some (c, off, lim) := by cases h; exact ⟨_, _, _, rfl, by assumption⟩
theorem natOf_inv {ρ : Rho} {x : XV} {v : Value} {n : Nat} (h : natOf x = some n) (hv : VR ρ x v) : ∃ k, v = .int k (n : Int) := by
  unfold natOf at h
  split at h
  · obtain rfl := Option.some.inj h; exact ⟨_, hv.inv_int⟩
  · cases h
section strings
theorem bytes_len (s : ByteArray) : (s.data.toList.map UInt8.toNat).length = s.size := by simp
theorem str_eq {s t : ByteArray} : (s.data.toList.map UInt8.toNat = t.data.toList.map UInt8.toNat) ↔ s.toList = t.toList := by
  rw [ByteArray.toList_eq, ByteArray.toList_eq]
  constructor
  · intro h
    exact List.map_inj_right (fun x y e => UInt8.toNat_inj.1 e) |>.1 h
  · intro h; rw [h]
theorem llt_eq : ∀ (l m : List UInt8), llt (l.map UInt8.toNat) (m.map UInt8.toNat) = Op.bytesLess l m
  | _, [] => by cases ‹List UInt8› <;> rfl
  | [], _ :: _ => rfl
  | a :: l, b :: m => by
    simp only [List.map_cons, llt, Op.bytesLess, llt_eq l m]
    have e1 : Nat.blt a.toNat b.toNat = decide (a < b) := by
      rw [Bool.eq_iff_iff]; simp [Nat.blt_eq, UInt8.lt_iff_toNat_lt]
    have e2 : Nat.beq a.toNat b.toNat = (a == b) := by
      rw [Bool.eq_iff_iff, Nat.beq_eq]; simp [UInt8.toNat_inj]
    rw [e1, e2]
    cases decide (a < b) <;> cases (a == b) <;> rfl
end strings
section
variable {P : Program} {ty : Nat → Option XTy} {ρ : Rho} {n : Nat} {fr : XF} {a : Act} {w : World} {oper : Oper} {p : PO} {x : XV}
variable (hf : FrR ρ n fr a)
include hf
theorem s_mov {o : Operand} (ho : oper.op = .move o ∨ oper.op = .assign o) (hx : xop ty oper.op = some (.p p)) (hr : runP fr p = some x) : Does P ρ a w oper x := by
  have key : ∃ y, xa o = some y ∧ p = .mov y := by
    rcases ho with ho | ho <;> rw [ho] at hx <;> simp only [xop, Option.bind_eq_bind, Option.bind_eq_some_iff, Option.pure_def, Option.some.injEq, XOp.p.injEq] at hx <;> obtain ⟨y, h1, h2⟩ := hx <;> exact ⟨y, h1, h2.symm⟩
  obtain ⟨y, hy, rfl⟩ := key
  obtain rfl := Option.some.inj hr
  refine ⟨a.eval o, ?_, xa_sound hy hf⟩
  rcases ho with ho | ho <;> simp [execOp, ho]
theorem s_pick {c d e : Operand} (ho : oper.op = .pick c d e) (hx : xop ty oper.op = some (.p p)) (hr : runP fr p = some x) : Does P ρ a w oper x := by
  rw [ho] at hx
  simp only [xop, Option.bind_eq_bind, Option.bind_eq_some_iff, Option.pure_def, Option.some.injEq, XOp.p.injEq] at hx
  obtain ⟨c', hc, d', hd, e', he, rfl⟩ := hx
  simp only [runP, pPick] at hr
  have vc := xa_sound hc hf
  split at hr
  · rename_i t ht
    rw [ht] at vc
    have vc := vc.inv_bool
    obtain rfl := Option.some.inj hr
    cases t
    · exact ⟨a.eval e, by simp [execOp, ho, vc, asBool], xa_sound he hf⟩
    · exact ⟨a.eval d, by simp [execOp, ho, vc, asBool], xa_sound hd hf⟩
  · cases hr
theorem s_nil {o : Operand} (ho : oper.op = .nilCheck o) (hx : xop ty oper.op = some (.p p)) (hr : runP fr p = some x) : Does P ρ a w oper x := by
  rw [ho] at hx
  simp only [xop, Option.bind_eq_bind, Option.bind_eq_some_iff, Option.pure_def, Option.some.injEq, XOp.p.injEq] at hx
  obtain ⟨y, hy, rfl⟩ := hx
  simp only [runP, pNil] at hr
  have v := xa_sound hy hf
  split at hr
  · rename_i b o' e
    obtain rfl := Option.some.inj hr
    rw [e] at v
    obtain ⟨c, off, lim, hv, hρ⟩ := v.inv_ptr
    exact ⟨a.eval o, by simp [execOp, ho, hv], v⟩
  · cases hr
theorem s_makeFunc {f : Fn} {fi ca : Array Operand} (ho : oper.op = .makeFunc f fi ca) (hx : xop ty oper.op = some (.p p)) (hr : runP fr p = some x) : Does P ρ a w oper x := by
  rw [ho] at hx
  cases f <;> try (simp [xop] at hx; done)
  rename_i f
  obtain ⟨fi⟩ := fi
  cases fi <;> try (simp [xop] at hx; done)
  simp only [xop, Option.bind_eq_bind, Option.bind_eq_some_iff, Option.pure_def, Option.some.injEq, XOp.p.injEq] at hx
  obtain ⟨l, hl, rfl⟩ := hx
  obtain rfl := Option.some.inj hr
  refine ⟨.func (.func f) #[] (ca.toList.map a.eval).toArray, ?_, .func _ _ _ (xas_sound hl hf)⟩
  have e : ca.map a.eval = (ca.toList.map a.eval).toArray := by apply Array.ext'; simp
  simp [execOp, ho, Instr.makeFunc, e]
theorem s_un {op : UnOp} {t : TypeId} {o : Operand} (ho : oper.op = .unOp op t o) (hx : xop ty oper.op = some (.p p)) (hr : runP fr p = some x) : Does P ρ a w oper x := by
  rw [ho] at hx
  simp only [xop, Option.bind_eq_bind, Option.bind_eq_some_iff, Option.pure_def, Option.some.injEq, XOp.p.injEq] at hx
  obtain ⟨y, hy, rfl⟩ := hx
  have v := xa_sound hy hf
  simp only [runP, xun] at hr
  split at hr
  · rename_i k m e
    rw [e] at v
    have hv := v.inv_int
    obtain rfl := Option.some.inj hr
    exact ⟨.int k (k.wrap (0 - m)), by simp [execOp, ho, hv, Op.unary, Op.intArith], by rw [wrapX_eq, subI_eq]; exact .int _ _⟩
  · rename_i m e
    rw [e] at v
    have hv := v.inv_int
    obtain rfl := Option.some.inj hr
    refine ⟨.int .u32 (IntKind.u32.wrap ((BitVec.ofInt 32 4294967295 ^^^ BitVec.ofInt 32 (m : Int)).toNat : Int)), ?_, ?_⟩
    · have : ∀ w, (Op.unary .xor (.int .u32 (m : Int))).run P w = .ok (.int .u32 (IntKind.u32.wrap ((BitVec.ofInt 32 4294967295 ^^^ BitVec.ofInt 32 (m : Int)).toNat : Int))) w := fun _ => rfl
      have hv : a.eval o = .int .u32 (m : Int) := hv
      simp only [execOp, ho, hv, Sem.run_bind, this, Result.andThen_ok, Sem.run_pure]
    · have : IntKind.u32.wrap ((BitVec.ofInt 32 4294967295 ^^^ BitVec.ofInt 32 (m : Int)).toNat : Int) = ((4294967295 - m % 4294967296 : Nat) : Int) := by
        have e1 : BitVec.ofInt 32 4294967295 ^^^ BitVec.ofInt 32 (m : Int) = ~~~ (BitVec.ofNat 32 m) := by
          rw [BitVec.ofInt_natCast, show BitVec.ofInt 32 4294967295 = BitVec.allOnes 32 from rfl, BitVec.allOnes_xor]
        rw [e1, ← wrapX_eq, BitVec.toNat_not, BitVec.toNat_ofNat]
        simp only [wrapX]
        show ((_ % 4294967296 : Nat) : Int) = _
        rw [Nat.mod_eq_of_lt (by omega)]
      rw [this]
      exact .int _ _
  · rename_i m e
    rw [e] at v
    have hv := v.inv_int
    obtain rfl := Option.some.inj hr
    refine ⟨.int .i64 (IntKind.i64.wrap ((BitVec.ofInt 64 (-1) ^^^ BitVec.ofInt 64 m).toNat : Int)), ?_, ?_⟩
    · have : ∀ w, (Op.unary .xor (.int .i64 m)).run P w = .ok (.int .i64 (IntKind.i64.wrap ((BitVec.ofInt 64 (-1) ^^^ BitVec.ofInt 64 m).toNat : Int))) w := fun _ => rfl
      simp only [execOp, ho, hv, Sem.run_bind, this, Result.andThen_ok, Sem.run_pure]
    · have e1 : BitVec.ofInt 64 (-1) ^^^ BitVec.ofInt 64 m = ~~~ (BitVec.ofInt 64 m) := by
        rw [show BitVec.ofInt 64 (-1) = BitVec.allOnes 64 from rfl, BitVec.allOnes_xor]
      have e2 : (BitVec.ofInt 64 m).toNat = modI .i64 m := modI_eq .i64 m
      rw [e1, BitVec.toNat_not, e2, wrapX_eq]
      exact .int _ _
  · rename_i b e
    rw [e] at v
    have hv := v.inv_bool
    obtain rfl := Option.some.inj hr
    exact ⟨.bool (!b), by simp [execOp, ho, hv, Op.unary], .bool _⟩
  · cases hr
theorem s_convI {s d : TypeId} {o : Operand} {k : IntKind} {y : XA} (hT : TyOK P ty) (ho : oper.op = .convert s d o) (hy : xa o = some y) {j : IntKind} (hs : kOf ty s = some (.int j)) (hd : kOf ty d = some (.int k)) (hr : runP fr (.convI k y) = some x) : Does P ρ a w oper x := by
  have v := xa_sound hy hf
  simp only [runP, pConvI] at hr
  split at hr
  · rename_i k' m e
    rw [e] at v
    have hv := v.inv_int
    obtain rfl := Option.some.inj hr
    exact ⟨.int k (k.wrap m), by simp [execOp, ho, hv, convert, und_run (k_int hT hs), und_run (k_int hT hd), Conv.intToInt], by rw [wrapX_eq]; exact .int _ _⟩
  · cases hr
theorem s_convSS {s d : TypeId} {o : Operand} {y : XA} (hT : TyOK P ty) (ho : oper.op = .convert s d o) (hy : xa o = some y) (hs : kOf ty s = some .str) (hd : kOf ty d = some .str) (hr : runP fr (.convSS y) = some x) : Does P ρ a w oper x := by
  have v := xa_sound hy hf
  simp only [runP, pConvSS] at hr
  split at hr
  · rename_i s' e
    rw [e] at v
    obtain ⟨b, hv, hb⟩ := v.inv_str
    obtain rfl := Option.some.inj hr
    exact ⟨.string b, by simp [execOp, ho, hv, convert, und_run (k_str hT hs), und_run (k_str hT hd)], .str _ _ hb⟩
  · cases hr
end
section
variable {P : Program} {ρ : Rho} {w : World}
theorem shl_wrap (k : IntKind) (a b : Nat) : IntKind.wrap k (Int.ofNat (Nat.shiftLeft a b)) = k.wrap ((a : Int) * 2 ^ b) := by
  rw [show Nat.shiftLeft a b = a <<< b from rfl, Nat.shiftLeft_eq]
  congr 1
theorem binI_sound {op : BinOp} {k j : IntKind} {m n : Int} {x : XV} (hk : j = k ∨ isShift op = true) (h : binI op k m n = some x) (t : TypeId) : ∃ v, (binOp op t (.int k m) (.int j n)).run P w = .ok v w ∧ VR ρ x v := by
  cases op <;> simp only [binI, intR] at h
  case add => obtain rfl := hk.resolve_right (by simp [isShift]); obtain rfl := Option.some.inj h; exact ⟨.int j (j.wrap (m + n)), by simp [binOp, Op.intArith], by rw [wrapX_eq, addI_eq]; exact .int _ _⟩
  case sub => obtain rfl := hk.resolve_right (by simp [isShift]); obtain rfl := Option.some.inj h; exact ⟨.int j (j.wrap (m - n)), by simp [binOp, Op.intArith], by rw [wrapX_eq, subI_eq]; exact .int _ _⟩
  case mul => obtain rfl := hk.resolve_right (by simp [isShift]); obtain rfl := Option.some.inj h; exact ⟨.int j (j.wrap (m * n)), by simp [binOp, Op.intArith], by rw [wrapX_eq, mulI_eq]; exact .int _ _⟩
  case quo =>
    obtain rfl := hk.resolve_right (by simp [isShift])
    unfold quoI at h
    split at h
    · rename_i p q
      cases q with
      | zero => cases h
      | succ q =>
        obtain rfl := Option.some.inj h
        refine ⟨.int j (j.wrap (Int.tdiv (p : Int) ((q + 1 : Nat) : Int))), ?_, ?_⟩
        · have : ¬ ((q : Int) + 1 = 0) := by omega
          simp [binOp, Op.intDiv, this]
        · rw [wrapX_eq]; exact .int _ _
    · cases h
  case rem =>
    obtain rfl := hk.resolve_right (by simp [isShift])
    unfold remI at h
    split at h
    · rename_i p q
      cases q with
      | zero => cases h
      | succ q =>
        obtain rfl := Option.some.inj h
        refine ⟨.int j (Int.tmod (p : Int) ((q + 1 : Nat) : Int)), ?_, .int _ _⟩
        have : ¬ ((q : Int) + 1 = 0) := by omega
        simp [binOp, Op.intDiv, this]
    · rename_i p q
      cases q with
      | zero => cases h
      | succ q =>
        obtain rfl := Option.some.inj h
        refine ⟨.int j (Int.tmod (Int.negSucc p) ((q + 1 : Nat) : Int)), ?_, .int _ _⟩
        have : ¬ ((q : Int) + 1 = 0) := by omega
        simp [binOp, Op.intDiv, this]
    · cases h
  case and =>
    obtain rfl := hk.resolve_right (by simp [isShift])
    refine ⟨.int j (j.wrap ((((· &&& ·) (BitVec.ofInt j.bits m) (BitVec.ofInt j.bits n) : BitVec j.bits)).toNat : Int)), ?_, ?_⟩
    · simp only [binOp, ne_eq, not_true_eq_false, if_false, Op.intBits]; rfl
    · rw [bitX_sound (g := (· &&& ·)) (fun u v => BitVec.toNat_and ..) h]; exact .int _ _
  case or =>
    obtain rfl := hk.resolve_right (by simp [isShift])
    refine ⟨.int j (j.wrap ((((· ||| ·) (BitVec.ofInt j.bits m) (BitVec.ofInt j.bits n) : BitVec j.bits)).toNat : Int)), ?_, ?_⟩
    · simp only [binOp, ne_eq, not_true_eq_false, if_false, Op.intBits]; rfl
    · rw [bitX_sound (g := (· ||| ·)) (fun u v => BitVec.toNat_or ..) h]; exact .int _ _
  case xor =>
    obtain rfl := hk.resolve_right (by simp [isShift])
    refine ⟨.int j (j.wrap ((((· ^^^ ·) (BitVec.ofInt j.bits m) (BitVec.ofInt j.bits n) : BitVec j.bits)).toNat : Int)), ?_, ?_⟩
    · simp only [binOp, ne_eq, not_true_eq_false, if_false, Op.intBits]; rfl
    · rw [bitX_sound (g := (· ^^^ ·)) (fun u v => BitVec.toNat_xor ..) h]; exact .int _ _
  case andNot =>
    obtain rfl := hk.resolve_right (by simp [isShift])
    refine ⟨.int j (j.wrap ((((fun u v => u &&& ~~~v) (BitVec.ofInt j.bits m) (BitVec.ofInt j.bits n) : BitVec j.bits)).toNat : Int)), ?_, ?_⟩
    · simp only [binOp, ne_eq, not_true_eq_false, if_false, Op.intBits]; rfl
    · rw [bitX_sound (g := (fun u v => u &&& ~~~v)) (fun u v => andNot_nat u v) h]; exact .int _ _
  case shl =>
    unfold shlI at h
    split at h
    · rename_i p q
      cases e : Nat.ble q k.bits with
      | false => rw [e] at h; cases h
      | true =>
        rw [e] at h
        obtain rfl := Option.some.inj h
        have hq := Nat.le_of_ble_eq_true e
        refine ⟨.int k (k.wrap ((p : Int) * 2 ^ q)), ?_, ?_⟩
        · have : ¬ ((q : Int) < 0) := by omega
          simp [binOp, Op.shift, this, Nat.min_eq_left hq]
        · rw [wrapX_eq, shl_wrap]; exact .int _ _
    · cases h
  case shr =>
    unfold shrI at h
    split at h
    · rename_i p q
      cases e : Nat.ble q k.bits with
      | false => rw [e] at h; cases h
      | true =>
        rw [e] at h
        obtain rfl := Option.some.inj h
        have hq := Nat.le_of_ble_eq_true e
        refine ⟨.int k ((p : Int).fdiv (2 ^ q)), ?_, ?_⟩
        · have : ¬ ((q : Int) < 0) := by omega
          simp [binOp, Op.shift, this, Nat.min_eq_left hq]
        · have : (p : Int).fdiv (2 ^ q) = ((Nat.shiftRight p q : Nat) : Int) := by
            rw [show Nat.shiftRight p q = p >>> q from rfl, Nat.shiftRight_eq_div_pow]
            rw [Int.fdiv_eq_ediv_of_nonneg _ (Int.le_of_lt (Int.pow_pos (by decide)))]
            simp
          rw [this]; exact .int _ _
    · cases h
  case eql => obtain rfl := hk.resolve_right (by simp [isShift]); obtain rfl := Option.some.inj h; exact ⟨.bool (m == n), by simp [binOp, Op.intCmp], by rw [eqI_iff]; exact .bool _⟩
  case neq => obtain rfl := hk.resolve_right (by simp [isShift]); obtain rfl := Option.some.inj h; exact ⟨.bool (m != n), by simp [binOp, Op.intCmp], by rw [eqI_iff]; exact .bool _⟩
  case lss => obtain rfl := hk.resolve_right (by simp [isShift]); obtain rfl := Option.some.inj h; exact ⟨.bool (decide (m < n)), by simp [binOp, Op.intCmp], by rw [ltI_iff]; exact .bool _⟩
  case leq =>
    obtain rfl := hk.resolve_right (by simp [isShift]); obtain rfl := Option.some.inj h
    refine ⟨.bool (decide (m ≤ n)), by simp [binOp, Op.intCmp], ?_⟩
    rw [ltI_iff, show (not (decide (n < m))) = decide (m ≤ n) by rw [Bool.eq_iff_iff]; simp]
    exact .bool _
  case gtr => obtain rfl := hk.resolve_right (by simp [isShift]); obtain rfl := Option.some.inj h; exact ⟨.bool (decide (n < m)), by simp [binOp, Op.intCmp], by rw [ltI_iff]; exact .bool _⟩
  case geq =>
    obtain rfl := hk.resolve_right (by simp [isShift]); obtain rfl := Option.some.inj h
    refine ⟨.bool (decide (n ≤ m)), by simp [binOp, Op.intCmp], ?_⟩
    rw [ltI_iff, show (not (decide (m < n))) = decide (n ≤ m) by rw [Bool.eq_iff_iff]; simp]
    exact .bool _
theorem binS_sound {op : BinOp} {l m : List Nat} {u v : ByteArray} {x : XV} (hl : u.data.toList.map UInt8.toNat = l) (hm : v.data.toList.map UInt8.toNat = m) (h : binS op l m = some x) (t : TypeId) : ∃ r, (binOp op t (.string u) (.string v)).run P w = .ok r w ∧ VR ρ x r := by
  subst hl; subst hm
  have eL : leq (u.data.toList.map UInt8.toNat) (v.data.toList.map UInt8.toNat) = (u.toList == v.toList) := by
    rw [Bool.eq_iff_iff, leq_iff, str_eq]; simp
  have eT : llt (u.data.toList.map UInt8.toNat) (v.data.toList.map UInt8.toNat) = Op.bytesLess u.toList v.toList := by
    rw [llt_eq, ByteArray.toList_eq, ByteArray.toList_eq]
  cases op <;> simp only [binS, eL, eT, reduceCtorEq] at h
  case add =>
    cases e : Nat.ble (Nat.add (lenX (u.data.toList.map UInt8.toNat)) (lenX (v.data.toList.map UInt8.toNat))) 1000000 with
    | false => rw [e] at h; cases h
    | true =>
      rw [e] at h
      obtain rfl := Option.some.inj h
      have hle := Nat.le_of_ble_eq_true e
      rw [lenX_eq, lenX_eq, bytes_len, bytes_len] at hle
      refine ⟨.string (u ++ v), ?_, ?_⟩
      · have e1 : ¬ (((u.size + v.size : Nat) : Int) > IntKind.i64.max) := by
          have : IntKind.i64.max = 9223372036854775807 := by decide
          rw [this]
          have : u.size + v.size ≤ 1000000 := hle
          omega
        have e1' : ¬ (IntKind.i64.max < (u.size : Int) + (v.size : Int)) := by simpa using e1
        have e2 : u.size + v.size ≤ 1000000 := hle
        simp [binOp, Op.stringOp, e1']
        omega
      · refine .str _ _ ?_
        rw [appX_eq]
        simp [ByteArray.data_append]
  case eql => obtain rfl := Option.some.inj h; exact ⟨.bool (u.toList == v.toList), by simp [binOp, Op.stringOp], .bool _⟩
  case neq => obtain rfl := Option.some.inj h; exact ⟨.bool (!(u.toList == v.toList)), by simp [binOp, Op.stringOp], .bool _⟩
  case lss => obtain rfl := Option.some.inj h; exact ⟨.bool (Op.bytesLess u.toList v.toList), by simp [binOp, Op.stringOp], .bool _⟩
  case leq => obtain rfl := Option.some.inj h; exact ⟨.bool (Op.bytesLess u.toList v.toList || (u.toList == v.toList)), by simp [binOp, Op.stringOp], .bool _⟩
  case gtr => obtain rfl := Option.some.inj h; exact ⟨.bool (!(Op.bytesLess u.toList v.toList || (u.toList == v.toList))), by simp [binOp, Op.stringOp], .bool _⟩
  case geq => obtain rfl := Option.some.inj h; exact ⟨.bool (!Op.bytesLess u.toList v.toList), by simp [binOp, Op.stringOp], .bool _⟩
theorem equal_step {t : TypeId} {d : TypeDesc} (hd : P.underlying t = some d) (u v : Value) (b : Bool)
    (h : (match d, u, v with
      | .bool, .bool a, .bool b => some (a == b)
      | .pointer _, .pointer none, .pointer b => some b.isNone
      | .pointer _, .pointer (some _), .pointer none => some false
      | .slice _, .slice none _ _, .slice b _ _ => some b.isNone
      | .slice _, .slice (some _) _ _, .slice none _ _ => some false
      | .map _ _, .map none, .map b => some b.isNone
      | .map _ _, .map (some _), .map none => some false
      | .func _ _ _, .nilFunc, .nilFunc => some true
      | .func _ _ _, .nilFunc, .func _ _ _ | .func _ _ _, .func _ _ _, .nilFunc => some false
      | _, _, _ => none) = some b) : (Op.equal t u v).run P w = .ok b w := by
  show (Op.equalIn (9999 + 1) t u v).run P w = _
  unfold Op.equalIn
  rw [Sem.run_bind, und_run hd, Result.andThen_ok]
  split at h <;> (try cases h) <;> rfl
theorem binE_sound {k : XK} {op : BinOp} {x y r : XV} {u v : Value} (hx : VR ρ x u) (hy : VR ρ y v) (h : binE k op x y = some r) {t : TypeId} {d : TypeDesc} (hd : P.underlying t = some d) (hk : k = kindOf d) (o1 o2 : Operand) : ∃ z, (do eqGuard op t o1 o2 u v; binOp op t u v).run P w = .ok z w ∧ VR ρ r z := by
  have key : ∃ b, xeqT k x y = some b ∧ ((op = .eql ∧ r = .bool b) ∨ (op = .neq ∧ r = .bool (!b))) := by
    cases e : xeqT k x y with
    | none => cases op <;> simp [binE, e] at h
    | some b => cases op <;> simp [binE, e] at h <;> subst h <;> exact ⟨b, rfl, by simp⟩
  obtain ⟨b, he, hb⟩ := key
  subst hk
  have fin : (Op.equal t u v).run P w = .ok b w → (eqGuard op t o1 o2 u v).run P w = .ok () w → (binOp .eql t u v = do pure (.bool (← Op.equal t u v))) → (binOp .neq t u v = do pure (.bool (!(← Op.equal t u v)))) →
      ∃ z, (do eqGuard op t o1 o2 u v; binOp op t u v).run P w = .ok z w ∧ VR ρ r z := by
    intro h1 h2 h3 h4
    rcases hb with ⟨rfl, rfl⟩ | ⟨rfl, rfl⟩
    · exact ⟨.bool b, by rw [Sem.run_bind, h2, Result.andThen_ok, h3, Sem.run_bind, h1]; rfl, .bool _⟩
    · exact ⟨.bool (!b), by rw [Sem.run_bind, h2, Result.andThen_ok, h4, Sem.run_bind, h1]; rfl, .bool _⟩
  have hkind : ∃ k', k' = kindOf d := ⟨_, rfl⟩
  obtain ⟨k', hk'⟩ := hkind
  rw [← hk'] at he
  unfold xeqT at he
  split at he <;> first
    | (cases he; done)
    | (obtain rfl := Option.some.inj he
       cases d <;> simp only [kindOf, reduceCtorEq] at hk'
       cases hx; cases hy
       exact fin (equal_step hd _ _ _ rfl) (eqGuard_plain (by simp) (by simp)) rfl rfl)
end
section
variable {P : Program} {ty : Nat → Option XTy} {ρ : Rho} {n : Nat} {fr : XF} {a : Act} {w : World} {oper : Oper} {p : PO} {x : XV}
variable (hT : TyOK P ty) (hf : FrR ρ n fr a)
include hT hf
theorem s_bin {op : BinOp} {t t' : TypeId} {o1 o2 : Operand} (ho : oper.op = .binOp op t o1 o2 t') (hx : xop ty oper.op = some (.p p)) (hr : runP fr p = some x) : Does P ρ a w oper x := by
  rw [ho] at hx
  simp only [xop, Option.bind_eq_bind, Option.bind_eq_some_iff, Option.pure_def, Option.some.injEq, XOp.p.injEq] at hx
  obtain ⟨k, hk, y1, hy1, y2, hy2, rfl⟩ := hx
  have v1 := xa_sound hy1 hf
  have v2 := xa_sound hy2 hf
  obtain ⟨d, hd, hkd⟩ := k_fact hT hk
  simp only [runP, xbin] at hr
  have fin : (∃ z, (do eqGuard op t o1 o2 (a.eval o1) (a.eval o2); binOp op t (a.eval o1) (a.eval o2)).run P w = .ok z w ∧ VR ρ x z) → Does P ρ a w oper x := by
    rintro ⟨z, h1, h2⟩
    have e : execOp a.eval oper = (do pure (.value (← (do eqGuard op t o1 o2 (a.eval o1) (a.eval o2); binOp op t (a.eval o1) (a.eval o2))))) := by simp only [execOp, ho]
    exact ⟨z, by rw [e, Sem.run_bind, h1]; rfl, h2⟩
  split at hr
  · rename_i k' m j' m' e1 e2
    rw [e1] at v1; rw [e2] at v2
    have h1 := v1.inv_int
    have h2 := v2.inv_int
    cases hc : (or (keq k' j') (isShift op)) with
    | false => rw [hc] at hr; cases hr
    | true =>
      rw [hc] at hr
      obtain ⟨z, hz, hv⟩ := binI_sound (P := P) (ρ := ρ) (w := w) (j := j') (by
        rw [Bool.or_eq_true] at hc
        exact hc.imp (fun h => (keq_iff.1 h).symm) id) hr t
      refine fin ⟨z, ?_, hv⟩
      rw [h1, h2]
      simp [eqGuard_plain (P := P) (w := w) (a := .int k' m) (b := .int j' m') (by simp) (by simp), hz]
  · rename_i l m e1 e2
    rw [e1] at v1; rw [e2] at v2
    obtain ⟨s1, h1, hb1⟩ := v1.inv_str
    obtain ⟨s2, h2, hb2⟩ := v2.inv_str
    obtain ⟨z, hz, hv⟩ := binS_sound (P := P) (ρ := ρ) (w := w) hb1 hb2 hr t
    refine fin ⟨z, ?_, hv⟩
    rw [h1, h2]
    simp [eqGuard_plain (P := P) (w := w) (a := .string s1) (b := .string s2) (by simp) (by simp), hz]
  · exact fin (binE_sound v1 v2 hr hd hkd o1 o2)
end
end Go.X
end
section
namespace Go.X
open Go.RowKit
set_option linter.unusedSimpArgs false
set_option linter.unusedSectionVars false
section
variable {P : Program} {ρ : Rho} {w : World}
theorem VR.inv_slice {n o len cap es : Nat} {ex : Bool} {v : Value} (h : VR ρ (.slice n o len cap es ex) v) : ∃ b off lim a c, v = .slice (some a) len c ∧ ρ n = some (b, off, lim) ∧ len ≤ cap ∧ cap ≤ c ∧
    (ex = true → c = cap ∧ a = ⟨b, off + o, none⟩) ∧ (ex = false → (0 < c → a = ⟨b, off + o, none⟩) ∧ o + c * es ≤ lim) := by
  cases h; exact ⟨_, _, _, _, _, rfl, by assumption, by assumption, by assumption, by assumption, by assumption⟩
theorem sliceBound_run {v : Value} {k : IntKind} {i y : Nat} (hv : v = .int k (i : Int)) (hi : i ≤ y) (c : BoundsCode) : (Instr.sliceBound v y c).run P w = .ok i w := by
  subst hv
  have : (0 : Int) ≤ (i : Int) ∧ (i : Int) ≤ (y : Int) := by omega
  simp [Instr.sliceBound, asIntOf, this]
theorem oNat_inv {x : Option XV} {v : Option Value} {d i : Nat} (hv : VRo ρ x v) (h : oNat d x = some i) : (v = none ∧ i = d) ∨ ∃ u k, v = some u ∧ u = .int k (i : Int) := by
  cases x <;> cases v <;> simp only [VRo] at hv
  · exact .inl ⟨rfl, (Option.some.inj h).symm⟩
  · obtain ⟨k, hk⟩ := natOf_inv h hv
    exact .inr ⟨_, k, rfl, hk⟩
theorem bnds_inv {len m l u : Nat} {lo hi : Option XV} (h : bnds len m lo hi = some (l, u)) : oNat len hi = some u ∧ oNat 0 lo = some l ∧ l ≤ u ∧ u ≤ m := by
  unfold bnds at h
  split at h
  · rename_i h' l' e1 e2
    cases c1 : Nat.ble l' h' with
    | false => rw [c1] at h; cases h
    | true =>
      rw [c1] at h
      cases c2 : Nat.ble h' m with
      | false => rw [c2] at h; cases h
      | true =>
        rw [c2] at h
        have := Option.some.inj h
        injection this with a b
        subst a; subst b
        exact ⟨e1, e2, Nat.le_of_ble_eq_true c1, Nat.le_of_ble_eq_true c2⟩
  · cases h
theorem bounds_run {len m m' l u : Nat} {lo hi : Option XV} {lo' hi' : Option Value} (hl : VRo ρ lo lo') (hh : VRo ρ hi hi') (h : bnds len m lo hi = some (l, u)) (hm : m ≤ m') (s : Bool) :
    (Instr.sliceBounds s len m' lo' hi' none).run P w = .ok (l, u, m') w := by
  obtain ⟨e1, e2, h1, h2⟩ := bnds_inv h
  rcases oNat_inv hh e1 with ⟨rfl, rfl⟩ | ⟨v, k, rfl, hk⟩ <;> rcases oNat_inv hl e2 with ⟨rfl, rfl⟩ | ⟨v', k', rfl, hk'⟩
  · simp [Instr.sliceBounds]
  · simp [Instr.sliceBounds, sliceBound_run hk' h1]
  · simp [Instr.sliceBounds, sliceBound_run hk (Nat.le_trans h2 hm)]
  · simp [Instr.sliceBounds, sliceBound_run hk (Nat.le_trans h2 hm), sliceBound_run hk' h1]
theorem offAt_eq (m l o es : Nat) : offAt m l o es = if m = l then o else o + l * es := by
  unfold offAt
  by_cases h : m = l
  · subst h; simp
  · have : Nat.beq m l = false := by cases e : Nat.beq m l with
      | false => rfl
      | true => exact absurd (Nat.eq_of_beq_eq_true e) h
    rw [this, if_neg h]; rfl
theorem add_addr (b o i : Nat) : (⟨b, o, none⟩ : Addr).add i = ⟨b, o + i, none⟩ := by unfold Addr.add; split <;> simp_all
end
section
variable {P : Program} {ty : Nat → Option XTy} {ρ : Rho} {n : Nat} {fr : XF} {a : Act} {w : World} {oper : Oper} {p : PO} {x : XV}
variable (hT : TyOK P ty) (hf : FrR ρ n fr a)
include hT hf
theorem s_sliceS {t : TypeId} {o : Operand} {lo hi : Option Operand} {y : XA} {lo' hi' : Option XA} (ho : oper.op = .slice t o lo hi none) (hy : xa o = some y) (hl : xao lo = some lo') (hh : xao hi = some hi') (hk : kOf ty t = some .str)
    (hr : runP fr (.sliceS y lo' hi') = some x) : Does P ρ a w oper x := by
  have v := xa_sound hy hf
  have vl := xao_sound hl hf
  have vh := xao_sound hh hf
  simp only [runP, pSliceS] at hr
  split at hr
  · rename_i s e
    rw [e] at v
    obtain ⟨b, hv, hb⟩ := v.inv_str
    split at hr
    · rename_i l u eb
      obtain rfl := Option.some.inj hr
      have hlen : lenX s = b.size := by rw [lenX_eq, ← hb, bytes_len]
      rw [hlen] at eb
      refine ⟨.string (b.extract l u), ?_, .str _ _ ?_⟩
      · simp [execOp, ho, Instr.sliceAt, und_run (k_str hT hk), hv, Instr.slice, bounds_run (P := P) (w := w) vl vh eb (Nat.le_refl _)]
      · rw [← ByteArray.toList_eq, Lib.extract_toList, takeX_eq, dropX_eq, ← hb, List.map_take, List.map_drop]
        rfl
    · cases hr
  · cases hr
theorem s_sliceL {t e : TypeId} {s : Nat} {o : Operand} {lo hi : Option Operand} {y : XA} {lo' hi' : Option XA} (ho : oper.op = .slice t o lo hi none) (hy : xa o = some y) (hl : xao lo = some lo') (hh : xao hi = some hi') (hk : kOf ty t = some (.slice e)) (hs : sizeOf' ty e = some s)
    (hr : runP fr (.sliceL s y lo' hi' none) = some x) : Does P ρ a w oper x := by
  have v := xa_sound hy hf
  have vl := xao_sound hl hf
  have vh := xao_sound hh hf
  simp only [runP, pSliceL] at hr
  split at hr
  · rename_i b oo len cap es ex e1
    rw [e1] at v
    obtain ⟨bl, off, lim, ad, c, hv, hρ, h1, h2, h3, h4⟩ := v.inv_slice
    split at hr
    · rename_i l u eb
      obtain ⟨eb1, eb2, b1, b2⟩ := bnds_inv eb
      cases ee : Nat.beq s es with
      | false => rw [ee] at hr; cases hr
      | true =>
        rw [ee] at hr
        obtain rfl := Option.some.inj hr
        obtain rfl := Nat.eq_of_beq_eq_true ee
        refine ⟨.slice (if c = l then some ad else some (ad.add (l * s))) (u - l) (c - l), ?_, ?_⟩
        · simp [execOp, ho, Instr.sliceAt, und_run (k_slice hT hk), hv, Instr.slice, bounds_run (P := P) (w := w) vl vh eb h2, size_fact hT hs]
        · cases ex with
          | true =>
            obtain ⟨rfl, rfl⟩ := h3 rfl
            by_cases ec : c = l
            · subst ec
              rw [if_pos rfl]
              have : offAt c c oo s = oo := by rw [offAt_eq, if_pos rfl]
              rw [cond_true, this]
              exact .slice _ _ _ _ _ _ _ _ _ _ _ hρ (by show u - c ≤ c - c; omega) (by show c - c ≤ c - c; omega) (fun _ => ⟨rfl, rfl⟩) (by simp)
            · rw [if_neg ec, add_addr]
              have : offAt c l oo s = oo + l * s := by rw [offAt_eq, if_neg ec]
              rw [cond_true, this]
              exact .slice _ _ _ _ _ _ _ _ _ _ _ hρ (by show u - l ≤ c - l; omega) (Nat.le_refl _) (fun _ => ⟨rfl, by rw [Nat.add_assoc]⟩) (by simp)
          | false =>
            obtain ⟨h5, h6⟩ := h4 rfl
            rw [cond_false]
            have e2 : (if c = l then some ad else some (ad.add (l * s))) = some (if c = l then ad else ad.add (l * s)) := by split <;> rfl
            rw [e2]
            refine .slice _ _ _ _ _ _ _ _ _ _ _ hρ (by show u - l ≤ cap - l; omega) (by show cap - l ≤ c - l; omega) (by simp) (fun _ => ⟨fun hc => ?_, ?_⟩)
            · rw [if_neg (by omega), h5 (by omega), add_addr, Nat.add_assoc]; rfl
            · show oo + l * s + (c - l) * s ≤ lim
              have : l * s + (c - l) * s = c * s := by rw [← Nat.add_mul]; congr 1; omega
              omega
    · cases hr
  · rename_i e1
    rw [e1] at v
    split at hr
    · rename_i p' eb
      obtain ⟨l, u⟩ := p'
      obtain ⟨eb1, eb2, b1, b2⟩ := bnds_inv eb
      obtain rfl := Option.some.inj hr
      have hv : a.eval o = .slice none 0 0 := by generalize a.eval o = z at v; cases v; rfl
      obtain rfl : u = 0 := by omega
      obtain rfl : l = 0 := by omega
      refine ⟨.slice none 0 0, ?_, .nils⟩
      simp [execOp, ho, Instr.sliceAt, und_run (k_slice hT hk), hv, Instr.slice, bounds_run (P := P) (w := w) vl vh eb (Nat.le_refl _), size_fact hT hs]
    · cases hr
  · cases hr
theorem s_sliceM {t e : TypeId} {s : Nat} {o m : Operand} {lo hi : Option Operand} {y my : XA} {lo' hi' : Option XA} (ho : oper.op = .slice t o lo hi (some m)) (hy : xa o = some y) (hm : xa m = some my) (hl : xao lo = some lo') (hh : xao hi = some hi') (hk : kOf ty t = some (.slice e)) (hs : sizeOf' ty e = some s)
    (hr : runP fr (.sliceL s y lo' hi' (some my)) = some x) : Does P ρ a w oper x := by
  have v := xa_sound hy hf
  have vm := xa_sound hm hf
  have vl := xao_sound hl hf
  have vh := xao_sound hh hf
  simp only [runP, pSliceM] at hr
  split at hr
  · rename_i b oo len cap es ex mm hx e1 em eh
    rw [e1] at v
    obtain ⟨bl, off, lim, ad, c, hv, hρ, h1, h2, h3, h4⟩ := v.inv_slice
    obtain ⟨km, hvm⟩ := natOf_inv em vm
    rw [eh] at vh
    split at hr
    · rename_i l u eb
      obtain ⟨eb1, eb2, b1, b2⟩ := bnds_inv eb
      cases ee : and (or ex (Nat.ble 1 cap)) (and (Nat.beq s es) (Nat.ble mm cap)) with
      | false => rw [ee] at hr; cases hr
      | true =>
        rw [ee] at hr
        obtain rfl := Option.some.inj hr
        rw [Bool.and_eq_true, Bool.and_eq_true, Bool.or_eq_true] at ee
        obtain rfl := Nat.eq_of_beq_eq_true ee.2.1
        have hmc := Nat.le_of_ble_eq_true ee.2.2
        cases hi with
        | none => simp [VRo] at vh
        | some hi =>
          obtain ⟨kh, hvh⟩ := natOf_inv eb1 vh
          have hbr : (Instr.sliceBounds true len c (lo.map a.eval) (some (a.eval hi)) (some (a.eval m))).run P w = .ok (l, u, mm) w := by
            rcases oNat_inv vl eb2 with ⟨e5, rfl⟩ | ⟨v', k', e5, hk'⟩
            · rw [e5]; simp [Instr.sliceBounds, sliceBound_run hvm (Nat.le_trans hmc h2), sliceBound_run hvh b2]
            · rw [e5]; simp [Instr.sliceBounds, sliceBound_run hvm (Nat.le_trans hmc h2), sliceBound_run hvh b2, sliceBound_run hk' b1]
          refine ⟨.slice (if mm = l then some ad else some (ad.add (l * s))) (u - l) (mm - l), ?_, ?_⟩
          · simp [execOp, ho, Instr.sliceAt, und_run (k_slice hT hk), hv, Instr.slice, hbr, size_fact hT hs]
          · have ha : ad = ⟨bl, off + oo, none⟩ := by
              cases ex with
              | true => exact (h3 rfl).2
              | false =>
                have h9 := Nat.le_of_ble_eq_true (ee.1.resolve_left (by simp))
                exact (h4 rfl).1 (by omega)
            subst ha
            by_cases ec : mm = l
            · subst ec
              rw [if_pos rfl]
              have : offAt mm mm oo s = oo := by rw [offAt_eq, if_pos rfl]
              rw [this]
              exact .slice _ _ _ _ _ _ _ _ _ _ _ hρ (by show u - mm ≤ mm - mm; omega) (Nat.le_refl _) (fun _ => ⟨rfl, rfl⟩) (by simp)
            · rw [if_neg ec, add_addr]
              have : offAt mm l oo s = oo + l * s := by rw [offAt_eq, if_neg ec]
              rw [this]
              exact .slice _ _ _ _ _ _ _ _ _ _ _ hρ (by show u - l ≤ mm - l; omega) (Nat.le_refl _) (fun _ => ⟨rfl, by rw [Nat.add_assoc]⟩) (by simp)
    · cases hr
  · cases hr
theorem s_sliceA {t e : TypeId} {m s : Nat} {o : Operand} {lo hi : Option Operand} {y : XA} {lo' hi' : Option XA} (ho : oper.op = .slice t o lo hi none) (hy : xa o = some y) (hl : xao lo = some lo') (hh : xao hi = some hi') (hk : kOf ty t = some (.array m e)) (hs : sizeOf' ty e = some s)
    (hr : runP fr (.sliceA m s y lo' hi') = some x) : Does P ρ a w oper x := by
  have v := xa_sound hy hf
  have vl := xao_sound hl hf
  have vh := xao_sound hh hf
  simp only [runP, pSliceA] at hr
  split at hr
  · rename_i b oo e1
    rw [e1] at v
    obtain ⟨c, off, lim, hv, hρ⟩ := v.inv_ptr
    split at hr
    · rename_i l u eb
      obtain ⟨eb1, eb2, b1, b2⟩ := bnds_inv eb
      obtain rfl := Option.some.inj hr
      refine ⟨.slice (some (if m = l then (⟨c, off + oo, none⟩ : Addr) else (⟨c, off + oo, none⟩ : Addr).add (l * s))) (u - l) (m - l), ?_, ?_⟩
      · simp [execOp, ho, Instr.sliceAt, und_run (k_array hT hk), hv, Instr.sureAddr, bounds_run (P := P) (w := w) vl vh eb (Nat.le_refl _), size_fact hT hs]
      · rw [offAt_eq, add_addr]
        refine .slice _ _ _ _ _ _ _ _ _ _ _ hρ (by show u - l ≤ m - l; omega) (Nat.le_refl _) (fun _ => ⟨rfl, ?_⟩) (by simp)
        split <;> simp [Nat.add_assoc]
    · cases hr
  · cases hr
theorem s_addr {s : TypeId} {o : Operand} {f : Nat} (ho : oper.op = .fieldAddr s o f) (hx : xop ty oper.op = some (.p p)) (hr : runP fr p = some x) : Does P ρ a w oper x := by
  rw [ho] at hx
  simp only [xop] at hx
  cases ek : kOf ty s with
  | none => rw [ek] at hx; cases hx
  | some k =>
    rw [ek] at hx
    cases k <;> try (cases hx; done)
    rename_i fs
    obtain ⟨gs, hu, hgs⟩ := k_struct hT ek
    cases ef : fs[f]? with
    | none => simp only [ef] at hx; cases hx
    | some ot =>
      obtain ⟨off, t⟩ := ot
      simp only [ef] at hx
      cases es : sizeOf' ty t with
      | none => simp only [es] at hx; cases hx
      | some sz =>
        simp only [es] at hx
        cases sz with
        | zero => cases hx
        | succ sz =>
          simp only [Option.bind_eq_bind, Option.bind_eq_some_iff, Option.pure_def, Option.some.injEq, XOp.p.injEq] at hx
          obtain ⟨y, hy, rfl⟩ := hx
          have v := xa_sound hy hf
          simp only [runP, pAddr] at hr
          split at hr
          · rename_i b oo e1
            obtain rfl := Option.some.inj hr
            rw [e1] at v
            obtain ⟨c, off', lim, hv, hρ⟩ := v.inv_ptr
            have hg : ∃ g, gs[f]? = some g ∧ g.offset = off ∧ g.type = t := by
              rw [hgs] at ef
              simp only [List.getElem?_map, Option.map_eq_some_iff, Prod.mk.injEq] at ef
              obtain ⟨g, hg, h1, h2⟩ := ef
              exact ⟨g, by simpa using hg, h1, h2⟩
            obtain ⟨g, hg, rfl, rfl⟩ := hg
            refine ⟨.pointer (some ⟨c, off' + (oo + g.offset), none⟩), ?_, .ptr _ _ _ _ _ hρ⟩
            simp [execOp, ho, Instr.fieldAt, und_run hu, hg, hv, Instr.sureAddr, fieldPlace, size_fact hT es, add_addr, Nat.add_assoc]
          · cases hr
theorem part_run {t : TypeId} {pp : XP} (hp : partOf ty t = some pp) {l : List XV} {vs : List Value} (hv : VRs ρ l vs) {off : Nat} (h : takeP pp l off = some x) : ∃ z, (part t vs.toArray off).run P w = .ok z w ∧ VR ρ x z := by
  have hpf := part_fact hT hp w
  cases pp with
  | one =>
    simp only [takeP, nth_eq] at h
    obtain ⟨v, h1, h2⟩ := hv.get h
    exact ⟨v, by simp [part, hpf, h1], h2⟩
  | many m =>
    simp only [takeP, dropX_eq] at h
    cases e : takeN m (l.drop off) with
    | none => rw [e] at h; cases h
    | some r =>
      rw [e] at h
      obtain rfl := Option.some.inj h
      obtain ⟨rfl, hlen⟩ := takeN_eq _ _ _ e
      refine ⟨.agg ((vs.drop off).take m).toArray, ?_, .agg _ _ ((hv.drop off).take m)⟩
      have e2 : vs.toArray.extract off (off + m) = ((vs.drop off).take m).toArray := by
        apply Array.ext'
        simp [List.take_drop]
      simp only [part, Sem.run_bind, hpf.1, Result.andThen_ok, if_true, hpf.2, Sem.run_pure, e2]
theorem s_field {t : TypeId} {o : Operand} {f : Nat} (ho : oper.op = .field t o f) (hx : xop ty oper.op = some (.p p)) (hr : runP fr p = some x) : Does P ρ a w oper x := by
  rw [ho] at hx
  simp only [xop] at hx
  cases ek : kOf ty t with
  | none => rw [ek] at hx; cases hx
  | some k =>
    rw [ek] at hx
    cases k <;> try (cases hx; done)
    rename_i fs
    obtain ⟨gs, hu, hgs⟩ := k_struct hT ek
    cases ef : fs[f]? with
    | none => simp only [ef] at hx; cases hx
    | some ot =>
      obtain ⟨off, t'⟩ := ot
      simp only [ef, Option.bind_eq_bind, Option.bind_eq_some_iff, Option.pure_def, Option.some.injEq, XOp.p.injEq] at hx
      obtain ⟨pp, hp, y, hy, rfl⟩ := hx
      have v := xa_sound hy hf
      simp only [runP, pField] at hr
      split at hr
      · rename_i c e1
        rw [e1] at v
        obtain ⟨vs, hv, hvs⟩ := v.inv_agg
        have hg : ∃ g, gs[f]? = some g ∧ g.offset = off ∧ g.type = t' := by
          rw [hgs] at ef
          simp only [List.getElem?_map, Option.map_eq_some_iff, Prod.mk.injEq] at ef
          obtain ⟨g, hg, h1, h2⟩ := ef
          exact ⟨g, by simpa using hg, h1, h2⟩
        obtain ⟨g, hg, rfl, rfl⟩ := hg
        obtain ⟨z, hz, hr⟩ := part_run (w := w) hT hf hp hvs hr
        exact ⟨z, by simp [execOp, ho, Instr.field, und_run hu, hg, hv, asAgg, hz], hr⟩
      · cases hr
theorem s_idxA {t e : TypeId} {m s : Nat} {o i : Operand} {y yi : XA} (ho : oper.op = .indexAddr t o i) (hy : xa o = some y) (hi : xa i = some yi) (hk : kOf ty t = some (.array m e)) (hs : sizeOf' ty e = some s)
    (hr : runP fr (.idxA m s y yi) = some x) : Does P ρ a w oper x := by
  have v := xa_sound hy hf
  have vi := xa_sound hi hf
  simp only [runP, pIdxA] at hr
  split at hr
  · rename_i b oo j e1 ej
    rw [e1] at v
    obtain ⟨c, off, lim, hv, hρ⟩ := v.inv_ptr
    obtain ⟨k, hvi⟩ := natOf_inv ej vi
    cases eb : Nat.ble (Nat.succ j) m with
    | false => rw [eb] at hr; cases hr
    | true =>
      rw [eb] at hr
      obtain rfl := Option.some.inj hr
      have hlt := Nat.le_of_ble_eq_true eb
      have h2 : (0 : Int) ≤ (j : Int) ∧ (j : Int) < (m : Int) := by omega
      have h2' : ¬ (m ≤ j) := by omega
      refine ⟨.pointer (some ⟨c, off + (oo + j * s), none⟩), ?_, .ptr _ _ _ _ _ hρ⟩
      simp [execOp, ho, Instr.indexAt, hvi, asIntOf, und_run (k_array hT hk), hv, Instr.sureAddr, h2, h2', size_fact hT hs, add_addr, Nat.add_assoc]
  · cases hr
theorem s_idxL {t e : TypeId} {s : Nat} {o i : Operand} {y yi : XA} (ho : oper.op = .indexAddr t o i) (hy : xa o = some y) (hi : xa i = some yi) (hk : kOf ty t = some (.slice e)) (hs : sizeOf' ty e = some s)
    (hr : runP fr (.idxL s y yi) = some x) : Does P ρ a w oper x := by
  have v := xa_sound hy hf
  have vi := xa_sound hi hf
  simp only [runP, pIdxL] at hr
  split at hr
  · rename_i b oo len cap es ex j e1 ej
    rw [e1] at v
    obtain ⟨bl, off, lim, ad, c, hv, hρ, h1, h2, h3, h4⟩ := v.inv_slice
    obtain ⟨k, hvi⟩ := natOf_inv ej vi
    cases eb : and (Nat.ble (Nat.succ j) len) (Nat.beq s es) with
    | false => rw [eb] at hr; cases hr
    | true =>
      rw [eb] at hr
      obtain rfl := Option.some.inj hr
      rw [Bool.and_eq_true] at eb
      obtain rfl := Nat.eq_of_beq_eq_true eb.2
      have hlt := Nat.le_of_ble_eq_true eb.1
      have ha : ad = ⟨bl, off + oo, none⟩ := by
        cases ex with
        | true => exact (h3 rfl).2
        | false => exact (h4 rfl).1 (by omega)
      subst ha
      have h2 : (0 : Int) ≤ (j : Int) ∧ (j : Int) < (len : Int) := by omega
      have h2' : ¬ (len ≤ j) := by omega
      refine ⟨.pointer (some ⟨bl, off + (oo + j * s), none⟩), ?_, .ptr _ _ _ _ _ hρ⟩
      simp [execOp, ho, Instr.indexAt, hvi, asIntOf, und_run (k_slice hT hk), hv, h2, h2', size_fact hT hs, add_addr, Nat.add_assoc]
  · cases hr
theorem s_ixStr {t : TypeId} {o i : Operand} {y yi : XA} (ho : oper.op = .index t o i) (hy : xa o = some y) (hi : xa i = some yi) (hk : kOf ty t = some .str)
    (hr : runP fr (.ixStr y yi) = some x) : Does P ρ a w oper x := by
  have v := xa_sound hy hf
  have vi := xa_sound hi hf
  simp only [runP, pIxStr] at hr
  split at hr
  · rename_i s j e1 ej
    rw [e1] at v
    obtain ⟨b, hv, hb⟩ := v.inv_str
    obtain ⟨k, hvi⟩ := natOf_inv ej vi
    rw [nth_eq] at hr
    cases en : s[j]? with
    | none => rw [en] at hr; cases hr
    | some c =>
      rw [en] at hr
      obtain rfl := Option.some.inj hr
      rw [← hb, List.getElem?_map, Option.map_eq_some_iff] at en
      obtain ⟨u, hu, rfl⟩ := en
      have hu2 : b[j]? = some u := by
        obtain ⟨hlt, he⟩ := List.getElem?_eq_some_iff.1 hu
        have hlt' : j < b.size := by simpa using hlt
        rw [getElem?_pos b j hlt', ← he]
        rfl
      refine ⟨.int .u8 (u.toNat : Int), ?_, .int _ _⟩
      simp [execOp, ho, Instr.index, hvi, asIntOf, und_run (k_str hT hk), hv, hu2]
  · cases hr
theorem s_ixAgg {t e : TypeId} {m s : Nat} {pp : XP} {o i : Operand} {y yi : XA} (ho : oper.op = .index t o i) (hy : xa o = some y) (hi : xa i = some yi) (hk : kOf ty t = some (.array m e)) (hp : partOf ty e = some pp) (hs : sizeOf' ty e = some s)
    (hr : runP fr (.ixAgg pp m s y yi) = some x) : Does P ρ a w oper x := by
  have v := xa_sound hy hf
  have vi := xa_sound hi hf
  simp only [runP, pIxAgg] at hr
  split at hr
  · rename_i c j e1 ej
    rw [e1] at v
    obtain ⟨vs, hv, hvs⟩ := v.inv_agg
    obtain ⟨k, hvi⟩ := natOf_inv ej vi
    cases eb : Nat.ble (Nat.succ j) m with
    | false => rw [eb] at hr; cases hr
    | true =>
      rw [eb] at hr
      have hlt := Nat.le_of_ble_eq_true eb
      have h2 : (0 : Int) ≤ (j : Int) ∧ (j : Int) < (m : Int) := by omega
      have h2' : ¬ (m ≤ j) := by omega
      obtain ⟨z, hz, hr⟩ := part_run (w := w) hT hf hp hvs hr
      have hz' : (part e vs.toArray (j * s)).run P w = .ok z w := hz
      exact ⟨z, by simp [execOp, ho, Instr.index, hvi, asIntOf, und_run (k_array hT hk), hv, h2, h2', size_fact hT hs, hz'], hr⟩
  · cases hr
end
section
variable {P : Program} {ty : Nat → Option XTy} {ρ : Rho} {n : Nat} {fr : XF} {a : Act} {w : World} {oper : Oper} {p : PO} {x : XV}
variable (hf : FrR ρ n fr a)
include hf
theorem s_extract {o : Operand} {i : Nat} (ho : oper.op = .extract o i) (hx : xop ty oper.op = some (.p p)) (hr : runP fr p = some x) : Does P ρ a w oper x := by
  rw [ho] at hx
  simp only [xop, Option.bind_eq_bind, Option.bind_eq_some_iff, Option.pure_def, Option.some.injEq, XOp.p.injEq] at hx
  obtain ⟨y, hy, rfl⟩ := hx
  have v := xa_sound hy hf
  simp only [runP, pExtract] at hr
  split at hr
  · rename_i vs e1
    rw [e1] at v
    obtain ⟨us, hv, hvs⟩ := v.inv_tup
    rw [nth_eq] at hr
    obtain ⟨z, hz, hr⟩ := hvs.get hr
    exact ⟨z, by simp [execOp, ho, Instr.extract, hv, hz], hr⟩
  · cases hr
theorem foldMin_run : ∀ (l : List XV) (us : List Value) (m : Int) (k : IntKind) (x : XV), VRs ρ l us → foldMin m l k = some x → ∃ z, (us.foldlM Builtin.min2 (.int k m)).run P w = .ok z w ∧ VR ρ x z
  | [], _, m, k, x, .nil, h => by obtain rfl := Option.some.inj h; exact ⟨_, rfl, .int _ _⟩
  | .int j b :: l, _, m, k, x, .cons _ v _ us hv ht, h => by
    obtain rfl := hv.inv_int
    obtain ⟨z, hz, hr⟩ := foldMin_run l us _ k x ht h
    refine ⟨z, ?_, hr⟩
    rw [List.foldlM_cons, Sem.run_bind]
    have e : (Builtin.min2 (.int k m) (.int j b)).run P w = .ok (.int k (bif ltI b m then b else m)) w := by
      simp only [Builtin.min2, Sem.run_pure, ltI_iff]
      by_cases hh : b < m <;> simp [hh]
    rw [e]; exact hz
theorem foldMax_run : ∀ (l : List XV) (us : List Value) (m : Int) (k : IntKind) (x : XV), VRs ρ l us → foldMax m l k = some x → ∃ z, (us.foldlM Builtin.max2 (.int k m)).run P w = .ok z w ∧ VR ρ x z
  | [], _, m, k, x, .nil, h => by obtain rfl := Option.some.inj h; exact ⟨_, rfl, .int _ _⟩
  | .int j b :: l, _, m, k, x, .cons _ v _ us hv ht, h => by
    obtain rfl := hv.inv_int
    obtain ⟨z, hz, hr⟩ := foldMax_run l us _ k x ht h
    refine ⟨z, ?_, hr⟩
    rw [List.foldlM_cons, Sem.run_bind]
    have e : (Builtin.max2 (.int k m) (.int j b)).run P w = .ok (.int k (bif ltI m b then b else m)) w := by
      simp only [Builtin.max2, Sem.run_pure, ltI_iff, gt_iff_lt]
      by_cases hh : m < b <;> simp [hh]
    rw [e]; exact hz
end
end Go.X
end
section
namespace Go.X
open Go.RowKit
set_option linter.unusedSimpArgs false
set_option linter.unusedSectionVars false
theorem foldSet : ∀ (v : List Value) (k off : Nat) (cells : Array Value), off + k + v.length ≤ cells.size →
    ((v.zipIdx k).foldl (fun cs (x : Value × Nat) => cs.setIfInBounds (off + x.2) x.1) cells).toList = cells.toList.take (off + k) ++ v ++ cells.toList.drop (off + k + v.length)
  | [], k, off, cells, h => by simp
  | a :: v, k, off, cells, h => by
    simp only [List.zipIdx_cons, List.foldl_cons]
    rw [foldSet v (k + 1) off _ (by simp at h ⊢; omega)]
    have hk : off + k < cells.size := by simp at h; omega
    simp only [Array.toList_setIfInBounds]
    apply List.ext_getElem?
    intro i
    simp only [List.append_assoc, List.getElem?_append, List.length_take, List.length_set, Array.length_toList, List.getElem?_take, List.getElem?_set, List.getElem?_drop, List.getElem?_cons, List.length_cons]
    simp at h
    by_cases h1 : i < off + k
    · have a1 : i < min (off + (k + 1)) cells.size := by omega
      have a2 : i < min (off + k) cells.size := by omega
      have a3 : i < off + (k + 1) := by omega
      have a4 : ¬ (off + k = i) := by omega
      simp [a1, a2, a3, a4, h1]
    · by_cases h2 : i = off + k
      · subst h2
        have a1 : off + k < min (off + (k + 1)) cells.size := by omega
        have a2 : ¬ (off + k < min (off + k) cells.size) := by omega
        have a3 : off + k < off + (k + 1) := by omega
        simp [a1, a2, a3, hk, Nat.min_eq_left (show off + k ≤ cells.size by omega)]
      · have a1 : ¬ (i < min (off + (k + 1)) cells.size) := by omega
        have a2 : ¬ (i < min (off + k) cells.size) := by omega
        simp only [a1, a2, if_false]
        rw [Nat.min_eq_left (show off + (k + 1) ≤ cells.size by omega), Nat.min_eq_left (show off + k ≤ cells.size by omega)]
        have a5 : ¬ (i - (off + k) = 0) := by omega
        simp only [a5, if_false]
        rw [show i - (off + k) - 1 = i - (off + (k + 1)) by omega]
        by_cases h3 : i - (off + (k + 1)) < v.length
        · have a6 : i - (off + k) < v.length + 1 := by omega
          simp [h3, a6]
        · have a6 : ¬ (i - (off + k) < v.length + 1) := by omega
          simp only [h3, a6, if_false]
          rw [if_neg (by omega)]
          congr 1
          omega
theorem splice_eq (c : List XV) (n : Nat) (v : List XV) : splice c n v = c.take n ++ v ++ c.drop (n + v.length) := by
  unfold splice
  rw [appX_eq, appX_eq, takeX_eq, dropX_eq, lenX_eq, List.append_assoc]
  rfl
theorem VRs.splice {ρ : Rho} {c : List XV} {cs : List Value} (h : VRs ρ c cs) {v : List XV} {vs : List Value} (k : VRs ρ v vs) (n : Nat) : VRs ρ (splice c n v) (cs.take n ++ vs ++ cs.drop (n + vs.length)) := by
  rw [splice_eq, k.len]
  exact ((h.take n).append k).append (h.drop _)
theorem bif_some {α : Type} {b : Bool} {x : Option α} {y : α} (h : (bif b then x else none) = some y) : b = true ∧ x = some y := by
  cases b with
  | false => cases h
  | true => exact ⟨rfl, h⟩
theorem fill_run {ρ : Rho} (place : Nat → Option (Nat × Nat)) : ∀ (ps : List (Nat × Nat × XV)) (qs : List (Nat × Value)) (z c : List XV) (cells : Array Value), ps.length = qs.length →
    (∀ (i : Nat) (p : Nat × Nat × XV) (q : Nat × Value), ps[i]? = some p → qs[i]? = some q → place q.1 = some (p.1, p.2.1) ∧ VR ρ p.2.2 q.2) → VRs ρ z cells.toList → fillx ps z = some c →
    ∃ cs, Instr.fill place cells qs = some cs ∧ VRs ρ c cs.toList
  | [], [], z, c, cells, _, _, hz, h => by obtain rfl := Option.some.inj h; exact ⟨cells, rfl, hz⟩
  | [], _ :: _, _, _, _, h, _, _, _ => by simp at h
  | _ :: _, [], _, _, _, h, _, _, _ => by simp at h
  | (off, size, x) :: ps, (i, v) :: qs, z, c, cells, hl, hp, hz, h => by
    obtain ⟨h1, hv⟩ := hp 0 _ _ rfl rfl
    simp only at h1 hv
    simp only [fillx] at h
    obtain ⟨e1, h⟩ := bif_some h
    obtain ⟨e2, h⟩ := bif_some h
    have e1 := Nat.eq_of_beq_eq_true e1
    have e2 := Nat.le_of_ble_eq_true e2
    have hc := hv.cells
    have hlen := hc.len
    rw [lenX_eq] at e1
    rw [lenX_eq, hz.len] at e2
    have hsz : v.cells.size = size := by rw [← e1, hlen]; simp
    have e2' : off + v.cells.size ≤ cells.size := by rw [hsz]; simpa using e2
    have hf := foldSet v.cells.toList 0 off cells (by simpa using e2')
    obtain ⟨cs, g1, g2⟩ := fill_run place ps qs (splice z off x.cells) c ((v.cells.toList.zipIdx).foldl (fun cs (x : Value × Nat) => cs.setIfInBounds (off + x.2) x.1) cells) (by simpa using hl) (fun i p q h1 h2 => hp (i + 1) p q (by simpa using h1) (by simpa using h2)) (by
      rw [hf]
      exact hz.splice hc off) h
    refine ⟨cs, ?_, g2⟩
    have c1 : ¬ (v.cells.size ≠ size) := by simp [hsz]
    have c2 : ¬ (off + v.cells.size > cells.size) := by omega
    have g1' : Instr.fill place (Array.foldl (fun cs x => cs.setIfInBounds (off + x.2) x.1) cells v.cells.zipIdx) qs = some cs := by
      rw [← g1]
      congr 1
      rw [← Array.foldl_toList, Array.toList_zipIdx]
    simp only [Instr.fill, h1, c1, c2, or_self, decide_false, Bool.false_eq_true, if_false, Bool.or_self]
    simpa using g1'
section
variable {P : Program} {ty : Nat → Option XTy} {ρ : Rho} {n : Nat} {fr : XF} {a : Act} {w : World} {oper : Oper} {p : PO} {x : XV}
variable (hT : TyOK P ty)
include hT
theorem sizes_run (gs : Array Field) (h : (gs.toList.map fun f => (f.offset, f.type)).all (fun f => (sizeOf' ty f.2).isSome) = true) :
    (gs.mapM (m := Sem) fun f => do pure (f.offset, ← sizeOf f.type)).run P w = .ok (gs.map fun f => (f.offset, (sizeOf' ty f.type).getD 0)) w := by
  have key : ∀ l : List Field, (∀ f, f ∈ l → (sizeOf' ty f.type).isSome = true) → (l.mapM (m := Sem) fun f => do pure (f.offset, ← sizeOf f.type)).run P w = .ok (l.map fun f => (f.offset, (sizeOf' ty f.type).getD 0)) w := by
    intro l
    induction l with
    | nil => intro _; rfl
    | cons f l ih =>
      intro hl
      obtain ⟨s, hs⟩ := Option.isSome_iff_exists.1 (hl f (by simp))
      have ih := ih (fun g hg => hl g (by simp [hg]))
      simp only [List.mapM_cons, Sem.run_bind, size_fact hT hs, Result.andThen_ok, Sem.run_pure, ih, List.map_cons, hs, Option.getD_some]
  rw [Array.mapM_eq_mapM_toList, Sem.run_map, key _ (fun f hf => by
    rw [List.all_map, List.all_eq_true] at h
    exact h f hf)]
  rw [Result.andThen_ok]
  congr 1
  apply Array.ext'
  simp
omit hT in
theorem mapMO_get {α β : Type} {f : α → Option β} : ∀ {l : List α} {m : List β}, mapMO f l = some m → l.length = m.length ∧ ∀ (i : Nat) (b : β), m[i]? = some b → ∃ x, l[i]? = some x ∧ f x = some b
  | [], m, h => by simp [mapMO] at h; subst h; simp
  | x :: l, m, h => by
    obtain ⟨b, k, h1, h2, rfl⟩ := mapMO_cons h
    obtain ⟨h3, h4⟩ := mapMO_get h2
    refine ⟨by simp [h3], fun i c hc => ?_⟩
    cases i with
    | zero => obtain rfl : b = c := by simpa using hc
              exact ⟨x, rfl, h1⟩
    | succ i => exact h4 i c (by simpa using hc)
variable (hf : FrR ρ n fr a)
include hf
theorem places_sound {t : TypeId} {parts : List (Nat × Operand)} {ps : List (Nat × Nat × XA)} (h : places ty t parts = some ps) :
    ∃ place : Nat → Option (Nat × Nat), (∀ (i : Nat) (p : Nat × Nat × XV) (q : Nat × Value), (evp fr ps)[i]? = some p → (parts.map fun x => (x.1, a.eval x.2))[i]? = some q → place q.1 = some (p.1, p.2.1) ∧ VR ρ p.2.2 q.2) ∧ (evp fr ps).length = (parts.map fun x => (x.1, a.eval x.2)).length ∧
    ((∃ gs, P.underlying t = some (.struct gs) ∧ (gs.mapM (m := Sem) fun f => do pure (f.offset, ← sizeOf f.type)).run P w = .ok (gs.map fun f => (f.offset, (sizeOf' ty f.type).getD 0)) w ∧ place = fun i => (gs.map fun f => (f.offset, (sizeOf' ty f.type).getD 0))[i]?) ∨
     (∃ m e s, (P.underlying t = some (.array m e) ∨ P.underlying t = some (.slice e)) ∧ (sizeOf e).run P w = .ok s w ∧ place = fun i => some (i * s, s))) := by
  unfold places at h
  cases ek : kOf ty t with
  | none => simp only [ek] at h; cases h
  | some k =>
    simp only [ek] at h
    have fin : ∀ (g : Nat × Operand → Option (Nat × Nat × XA)) (place : Nat → Option (Nat × Nat)), mapMO g parts = some ps → (∀ i o r, g (i, o) = some r → place i = some (r.1, r.2.1) ∧ xa o = some r.2.2) →
        (∀ (i : Nat) (p : Nat × Nat × XV) (q : Nat × Value), (evp fr ps)[i]? = some p → (parts.map fun x => (x.1, a.eval x.2))[i]? = some q → place q.1 = some (p.1, p.2.1) ∧ VR ρ p.2.2 q.2) ∧ (evp fr ps).length = (parts.map fun x => (x.1, a.eval x.2)).length := by
      intro g place hm hg
      obtain ⟨h1, h2⟩ := mapMO_get hm
      refine ⟨fun i p q hp hq => ?_, by simp [evp, mapX_eq, h1]⟩
      simp only [evp, mapX_eq, List.getElem?_map, Option.map_eq_some_iff] at hp hq
      obtain ⟨r, hr, rfl⟩ := hp
      obtain ⟨u, hu, rfl⟩ := hq
      obtain ⟨u', hu', hgu⟩ := h2 i r hr
      obtain rfl : u = u' := by rw [hu] at hu'; exact Option.some.inj hu'
      obtain ⟨j, o⟩ := u
      obtain ⟨g1, g2⟩ := hg j o r hgu
      exact ⟨g1, xa_sound g2 hf⟩
    cases k with
    | struct fs =>
      simp only at h
      obtain ⟨gs, hu, rfl⟩ := k_struct hT ek
      cases ea : ((gs.toList.map fun f => (f.offset, f.type)).all fun f => (sizeOf' ty f.2).isSome) with
      | false => rw [ea] at h; cases h
      | true =>
        rw [ea] at h
        obtain ⟨f1, f2⟩ := fin _ (fun i => (gs.map fun f => (f.offset, (sizeOf' ty f.type).getD 0))[i]?) h (by
          intro i o r hr
          simp only [Option.bind_eq_bind, Option.bind_eq_some_iff, Option.pure_def, Option.some.injEq] at hr
          obtain ⟨⟨off, t'⟩, h1, s, h2, y, h3, rfl⟩ := hr
          simp only [List.getElem?_map, Option.map_eq_some_iff, Prod.mk.injEq] at h1
          obtain ⟨g, hg, rfl, rfl⟩ := h1
          have hg' : gs[i]? = some g := by simpa using hg
          exact ⟨by simp [hg', h2], h3⟩)
        exact ⟨_, f1, f2, .inl ⟨gs, hu, sizes_run hT gs ea, rfl⟩⟩
    | array m e =>
      simp only at h
      cases es : sizeOf' ty e with
      | none => rw [es] at h; cases h
      | some s =>
        rw [es] at h
        obtain ⟨f1, f2⟩ := fin _ (fun i => some (i * s, s)) h (by
          intro i o r hr
          simp only [Option.bind_eq_bind, Option.bind_eq_some_iff, Option.pure_def, Option.some.injEq] at hr
          obtain ⟨y, h3, rfl⟩ := hr
          exact ⟨rfl, h3⟩)
        exact ⟨_, f1, f2, .inr ⟨m, e, s, .inl (k_array hT ek), size_fact hT es w, rfl⟩⟩
    | slice e =>
      simp only at h
      cases es : sizeOf' ty e with
      | none => rw [es] at h; cases h
      | some s =>
        rw [es] at h
        obtain ⟨f1, f2⟩ := fin _ (fun i => some (i * s, s)) h (by
          intro i o r hr
          simp only [Option.bind_eq_bind, Option.bind_eq_some_iff, Option.pure_def, Option.some.injEq] at hr
          obtain ⟨y, h3, rfl⟩ := hr
          exact ⟨rfl, h3⟩)
        exact ⟨_, f1, f2, .inr ⟨0, e, s, .inr (k_slice hT ek), size_fact hT es w, rfl⟩⟩
    | _ => simp only at h; cases h
theorem s_build {t : TypeId} {ps : Array (Nat × Operand)} (ho : oper.op = .build t ps) (hx : xop ty oper.op = some (.p p)) (hr : runP fr p = some x) : Does P ρ a w oper x := by
  rw [ho] at hx
  simp only [xop] at hx
  have ek : ∀ e, P.underlying t ≠ some (.slice e) := by
    intro e he
    cases ek : kOf ty t with
    | none =>
      rw [ek] at hx
      simp only [Option.bind_eq_bind, Option.bind_eq_some_iff, Option.pure_def, Option.some.injEq, XOp.p.injEq] at hx
      obtain ⟨z, hz, qs, hq, _⟩ := hx
      unfold places at hq
      rw [ek] at hq
      cases hq
    | some k =>
      obtain ⟨d, hd, hk⟩ := k_fact hT ek
      rw [he] at hd
      obtain rfl := Option.some.inj hd
      rw [ek, hk] at hx
      simp [kindOf] at hx
  have hx : (do pure (XOp.p (.build (← zeroOf ty t).cells (← places ty t ps.toList))) : Option XOp) = some (XOp.p p) := by
    split at hx
    · cases hx
    · exact hx
  simp only [Option.bind_eq_bind, Option.bind_eq_some_iff, Option.pure_def, Option.some.injEq, XOp.p.injEq] at hx
  obtain ⟨z, hz, qs, hq, rfl⟩ := hx
  obtain ⟨zv, hzv, hzr⟩ := zero_fact hT hz w
  simp only [runP, pBuild] at hr
  cases ef : fillx (evp fr qs) z.cells with
  | none => rw [ef] at hr; cases hr
  | some c =>
    rw [ef] at hr
    obtain rfl := Option.some.inj hr
    obtain ⟨place, h1, h2, h3⟩ := places_sound (w := w) hT hf hq
    obtain ⟨cs, g1, g2⟩ := fill_run place _ _ _ _ zv.cells h2 h1 (hzr ρ).cells ef
    have e0 : (ps.map fun (i, x) => (i, a.eval x)).toList = ps.toList.map fun x => (x.1, a.eval x.2) := by simp
    have g2' : VR ρ (.agg c) (.agg cs) := by simpa using VR.agg (ρ := ρ) c cs.toList g2
    refine ⟨.agg cs, ?_, g2'⟩
    have key : (Instr.build t (ps.map fun (i, x) => (i, a.eval x))).run P w = .ok (.agg cs) w := by
      unfold Instr.build
      rcases h3 with ⟨gs, hu, hm, rfl⟩ | ⟨m, e, s, hu, hs, rfl⟩
      · simp only [Sem.run_bind, hzv, Result.andThen_ok, und_run hu, hm, e0, g1, Sem.run_pure]
      · rcases hu with hu | hu
        · simp only [Sem.run_bind, hzv, Result.andThen_ok, und_run hu, hs, e0, g1, Sem.run_pure]
        · exact absurd hu (ek _)
    simp [execOp, ho, key]
end
end Go.X
end
section
namespace Go.X
open Go.RowKit
set_option linter.unusedSimpArgs false
set_option linter.unusedSectionVars false
section
variable {P : Program} {ty : Nat → Option XTy} {ρ : Rho} {n : Nat} {fr : XF} {a : Act} {w : World} {oper : Oper} {p : PO} {x : XV}
variable (hT : TyOK P ty) (hf : FrR ρ n fr a)
include hT hf
theorem argsA (c : Call) {args : List XA} (h : mapMO xa c.args.toList = some args) : ∃ vs : List Value, c.args.map a.eval = vs.toArray ∧ VRs ρ (evs fr args) vs := by
  refine ⟨c.args.toList.map a.eval, ?_, xas_sound h hf⟩
  apply Array.ext'; simp
theorem s_minmax {c : Call} (ho : oper.op = .call c) (hx : xop ty oper.op = some (.p p)) (hr : runP fr p = some x) : Does P ρ a w oper x := by
  rw [ho] at hx
  simp only [xop, xcall, Option.bind_eq_bind, Option.bind_eq_some_iff] at hx
  obtain ⟨args, hargs, hx⟩ := hx
  obtain ⟨vs, hvs, hv⟩ := argsA hT hf c hargs
  obtain ⟨callee, cargs, ats⟩ := c
  cases callee with
  | value f =>
    cases f <;> simp [Option.bind_eq_some_iff] at hx
  | invoke r m => simp at hx
  | builtin b =>
    cases b <;> simp only [reduceCtorEq, Option.pure_def, Option.some.injEq, XOp.p.injEq, Option.bind_eq_bind, Option.bind_eq_some_iff, false_and, and_false, exists_false] at hx
    case min =>
      subst hx
      simp only [runP, pMin] at hr
      split at hr
      · rename_i k m l e
        rw [e] at hv
        cases hv with
        | cons _ v _ us h1 h2 =>
          obtain rfl := h1.inv_int
          obtain ⟨z, hz, hzr⟩ := foldMin_run (P := P) (w := w) hf l us m k x h2 hr
          refine ⟨z, ?_, hzr⟩
          simp only at hvs
          simp [execOp, ho, resolve, invoke, builtin, Builtin.min_, hvs, hz]
      · cases hr
    case max =>
      subst hx
      simp only [runP, pMax] at hr
      split at hr
      · rename_i k m l e
        rw [e] at hv
        cases hv with
        | cons _ v _ us h1 h2 =>
          obtain rfl := h1.inv_int
          obtain ⟨z, hz, hzr⟩ := foldMax_run (P := P) (w := w) hf l us m k x h2 hr
          refine ⟨z, ?_, hzr⟩
          simp only at hvs
          simp [execOp, ho, resolve, invoke, builtin, Builtin.max_, hvs, hz]
      · cases hr
    all_goals
      exfalso
      repeat' (first
        | (cases hx; done)
        | split at hx
        | (simp only [Option.bind_eq_bind, Option.bind_eq_some_iff, Option.pure_def] at hx; obtain ⟨_, _, hx⟩ := hx)
        | (simp at hx; done)
        | (obtain ⟨_, _, hx⟩ := hx))
theorem runP_sound (hx : xop ty oper.op = some (.p p)) (hr : runP fr p = some x) : Does P ρ a w oper x := by
  cases ho : oper.op with
  | move o => exact s_mov hf (.inl ho) hx hr
  | assign o => exact s_mov hf (.inr ho) hx hr
  | pick c d e => exact s_pick hf ho hx hr
  | build t ps => exact s_build hT hf ho hx hr
  | nilCheck o => exact s_nil hf ho hx hr
  | binOp op t o1 o2 t' => exact s_bin hT hf ho hx hr
  | unOp op t o => exact s_un hf ho hx hr
  | makeFunc f fi ca => exact s_makeFunc hf ho hx hr
  | fieldAddr s o f => exact s_addr hT hf ho hx hr
  | field t o f => exact s_field hT hf ho hx hr
  | extract o i => exact s_extract hf ho hx hr
  | call c => exact s_minmax hT hf ho hx hr
  | convert s d o =>
    rw [ho] at hx
    simp only [xop] at hx
    split at hx
    · rename_i j k hs hd
      simp only [Option.bind_eq_bind, Option.bind_eq_some_iff, Option.pure_def, Option.some.injEq, XOp.p.injEq] at hx
      obtain ⟨y, hy, rfl⟩ := hx
      exact s_convI hf hT ho hy hs hd hr
    · rename_i hs hd
      simp only [Option.bind_eq_bind, Option.bind_eq_some_iff, Option.pure_def, Option.some.injEq, XOp.p.injEq] at hx
      obtain ⟨y, hy, rfl⟩ := hx
      exact s_convSS hf hT ho hy hs hd hr
    · split at hx <;> simp [Option.bind_eq_some_iff] at hx
    · split at hx <;> simp [Option.bind_eq_some_iff] at hx
    · cases hx
  | slice t o lo hi mx =>
    rw [ho] at hx
    simp only [xop, Option.bind_eq_bind, Option.bind_eq_some_iff] at hx
    obtain ⟨lo', hl, hi', hh, mx', hm, y, hy, hx⟩ := hx
    split at hx
    · rename_i hk
      simp only [Option.pure_def, Option.some.injEq, XOp.p.injEq] at hx
      subst hx
      cases mx with
      | none => exact s_sliceS hT hf ho hy hl hh hk hr
      | some m => simp [xao] at hm
    · rename_i e _ hk
      simp only [Option.bind_eq_bind, Option.bind_eq_some_iff, Option.pure_def, Option.some.injEq, XOp.p.injEq] at hx
      obtain ⟨s, hs, rfl⟩ := hx
      cases mx with
      | none =>
        simp [xao] at hm
        subst hm
        exact s_sliceL hT hf ho hy hl hh hk hs hr
      | some m =>
        simp only [xao, Option.map_eq_some_iff] at hm
        obtain ⟨my, hmy, rfl⟩ := hm
        exact s_sliceM hT hf ho hy hmy hl hh hk hs hr
    · rename_i m e hk
      simp only [Option.bind_eq_bind, Option.bind_eq_some_iff, Option.pure_def, Option.some.injEq, XOp.p.injEq] at hx
      obtain ⟨s, hs, rfl⟩ := hx
      cases mx with
      | none => exact s_sliceA hT hf ho hy hl hh hk hs hr
      | some m => simp [xao] at hm
    · cases hx
  | indexAddr t o i =>
    rw [ho] at hx
    simp only [xop] at hx
    split at hx
    · rename_i m e hk
      simp only [Option.bind_eq_bind, Option.bind_eq_some_iff, Option.pure_def, Option.some.injEq, XOp.p.injEq] at hx
      obtain ⟨s, hs, y, hy, yi, hi, rfl⟩ := hx
      exact s_idxA hT hf ho hy hi hk hs hr
    · rename_i e hk
      simp only [Option.bind_eq_bind, Option.bind_eq_some_iff, Option.pure_def, Option.some.injEq, XOp.p.injEq] at hx
      obtain ⟨s, hs, y, hy, yi, hi, rfl⟩ := hx
      exact s_idxL hT hf ho hy hi hk hs hr
    · cases hx
  | index t o i =>
    rw [ho] at hx
    simp only [xop] at hx
    split at hx
    · rename_i hk
      simp only [Option.bind_eq_bind, Option.bind_eq_some_iff, Option.pure_def, Option.some.injEq, XOp.p.injEq] at hx
      obtain ⟨y, hy, yi, hi, rfl⟩ := hx
      exact s_ixStr hT hf ho hy hi hk hr
    · rename_i m e hk
      simp only [Option.bind_eq_bind, Option.bind_eq_some_iff, Option.pure_def, Option.some.injEq, XOp.p.injEq] at hx
      obtain ⟨pp, hp, s, hs, y, hy, yi, hi, rfl⟩ := hx
      exact s_ixAgg hT hf ho hy hi hk hp hs hr
    · cases hx
  | makeMap t r =>
    rw [ho] at hx
    cases r <;> simp [xop] at hx
  | next o b =>
    rw [ho] at hx
    cases b <;> simp [xop, Option.bind_eq_some_iff] at hx
  | _ =>
    exfalso
    rw [ho] at hx
    simp only [xop] at hx
    repeat' (first
      | (cases hx; done)
      | split at hx
      | (simp [Option.bind_eq_some_iff] at hx; done)
      | (simp only [Option.bind_eq_bind, Option.bind_eq_some_iff] at hx; obtain ⟨_, _, hx⟩ := hx)
      | (obtain ⟨_, _, hx⟩ := hx))
end
end Go.X
end
section
namespace Go.X
open Go.RowKit
set_option linter.unusedSimpArgs false
set_option linter.unusedSectionVars false
section
variable {P : Program} {ρ : Rho} {H : XH} {w : World}
theorem getObj_run {b : Nat} {o : Obj} (h : w.heap[b]? = some o) (hc : ∀ c e f, o ≠ .cells c e f) : (getObj b).run P w = .ok o w := by
  unfold getObj Sem.run
  rw [h]
  cases o <;> first | rfl | exact absurd rfl (hc _ _ _)
theorem CR.list {cs : List XV} {ro : Bool} {tg : Option Nat} {b off lim : Nat} (h : CR ρ w cs ro tg b off lim) {o m : Nat} {r : List XV} (ht : takeN m (dropX o cs) = some r) :
    ∃ us, (loadCells ⟨b, off + o, none⟩ m).run P w = .ok us.toArray w ∧ VRs ρ r us := by
  rw [dropX_eq] at ht
  obtain ⟨rfl, hlen⟩ := takeN_eq _ _ _ ht
  obtain ⟨vs, hv, hc⟩ := h.vals
  have hv2 := (hv.drop o).take m
  refine ⟨(vs.drop o).take m, ?_, hv2⟩
  have e : m = ((vs.drop o).take m).length := by rw [← hv2.len, hlen]
  have := run_loadCells_list (P := P) w ⟨b, off + o, none⟩ ((vs.drop o).take m) (fun j v hj => by
    rw [List.getElem?_take] at hj
    split at hj
    · rw [List.getElem?_drop] at hj
      rw [add_addr, Nat.add_assoc]
      exact hc _ _ hj
    · cases hj)
  rw [← e] at this
  exact this
theorem loadCells_zero (ad : Addr) : (loadCells ad 0).run P w = .ok #[] w := rfl
theorem cellsB_run (hR : Rep ρ H w) {n o len cap es : Nat} {ex : Bool} {b off lim : Nat} {ad : Addr} {c : Nat} (hρ : ρ n = some (b, off, lim)) (h1 : len ≤ cap) (h2 : cap ≤ c)
    (hex : ex = true → c = cap ∧ ad = ⟨b, off + o, none⟩) (hne : ex = false → (0 < c → ad = ⟨b, off + o, none⟩) ∧ o + c * es ≤ lim) {m : Nat} (hm : len = 0 → m = 0) {r : List XV} (h : cellsB H n o m = some r) :
    ∃ us, (loadCells ad m).run P w = .ok us.toArray w ∧ VRs ρ r us := by
  unfold cellsB at h
  split at h
  · rename_i cs ro tg e
    obtain ⟨b', off', lim', hρ', hO⟩ := hR.obj _ _ e
    rw [hρ] at hρ'
    simp only [Option.some.injEq, Prod.mk.injEq] at hρ'
    obtain ⟨rfl, rfl, rfl⟩ := hρ'
    by_cases h0 : len = 0
    · obtain rfl := hm h0
      obtain rfl := Option.some.inj h
      exact ⟨[], loadCells_zero _, .nil⟩
    · have ha : ad = ⟨b, off + o, none⟩ := by
        cases ex with
        | true => exact (hex rfl).2
        | false => exact (hne rfl).1 (by omega)
      subst ha
      exact CR.list hO h
  · cases h
end
section
variable {P : Program} {ty : Nat → Option XTy} {ρ : Rho} {n : Nat} {fr : XF} {a : Act} {H : XH} {w : World} {oper : Oper} {p : RO} {x : XV}
variable (hT : TyOK P ty) (hf : FrR ρ n fr a) (hR : Rep ρ H w)
include hT hf hR
theorem load_run {t : TypeId} {pp : XP} (hp : partOf ty t = some pp) {y : XV} {v : Value} (hv : VR ρ y v) (hr : rLoad H pp y = some x) : ∃ ad z, v = .pointer (some ad) ∧ (loadVar t ad).run P w = .ok z w ∧ VR ρ x z := by
  unfold rLoad at hr
  split at hr
  · rename_i b o
    obtain ⟨c, off, lim, rfl, hρ⟩ := hv.inv_ptr
    split at hr
    · rename_i cs ro tg e
      obtain ⟨b', off', lim', hρ', hO⟩ := hR.obj _ _ e
      rw [hρ] at hρ'
      simp only [Option.some.injEq, Prod.mk.injEq] at hρ'
      obtain ⟨rfl, rfl, rfl⟩ := hρ'
      have hpf := part_fact hT hp w
      cases pp with
      | one =>
        simp only [takeP, nth_eq] at hr
        obtain ⟨vs, hvs, hc⟩ := CR.vals hO
        obtain ⟨z, hz, hxz⟩ := hvs.get hr
        have hcell := hc _ _ hz
        exact ⟨_, z, rfl, by simp [loadVar, hpf, hcell], hxz⟩
      | many m =>
        simp only [takeP] at hr
        cases et : takeN m (dropX o cs) with
        | none => rw [et] at hr; cases hr
        | some r =>
          rw [et] at hr
          obtain rfl := Option.some.inj hr
          obtain ⟨us, hu, hvu⟩ := CR.list (P := P) hO et
          exact ⟨_, .agg us.toArray, rfl, by simp [loadVar, hpf.1, hpf.2, hu], .agg _ _ hvu⟩
    · cases hr
  · cases hr
theorem s_load {t : TypeId} {o : Operand} (ho : oper.op = .load t o) (hx : xop ty oper.op = some (.r p)) (hr : runR fr H p = some x) : Does P ρ a w oper x := by
  rw [ho] at hx
  simp only [xop, Option.bind_eq_bind, Option.bind_eq_some_iff, Option.pure_def, Option.some.injEq, XOp.r.injEq] at hx
  obtain ⟨pp, hp, y, hy, rfl⟩ := hx
  have v := xa_sound hy hf
  obtain ⟨ad, z, hv, hz, hxz⟩ := load_run hT hf hR hp v hr
  exact ⟨z, by simp [execOp, ho, Instr.loadAt, hv, Instr.sureAddr, hz], hxz⟩
end
section
variable {P : Program} {ρ : Rho} {H : XH} {w : World}
def keyKind (st : Bool) (d : TypeDesc) : Prop := if st then d = .string else ∃ k, d = .int k
theorem sameNow_eq {st : Bool} {d : TypeDesc} (hd : keyKind st d) {k k' : XV} {v v' : Value} (hk : VR ρ k v) (hk' : VR ρ k' v') {b : Bool} (h : xeq st k k' = some b) : Instr.sameNow d v v' = some b := by
  unfold xeq at h
  split at h
  · obtain ⟨kk, rfl⟩ : ∃ k, d = .int k := hd
    obtain rfl := hk.inv_int
    obtain rfl := hk'.inv_int
    rename_i j m k n
    cases e : keq j k with
    | false => rw [e] at h; cases h
    | true =>
      rw [e] at h
      obtain rfl := keq_iff.1 e
      obtain rfl := Option.some.inj h
      simp [Instr.sameNow, eqI_iff]
  · obtain rfl : d = .string := hd
    obtain ⟨s, rfl, hs⟩ := hk.inv_str
    obtain ⟨s', rfl, hs'⟩ := hk'.inv_str
    obtain rfl := Option.some.inj h
    simp only [Instr.sameNow]
    rw [beq_toListBytes, ← hs, ← hs', show leq (s.data.toList.map UInt8.toNat) (s'.data.toList.map UInt8.toNat) = (s.toList == s'.toList) from by rw [Bool.eq_iff_iff, leq_iff, str_eq]; simp]
  · cases h
theorem findNow_eq {st : Bool} {d : TypeDesc} (hd : keyKind st d) {k : XV} {v : Value} (hk : VR ρ k v) {es : List (XV × XV)} {en : List MapEntry} (hm : MRs ρ es en) : ∀ (r : Option XV) (i : Nat), findK st k es = some r →
    (r = none ∧ Instr.findNow d v en i = some none) ∨ ∃ x j z, r = some x ∧ Instr.findNow d v en i = some (some (i + j, z)) ∧ VR ρ x z ∧ (en[j]?).map (·.val) = some z := by
  induction hm with
  | nil => intro r i h; obtain rfl := Option.some.inj h; exact .inl ⟨rfl, rfl⟩
  | cons k' v' e l m hk' hv' t ih =>
    intro r i h
    simp only [findK] at h
    cases ee : xeq st k k' with
    | none => rw [ee] at h; cases h
    | some b =>
      have hs := sameNow_eq hd hk hk' ee
      rw [ee] at h
      cases b with
      | true =>
        obtain rfl := Option.some.inj h
        exact .inr ⟨v', 0, e.val, rfl, by simp [Instr.findNow, hs], hv', rfl⟩
      | false =>
        rcases ih r (i + 1) h with ⟨h1, h2⟩ | ⟨x, j, z, h1, h2, h3, h4⟩
        · exact .inl ⟨h1, by simp [Instr.findNow, hs, h2]⟩
        · exact .inr ⟨x, j + 1, z, h1, by simp only [Instr.findNow, hs, h2]; congr 3; omega, h3, h4⟩
theorem checkKey_run {st : Bool} {d : TypeDesc} {kt : TypeId} (hu : P.underlying kt = some d) (hd : keyKind st d) (e : Bool) (v : Value) : (Instr.checkKey e 10000 kt v).run P w = .ok () w := by
  show (Instr.checkKey e (9999 + 1) kt v).run P w = _
  unfold Instr.checkKey
  rw [Sem.run_bind, und_run hu, Result.andThen_ok]
  cases st with
  | true => obtain rfl : d = .string := hd; cases v <;> rfl
  | false => obtain ⟨k, rfl⟩ : ∃ k, d = .int k := hd; cases v <;> rfl
theorem findKey_run {st : Bool} {d : TypeDesc} {kt : TypeId} (hu : P.underlying kt = some d) (hd : keyKind st d) {k : XV} {v : Value} (hk : VR ρ k v) {es : List (XV × XV)} {en : List MapEntry} (hm : MRs ρ es en) {r : Option XV} (h : findK st k es = some r) :
    (r = none ∧ (Instr.findKey kt v en).run P w = .ok none w) ∨ ∃ x j z, r = some x ∧ (Instr.findKey kt v en).run P w = .ok (some (j, z)) w ∧ VR ρ x z ∧ (en[j]?).map (·.val) = some z := by
  unfold Instr.findKey
  rcases findNow_eq hd hk hm r 0 h with ⟨h1, h2⟩ | ⟨x, j, z, h1, h2, h3, h4⟩
  · exact .inl ⟨h1, by simp [und_run hu, h2]⟩
  · rw [Nat.zero_add] at h2
    exact .inr ⟨x, j, z, h1, by simp [und_run hu, h2], h3, h4⟩
end
section
variable {P : Program} {ty : Nat → Option XTy} {ρ : Rho} {n : Nat} {fr : XF} {a : Act} {H : XH} {w : World} {oper : Oper} {p : RO} {x : XV}
variable (hT : TyOK P ty) (hf : FrR ρ n fr a) (hR : Rep ρ H w)
include hT hf hR
theorem lookup_run {st : Bool} {t kt e : TypeId} {d : TypeDesc} {m k : Operand} {ok : Bool} (ho : oper.op = .lookup t m k ok) (hu : P.underlying t = some (.map kt e)) (hk : P.underlying kt = some d) (hd : keyKind st d) {z : XV} (hz : zeroOf ty e = some z) {ym yk : XA} (hm : xa m = some ym) (hkk : xa k = some yk)
    (hr : rLookup st H z (ev fr ym) (ev fr yk) ok = some x) : Does P ρ a w oper x := by
  have vm := xa_sound hm hf
  have vk := xa_sound hkk hf
  obtain ⟨zv, hzv, hzr⟩ := zero_fact hT hz w
  unfold rLookup at hr
  split at hr
  · rename_i es he
    have key : ∃ en : Array MapEntry, MRs ρ es en.toList ∧ ((a.eval m = .map none ∧ en = #[]) ∨ ∃ b clk, a.eval m = .map (some b) ∧ w.heap[b]? = some (.map en clk)) := by
      unfold mapOf at he
      split at he
      · rename_i e1
        rw [e1] at vm
        obtain rfl := Option.some.inj he
        have : a.eval m = .map none := by generalize a.eval m = q at vm; cases vm; rfl
        exact ⟨#[], .nil, .inl ⟨this, rfl⟩⟩
      · rename_i b e1
        rw [e1] at vm
        obtain ⟨c, off, lim, hv, hρ⟩ := vm.inv_map
        split at he
        · rename_i es' e2
          obtain rfl := Option.some.inj he
          obtain ⟨b', off', lim', hρ', hO⟩ := hR.obj _ _ e2
          rw [hρ] at hρ'
          simp only [Option.some.injEq, Prod.mk.injEq] at hρ'
          obtain ⟨rfl, rfl, rfl⟩ := hρ'
          obtain ⟨en, clk, h1, h2, _⟩ := hO
          exact ⟨en, h2, .inr ⟨_, clk, hv, h1⟩⟩
        · cases he
      · cases he
    obtain ⟨en, hme, hen⟩ := key
    unfold lookR at hr
    split at hr
    · rename_i v e3
      rcases findKey_run (P := P) (w := w) hk hd vk hme e3 with ⟨h1, _⟩ | ⟨x', j, zz, h1, h2, h3, _⟩
      · cases h1
      · obtain rfl := Option.some.inj h1
        obtain rfl := Option.some.inj hr
        refine ⟨if ok then .tuple #[zz, .bool true] else zz, ?_, ?_⟩
        · rcases hen with ⟨hv, rfl⟩ | ⟨b, clk, hv, hb⟩
          · simp only [execOp, ho, Instr.lookup, hv, Sem.run_bind, und_run hu, Result.andThen_ok, checkKey_run hk hd, h2, Sem.run_pure]
          · simp only [execOp, ho, Instr.lookup, hv, Sem.run_bind, und_run hu, Result.andThen_ok, getObj_run hb (by simp), checkKey_run hk hd, h2, Sem.run_pure]
        · cases ok
          · exact h3
          · exact VR.tup _ [zz, .bool true] (.cons _ _ _ _ h3 (.cons _ _ _ _ (.bool true) .nil))
    · rename_i e3
      rcases findKey_run (P := P) (w := w) hk hd vk hme e3 with ⟨_, h2⟩ | ⟨x', j, zz, h1, _⟩
      · obtain rfl := Option.some.inj hr
        refine ⟨if ok then .tuple #[zv, .bool false] else zv, ?_, ?_⟩
        · rcases hen with ⟨hv, rfl⟩ | ⟨b, clk, hv, hb⟩
          · simp only [execOp, ho, Instr.lookup, hv, Sem.run_bind, und_run hu, Result.andThen_ok, checkKey_run hk hd, h2, hzv, Sem.run_pure]
          · simp only [execOp, ho, Instr.lookup, hv, Sem.run_bind, und_run hu, Result.andThen_ok, getObj_run hb (by simp), checkKey_run hk hd, h2, hzv, Sem.run_pure]
        · cases ok
          · exact hzr ρ
          · exact VR.tup _ [zv, .bool false] (.cons _ _ _ _ (hzr ρ) (.cons _ _ _ _ (.bool false) .nil))
      · cases h1
    · cases hr
  · cases hr
theorem s_len {c : Call} (ho : oper.op = .call c) (hx : xop ty oper.op = some (.r p)) (hr : runR fr H p = some x) : Does P ρ a w oper x := by
  rw [ho] at hx
  simp only [xop, xcall, Option.bind_eq_bind, Option.bind_eq_some_iff] at hx
  obtain ⟨args, hargs, hx⟩ := hx
  obtain ⟨vs, hvs, hv⟩ := argsA hT hf c hargs
  obtain ⟨callee, cargs, ats⟩ := c
  cases callee with
  | value f => cases f <;> simp [Option.bind_eq_some_iff] at hx
  | invoke r m => simp at hx
  | builtin b =>
    cases b <;> simp only [reduceCtorEq, Option.pure_def, Option.some.injEq, XOp.p.injEq, Option.bind_eq_bind, Option.bind_eq_some_iff, false_and, and_false, exists_false] at hx
    case len =>
      split at hx
      · rename_i y
        simp only [Option.some.injEq, XOp.r.injEq, Option.bind_eq_bind, Option.bind_eq_some_iff, Option.pure_def] at hx
        obtain ⟨t, ht, k, ek, hx⟩ := hx
        subst hx
        cases hv with
        | cons _ v _ us h1 h2 =>
          cases h2
          obtain ⟨d, hd, hkd⟩ := k_fact hT ek
          simp only at hvs ht
          have ht' : ats[0]? = some t := ht
          have fin : ∀ m : Nat, (Builtin.len_ ats oper.type #[v]).run P w = .ok (goInt m) w → x = .int .i64 (.ofNat m) → Does P ρ a w oper x := by
            intro m hm hxm
            refine ⟨goInt m, ?_, by rw [hxm]; exact .int _ _⟩
            simp [execOp, ho, resolve, invoke, builtin, hvs, hm]
          simp only [runR] at hr
          unfold rLen at hr
          split at hr
          · rename_i b e1
            rw [e1] at h1
            obtain ⟨c, off, lim, rfl, hρ⟩ := h1.inv_map
            split at hr
            · rename_i es e2
              obtain rfl := Option.some.inj hr
              obtain ⟨b', off', lim', hρ', hO⟩ := hR.obj _ _ e2
              rw [hρ] at hρ'
              simp only [Option.some.injEq, Prod.mk.injEq] at hρ'
              obtain ⟨rfl, rfl, rfl⟩ := hρ'
              obtain ⟨en, clk, g1, g2, _⟩ := hO
              cases d <;> simp [kindOf] at hkd
              refine fin es.length ?_ (by rw [lenX_eq])
              simp [Builtin.len_, ht', und_run hd, getObj_run g1 (by simp), g2.len]
            · cases hr
          · rename_i e1
            rw [e1] at h1
            obtain rfl := Option.some.inj hr
            have : v = .map none := by cases h1; rfl
            subst this
            cases d <;> simp [kindOf] at hkd
            exact fin 0 (by simp [Builtin.len_, ht', und_run hd]) rfl
          · rename_i s e1
            rw [e1] at h1
            obtain rfl := Option.some.inj hr
            obtain ⟨u, rfl, hu⟩ := h1.inv_str
            cases d <;> simp [kindOf] at hkd
            exact fin u.size (by simp [Builtin.len_, ht', und_run hd]) (by rw [lenX_eq, ← hu, bytes_len])
          · rename_i e1
            rw [e1] at h1
            obtain rfl := Option.some.inj hr
            have : v = .slice none 0 0 := by cases h1; rfl
            subst this
            cases d <;> simp [kindOf] at hkd
            exact fin 0 (by simp [Builtin.len_, ht', und_run hd]) rfl
          · rename_i b o len cap es ex e1
            rw [e1] at h1
            obtain rfl := Option.some.inj hr
            obtain ⟨bl, off, lim, ad, c, rfl, _⟩ := h1.inv_slice
            cases d <;> simp [kindOf] at hkd
            exact fin len (by simp [Builtin.len_, ht', und_run hd]) rfl
          · cases hr
      · cases hx
    all_goals
      exfalso
      repeat' (first
        | (cases hx; done)
        | split at hx
        | (simp only [Option.bind_eq_bind, Option.bind_eq_some_iff, Option.pure_def] at hx; obtain ⟨_, _, hx⟩ := hx)
        | (simp at hx; done)
        | (obtain ⟨_, _, hx⟩ := hx))
theorem bytesOf_inv : ∀ {l : List XV} {us : List Value} {s : List Nat}, bytesOf l = some s → VRs ρ l us → ∃ ns : List Int, us = ns.map (Value.int .u8) ∧ (ns.map fun m => (UInt8.ofNat m.toNat).toNat) = s
  | [], _, s, h, .nil => by obtain rfl := Option.some.inj h; exact ⟨[], rfl, rfl⟩
  | y :: l, _, s, h, .cons _ v _ us hv ht => by
    have hy : ∃ m : Nat, y = .int .u8 (.ofNat m) := by
      unfold bytesOf at h
      split at h
      · rename_i e; cases e
      · rename_i e; injection e with e1 e2; exact ⟨_, e1⟩
      · cases h
    obtain ⟨m, rfl⟩ := hy
    simp only [bytesOf] at h
    cases e : bytesOf l with
    | none => rw [e] at h; cases h
    | some r =>
      rw [e] at h
      obtain rfl := Option.some.inj h
      obtain ⟨ns, rfl, hs⟩ := bytesOf_inv e ht
      obtain rfl := hv.inv_int
      refine ⟨(m : Int) :: ns, rfl, ?_⟩
      rw [List.map_cons, hs]
      congr 1
theorem s_convBS {s d e : TypeId} {o : Operand} {y : XA} (ho : oper.op = .convert s d o) (hy : xa o = some y) (hs : kOf ty s = some (.slice e)) (he : kOf ty e = some (.int .u8)) (hd : kOf ty d = some .str) (hr : runR fr H (.convBS y) = some x) : Does P ρ a w oper x := by
  have v := xa_sound hy hf
  simp only [runR] at hr
  unfold rConvBS at hr
  have hc : ∀ l cap ad, (convert s d (.slice ad l cap)).run P w = (Conv.bytesToString (.slice ad l cap)).run P w := fun l cap ad => run_convert_bytes_string w s d e ad l cap (k_slice hT hs) (k_int hT he) (k_str hT hd)
  split at hr
  · rename_i e1
    rw [e1] at v
    obtain rfl := Option.some.inj hr
    have : a.eval o = .slice none 0 0 := by generalize a.eval o = q at v; cases v; rfl
    refine ⟨.string .empty, ?_, .str _ _ rfl⟩
    simp only [execOp, ho, this, Sem.run_bind, hc]
    rfl
  · rename_i b oo len cap es ex e1
    rw [e1] at v
    obtain ⟨bl, off, lim, ad, c, hv, hρ, h1, h2, h3, h4⟩ := v.inv_slice
    obtain ⟨_, hr⟩ := bif_some hr
    split at hr
    · rename_i l e2
      cases e3 : bytesOf l with
      | none => rw [e3] at hr; cases hr
      | some sb =>
        rw [e3] at hr
        obtain rfl := Option.some.inj hr
        obtain ⟨us, hu, hvu⟩ := cellsB_run (P := P) hR hρ h1 h2 h3 h4 (m := len) id e2
        obtain ⟨ns, rfl, hns⟩ := bytesOf_inv hT hf hR e3 hvu
        refine ⟨.string (ns.foldl (fun r n => r.push (UInt8.ofNat n.toNat)) ByteArray.empty), ?_, ?_⟩
        · simp only [execOp, ho, hv, Sem.run_bind, hc, run_bytesToString w ad len c ns hu]
          rfl
        · refine .str _ _ ?_
          have : ∀ (ns : List Int) (s : ByteArray), (ns.foldl (fun r n => r.push (UInt8.ofNat n.toNat)) s).data.toList = s.data.toList ++ ns.map fun n => UInt8.ofNat n.toNat := by
            intro ns
            induction ns with
            | nil => intro s; simp
            | cons n ns ih => intro s; rw [List.foldl_cons, ih]; simp [ByteArray.push]
          rw [this, ← hns]
          simp
    · cases hr
  · cases hr
theorem runR_sound (hx : xop ty oper.op = some (.r p)) (hr : runR fr H p = some x) : Does P ρ a w oper x := by
  cases ho : oper.op with
  | load t o => exact s_load hT hf hR ho hx hr
  | call c => exact s_len hT hf hR ho hx hr
  | lookup t m k ok =>
    rw [ho] at hx
    simp only [xop] at hx
    split at hx
    · rename_i kt e hk
      split at hx
      · rename_i j hkk
        simp only [Option.bind_eq_bind, Option.bind_eq_some_iff, Option.pure_def, Option.some.injEq, XOp.r.injEq] at hx
        obtain ⟨z, hz, ym, hm, yk, hyk, rfl⟩ := hx
        exact lookup_run hT hf hR ho (k_map hT hk) (k_int hT hkk) (st := false) ⟨_, rfl⟩ hz hm hyk hr
      · rename_i hkk
        simp only [Option.bind_eq_bind, Option.bind_eq_some_iff, Option.pure_def, Option.some.injEq, XOp.r.injEq] at hx
        obtain ⟨z, hz, ym, hm, yk, hyk, rfl⟩ := hx
        exact lookup_run hT hf hR ho (k_map hT hk) (k_str hT hkk) (st := true) rfl hz hm hyk hr
      · cases hx
    · cases hx
  | convert s d o =>
    rw [ho] at hx
    simp only [xop] at hx
    split at hx
    · simp [Option.bind_eq_some_iff] at hx
    · simp [Option.bind_eq_some_iff] at hx
    · split at hx <;> simp [Option.bind_eq_some_iff] at hx
    · rename_i e hs hd
      split at hx
      · rename_i he
        simp only [Option.bind_eq_bind, Option.bind_eq_some_iff, Option.pure_def, Option.some.injEq, XOp.r.injEq] at hx
        obtain ⟨y, hy, rfl⟩ := hx
        exact s_convBS hT hf hR ho hy hs he hd hr
      · cases hx
    · cases hx
  | makeMap t r =>
    rw [ho] at hx
    cases r <;> simp [xop] at hx
  | next o b =>
    rw [ho] at hx
    cases b <;> simp [xop, Option.bind_eq_some_iff] at hx
  | makeFunc f fi ca =>
    rw [ho] at hx
    cases f <;> try (simp [xop] at hx; done)
    obtain ⟨fi⟩ := fi
    cases fi <;> simp [xop, Option.bind_eq_some_iff] at hx
  | _ =>
    exfalso
    rw [ho] at hx
    simp only [xop] at hx
    repeat' (first
      | (cases hx; done)
      | split at hx
      | (simp [Option.bind_eq_some_iff] at hx; done)
      | (simp only [Option.bind_eq_bind, Option.bind_eq_some_iff] at hx; obtain ⟨_, _, hx⟩ := hx)
      | (obtain ⟨_, _, hx⟩ := hx))
end
end Go.X
end
