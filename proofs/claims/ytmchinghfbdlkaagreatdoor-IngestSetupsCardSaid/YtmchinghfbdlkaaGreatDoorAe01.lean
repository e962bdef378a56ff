/- A part of the proof that the program's function answers true: lemmas (Core to Sim2) on carrying the program out over names of memory objects. No condition. -/
import Derived.OrdersIn
import Derived.RangeFuncLeaves
import Derived.KernelRfl
import Derived.Orders
import Derived.WalkKit
import Derived.Laws.Tables
import Derived.Laws.StructEq
import Derived.Laws.BytesString
import Derived.Laws.IdiomStrings
set_option linter.unusedVariables false
set_option linter.unusedSimpArgs false
namespace Go.Proofs.Ae
inductive Tr (α : Type) where
  | nil
  | node (v : Option α) (l r : Tr α)
noncomputable def Tr.get {α : Type} (t : Tr α) : Nat → Option α :=
  Tr.rec (motive := fun _ => Nat → Option α) (fun _ => none)
    (fun v _ _ gl gr n => Nat.rec (motive := fun _ => Option α) v (fun k _ => Bool.rec (motive := fun _ => Option α) (gr (k / 2)) (gl (k / 2)) (Nat.beq (k % 2) 0)) n) t
noncomputable def Tr.path {α : Type} (x : α) : Nat → Nat → Tr α :=
  Nat.rec (motive := fun _ => Nat → Tr α) (fun _ => .nil)
    (fun _ ih n => Nat.rec (motive := fun _ => Tr α) (.node (some x) .nil .nil)
      (fun k _ => Bool.rec (motive := fun _ => Tr α) (.node none .nil (ih (k / 2))) (.node none (ih (k / 2)) .nil) (Nat.beq (k % 2) 0)) n)
noncomputable def Tr.set {α : Type} (t : Tr α) (n : Nat) (x : α) : Tr α :=
  Tr.rec (motive := fun _ => Nat → Tr α) (fun n => Tr.path x (n.log2 + 2) n)
    (fun v l r sl sr n => Nat.rec (motive := fun _ => Tr α) (.node (some x) l r)
      (fun k _ => Bool.rec (motive := fun _ => Tr α) (.node v l (sr (k / 2))) (.node v (sl (k / 2)) r) (Nat.beq (k % 2) 0)) n) t n
inductive TD where
  | bool
  | int (k : IntKind)
  | string
  | pointer (e : TypeId)
  | slice (e : TypeId)
  | array (n : Nat) (e : TypeId)
  | map (k e : TypeId)
  | struct (fs : List (TypeId × Nat))
  | iface (methods : Bool)
  | func
  | other
structure TI where
  d : TD
  size : Nat
  bytes : Nat
  zero : Value
  comp : Bool
  eqs : Bool
inductive Mode where
  | exact
  | grow
  | ro
  deriving DecidableEq
inductive AObj where
  | cells (c : List Value) (m : Mode)
  | map (es : List (Value × Value))
  | loop (state : LoopState) (pending : Option Code) (fid : FuncId) (tmps : Tr Value) (params : List Tmp) (assign body : Code) (defers : Nat)
  | deferred (fresh : Bool)
  | dead
structure St where
  heap : Tr AObj
  next : Nat
  mods : List Nat
noncomputable def St.get (s : St) (id : Nat) : Option AObj := s.heap.get id
noncomputable def St.upd (s : St) (id : Nat) (o : AObj) : St := ⟨s.heap.set id o, s.next, id :: s.mods⟩
noncomputable def St.alloc (s : St) (o : AObj) : St := ⟨s.heap.set s.next o, s.next + 1, s.mods⟩
def cap0 : Nat := 1208925819614629174706176
inductive ADef where
  | call (f : FuncId) (args : List Value)
  | mark (id : Nat)
structure AA where
  tm : Tr Value
  df : List ADef
  rnd : Bool
  fid : FuncId
inductive AX where
  | normal
  | exit (id : Nat)
  | ret
inductive AR where
  | val (v : Value)
  | skip
  | enter (f : FuncId) (args : List Value)
  | defer (d : ADef)
  | round (l : Nat) (args : List Value)
abbrev RO := Option (AR × St)
abbrev Ex := Code → AA → St → Option (AX × AA × St)
structure Tb where
  ty : Tr TI
  fn : Tr Func
  nat : FuncId → Option (List Value → St → Option (Value × St))
  gl : Nat → Bool
def undefA : Value := .tuple #[]
noncomputable def tmA (tm : Tr Value) (t : Nat) : Value := Option.rec (motive := fun _ => Value) undefA (fun v => v) (tm.get t)
noncomputable def evO (tm : Tr Value) : Operand → Value
  | .tmp t => tmA tm t
  | .const v => v
  | .global g => .pointer (some ⟨g, 0, none⟩)
  | .func f => .func (.func f) #[] #[]
noncomputable def evL (tm : Tr Value) (l : List Operand) : List Value :=
  List.rec (motive := fun _ => List Value) [] (fun x _ ih => evO tm x :: ih) l
noncomputable def AA.put (a : AA) (dst : Option Tmp) (v : Value) : AA :=
  match dst with
  | none => a
  | some d => ⟨a.tm.set d v, a.df, a.rnd, a.fid⟩
def oneV : Value → Bool
  | .agg _ => false
  | .tuple _ => false
  | _ => true
noncomputable def allOne (l : List Value) : Bool := List.rec (motive := fun _ => Bool) true (fun v _ ih => Bool.rec (motive := fun _ => Bool) false ih (oneV v)) l
noncomputable def takeX : List Value → Nat → Option (List Value) := fun l =>
  List.rec (motive := fun _ => Nat → Option (List Value)) (fun n => Nat.rec (motive := fun _ => Option (List Value)) (some []) (fun _ _ => none) n)
    (fun v _ ih n => Nat.rec (motive := fun _ => Option (List Value)) (some []) (fun k _ => Option.rec (motive := fun _ => Option (List Value)) none (fun r => some (v :: r)) (ih k)) n) l
noncomputable def dropX : List Value → Nat → List Value := fun l =>
  List.rec (motive := fun _ => Nat → List Value) (fun _ => [])
    (fun v t ih n => Nat.rec (motive := fun _ => List Value) (v :: t) (fun k _ => ih k) n) l
noncomputable def cellsOf (n off : Nat) : Option AObj → Option (List Value)
  | some (.cells c _) => takeX (dropX c off) n
  | _ => none
noncomputable def cellsAt (s : St) (a : Addr) (n : Nat) : Option (List Value) :=
  match a.spot with
  | some _ => none
  | none => cellsOf n a.off (s.get a.block)
noncomputable def putX : List Value → Nat → List Value → Option (List Value) := fun l =>
  List.rec (motive := fun _ => Nat → List Value → Option (List Value))
    (fun n vs => Nat.rec (motive := fun _ => Option (List Value)) (List.rec (motive := fun _ => Option (List Value)) (some []) (fun _ _ _ => none) vs) (fun _ _ => none) n)
    (fun v t ih n vs => Nat.rec (motive := fun _ => Option (List Value))
      (List.rec (motive := fun _ => Option (List Value)) (some (v :: t)) (fun u us _ => Option.rec (motive := fun _ => Option (List Value)) none (fun r => some (u :: r)) (ih 0 us)) vs)
      (fun k _ => Option.rec (motive := fun _ => Option (List Value)) none (fun r => some (v :: r)) (ih k vs)) n) l
noncomputable def storeO (s : St) (id off : Nat) (vs : List Value) : Option AObj → Option St
  | some (.cells c m) => match m with
    | .ro => none
    | _ => bif allOne vs then
        match putX c off vs with
        | some c' => some (s.upd id (.cells c' m))
        | none => none
      else none
  | _ => none
noncomputable def storeAt (s : St) (a : Addr) (vs : List Value) : Option St :=
  match a.spot with
  | some _ => none
  | none => storeO s a.block a.off vs (s.get a.block)
def isAggT : TD → Bool
  | .struct _ => true
  | .array _ _ => true
  | _ => false
def isOther : TD → Bool
  | .other => true
  | _ => false
def aggO : Option (List Value) → Option Value
  | some l => some (.agg l.toArray)
  | none => none
def oneO : Option (List Value) → Option Value
  | some [v] => some v
  | _ => none
noncomputable def loadT (ti : TI) (s : St) (a : Addr) : Option Value :=
  bif isOther ti.d then none else
  bif isAggT ti.d then aggO (cellsAt s a ti.size) else oneO (cellsAt s a 1)
noncomputable def partT (ti : TI) (cs : List Value) (off : Nat) : Option Value :=
  bif isOther ti.d then none else
  bif isAggT ti.d then aggO (takeX (dropX cs off) ti.size) else oneO (takeX (dropX cs off) 1)
def addA (a : Addr) (n : Nat) : Addr := match n with
  | 0 => a
  | k + 1 => ⟨a.block, a.off + (k + 1), none⟩
def kmax (k : IntKind) : Nat :=
  match k with
  | .i8 => 127
  | .i16 => 32767
  | .i32 => 2147483647
  | .i64 => 9223372036854775807
  | .u8 => 255
  | .u16 => 65535
  | .u32 => 4294967295
  | .u64 => 18446744073709551615
def wrapN (k : IntKind) (n : Nat) : Int := bif Nat.ble n (kmax k) then .ofNat n else k.wrap (.ofNat n)
def addI (k : IntKind) (a b : Int) : Int :=
  match a, b with
  | .ofNat x, .ofNat y => wrapN k (x + y)
  | _, _ => k.wrap (a + b)
def subI (k : IntKind) (a b : Int) : Int :=
  match a, b with
  | .ofNat x, .ofNat y => bif Nat.ble y x then wrapN k (x - y) else k.wrap (a - b)
  | _, _ => k.wrap (a - b)
def mulI (k : IntKind) (a b : Int) : Int :=
  match a, b with
  | .ofNat x, .ofNat y => wrapN k (x * y)
  | _, _ => k.wrap (a * b)
def bitI (k : IntKind) (f : Nat → Nat → Nat) (g : BitVec k.bits → BitVec k.bits → BitVec k.bits) (a b : Int) : Int :=
  match a, b with
  | .ofNat x, .ofNat y => bif Nat.ble x (kmax k) && Nat.ble y (kmax k) then .ofNat (f x y) else k.wrap (g (BitVec.ofInt k.bits a) (BitVec.ofInt k.bits b)).toNat
  | _, _ => k.wrap (g (BitVec.ofInt k.bits a) (BitVec.ofInt k.bits b)).toNat
def eqI (a b : Int) : Bool :=
  match a, b with
  | .ofNat x, .ofNat y => Nat.beq x y
  | _, _ => a == b
def ltI (a b : Int) : Bool :=
  match a, b with
  | .ofNat x, .ofNat y => Nat.ble (x + 1) y
  | _, _ => decide (a < b)
def shlI (k : IntKind) (a b : Int) : Int :=
  match a, b with
  | .ofNat x, .ofNat y => wrapN k (x * 2 ^ (min y k.bits))
  | _, _ => k.wrap (a * 2 ^ (min b.toNat k.bits))
def shrI (k : IntKind) (a b : Int) : Int :=
  match a, b with
  | .ofNat x, .ofNat y => .ofNat (x / 2 ^ (min y k.bits))
  | _, _ => a.fdiv (2 ^ (min b.toNat k.bits))
def negB (b : Int) : Bool :=
  match b with
  | .ofNat _ => false
  | .negSucc _ => true
def zeroB (b : Int) : Bool :=
  match b with
  | .ofNat n => Nat.beq n 0
  | .negSucc _ => false
def quoI (k : IntKind) (a b : Int) : Int :=
  match a, b with
  | .ofNat x, .ofNat y => wrapN k (x / y)
  | _, _ => k.wrap (a.tdiv b)
def remI (a b : Int) : Int :=
  match a, b with
  | .ofNat x, .ofNat y => .ofNat (x % y)
  | _, _ => a.tmod b
def strEq (a b : ByteArray) : Bool := a.data.toList == b.data.toList
def strLt (a b : ByteArray) : Bool := Op.bytesLess a.data.toList b.data.toList
def boolO : Option Bool → Option Value
  | some b => some (.bool b)
  | none => none
def notO : Option Bool → Option Value
  | some b => some (.bool !b)
  | none => none
noncomputable def fieldsEq (T : Tr TI) (eq : TypeId → Value → Value → Option Bool) (xs ys : List Value) (fs : List (TypeId × Nat)) : Option Bool :=
  List.rec (motive := fun _ => Option Bool) (some true) (fun f _ ih =>
    match T.get f.1 with
    | none => none
    | some tf =>
      match partT tf xs f.2, partT tf ys f.2 with
      | some u, some v =>
        match eq f.1 u v with
        | some true => ih
        | some false => some false
        | none => none
      | _, _ => none) fs
noncomputable def eqStep (T : Tr TI) (eq : TypeId → Value → Value → Option Bool) (ti : TI) (x y : Value) : Option Bool :=
  match ti.d, x, y with
  | .bool, .bool a, .bool b => some (a == b)
  | .int _, .int k a, .int k' b => bif decide (k = k') then some (eqI a b) else none
  | .string, .string a, .string b => some (strEq a b)
  | .pointer _, .pointer none, .pointer b => some b.isNone
  | .pointer _, .pointer _, .pointer none => some false
  | .iface _, .nilIface, .iface _ _ => some false
  | .iface _, .iface _ _, .nilIface => some false
  | .iface _, .iface tx vx, .iface ty vy =>
    bif Nat.beq tx ty then
      match T.get tx with
      | some ux => bif ux.comp then eq tx vx vy else none
      | none => none
    else some false
  | .struct fs, .agg xs, .agg ys => bif ti.eqs then fieldsEq T eq xs.toList ys.toList fs else none
  | .slice _, .slice none _ _, .slice b _ _ => some b.isNone
  | .slice _, .slice _ _ _, .slice none _ _ => some false
  | .map _ _, .map none, .map b => some b.isNone
  | .map _ _, .map _, .map none => some false
  | .func, .nilFunc, .nilFunc => some true
  | .func, .nilFunc, .func _ _ _ => some false
  | .func, .func _ _ _, .nilFunc => some false
  | _, _, _ => none
noncomputable def eqV (T : Tr TI) : Nat → TypeId → Value → Value → Option Bool :=
  Nat.rec (motive := fun _ => TypeId → Value → Value → Option Bool) (fun _ _ _ => none)
    (fun _ ih t x y => match T.get t with
      | none => none
      | some ti => eqStep T ih ti x y)
def eqObj (a b : Addr) : Option AObj → Option AObj → Option Bool
  | some (.cells ca .exact), some (.cells cb .exact) =>
    bif Nat.beq a.block b.block then some (Nat.beq a.off b.off)
    else bif Nat.ble ca.length a.off || Nat.ble cb.length b.off then none else some false
  | _, _ => none
noncomputable def eqPtrE (T : Tr TI) (s : St) (e : TypeId) (a b : Addr) : Option Bool :=
  match T.get e with
  | some te => bif Nat.beq te.size 0 then none else
    match a.spot, b.spot with
    | none, none => eqObj a b (s.get a.block) (s.get b.block)
    | _, _ => none
  | none => none
noncomputable def eqPtr (T : Tr TI) (s : St) (t : TypeId) (a b : Addr) : Option Bool :=
  match T.get t with
  | some ti => match ti.d with
    | .pointer e => eqPtrE T s e a b
    | _ => none
  | none => none
def intA (op : BinOp) (k : IntKind) (a b : Int) : Option Value :=
  match op with
  | .add => some (.int k (addI k a b))
  | .sub => some (.int k (subI k a b))
  | .mul => some (.int k (mulI k a b))
  | .quo => bif zeroB b then none else some (.int k (quoI k a b))
  | .rem => bif zeroB b then none else some (.int k (remI a b))
  | .and => some (.int k (bitI k Nat.land (· &&& ·) a b))
  | .or => some (.int k (bitI k Nat.lor (· ||| ·) a b))
  | .xor => some (.int k (bitI k Nat.xor (· ^^^ ·) a b))
  | .andNot => some (.int k (k.wrap (BitVec.ofInt k.bits a &&& ~~~(BitVec.ofInt k.bits b)).toNat))
  | .eql => some (.bool (eqI a b))
  | .neq => some (.bool (!(eqI a b)))
  | .lss => some (.bool (ltI a b))
  | .leq => some (.bool (!(ltI b a)))
  | .gtr => some (.bool (ltI b a))
  | .geq => some (.bool (!(ltI a b)))
  | .shl => bif negB b then none else some (.int k (shlI k a b))
  | .shr => bif negB b then none else some (.int k (shrI k a b))
def strA (op : BinOp) (a b : ByteArray) : Option Value :=
  match op with
  | .add => bif Nat.ble (a.data.toList.length + b.data.toList.length) 9223372036854775807 then some (.string ⟨(a.data.toList ++ b.data.toList).toArray⟩) else none
  | .eql => some (.bool (strEq a b))
  | .neq => some (.bool !(strEq a b))
  | .lss => some (.bool (strLt a b))
  | .leq => some (.bool (strLt a b || strEq a b))
  | .gtr => some (.bool !(strLt a b || strEq a b))
  | .geq => some (.bool !(strLt a b))
  | _ => none
def isConstO : Operand → Bool
  | .const _ => true
  | _ => false
def shiftB : BinOp → Bool
  | .shl => true
  | .shr => true
  | _ => false
def ifaceD : TD → Bool
  | .iface _ => true
  | _ => false
noncomputable def ifaceT (T : Tr TI) (t : TypeId) : Bool :=
  match T.get t with
  | some ti => ifaceD ti.d
  | none => false
noncomputable def eqA (T : Tr TI) (s : St) (xt : TypeId) (xo yo : Operand) (x y : Value) : Option Bool :=
  match x, y with
  | .pointer (some a), .pointer (some b) => eqPtr T s xt a b
  | .nilIface, .nilIface => bif (isConstO xo || isConstO yo) && ifaceT T xt then some true else none
  | _, _ => eqV T 40 xt x y
noncomputable def binA (T : Tr TI) (s : St) (op : BinOp) (xt : TypeId) (xo yo : Operand) (x y : Value) : Option Value :=
  match x, y with
  | .int k a, .int k' b => bif decide (k = k') || shiftB op then intA op k a b else none
  | .string a, .string b => strA op a b
  | _, _ => match op with
    | .eql => boolO (eqA T s xt xo yo x y)
    | .neq => notO (eqA T s xt xo yo x y)
    | _ => none
def unA (op : UnOp) (x : Value) : Option Value :=
  match op, x with
  | .neg, .int k n => some (.int k (k.wrap (0 - n)))
  | .xor, .int k n => some (.int k (k.wrap (BitVec.ofInt k.bits (if k.signed then -1 else k.max) ^^^ BitVec.ofInt k.bits n).toNat))
  | .not, .bool b => some (.bool !b)
  | _, _ => none
def boundA (x : Value) (y : Nat) : Option Nat :=
  match x with
  | .int _ i => match i with
    | .ofNat n => bif Nat.ble n y then some n else none
    | .negSucc _ => none
  | _ => none
noncomputable def optO (tm : Tr Value) : Option Operand → Option Value
  | none => none
  | some o => some (evO tm o)
def lowA (lo : Option Value) (h : Nat) : Option Nat :=
  match lo with
  | some l => boundA l h
  | none => some 0
def highA (hi : Option Value) (d y : Nat) : Option Nat :=
  match hi with
  | some h => boundA h y
  | none => some d
noncomputable def sliceG (s : St) (sz : Nat) (a : Addr) (len cap : Nat) (lo hi mx : Option Value) : Option (Value × St) :=
  match mx with
  | some m =>
    match boundA m len, hi with
    | some m, some h =>
      match boundA h m with
      | some h =>
        match lowA lo h with
        | some l => bif (Nat.beq m l && !(Nat.beq l 0)) || Nat.ble cap0 (m - l) then none else some (.slice (some (addA a (l * sz))) (h - l) (m - l), s)
        | none => none
      | none => none
    | _, _ => none
  | none =>
    match highA hi len len with
    | some h =>
      match lowA lo h with
      | some l =>
        bif Nat.beq l 0 then some (.slice (some a) h cap, s)
        else bif Nat.beq l len then some (.slice (some ⟨s.next, 0, none⟩) 0 cap, s.alloc (.cells [] .ro))
        else some (.slice (some (addA a (l * sz))) (h - l) cap, s)
      | none => none
    | none => none
def sliceE (s : St) (sz : Nat) (a : Option Addr) (len cap : Nat) (lo hi mx : Option Value) : Option (Value × St) :=
  match highA mx cap cap with
  | some m =>
    match hi, mx with
    | none, some _ => none
    | _, _ =>
      match highA hi len m with
      | some h =>
        match lowA lo h with
        | some l => some (.slice (bif Nat.beq m l then a else a.map fun a => addA a (l * sz)) (h - l) (m - l), s)
        | none => none
      | none => none
  | none => none
noncomputable def sliceS (s : St) (sz : Nat) (a : Option Addr) (len cap : Nat) (lo hi mx : Option Value) : Option (Value × St) :=
  bif Nat.ble cap0 cap then
    match a with
    | none => none
    | some a => bif Nat.beq cap (cap0 + sz) && a.spot.isNone then sliceG s sz a len cap lo hi mx else none
  else sliceE s sz a len cap lo hi mx
noncomputable def appG (s : St) (sz : Nat) (a : Addr) (len cap n : Nat) (xs : List Value) : Option AObj → Option (Value × St)
  | some (.cells c .grow) =>
    match putX c (a.off + len * sz) xs with
    | some c' => some (.slice (some a) (len + n) cap, s.upd a.block (.cells c' .grow))
    | none =>
      bif Nat.beq a.off 0 then
        match takeX c (len * sz) with
        | some old => some (.slice (some ⟨s.next, 0, none⟩) (len + n) cap, (s.upd a.block .dead).alloc (.cells (old ++ xs) .grow))
        | none => none
      else none
  | _ => none
noncomputable def appendG (s : St) (sz : Nat) (a : Option Addr) (len cap n : Nat) (xs : List Value) : Option (Value × St) :=
  match a with
  | none => none
  | some a => match a.spot with
    | none => bif Nat.beq cap (cap0 + sz) then appG s sz a len cap n xs (s.get a.block) else none
    | some _ => none
noncomputable def oldCells (s : St) (a : Option Addr) (n : Nat) : Option (List Value) :=
  match a with
  | none => bif Nat.beq n 0 then some [] else none
  | some a => cellsAt s a n
noncomputable def appendE (s : St) (sz : Nat) (a : Option Addr) (len cap n : Nat) (xs : List Value) : Option (Value × St) :=
  bif Nat.ble (len + n) cap then
    match a with
    | none => none
    | some ad =>
      match storeAt s (addA ad (len * sz)) xs with
      | some s' => some (.slice a (len + n) cap, s')
      | none => none
  else
    match oldCells s a (len * sz) with
    | some old => some (.slice (some ⟨s.next, 0, none⟩) (len + n) (cap0 + sz), s.alloc (.cells (old ++ xs) .grow))
    | none => none
noncomputable def appendS (s : St) (sz bytes : Nat) (a : Option Addr) (len cap n : Nat) (xs : List Value) : Option (Value × St) :=
  bif Nat.ble ((len + n) * bytes) 140737488355328 && allOne xs && Nat.ble 1 sz && Nat.ble 1 bytes && Nat.beq xs.length (n * sz) then
    bif Nat.beq n 0 then (bif (bif Nat.ble cap0 cap then Nat.ble (cap0 + 1) cap else Nat.ble len cap) then some (.slice a len cap, s) else none)
    else bif Nat.ble cap0 cap then appendG s sz a len cap n xs else appendE s sz a len cap n xs
  else none
noncomputable def bytesV (b : List UInt8) : List Value := List.rec (motive := fun _ => List Value) [] (fun c _ ih => .int .u8 c.toNat :: ih) b
def byteOf : Value → Option UInt8
  | .int .u8 n => some (UInt8.ofNat n.toNat)
  | _ => none
noncomputable def strOf (l : List Value) : Option (List UInt8) :=
  List.rec (motive := fun _ => Option (List UInt8)) (some []) (fun v _ ih => match byteOf v with
    | some c => match ih with
      | some r => some (c :: r)
      | none => none
    | none => none) l
def keyEq : Value → Value → Option Bool
  | .int k a, .int k' b => bif decide (k = k') then some (eqI a b) else none
  | .string a, .string b => some (strEq a b)
  | _, _ => none
noncomputable def findA (k : Value) (es : List (Value × Value)) : Option (Option Value) :=
  List.rec (motive := fun _ => Option (Option Value)) (some none) (fun e _ ih => match keyEq k e.1 with
    | some true => some (some e.2)
    | some false => ih
    | none => none) es
noncomputable def setA (k v : Value) (es : List (Value × Value)) : Option (List (Value × Value)) :=
  List.rec (motive := fun _ => Option (List (Value × Value))) (some [(k, v)]) (fun e l ih => match keyEq k e.1 with
    | some true => some ((k, v) :: l)
    | some false => match ih with
      | some r => some (e :: r)
      | none => none
    | none => none) es
noncomputable def delA (k : Value) (es : List (Value × Value)) : Option (List (Value × Value)) :=
  List.rec (motive := fun _ => Option (List (Value × Value))) (some []) (fun e l ih => match keyEq k e.1 with
    | some true => some l
    | some false => match ih with
      | some r => some (e :: r)
      | none => none
    | none => none) es
def keyFit : TD → Value → Bool
  | .int _, .int _ _ => true
  | .string, .string _ => true
  | _, _ => false
noncomputable def keyT (T : Tr TI) (t : TypeId) (k : Value) : Bool :=
  match T.get t with
  | some ti => keyFit ti.d k
  | none => false
noncomputable def fillA (sz : Nat → Option (Nat × Nat)) (ps : List (Nat × Value)) : List Value → Option (List Value) :=
  List.rec (motive := fun _ => List Value → Option (List Value)) (fun c => some c) (fun p _ ih c =>
    match sz p.1 with
    | none => none
    | some (off, n) =>
      bif Nat.beq p.2.cells.toList.length n then
        match putX c off p.2.cells.toList with
        | some c' => ih c'
        | none => none
      else none) ps
noncomputable def evP (tm : Tr Value) (l : List (Nat × Operand)) : List (Nat × Value) :=
  List.rec (motive := fun _ => List (Nat × Value)) [] (fun p _ ih => (p.1, evO tm p.2) :: ih) l
def valO (s : St) : Option Value → RO
  | some v => some (.val v, s)
  | none => none
def valS : Option (Value × St) → RO
  | some (v, s) => some (.val v, s)
  | none => none
def skipO : Option St → RO
  | some s => some (.skip, s)
  | none => none
noncomputable def repl (z : List Value) (n : Nat) : List Value := Nat.rec (motive := fun _ => List Value) [] (fun _ ih => z ++ ih) n
noncomputable def lenObj (s : St) : Option AObj → RO
  | some (.map es) => some (.val (.int .i64 es.length), s)
  | _ => none
noncomputable def lenA (s : St) (d : TD) (x : Value) : RO :=
  match d, x with
  | .string, .string b => some (.val (.int .i64 b.data.toList.length), s)
  | .array n _, _ => some (.val (.int .i64 n), s)
  | .slice _, .slice _ n _ => some (.val (.int .i64 n), s)
  | .map _ _, .map none => some (.val (.int .i64 0), s)
  | .map _ _, .map (some r) => lenObj s (s.get r)
  | _, _ => none
noncomputable def appendA (s : St) (te : TI) (d : TD) (a : Option Addr) (len cap : Nat) (x : Value) : RO :=
  match d, x with
  | .slice _, .slice none m _ => bif Nat.beq m 0 then valS (appendS s te.size te.bytes a len cap 0 []) else none
  | .slice _, .slice (some b) m _ =>
    match cellsAt s b (m * te.size) with
    | none => none
    | some xs => valS (appendS s te.size te.bytes a len cap m xs)
  | .string, .string str => valS (appendS s te.size te.bytes a len cap str.data.toList.length (bytesV str.data.toList))
  | .int _, .int .i64 (.ofNat n) => bif Nat.ble n 1048576 then valS (appendS s te.size te.bytes a len cap n (repl te.zero.cells.toList n)) else none
  | _, _ => none
noncomputable def elemA (T : Tr TI) (t : Option TypeId) : Option TI :=
  match t with
  | none => none
  | some t => match T.get t with
    | none => none
    | some ti => match ti.d with
      | .slice e => T.get e
      | _ => none
noncomputable def copyTo (s : St) (n : Nat) (a : Option Addr) : Option (List Value) → RO
  | none => none
  | some xs => match xs, a with
    | [], _ => some (.val (.int .i64 n), s)
    | _, none => none
    | xs, some a => match storeAt s a xs with
      | some s' => some (.val (.int .i64 n), s')
      | none => none
noncomputable def copyA (s : St) (te : TI) (a : Option Addr) (len : Nat) (x : Value) : RO :=
  match x with
  | .slice none m _ => bif Nat.beq m 0 then some (.val (.int .i64 0), s) else none
  | .slice (some b) m _ => copyTo s (min m len) a (cellsAt s b (min m len * te.size))
  | .string str => copyTo s (min str.data.toList.length len) a (takeX (bytesV str.data.toList) (min str.data.toList.length len))
  | _ => none
noncomputable def delObj (s : St) (r : Nat) (k : Value) : Option AObj → RO
  | some (.map es) => match delA k es with
    | some es' => some (.val (.tuple #[]), s.upd r (.map es'))
    | none => none
  | _ => none
noncomputable def tyD (T : Tr TI) (t : Option TypeId) : TD :=
  match t with
  | none => .other
  | some t => match T.get t with
    | none => .other
    | some ti => ti.d
def minI (a b : Int) : Int := bif ltI b a then b else a
def maxI (a b : Int) : Int := bif ltI a b then b else a
noncomputable def builtinA (T : Tr TI) (s : St) (b : Builtin) (ats : List TypeId) (args : List Value) : RO :=
  match b with
  | .len => match args with
    | [x] => lenA s (tyD T ats.head?) x
    | _ => none
  | .cap => match args with
    | [.slice _ _ c] => bif Nat.ble cap0 c then none else match tyD T ats.head? with
      | .slice _ => some (.val (.int .i64 c), s)
      | _ => none
    | _ => none
  | .append => match args with
    | [.slice a len cap, x] => match elemA T ats.head? with
      | some te => appendA s te (tyD T ats.tail.head?) a len cap x
      | none => none
    | _ => none
  | .copy => match args with
    | [.slice a len _, x] => match elemA T ats.head? with
      | some te => copyA s te a len x
      | none => none
    | _ => none
  | .min => match args with
    | [.int k a, .int _ b] => some (.val (.int k (minI a b)), s)
    | _ => none
  | .max => match args with
    | [.int k a, .int _ b] => some (.val (.int k (maxI a b)), s)
    | _ => none
  | .delete => match args with
    | [.map (some r), k] => match tyD T ats.head? with
      | .map kt _ => bif keyT T kt k then delObj s r k (s.get r) else none
      | _ => none
    | _ => none
  | _ => none
noncomputable def callV (s : St) (args : List Value) (f : Value) : RO :=
  match f with
  | .func (.func g) first cap => some (.enter g (first.toList ++ args ++ cap.toList), s)
  | .func (.yield l) first cap => match first.toList, cap.toList with
    | [], [] => some (.round l args, s)
    | _, _ => none
  | _ => none
noncomputable def callA (T : Tr TI) (s : St) (c : Call) (tm : Tr Value) : RO :=
  match c.callee with
  | .builtin b => builtinA T s b c.argTypes.toList (evL tm c.args.toList)
  | .invoke _ _ => none
  | .value f => callV s (evL tm c.args.toList) (evO tm f)
def pickA (s : St) (c a b : Value) : RO :=
  match c with
  | .bool true => some (.val a, s)
  | .bool false => some (.val b, s)
  | _ => none
noncomputable def newA (s : St) (l : List Value) : RO := some (.val (.pointer (some ⟨s.next, 0, none⟩)), s.alloc (.cells l .exact))
noncomputable def allocA (s : St) : Option TI → RO
  | some ti => newA s ti.zero.cells.toList
  | none => none
noncomputable def fieldAt (T : Tr TI) (fs : List (TypeId × Nat)) (i : Nat) : Option (Nat × Nat) :=
  match fs[i]? with
  | none => none
  | some f => match T.get f.1 with
    | none => none
    | some tf => some (f.2, tf.size)
noncomputable def buildA (T : Tr TI) (s : St) (ps : List (Nat × Value)) : Option TI → RO
  | none => none
  | some ti => match ti.d with
    | .struct fs => valO s (aggO (fillA (fieldAt T fs) ps ti.zero.cells.toList))
    | .array _ e => match T.get e with
      | none => none
      | some te => valO s (aggO (fillA (fun i => some (i * te.size, te.size)) ps ti.zero.cells.toList))
    | _ => none
noncomputable def buildSliceA (s : St) (len : Nat) (ps : List (Nat × Value)) : Option TI → RO
  | none => none
  | some te =>
    bif Nat.ble (len * te.size) 16777216 && Nat.beq te.zero.cells.toList.length te.size && Nat.ble len 16777216 then
      match fillA (fun i => some (i * te.size, te.size)) ps (repl te.zero.cells.toList len) with
      | some l => some (.val (.slice (some ⟨s.next, 0, none⟩) len len), s.alloc (.cells l .exact))
      | none => none
    else none
noncomputable def loadA (s : St) (a : Value) : Option TI → RO
  | none => none
  | some ti => match a with
    | .pointer (some a) => valO s (loadT ti s a)
    | _ => none
noncomputable def storeA (s : St) (a v : Value) : Option TI → RO
  | none => none
  | some ti => match a with
    | .pointer (some a) => bif Nat.beq v.cells.toList.length ti.size then skipO (storeAt s a v.cells.toList) else none
    | _ => none
def nilA (s : St) (x : Value) : RO :=
  match x with
  | .pointer (some a) => some (.val (.pointer (some a)), s)
  | .func (.func f) a b => some (.val (.func (.func f) a b), s)
  | .func (.yield f) a b => some (.val (.func (.yield f) a b), s)
  | _ => none
def isU8 : Option TI → Bool
  | some ti => match ti.d with
    | .int .u8 => true
    | _ => false
  | none => false
noncomputable def toStr (s : St) (o : Option (List Value)) : RO :=
  match o with
  | some l => match strOf l with
    | some r => some (.val (.string ⟨r.toArray⟩), s)
    | none => none
  | none => none
noncomputable def sameA (s : St) (a : Addr) (n c : Nat) : Option AObj → RO
  | some (.cells l .exact) => bif Nat.beq a.off 0 && Nat.beq n l.length && Nat.beq c l.length && a.spot.isNone && !(Nat.ble cap0 c) then
      some (.val (.slice (some ⟨s.next, 0, none⟩) n (cap0 + 1)), (s.upd a.block .dead).alloc (.cells l .grow))
    else none
  | _ => none
noncomputable def convA (T : Tr TI) (s : St) (same : Bool) (ts td : TD) (x : Value) : RO :=
  match ts, td with
  | .slice _, .slice e => bif same && isU8 (T.get e) then
      match x with
      | .slice (some a) n c => sameA s a n c (s.get a.block)
      | _ => none
    else none
  | .int _, .int k => match x with
    | .int _ n => some (.val (.int k (k.wrap n)), s)
    | _ => none
  | .string, .string => match x with
    | .string b => some (.val (.string b), s)
    | _ => none
  | .string, .slice e => match x with
    | .string b => bif isU8 (T.get e) then some (.val (.slice (some ⟨s.next, 0, none⟩) b.data.toList.length (cap0 + 1)), s.alloc (.cells (bytesV b.data.toList) .grow)) else none
    | _ => none
  | .slice e, .string => bif isU8 (T.get e) then
      match x with
      | .slice none _ _ => some (.val (.string ⟨#[]⟩), s)
      | .slice (some a) n _ => toStr s (cellsAt s a n)
      | _ => none
    else none
  | _, _ => none
noncomputable def mkIfaceA (s : St) (t : TypeId) (x : Value) : Option TI → RO
  | some ti => match ti.d with
    | .iface _ => none
    | .other => none
    | _ => some (.val (.iface t x), s)
  | none => none
noncomputable def mkFuncA (tm : Tr Value) (s : St) (fn : Fn) (first cap : List Operand) : RO :=
  match fn with
  | .func f => some (.val (.func (.func f) (evL tm first).toArray (evL tm cap).toArray), s)
  | _ => none
noncomputable def mkSliceA (s : St) (l c : Value) : Option TI → RO
  | none => none
  | some te => match l, c with
    | .int .i64 (.ofNat l), .int .i64 (.ofNat c) =>
      bif Nat.ble l c && Nat.ble (te.bytes * c) 140737488355328 && Nat.ble 1 te.bytes && Nat.beq te.zero.cells.toList.length te.size then
        some (.val (.slice (some ⟨s.next, 0, none⟩) l c), s.alloc (.cells (repl te.zero.cells.toList c) .exact))
      else none
    | _, _ => none
noncomputable def substrA (s : St) (b : ByteArray) (lo hi : Option Value) : RO :=
  match highA hi b.data.toList.length b.data.toList.length with
  | some h => match lowA lo h with
    | some l => some (.val (.string ⟨((b.data.toList.drop l).take (h - l)).toArray⟩), s)
    | none => none
  | none => none
noncomputable def sliceA (T : Tr TI) (s : St) (x : Value) (lo hi mx : Option Value) : Option TI → RO
  | none => none
  | some ti => match ti.d, x with
    | .slice e, .slice a len cap => match T.get e with
      | some te => bif Nat.ble 1 te.size then valS (sliceS s te.size a len cap lo hi mx) else none
      | none => none
    | .array n e, .pointer (some a) => match T.get e with
      | some te => bif Nat.ble cap0 n then none else valS (sliceE s te.size (some a) n n lo hi mx)
      | none => none
    | .string, .string b => match mx with
      | some _ => none
      | none => substrA s b lo hi
    | _, _ => none
noncomputable def fieldAddrA (T : Tr TI) (s : St) (x : Value) (f : Nat) : Option TI → RO
  | none => none
  | some ti => match ti.d, x with
    | .struct fs, .pointer (some a) => match fieldAt T fs f with
      | some (off, n) => bif Nat.beq n 0 then none else some (.val (.pointer (some (addA a off))), s)
      | none => none
    | _, _ => none
noncomputable def fieldA (T : Tr TI) (s : St) (x : Value) (f : Nat) : Option TI → RO
  | none => none
  | some ti => match ti.d, x with
    | .struct fs, .agg cs => match fs[f]? with
      | some f => match T.get f.1 with
        | some tf => valO s (partT tf cs.toList f.2)
        | none => none
      | none => none
    | _, _ => none
noncomputable def idxTo (s : St) (a : Addr) (i : Int) (n : Nat) : Option TI → RO
  | some te => match i with
    | .ofNat i => bif Nat.ble (i + 1) n then some (.val (.pointer (some (addA a (i * te.size)))), s) else none
    | .negSucc _ => none
  | none => none
noncomputable def indexAddrA (T : Tr TI) (s : St) (x i : Value) : Option TI → RO
  | none => none
  | some ti => match i with
    | .int _ i => match ti.d, x with
      | .array n e, .pointer (some a) => idxTo s a i n (T.get e)
      | .slice e, .slice (some a) n _ => idxTo s a i n (T.get e)
      | _, _ => none
    | _ => none
noncomputable def indexA (T : Tr TI) (s : St) (x i : Value) : Option TI → RO
  | none => none
  | some ti => match i with
    | .int _ i => match ti.d, x with
      | .array n e, .agg cs => match T.get e with
        | some te => match i with
          | .ofNat i => bif Nat.ble (i + 1) n then valO s (partT te cs.toList (i * te.size)) else none
          | .negSucc _ => none
        | none => none
      | .string, .string b =>
        match i with
        | .ofNat i => match b.data.toList[i]? with
          | some c => some (.val (.int .u8 c.toNat), s)
          | none => none
        | .negSucc _ => none
      | _, _ => none
    | _ => none
noncomputable def foundA (s : St) (ok : Bool) (z : Value) : Option (Option Value) → RO
  | some (some v) => some (.val (bif ok then .tuple #[v, .bool true] else v), s)
  | some none => some (.val (bif ok then .tuple #[z, .bool false] else z), s)
  | none => none
noncomputable def findObj (k : Value) : Option AObj → Option (Option Value)
  | some (.map es) => findA k es
  | _ => none
noncomputable def lookupA (T : Tr TI) (s : St) (x i : Value) (ok : Bool) : Option TI → RO
  | none => none
  | some ti => match ti.d with
    | .map kt et => bif keyT T kt i then
        match T.get et with
        | none => none
        | some te => match x with
          | .map none => foundA s ok te.zero (some none)
          | .map (some r) => foundA s ok te.zero (findObj i (s.get r))
          | _ => none
      else none
    | _ => none
noncomputable def updObj (s : St) (r : Nat) (k v : Value) : Option AObj → RO
  | some (.map es) => match setA k v es with
    | some es' => some (.skip, s.upd r (.map es'))
    | none => none
  | _ => none
noncomputable def mapUpdA (T : Tr TI) (s : St) (m k v : Value) : Option TI → RO
  | none => none
  | some ti => match ti.d with
    | .map kt _ => bif keyT T kt k then
        match m with
        | .map (some r) => updObj s r k v (s.get r)
        | _ => none
      else none
    | _ => none
noncomputable def assertA (s : St) (t : TypeId) (ok : Bool) (x : Value) : Option TI → RO
  | none => none
  | some ti => match ti.d with
    | .iface _ => none
    | .other => none
    | _ => match x with
      | .nilIface => bif ok then some (.val (.tuple #[ti.zero, .bool false]), s) else none
      | .iface u v => bif Nat.beq u t then some (.val (bif ok then .tuple #[v, .bool true] else v), s)
          else bif ok then some (.val (.tuple #[ti.zero, .bool false]), s) else none
      | _ => none
noncomputable def extractA (s : St) (i : Nat) (x : Value) : RO :=
  match x with
  | .tuple vs => valO s vs.toList[i]?
  | _ => none
def deferA : RO → RO
  | some (.enter g args, s) => some (.defer (.call g args), s)
  | _ => none
abbrev OH := Tr TI → St → Tr Value → RO
noncomputable def hMove (x : Operand) : OH := fun _ s tm => some (.val (evO tm x), s)
noncomputable def hPick (c a b : Operand) : OH := fun _ s tm => pickA s (evO tm c) (evO tm a) (evO tm b)
noncomputable def hAlloc (t : TypeId) : OH := fun T s _ => allocA s (T.get t)
noncomputable def hBox (_ : TypeId) (x : Operand) : OH := fun _ s tm => newA s (evO tm x).cells.toList
noncomputable def hBuild (t : TypeId) (ps : Array (Nat × Operand)) : OH := fun T s tm => buildA T s (evP tm ps.toList) (T.get t)
noncomputable def hBuildSlice (t : TypeId) (len : Nat) (ps : Array (Nat × Operand)) : OH := fun T s tm => buildSliceA s len (evP tm ps.toList) (elemA T (some t))
noncomputable def hLoad (t : TypeId) (a : Operand) : OH := fun T s tm => loadA s (evO tm a) (T.get t)
noncomputable def hStore (t : TypeId) (a v : Operand) : OH := fun T s tm => storeA s (evO tm a) (evO tm v) (T.get t)
noncomputable def hNil (x : Operand) : OH := fun _ s tm => nilA s (evO tm x)
noncomputable def hBin (op : BinOp) (xt : TypeId) (x y : Operand) (_ : TypeId) : OH := fun T s tm => valO s (binA T s op xt x y (evO tm x) (evO tm y))
noncomputable def hUn (op : UnOp) (_ : TypeId) (x : Operand) : OH := fun _ s tm => valO s (unA op (evO tm x))
noncomputable def hConv (src dst : TypeId) (x : Operand) : OH := fun T s tm => convA T s (Nat.beq src dst) (tyD T (some src)) (tyD T (some dst)) (evO tm x)
noncomputable def hIface (t : TypeId) (x : Operand) : OH := fun T s tm => mkIfaceA s t (evO tm x) (T.get t)
noncomputable def hFunc (fn : Fn) (first cap : Array Operand) : OH := fun _ s tm => mkFuncA tm s fn first.toList cap.toList
noncomputable def hMap (_ : TypeId) (r : Option Operand) : OH := fun _ s _ => match r with
  | none => some (.val (.map (some s.next)), s.alloc (.map []))
  | some _ => none
noncomputable def hMkSlice (t : TypeId) (l c : Operand) : OH := fun T s tm => mkSliceA s (evO tm l) (evO tm c) (elemA T (some t))
noncomputable def hSlice (t : TypeId) (x : Operand) (lo hi mx : Option Operand) : OH := fun T s tm => sliceA T s (evO tm x) (optO tm lo) (optO tm hi) (optO tm mx) (T.get t)
noncomputable def hFieldAddr (t : TypeId) (x : Operand) (f : Nat) : OH := fun T s tm => fieldAddrA T s (evO tm x) f (T.get t)
noncomputable def hField (t : TypeId) (x : Operand) (f : Nat) : OH := fun T s tm => fieldA T s (evO tm x) f (T.get t)
noncomputable def hIndexAddr (t : TypeId) (x i : Operand) : OH := fun T s tm => indexAddrA T s (evO tm x) (evO tm i) (T.get t)
noncomputable def hIndex (t : TypeId) (x i : Operand) : OH := fun T s tm => indexA T s (evO tm x) (evO tm i) (T.get t)
noncomputable def hLookup (t : TypeId) (x i : Operand) (ok : Bool) : OH := fun T s tm => lookupA T s (evO tm x) (evO tm i) ok (T.get t)
noncomputable def hMapUpd (t : TypeId) (m k v : Operand) : OH := fun T s tm => mapUpdA T s (evO tm m) (evO tm k) (evO tm v) (T.get t)
noncomputable def hAssert (x : Operand) (_ t : TypeId) (ok : Bool) : OH := fun T s tm => assertA s t ok (evO tm x) (T.get t)
noncomputable def hExtract (x : Operand) (i : Nat) : OH := fun _ s tm => extractA s i (evO tm x)
noncomputable def hCall (c : Call) : OH := fun T s tm => callA T s c tm
noncomputable def hDefer (c : Call) : OH := fun _ s tm => match c.callee with
  | .value f => deferA (callV s (evL tm c.args.toList) (evO tm f))
  | _ => none
noncomputable def hNo : OH := fun _ _ _ => none
noncomputable def opH (o : Op) : OH :=
  Op.rec (motive := fun _ => OH) hMove hMove hPick hAlloc hBox hBuild hBuildSlice (fun _ _ _ _ => hNo) hLoad hStore (fun _ => hNo) (fun _ => hNo) hNil hBin hUn hConv (fun _ _ => hNo) hIface hFunc hMap
    (fun _ _ => hNo) hMkSlice hSlice hFieldAddr hField hIndexAddr hIndex hLookup hMapUpd (fun _ _ _ => hNo) (fun _ _ _ _ => hNo) (fun _ _ => hNo) (fun _ _ => hNo) (fun _ => hNo) hAssert hExtract hCall
    (fun _ => hNo) hDefer (fun _ => hNo) (fun _ _ => hNo) (fun _ _ _ => hNo) (fun _ _ => hNo) o
noncomputable def opA (T : Tr TI) (s : St) (tm : Tr Value) (o : Op) : RO := opH o T s tm
noncomputable def resOne (T : Tr TI) (s : St) (tm : Tr Value) : ResultVar → Option Value
  | .tmp t => some (tmA tm t)
  | .cell a t => match tmA tm a with
    | .pointer (some ad) => match T.get t with
      | some ti => loadT ti s ad
      | none => none
    | _ => none
noncomputable def resA (T : Tr TI) (s : St) (tm : Tr Value) (rs : List ResultVar) : Option (List Value) :=
  List.rec (motive := fun _ => Option (List Value)) (some []) (fun r _ ih => match resOne T s tm r with
    | some v => match ih with
      | some l => some (v :: l)
      | none => none
    | none => none) rs
def tup : List Value → Value
  | [v] => v
  | l => .tuple l.toArray
noncomputable def keepL (s0 : St) (old : List Nat) (l : List Nat) : List Nat :=
  List.rec (motive := fun _ => List Nat) old (fun i _ ih => Option.rec (motive := fun _ => List Nat) ih (fun _ => i :: ih) (s0.get i)) l
noncomputable def keepMods (s0 s : St) : St := ⟨s.heap, s.next, keepL s0 s0.mods s.mods⟩
noncomputable def argsTr (l : List Value) : Nat → Tr Value → Tr Value :=
  List.rec (motive := fun _ => Nat → Tr Value → Tr Value) (fun _ t => t) (fun v _ ih n t => ih (n + 1) (t.set n v)) l
noncomputable def setAll (l : List (Tmp × Value)) : Tr Value → Tr Value :=
  List.rec (motive := fun _ => Tr Value → Tr Value) (fun t => t) (fun p _ ih t => ih (t.set p.1 p.2)) l
section
variable (tb : Tb) (rec : Ex)
def bodyEnd (rs : List ResultVar) : Option (AX × AA × St) → Option (List ADef × Tr Value × List ResultVar × St)
  | some (.normal, a, s) => some (a.df, a.tm, rs, s)
  | some (.ret, a, s) => some (a.df, a.tm, rs, s)
  | _ => none
noncomputable def enterFn (f : FuncId) (args : List Value) (s : St) : Option Func → Option (List ADef × Tr Value × List ResultVar × St)
  | none => none
  | some fn => match fn.body with
    | none => none
    | some c => bif Nat.ble args.length fn.ntmps then bodyEnd fn.results.toList (rec c ⟨argsTr args 0 .nil, [], false, f⟩ ⟨s.heap, s.next, []⟩) else none
noncomputable def resultsA (s0 : St) (tm : Tr Value) (rs : List ResultVar) (s : St) : Option (Value × St) :=
  match resA tb.ty s tm rs with
  | some vs => some (tup vs, keepMods s0 s)
  | none => none
noncomputable def call0 (f : FuncId) (args : List Value) (s : St) : Option (Value × St) :=
  match tb.nat f with
  | some nat => nat args s
  | none =>
    match enterFn rec f args s (tb.fn.get f) with
    | some ([], tm, rs, s') => resultsA tb s tm rs s'
    | _ => none
def recOp : Op → Bool
  | .call c => match c.callee with
    | .builtin .recover => true
    | _ => false
  | _ => false
def callsB : Op → Bool
  | .call c => match c.callee with
    | .builtin _ => false
    | _ => true
  | .defer _ => true
  | _ => false
noncomputable def stepD (o : Oper) (a : AA) (s : St) : Option (AA × St) :=
  bif recOp o.op then some (a.put o.dst .nilIface, s)
  else bif callsB o.op then none else
    match opA tb.ty s a.tm o.op with
    | some (r, s') => match r with
      | .val v => some (a.put o.dst v, s')
      | .skip => some (a.put o.dst undefA, s')
      | _ => none
    | none => none
noncomputable def regD (l : List Oper) : AA → St → Option (AA × St) :=
  List.rec (motive := fun _ => AA → St → Option (AA × St)) (fun a s => some (a, s)) (fun o _ ih a s =>
    bif o.guard.isNone then
      match stepD tb o a s with
      | some (a', s') => ih a' s'
      | none => none
    else none) l
def normalD : Option (AA × St) → Option (AX × AA × St)
  | some (a, s) => some (.normal, a, s)
  | none => none
def seqD (k : AA → St → Option (AX × AA × St)) : Option (AX × AA × St) → Option (AX × AA × St)
  | some (x, a, s) => match x with
    | .normal => k a s
    | _ => none
  | none => none
noncomputable def codeD : Ex := fun c =>
  Code.rec (motive := fun _ => AA → St → Option (AX × AA × St)) (fun _ _ => none) (fun _ ops draw a s => bif draw then none else normalD (regD tb ops.toList a s))
    (fun _ y ihx _ a s => seqD (rec y) (ihx a s)) (fun _ _ _ _ _ _ _ => none) (fun _ _ _ _ _ => none) (fun _ _ _ _ => none) (fun _ _ _ _ _ _ _ _ => none) (fun _ _ _ => none) (fun _ _ _ _ => none) (fun _ _ _ => none) (fun _ _ _ => none)
    (fun _ _ => none) (fun _ _ _ => none) c
noncomputable def recL (l : List Oper) : Bool := List.rec (motive := fun _ => Bool) false (fun o _ ih => Bool.rec (motive := fun _ => Bool) ih true (recOp o.op)) l
noncomputable def recC (c : Code) : Bool :=
  Code.rec (motive := fun _ => Bool) false (fun _ ops _ => recL ops.toList) (fun _ _ a _ => a) (fun _ _ _ _ _ => false) (fun _ _ _ => false) (fun _ _ => false) (fun _ _ _ _ _ _ => false) (fun _ => false) (fun _ _ => false) (fun _ => false) (fun _ => false) false (fun _ => false) c
noncomputable def recF : Option Func → Bool
  | some fn => match fn.body with
    | some c => recC c
    | none => false
  | none => false
def leaveO : Option (Value × St) → Option St
  | some (_, s') => some s'
  | none => none
noncomputable def leaveOne (d : ADef) (s : St) : Option St :=
  match d with
  | .call f args => match tb.nat f with
    | some _ => none
    | none => bif recF (tb.fn.get f) then leaveO (call0 tb (codeD tb rec) f args s) else leaveO (call0 tb rec f args s)
  | .mark id => match s.get id with
    | some (.deferred true) => some (s.upd id (.deferred false))
    | _ => none
noncomputable def leaveA (ds : List ADef) : St → Option St :=
  List.rec (motive := fun _ => St → Option St) (fun s => some s) (fun d _ ih s => match leaveOne tb rec d s with
    | some s' => ih s'
    | none => none) ds
noncomputable def callF (f : FuncId) (args : List Value) (s : St) : Option (Value × St) :=
  match tb.nat f with
  | some nat => nat args s
  | none =>
    match enterFn rec f args s (tb.fn.get f) with
    | some (df, tm, rs, s') => match leaveA tb rec df s' with
      | some s'' => resultsA tb s tm rs s''
      | none => none
    | none => none
noncomputable def roundEnd (l : Nat) (x : AX) (s : St) : Option AObj → Option (Value × St)
  | some (.loop .busy _ fid tmps params assign body d) =>
    match x with
    | .normal => some (.bool true, s.upd l (.loop .ready none fid tmps params assign body d))
    | .ret => some (.bool false, s.upd l (.loop .done (some .ret) fid tmps params assign body d))
    | .exit id => some (.bool false, s.upd l (.loop .done (some (.exit id)) fid tmps params assign body d))
  | _ => none
noncomputable def roundBody (l : Nat) (body : Code) (a : AA) (s : St) : Option AObj → Option (Value × St)
  | some (.loop .ready p fid tmps params assign bo d) =>
    match rec body a (s.upd l (.loop .busy p fid tmps params assign bo d)) with
    | some (x, _, s') => roundEnd l x s' (s'.get l)
    | none => none
  | _ => none
noncomputable def roundO (l : Nat) (args : List Value) (s : St) : Option AObj → Option (Value × St)
  | some (.loop _ _ fid tmps params assign body _) =>
    bif Nat.beq args.length params.length then
      match rec assign ⟨setAll (params.zip args) tmps, [], true, fid⟩ s with
      | some (.normal, a, s') => roundBody rec l body a s' (s'.get l)
      | _ => none
    else none
  | _ => none
def guardO (want : Bool) : Option Value → Bool
  | some (.bool b) => b == want
  | _ => false
noncomputable def wantedA (ops : List Oper) (g : Option (Nat × Bool)) (tm : Tr Value) : Bool :=
  match g with
  | none => true
  | some (j, want) => match ops[j]? with
    | none => false
    | some oj => match oj.dst with
      | none => false
      | some d => guardO want (tm.get d)
noncomputable def stepR (dst : Option Tmp) (a : AA) : RO → Option (AA × St)
  | some (r, s) => match r with
    | .val v => some (a.put dst v, s)
    | .skip => some (a.put dst undefA, s)
    | .enter f args => match callF tb rec f args s with
      | some (v, s') => some (a.put dst v, s')
      | none => none
    | .defer d => bif a.rnd then none else some ((⟨a.tm, d :: a.df, a.rnd, a.fid⟩ : AA).put dst undefA, s)
    | .round l args => match roundO rec l args s (s.get l) with
      | some (v, s') => some (a.put dst v, s')
      | none => none
  | none => none
noncomputable def stepA (o : Oper) (a : AA) (s : St) : Option (AA × St) := stepR tb rec o.dst a (opA tb.ty s a.tm o.op)
noncomputable def regA (ops : List Oper) (l : List Oper) : AA → St → Option (AA × St) :=
  List.rec (motive := fun _ => AA → St → Option (AA × St)) (fun a s => some (a, s)) (fun o _ ih a s =>
    bif wantedA ops o.guard a.tm then
      match stepA tb rec o a s with
      | some (a', s') => ih a' s'
      | none => none
    else ih (a.put o.dst undefA) s) l
def ptrB : Value → List Nat
  | .pointer (some a) => [a.block]
  | .map (some r) => [r]
  | .slice (some a) _ _ => [a.block]
  | _ => []
noncomputable def readsA (tm : Tr Value) : Op → List Nat
  | .load _ a => ptrB (evO tm a)
  | .lookup _ x _ _ => ptrB (evO tm x)
  | .convert _ _ x => ptrB (evO tm x)
  | .call c => match evL tm c.args.toList with
    | [x] => ptrB x
    | _ => []
  | .binOp _ _ x y _ => ptrB (evO tm x) ++ ptrB (evO tm y)
  | _ => []
def quietB : Builtin → Bool
  | .len => true
  | .cap => true
  | .min => true
  | .max => true
  | _ => false
def effB : Op → Bool
  | .store .. => true
  | .mapUpdate .. => true
  | .call c => match c.callee with
    | .builtin b => !quietB b
    | _ => true
  | .defer _ => true
  | .convert a b _ => Nat.beq a b
  | _ => false
noncomputable def edgeB (es : List Edge) (j : Nat) : Bool :=
  List.rec (motive := fun _ => Bool) false (fun e _ ih => Bool.rec (motive := fun _ => Bool) ih true (Nat.beq e.on j && Region.binds .any e)) es
noncomputable def memB (l : List Nat) (j : Nat) : Bool :=
  List.rec (motive := fun _ => Bool) false (fun e _ ih => Bool.rec (motive := fun _ => Bool) ih true (Nat.beq e j)) l
noncomputable def apartB (es : List Edge) (bs : List Nat) (ps : List (Nat × Nat)) : Bool :=
  List.rec (motive := fun _ => Bool) true (fun p _ ih => Bool.rec (motive := fun _ => Bool) false ih (!(memB bs p.2) || edgeB es p.1)) ps
noncomputable def tagL (i : Nat) (ps : List (Nat × Nat)) (l : List Nat) : List (Nat × Nat) :=
  List.rec (motive := fun _ => List (Nat × Nat)) ps (fun m _ ih => (i, m) :: ih) l
def joinMods (s0 s : St) : St := ⟨s.heap, s.next, s.mods ++ s0.mods⟩
noncomputable def cloN (ops : List Oper) : Nat → List Edge → List Edge :=
  Nat.rec (motive := fun _ => List Edge → List Edge) (fun es => es) (fun _ ih es => es ++ List.rec (motive := fun _ => List Edge) [] (fun e _ acc => (bif Region.binds .any e then (match ops[e.on]? with | some o => ih o.after.toList | none => []) else []) ++ acc) es)
noncomputable def cloE (ops : List Oper) (o : Oper) : List Edge := cloN ops 8 o.after.toList
noncomputable def drawA (ops : List Oper) (l : List Oper) : Nat → List (Nat × Nat) → List (Nat × Nat) → AA → St → Option (AA × St) :=
  List.rec (motive := fun _ => Nat → List (Nat × Nat) → List (Nat × Nat) → AA → St → Option (AA × St)) (fun _ _ _ a s => some (a, s)) (fun o _ ih i rd wr a s =>
    bif wantedA ops o.guard a.tm then
      match stepA tb rec o a ⟨s.heap, s.next, []⟩ with
      | some (a', s') =>
        bif effB o.op then
          bif apartB (cloE ops o) s'.mods rd then ih (i + 1) rd (tagL i wr s'.mods) a' (joinMods s s') else none
        else
          bif apartB (cloE ops o) (readsA a.tm o.op) wr then ih (i + 1) (tagL i rd (readsA a.tm o.op)) wr a' (joinMods s s') else none
      | none => none
    else ih (i + 1) rd wr (a.put o.dst undefA) s) l
def normalO : Option (AA × St) → Option (AX × AA × St)
  | some (a, s) => some (.normal, a, s)
  | none => none
def seqO (k : AA → St → Option (AX × AA × St)) : Option (AX × AA × St) → Option (AX × AA × St)
  | some (x, a, s) => match x with
    | .normal => k a s
    | .exit id => some (.exit id, a, s)
    | .ret => some (.ret, a, s)
  | none => none
def blockO (id : Nat) : Option (AX × AA × St) → Option (AX × AA × St)
  | some (x, a, s) => match x with
    | .normal => some (.normal, a, s)
    | .exit id' => bif Nat.beq id' id then some (.normal, a, s) else some (.exit id', a, s)
    | .ret => some (.ret, a, s)
  | none => none
def condO (x y : Option (AX × AA × St)) : Value → Option (AX × AA × St)
  | .bool true => x
  | .bool false => y
  | _ => none
noncomputable def rangeEnd (l : Nat) (a : AA) (s : St) : Option AObj → Option (AX × AA × St)
  | some (.loop st p fid tmps params as bo dd) =>
    match st with
    | .busy => none
    | _ => match p with
      | none => some (.normal, a, s.upd l (.loop .exhausted none fid tmps params as bo dd))
      | some c => match c with
        | .ret => some (.ret, a, s.upd l (.loop .exhausted (some .ret) fid tmps params as bo dd))
        | .exit id => some (.exit id, a, s.upd l (.loop .exhausted (some (.exit id)) fid tmps params as bo dd))
        | _ => none
  | _ => none
noncomputable def rangeCallA (l : Nat) (a : AA) (s : St) (f : Value) : Option (AX × AA × St) :=
  match f with
  | .func (.func g) first cap =>
    match callF tb rec g (first.toList ++ [.func (.yield l) #[] #[]] ++ cap.toList) s with
    | some (_, s') => rangeEnd l a s' (s'.get l)
    | none => none
  | _ => none
noncomputable def rangeA (f : Operand) (ps : List Tmp) (assign body : Code) (a : AA) (s : St) : Option (AX × AA × St) :=
  bif a.rnd then none else
  rangeCallA tb rec (s.next + 1) ⟨a.tm, .mark s.next :: a.df, false, a.fid⟩
    ((s.alloc (.deferred true)).alloc (.loop .ready none a.fid a.tm ps assign body s.next)) (evO a.tm f)
abbrev XH := Tb → Ex → AA → St → Option (AX × AA × St)
noncomputable def xSkip : XH := fun _ _ a s => some (.normal, a, s)
noncomputable def xRegion (_ : Nat) (ops : Array Oper) (draw : Bool) : XH := fun tb rec a s =>
  Bool.rec (motive := fun _ => Option (AX × AA × St)) (normalO (regA tb rec ops.toList ops.toList a s)) (normalO (drawA tb rec ops.toList ops.toList 0 [] [] a s)) draw
noncomputable def xSeq (x y : Code) : XH := fun _ rec a s => seqO (rec y) (rec x a s)
noncomputable def xCond (c : Operand) (x y : Code) : XH := fun _ rec a s => condO (rec x a s) (rec y a s) (evO a.tm c)
noncomputable def xBlock (id : Nat) (b : Code) : XH := fun _ rec a s => blockO id (rec b a s)
noncomputable def xLoop (b : Code) : XH := fun _ rec a s => seqO (rec (.loop b)) (rec b a s)
noncomputable def xExit (id : Nat) : XH := fun _ _ a s => some (.exit id, a, s)
noncomputable def xRet : XH := fun _ _ a s => some (.ret, a, s)
noncomputable def xRange (f : Operand) (ps : Array Tmp) (assign body : Code) : XH := fun tb rec a s => rangeA tb rec f ps.toList assign body a s
noncomputable def xNo : XH := fun _ _ _ _ => none
noncomputable def codeH (c : Code) : XH :=
  Code.rec (motive := fun _ => XH) xSkip xRegion (fun a b _ _ => xSeq a b) (fun c a b _ _ => xCond c a b) (fun id b _ => xBlock id b) (fun b _ => xLoop b) (fun f ps a b _ _ => xRange f ps a b)
    xExit (fun _ _ => xNo) (fun _ => xSkip) (fun _ => xNo) xRet (fun _ => xNo) c
noncomputable def execA : Ex := fun c a s => codeH c tb rec a s
end
noncomputable def evN (tb : Tb) (n : Nat) : Ex := Nat.rec (motive := fun _ => Ex) (fun _ _ _ => none) (fun _ ih => execA tb ih) n
noncomputable def run (tb : Tb) (n : Nat) (f : FuncId) (args : List Value) (s : St) : Option (Value × St) := callF tb (evN tb n) f args s
end Go.Proofs.Ae
namespace Go.Proofs.Ae
def dstB (N : Nat) : Option Tmp → Bool
  | none => true
  | some d => Nat.ble (d + 1) N
noncomputable def allB {α : Type} (p : α → Bool) (l : List α) : Bool := List.rec (motive := fun _ => Bool) true (fun x _ ih => Bool.rec (motive := fun _ => Bool) false ih (p x)) l
theorem allB_spec {α : Type} {p : α → Bool} : ∀ {l : List α}, allB p l = true → ∀ x ∈ l, p x = true
  | [], _, x, hx => by cases hx
  | y :: l, h, x, hx => by
    change Bool.rec (motive := fun _ => Bool) false (allB p l) (p y) = true at h
    cases hp : p y with
    | false => rw [hp] at h; cases h
    | true =>
      rw [hp] at h
      rcases List.mem_cons.1 hx with rfl | hx
      · exact hp
      · exact allB_spec (l := l) h x hx
def plainV : Value → Bool
  | .pointer (some _) => false
  | .slice (some _) _ _ => false
  | .map (some _) => false
  | .func _ _ _ => false
  | .iface _ v => match v with
    | .bool _ => true
    | .int _ _ => true
    | .string _ => true
    | _ => false
  | .agg cs => cs.isEmpty
  | .tuple cs => cs.isEmpty
  | _ => true
def operandOk (gl : Nat → Bool) : Operand → Bool
  | .const v => plainV v
  | .global g => gl g
  | _ => true
def tmpO : Operand → Option Tmp
  | .tmp t => some t
  | _ => none
noncomputable def seesL (ops : List Oper) (o : Oper) : List Tmp :=
  (o.op.operands.toList.filterMap tmpO) ++ (match o.guard with
    | some (g, _) => match ops[g]? with
      | some og => og.dst.toList
      | none => []
    | none => [])
def newB : Op → Bool
  | .alloc _ => true
  | .box _ _ => true
  | .buildSlice _ _ _ => true
  | .makeMap _ _ => true
  | .makeSlice _ _ _ => true
  | .convert _ _ _ => true
  | .slice _ _ _ _ m => m.isNone
  | _ => false
noncomputable def newO (T : Tr TI) (o : Op) : Bool :=
  match o with
  | .convert s _ _ => match tyD T (some s) with
    | .slice _ => false
    | _ => true
  | o => newB o
structure Nd where
  i : Nat
  sees : List Tmp
  dst : Option Tmp
  eff : Bool
  new : Bool
noncomputable def memT (t : Option Tmp) (l : List Tmp) : Bool :=
  match t with
  | none => false
  | some t => List.rec (motive := fun _ => Bool) false (fun x _ ih => Bool.rec (motive := fun _ => Bool) ih true (Nat.beq x t)) l
def sameT (s t : Option Tmp) : Bool :=
  match s, t with
  | some a, some b => Nat.beq a b
  | _, _ => false
noncomputable def bound (a b : Nd) : Bool := memT a.dst b.sees || memT b.dst a.sees || sameT a.dst b.dst || (b.eff && (a.eff || a.new))
noncomputable def ancL (ms : Nat → Nat) : List Edge → Nat := fun es =>
  List.rec (motive := fun _ => Nat) 0 (fun e _ ih => bif Region.binds .any e then Nat.lor (Nat.lor (2 ^ e.on) (ms e.on)) ih else ih) es
noncomputable def drawOk (T : Tr TI) (ops : List Oper) : List Oper → Nat → List Nd → (Nat → Nat) → Bool := fun l =>
  List.rec (motive := fun _ => Nat → List Nd → (Nat → Nat) → Bool) (fun _ _ _ => true) (fun o _ ih j prev ms =>
    (fun (m : Nat) (nd : Nd) =>
      allB (fun e => !Region.binds .any e || Nat.ble (e.on + 1) j) o.after.toList
        && allB (fun p => !bound p nd || m.testBit p.i) prev
        && ih (j + 1) (nd :: prev) (fun i => bif Nat.beq i j then m else ms i)) (ancL ms o.after.toList) ⟨j, seesL ops o, o.dst, effB o.op, newO T o.op⟩) l
noncomputable def codeOk (tb : Tb) (N : Nat) (c : Code) : Bool :=
  Code.rec (motive := fun _ => Bool) true
    (fun _ ops draw => allB (fun o => dstB N o.dst && allB (operandOk tb.gl) o.op.operands.toList) ops.toList && (!draw || drawOk tb.ty ops.toList ops.toList 0 [] (fun _ => 0)))
    (fun _ _ a b => a && b) (fun c _ _ a b => operandOk tb.gl c && (a && b)) (fun _ _ a => a) (fun _ a => a)
    (fun f ps _ _ a b => operandOk tb.gl f && allB (fun p => Nat.ble (p + 1) N) ps.toList && (a && b)) (fun _ => true) (fun _ a => a) (fun _ => true) (fun _ => true) true (fun _ => true) c
noncomputable def funcOk (tb : Tb) (f : Func) : Bool :=
  match f.body with
  | none => true
  | some c => codeOk tb f.ntmps c
end Go.Proofs.Ae
namespace Go.Proofs.Ae
theorem Tr.get_nil {α : Type} (n : Nat) : (Tr.nil : Tr α).get n = none := rfl
theorem Tr.get_succ {α : Type} (v : Option α) (l r : Tr α) (k : Nat) : (Tr.node v l r).get (k + 1) = bif Nat.beq (k % 2) 0 then l.get (k / 2) else r.get (k / 2) := by
  change Bool.rec (motive := fun _ => Option α) (r.get (k / 2)) (l.get (k / 2)) (Nat.beq (k % 2) 0) = _
  cases Nat.beq (k % 2) 0 <;> rfl
theorem Tr.path_at {α : Type} (x : α) (f : Nat) : Tr.path x (f + 1) 0 = .node (some x) .nil .nil := rfl
theorem Tr.path_succ {α : Type} (x : α) (f k : Nat) : Tr.path x (f + 1) (k + 1) = bif Nat.beq (k % 2) 0 then .node none (Tr.path x f (k / 2)) .nil else .node none .nil (Tr.path x f (k / 2)) := by
  change Bool.rec (motive := fun _ => Tr α) (.node none .nil (Tr.path x f (k / 2))) (.node none (Tr.path x f (k / 2)) .nil) (Nat.beq (k % 2) 0) = _
  cases Nat.beq (k % 2) 0 <;> rfl
theorem Tr.set_nil {α : Type} (n : Nat) (x : α) : (Tr.nil : Tr α).set n x = Tr.path x (n.log2 + 2) n := rfl
theorem Tr.set_zero {α : Type} (v : Option α) (l r : Tr α) (x : α) : (Tr.node v l r).set 0 x = .node (some x) l r := rfl
theorem Tr.set_succ {α : Type} (v : Option α) (l r : Tr α) (k : Nat) (x : α) : (Tr.node v l r).set (k + 1) x = bif Nat.beq (k % 2) 0 then .node v (l.set (k / 2) x) r else .node v l (r.set (k / 2) x) := by
  change Bool.rec (motive := fun _ => Tr α) (.node v l (r.set (k / 2) x)) (.node v (l.set (k / 2) x) r) (Nat.beq (k % 2) 0) = _
  cases Nat.beq (k % 2) 0 <;> rfl
theorem Tr.path_self {α : Type} (x : α) : ∀ (f n : Nat), n + 2 ≤ 2 ^ f → (Tr.path x f n).get n = some x := by
  intro f
  induction f with
  | zero => intro n h; simp at h
  | succ f ih =>
    intro n h
    have h2 : 2 ^ (f + 1) = 2 * 2 ^ f := by rw [Nat.pow_succ]; omega
    cases n with
    | zero => rfl
    | succ k =>
      rw [Tr.path_succ]
      cases hk : Nat.beq (k % 2) 0 <;> simp only [cond_true, cond_false, Tr.get_succ, hk] <;> exact ih _ (by omega)
theorem Tr.path_ne {α : Type} (x : α) : ∀ (f n m : Nat), m ≠ n → (Tr.path x f n).get m = none := by
  intro f
  induction f with
  | zero => intro n m h; rfl
  | succ f ih =>
    intro n m h
    cases n with
    | zero =>
      cases m with
      | zero => exact absurd rfl h
      | succ j => rw [Tr.path_at, Tr.get_succ]; cases Nat.beq (j % 2) 0 <;> rfl
    | succ k =>
      rw [Tr.path_succ]
      cases m with
      | zero => cases Nat.beq (k % 2) 0 <;> rfl
      | succ j =>
        cases hk : Nat.beq (k % 2) 0 <;> cases hj : Nat.beq (j % 2) 0 <;> simp only [cond_true, cond_false, Tr.get_succ, hj, Tr.get_nil]
        · exact ih _ _ (by simp [Nat.beq_eq_true_eq, ← Bool.not_eq_true] at hk hj; omega)
        · exact ih _ _ (by simp [Nat.beq_eq_true_eq, ← Bool.not_eq_true] at hk hj; omega)
theorem Tr.get_set_self {α : Type} (x : α) : ∀ (t : Tr α) (n : Nat), (t.set n x).get n = some x := by
  intro t
  induction t with
  | nil =>
    intro n
    rw [Tr.set_nil]
    refine Tr.path_self x _ n ?_
    have h := @Nat.lt_log2_self n
    have h2 : 2 ^ (n.log2 + 2) = 2 * 2 ^ (n.log2 + 1) := by rw [Nat.pow_succ 2 (n.log2 + 1)]; omega
    omega
  | node v l r ihl ihr =>
    intro n
    cases n with
    | zero => rfl
    | succ k =>
      rw [Tr.set_succ]
      cases hk : Nat.beq (k % 2) 0 <;> simp only [cond_true, cond_false, Tr.get_succ, hk]
      · exact ihr _
      · exact ihl _
theorem Tr.get_set_ne {α : Type} (x : α) : ∀ (t : Tr α) (n m : Nat), m ≠ n → (t.set n x).get m = t.get m := by
  intro t
  induction t with
  | nil => intro n m h; rw [Tr.set_nil, Tr.path_ne x _ n m h]; rfl
  | node v l r ihl ihr =>
    intro n m h
    cases n with
    | zero =>
      cases m with
      | zero => exact absurd rfl h
      | succ j => rw [Tr.set_zero, Tr.get_succ, Tr.get_succ]
    | succ k =>
      rw [Tr.set_succ]
      cases m with
      | zero => cases Nat.beq (k % 2) 0 <;> rfl
      | succ j =>
        cases hk : Nat.beq (k % 2) 0 <;> cases hj : Nat.beq (j % 2) 0 <;> simp only [cond_true, cond_false, Tr.get_succ, hj]
        · exact ihr _ _ (by simp [Nat.beq_eq_true_eq, ← Bool.not_eq_true] at hk hj; omega)
        · exact ihl _ _ (by simp [Nat.beq_eq_true_eq, ← Bool.not_eq_true] at hk hj; omega)
abbrev Hp := Nat → Option AObj
def hdom (g : Hp) (i : Nat) : Prop := g i ≠ none
def hset (g : Hp) (i : Nat) (o : AObj) : Hp := fun j => if j = i then some o else g j
theorem hset_self (g : Hp) (i : Nat) (o : AObj) : hset g i o i = some o := by simp [hset]
theorem hset_ne (g : Hp) (i j : Nat) (o : AObj) (h : j ≠ i) : hset g i o j = g j := by simp [hset, h]
theorem hdom_of {g : Hp} {i : Nat} {o : AObj} (h : g i = some o) : hdom g i := by unfold hdom; rw [h]; simp
theorem get_of_hdom {g : Hp} {i : Nat} (h : hdom g i) : ∃ o, g i = some o := by
  unfold hdom at h
  cases hg : g i with
  | none => exact absurd hg h
  | some o => exact ⟨o, rfl⟩
theorem hdom_hset {g : Hp} {i j : Nat} {o : AObj} (h : hdom g j) : hdom (hset g i o) j := by
  by_cases e : j = i
  · subst e; exact hdom_of (hset_self _ _ _)
  · unfold hdom; rw [hset_ne _ _ _ _ e]; exact h
theorem St.get_upd (s : St) (id : Nat) (o : AObj) : (s.upd id o).get = hset s.get id o := by
  funext j
  by_cases e : j = id
  · subst e; rw [hset_self]; exact Tr.get_set_self _ _ _
  · rw [hset_ne _ _ _ _ e]; exact Tr.get_set_ne _ _ _ _ e
theorem St.get_alloc (s : St) (o : AObj) : (s.alloc o).get = hset s.get s.next o := by
  funext j
  by_cases e : j = s.next
  · subst e; rw [hset_self]; exact Tr.get_set_self _ _ _
  · rw [hset_ne _ _ _ _ e]; exact Tr.get_set_ne _ _ _ _ e
@[simp] theorem St.get_upd_self (s : St) (id : Nat) (o : AObj) : (s.upd id o).get id = some o := by rw [St.get_upd, hset_self]
theorem St.get_upd_ne (s : St) (id j : Nat) (o : AObj) (h : j ≠ id) : (s.upd id o).get j = s.get j := by rw [St.get_upd, hset_ne _ _ _ _ h]
@[simp] theorem St.get_alloc_self (s : St) (o : AObj) : (s.alloc o).get s.next = some o := by rw [St.get_alloc, hset_self]
theorem St.get_alloc_ne (s : St) (j : Nat) (o : AObj) (h : j ≠ s.next) : (s.alloc o).get j = s.get j := by rw [St.get_alloc, hset_ne _ _ _ _ h]
@[simp] theorem St.next_upd (s : St) (id : Nat) (o : AObj) : (s.upd id o).next = s.next := rfl
@[simp] theorem St.mods_upd (s : St) (id : Nat) (o : AObj) : (s.upd id o).mods = id :: s.mods := rfl
@[simp] theorem St.next_alloc (s : St) (o : AObj) : (s.alloc o).next = s.next + 1 := rfl
@[simp] theorem St.mods_alloc (s : St) (o : AObj) : (s.alloc o).mods = s.mods := rfl
structure Loc where
  block : Nat
  off : Nat
  room : Nat
  deriving Inhabited
abbrev Io := Nat → Loc
def capC (ι : Io) (a : Addr) (cap : Nat) : Nat := if cap < cap0 then cap else ((ι a.block).room - a.off) / (cap - cap0)
def addrC (ι : Io) (a : Addr) : Addr := { block := (ι a.block).block, off := a.off + (ι a.block).off, spot := a.spot }
def fnC (ι : Io) : Fn → Fn
  | .yield l => .yield (ι l).block
  | f => f
def conc (ι : Io) : Value → Value
  | .pointer (some a) => .pointer (some (addrC ι a))
  | .slice (some a) n cap => .slice (some (addrC ι a)) n (capC ι a cap)
  | .map (some r) => .map (some (ι r).block)
  | .func f first cap => .func (fnC ι f) (first.map (conc ι)) (cap.map (conc ι))
  | .iface t v => .iface t (conc ι v)
  | .agg cs => .agg (cs.map (conc ι))
  | .tuple vs => .tuple (vs.map (conc ι))
  | v => v
def needR (a : Addr) (n cap : Nat) : Nat := if cap < cap0 then 0 else a.off + n * (cap - cap0)
def inD (D : Nat → Nat → Prop) : Value → Prop
  | .pointer (some a) => D a.block 0
  | .slice (some a) n cap => D a.block (needR a n cap)
  | .map (some r) => D r 0
  | .func f first cap => (∀ l, f = .yield l → D l 0) ∧ (∀ v ∈ first, inD D v) ∧ (∀ v ∈ cap, inD D v)
  | .iface t v => inD D v
  | .agg cs => ∀ v ∈ cs, inD D v
  | .tuple vs => ∀ v ∈ vs, inD D v
  | _ => True
theorem conc_congr {ι ι' : Io} {D : Nat → Nat → Prop} (h : ∀ i k, D i k → ι' i = ι i) : ∀ v : Value, inD D v → conc ι' v = conc ι v
  | .pointer (some a), hv => by simp only [inD] at hv; simp only [conc, addrC, h _ _ hv]
  | .slice (some a) n cap, hv => by simp only [inD] at hv; simp only [conc, addrC, capC, h _ _ hv]
  | .map (some r), hv => by simp only [inD] at hv; simp only [conc, h _ _ hv]
  | .func f first cap, hv => by
    simp only [inD] at hv
    obtain ⟨h1, h2, h3⟩ := hv
    simp only [conc]
    congr 1
    · cases f <;> simp only [fnC]
      rw [h _ _ (h1 _ rfl)]
    · exact Array.map_congr_left fun v hm => conc_congr h v (h2 v hm)
    · exact Array.map_congr_left fun v hm => conc_congr h v (h3 v hm)
  | .iface t v, hv => by simp only [inD] at hv; simp only [conc, conc_congr h v hv]
  | .agg cs, hv => by
    simp only [inD] at hv
    simp only [conc]
    rw [Array.map_congr_left fun v hm => conc_congr h v (hv v hm)]
  | .tuple cs, hv => by
    simp only [inD] at hv
    simp only [conc]
    rw [Array.map_congr_left fun v hm => conc_congr h v (hv v hm)]
  | .bool _, _ | .int _ _, _ | .float _ _, _ | .complex _ _ _, _ | .string _, _ | .pointer none, _ | .slice none _ _, _ | .map none, _ | .chan _, _ | .nilFunc, _ | .nilIface, _ => by simp only [conc]
theorem inD_mono {D D' : Nat → Nat → Prop} (h : ∀ i k, D i k → D' i k) : ∀ v : Value, inD D v → inD D' v
  | .pointer (some a), hv => by simp only [inD] at hv ⊢; exact h _ _ hv
  | .slice (some a) n cap, hv => by simp only [inD] at hv ⊢; exact h _ _ hv
  | .map (some r), hv => by simp only [inD] at hv ⊢; exact h _ _ hv
  | .func f first cap, hv => by
    simp only [inD] at hv ⊢
    exact ⟨fun l e => h _ _ (hv.1 l e), fun v hm => inD_mono h v (hv.2.1 v hm), fun v hm => inD_mono h v (hv.2.2 v hm)⟩
  | .iface t v, hv => by simp only [inD] at hv ⊢; exact inD_mono h v hv
  | .agg cs, hv => by simp only [inD] at hv ⊢; exact fun v hm => inD_mono h v (hv v hm)
  | .tuple cs, hv => by simp only [inD] at hv ⊢; exact fun v hm => inD_mono h v (hv v hm)
  | .bool _, _ | .int _ _, _ | .float _ _, _ | .complex _ _ _, _ | .string _, _ | .pointer none, _ | .slice none _ _, _ | .map none, _ | .chan _, _ | .nilFunc, _ | .nilIface, _ => by simp only [inD]
theorem inD_cells {D : Nat → Nat → Prop} {v : Value} (h : inD D v) : ∀ u ∈ v.cells.toList, inD D u := by
  intro u hu
  cases v with
  | agg cs => simp only [Value.cells] at hu; simp only [inD] at h; exact h u (by simpa using hu)
  | _ => simp [Value.cells] at hu; subst hu; exact h
theorem cells_conc (ι : Io) (v : Value) : (conc ι v).cells = v.cells.map (conc ι) := by
  cases v with
  | pointer a => cases a <;> simp [conc, Value.cells]
  | slice a n c => cases a <;> simp [conc, Value.cells]
  | map a => cases a <;> simp [conc, Value.cells]
  | _ => simp [conc, Value.cells]
theorem oneV_conc (ι : Io) (v : Value) : oneV (conc ι v) = oneV v := by
  cases v with
  | pointer a => cases a <;> simp [conc, oneV]
  | slice a n c => cases a <;> simp [conc, oneV]
  | map a => cases a <;> simp [conc, oneV]
  | _ => simp [conc, oneV]
theorem conc_zero (ι : Io) {v : Value} (h : inD (fun _ _ => False) v) : conc ι v = v := by
  have h0 : ∀ v : Value, inD (fun _ _ => False) v → conc ι v = v := by
    intro v
    induction v using conc.induct with
    | case1 a => intro h; simp [inD] at h
    | case2 a n c => intro h; simp [inD] at h
    | case3 r => intro h; simp [inD] at h
    | case4 f first cap ih1 ih2 =>
      intro h
      simp only [inD] at h
      obtain ⟨h1, h2, h3⟩ := h
      simp only [conc]
      congr 1
      · cases f <;> first | rfl | exact (h1 _ rfl).elim
      · exact (Array.map_congr_left fun v hv => ih1 v hv (h2 v hv)).trans (Array.map_id'' (fun _ => rfl) _)
      · exact (Array.map_congr_left fun v hv => ih2 v hv (h3 v hv)).trans (Array.map_id'' (fun _ => rfl) _)
    | case5 t v ih => intro h; simp only [inD] at h; simp only [conc, ih h]
    | case6 cs ih => intro h; simp only [inD] at h; simp only [conc]; congr 1; exact (Array.map_congr_left fun v hv => ih v hv (h v hv)).trans (Array.map_id'' (fun _ => rfl) _)
    | case7 cs ih => intro h; simp only [inD] at h; simp only [conc]; congr 1; exact (Array.map_congr_left fun v hv => ih v hv (h v hv)).trans (Array.map_id'' (fun _ => rfl) _)
    | case8 v h1 h2 h3 h4 h5 h6 h7 => intro _; cases v <;> first | (simp [conc]; done) | (rename_i a; cases a <;> first | (simp [conc]; done) | simp_all) | simp_all | (rename_i a _ _; cases a <;> first | (simp [conc]; done) | simp_all)
  exact h0 v h
theorem inD_False {D : Nat → Nat → Prop} {v : Value} (h : inD (fun _ _ => False) v) : inD D v := inD_mono (fun _ _ h => h.elim) v h
def TmOk (ι : Io) (N : Nat) (tm : Tr Value) (tmps : Array Value) : Prop :=
  tmps.size = N ∧ ∀ t, tmps.getD t undef = conc ι (tmA tm t)
def TmIn (D : Nat → Nat → Prop) (tm : Tr Value) : Prop := ∀ t, inD D (tmA tm t)
def AObj.writable : AObj → Bool
  | .cells _ .ro => false
  | .dead => false
  | _ => true
def AObj.solid : AObj → Bool
  | .cells c m => match m with
    | .ro => !c.isEmpty
    | _ => true
  | .dead => false
  | _ => true
def pairC (ι : Io) (p : Value × Value) : Value × Value := (conc ι p.1, conc ι p.2)
def KeysOk (es : List (Value × Value)) : Prop := es.Pairwise fun p q => keyEq p.1 q.1 = some false
def BornOk (ms : Array MapEntry) (clock : Nat) : Prop := (∀ m ∈ ms.toList, m.born < clock) ∧ (ms.toList.map (·.born)).Nodup
theorem BornOk.push {ms : Array MapEntry} {clock : Nat} (h : BornOk ms clock) (k v : Value) : BornOk (ms.push { key := k, val := v, born := clock }) (clock + 1) := by
  refine ⟨fun m hm => ?_, ?_⟩
  · rw [Array.toList_push] at hm
    rcases List.mem_append.1 hm with hm | hm
    · exact Nat.lt_succ_of_lt (h.1 m hm)
    · simp only [List.mem_singleton] at hm; subst hm; exact Nat.lt_succ_self _
  · rw [Array.toList_push, List.map_append, List.nodup_append]
    refine ⟨h.2, by simp, fun a ha b hb => ?_⟩
    obtain ⟨m, hm, rfl⟩ := List.mem_map.1 ha
    simp only [List.map_cons, List.map_nil, List.mem_singleton] at hb
    subst hb
    exact Nat.ne_of_lt (h.1 m hm)
theorem BornOk.of_map {ms ms' : Array MapEntry} {clock : Nat} (h : BornOk ms clock) (e : ms'.toList.map (·.born) = ms.toList.map (·.born)) : BornOk ms' clock := by
  refine ⟨fun m hm => ?_, by rw [e]; exact h.2⟩
  have : m.born ∈ ms.toList.map (·.born) := by rw [← e]; exact List.mem_map.2 ⟨m, hm, rfl⟩
  obtain ⟨m', hm', e'⟩ := List.mem_map.1 this
  rw [← e']; exact h.1 m' hm'
theorem BornOk.of_sub {ms ms' : Array MapEntry} {clock : Nat} (h : BornOk ms clock) (e : ms'.toList.Sublist ms.toList) : BornOk ms' clock :=
  ⟨fun m hm => h.1 m (e.subset hm), (e.map _).nodup h.2⟩
def ObjOk (tb : Tb) (ι : Io) (w : World) (L : Loc) : AObj → Prop
  | .cells c .exact => L.off = 0 ∧ L.room = c.length ∧ ∃ e fz, w.heap[L.block]? = some (.cells (c.map (conc ι)).toArray e fz) ∧ fz.1 = fz.2
  | .cells c .grow => L.off = 0 ∧ ∃ rest e fz, w.heap[L.block]? = some (.cells (c.map (conc ι) ++ rest).toArray e fz) ∧ L.room = c.length + rest.length ∧ (fz.2 ≤ fz.1 ∨ c.length + rest.length ≤ fz.1)
  | .cells c .ro => ∀ j v, c[j]? = some v → w.cell? ⟨L.block, L.off + j, none⟩ = some (conc ι v)
  | .map es => KeysOk es ∧ ∃ ms clock, w.heap[L.block]? = some (.map ms clock) ∧ (ms.toList.map (fun m => (m.key, m.val))).Perm (es.map (pairC ι)) ∧ BornOk ms clock
  | .loop state p _ tm params assign body d => ∃ fn tmps N, w.heap[L.block]? = some (.loop { state := state, pending := p, fn := fn, tmps := tmps, params := params.toArray, assign := assign, body := body, defers := (ι d).block }) ∧
    TmOk ι N tm tmps ∧ (∀ x ∈ params, x < N) ∧ codeOk tb N assign = true ∧ codeOk tb N body = true
  | .deferred fresh => w.heap[L.block]? = some (.deferred (if fresh then some [] else none))
  | .dead => True
def AObj.inD (D : Nat → Nat → Prop) : AObj → Prop
  | .cells c _ => ∀ v ∈ c, Ae.inD D v
  | .map es => ∀ p ∈ es, Ae.inD D p.1 ∧ Ae.inD D p.2
  | .loop _ _ _ tm _ _ _ d => TmIn D tm ∧ D d 0
  | _ => True
def roomy (ι : Io) (g : Hp) (i k : Nat) : Prop := hdom g i ∧ k ≤ (ι i).room
structure Good (tb : Tb) (ι : Io) (g : Hp) (w : World) : Prop where
  obj : ∀ id o, g id = some o → ObjOk tb ι w (ι id) o
  apart : ∀ id o id' o', g id = some o → g id' = some o' → o.writable = true → o'.solid = true → id' ≠ id → (ι id').block ≠ (ι id).block
  closed : ∀ id o, g id = some o → o.inD (roomy ι g)
  glob : ∀ i, tb.gl i = true → hdom g i ∧ (ι i).block = i ∧ (ι i).off = 0
end Go.Proofs.Ae
namespace Go.Proofs.Ae
def St.Ok (s : St) : Prop := ∀ i, hdom s.get i → i < s.next
theorem St.Ok.fresh {s : St} (h : s.Ok) : s.get s.next = none := by
  cases hg : s.get s.next with
  | none => rfl
  | some o => exact absurd (h _ (hdom_of hg)) (Nat.lt_irrefl _)
structure Ev (s s' : St) : Prop where
  next : s.next ≤ s'.next
  dom : ∀ i, hdom s.get i → hdom s'.get i
  domNew : ∀ i, hdom s'.get i → hdom s.get i ∨ (s.next ≤ i ∧ i < s'.next)
  mods : ∀ i ∈ s.mods, i ∈ s'.mods
  kept : ∀ i o, s.get i = some o → i ∉ s'.mods → s'.get i = some o
theorem Ev.refl (s : St) : Ev s s := ⟨Nat.le_refl _, fun _ h => h, fun _ h => .inl h, fun _ h => h, fun _ _ h _ => h⟩
theorem Ev.trans {s s1 s2 : St} (h : Ev s s1) (k : Ev s1 s2) : Ev s s2 where
  next := Nat.le_trans h.next k.next
  dom i hi := k.dom i (h.dom i hi)
  domNew i hi := by
    rcases k.domNew i hi with h1 | ⟨h1, h2⟩
    · rcases h.domNew i h1 with h2 | ⟨h2, h3⟩
      · exact .inl h2
      · exact .inr ⟨h2, Nat.lt_of_lt_of_le h3 k.next⟩
    · exact .inr ⟨Nat.le_trans h.next h1, h2⟩
  mods i hi := k.mods i (h.mods i hi)
  kept i o ho hn := k.kept i o (h.kept i o ho (fun hm => hn (k.mods i hm))) hn
theorem Ev.ok {s s' : St} (h : Ev s s') (k : s.Ok) : s'.Ok := fun i hi => by
  rcases h.domNew i hi with h1 | ⟨_, h2⟩
  · exact Nat.lt_of_lt_of_le (k i h1) h.next
  · exact h2
theorem Ev.upd {s : St} {id : Nat} {o : AObj} (o' : AObj) (h : s.get id = some o) : Ev s (s.upd id o') where
  next := Nat.le_refl _
  dom i hi := by rw [St.get_upd]; exact hdom_hset hi
  domNew i hi := by
    by_cases e : i = id
    · subst e; exact .inl (hdom_of h)
    · unfold hdom at hi; rw [St.get_upd_ne _ _ _ _ e] at hi; exact .inl hi
  mods i hi := by simp [hi]
  kept i a ha hn := by
    have e : i ≠ id := fun e => hn (by simp [e])
    rw [St.get_upd_ne _ _ _ _ e]; exact ha
theorem Ev.alloc {s : St} (o : AObj) (h : s.get s.next = none) : Ev s (s.alloc o) where
  next := Nat.le_succ _
  dom i hi := by rw [St.get_alloc]; exact hdom_hset hi
  domNew i hi := by
    by_cases e : i = s.next
    · exact .inr ⟨by omega, by simp; omega⟩
    · unfold hdom at hi; rw [St.get_alloc_ne _ _ _ e] at hi; exact .inl hi
  mods i hi := by simpa using hi
  kept i a ha hn := by
    have e : i ≠ s.next := fun e => by rw [e, h] at ha; cases ha
    rw [St.get_alloc_ne _ _ _ e]; exact ha
structure Ext (tb : Tb) (ι : Io) (g : Hp) (w : World) (ι' : Io) (g' : Hp) (w' : World) (M : List Nat) : Prop where
  good : Good tb ι' g' w'
  agree : ∀ i, hdom g i → ι' i = ι i
  dom : ∀ i, hdom g i → hdom g' i
  stay : ∀ i o, g i = some o → o.writable = false → g' i = some o
  size : w.heap.size ≤ w'.heap.size
  os : w'.os = w.os
  tape : w'.tape = w.tape
  output : w'.output = w.output
  frame : ∀ b, b < w.heap.size → (∀ i ∈ M, ∀ o, g i = some o → o.writable = true → (ι i).block ≠ b) → w'.heap[b]? = w.heap[b]?
  fresh : ∀ i o, ¬ hdom g i → g' i = some o → o.solid = true → w.heap.size ≤ (ι' i).block ∨ ∃ B oB, B ∈ M ∧ g B = some oB ∧ oB.writable = true ∧ (ι B).block = (ι' i).block
variable {tb : Tb}
theorem Ext.refl {ι : Io} {g : Hp} {w : World} (h : Good tb ι g w) (M : List Nat) : Ext tb ι g w ι g w M :=
  ⟨h, fun _ _ => rfl, fun _ h => h, fun _ _ h _ => h, Nat.le_refl _, rfl, rfl, rfl, fun _ _ _ => rfl, fun i o hn hs _ => absurd (hdom_of hs) hn⟩
theorem Ext.more {ι ι' : Io} {g g' : Hp} {w w' : World} {M M' : List Nat} (h : Ext tb ι g w ι' g' w' M) (hm : ∀ i ∈ M, i ∈ M') : Ext tb ι g w ι' g' w' M' :=
  ⟨h.good, h.agree, h.dom, h.stay, h.size, h.os, h.tape, h.output, fun b hb hn => h.frame b hb (fun i hi => hn i (hm i hi)),
    fun i o hn ho hs => (h.fresh i o hn ho hs).imp id (fun ⟨B, oB, h1, h2⟩ => ⟨B, oB, hm B h1, h2⟩)⟩
theorem solid_of_writable {o : AObj} (h : o.writable = true) : o.solid = true := by
  cases o with
  | cells c m => cases m <;> first | rfl | (simp [AObj.writable] at h)
  | dead => simp [AObj.writable] at h
  | _ => rfl
theorem Ext.trans {ι ι1 ι2 : Io} {g g1 g2 : Hp} {w w1 w2 : World} {M1 M2 : List Nat} (h : Ext tb ι g w ι1 g1 w1 M1) (k : Ext tb ι1 g1 w1 ι2 g2 w2 M2) (hm : ∀ i ∈ M1, i ∈ M2) : Ext tb ι g w ι2 g2 w2 M2 where
  good := k.good
  agree i hi := (k.agree i (h.dom i hi)).trans (h.agree i hi)
  dom i hi := k.dom i (h.dom i hi)
  stay i o ho hw := k.stay i o (h.stay i o ho hw) hw
  size := Nat.le_trans h.size k.size
  os := k.os.trans h.os
  tape := k.tape.trans h.tape
  output := k.output.trans h.output
  frame b hb hM := by
    have h1 := h.frame b hb (fun i hi => hM i (hm i hi))
    refine (k.frame b (Nat.lt_of_lt_of_le hb h.size) (fun i hi o1 ho1 hw1 => ?_)).trans h1
    by_cases hsd : hdom g i
    · obtain ⟨o, ho⟩ := get_of_hdom hsd
      rw [h.agree i hsd]
      refine hM i hi o ho ?_
      cases hw : o.writable with
      | true => rfl
      | false => have := h.stay i o ho hw; rw [this] at ho1; cases ho1; rw [hw] at hw1; cases hw1
    · rcases h.fresh i o1 hsd ho1 (solid_of_writable hw1) with h3 | ⟨B, oB, hB, hBg, hBw, hBe⟩
      · omega
      · rw [← hBe]; exact hM B (hm B hB) oB hBg hBw
  fresh i o hn ho hs := by
    by_cases hd1 : hdom g1 i
    · obtain ⟨o1, ho1⟩ := get_of_hdom hd1
      have hs1 : o1.solid = true := by
        cases hw : o1.writable with
        | true => exact solid_of_writable hw
        | false => have := k.stay i o1 ho1 hw; rw [this] at ho; cases ho; exact hs
      rw [k.agree i hd1]
      rcases h.fresh i o1 hn ho1 hs1 with h3 | ⟨B, oB, hB, h4⟩
      · exact .inl h3
      · exact .inr ⟨B, oB, hm B hB, h4⟩
    · rcases k.fresh i o hd1 ho hs with h3 | ⟨B, o1, hB, hBg, hBw, hBe⟩
      · exact .inl (Nat.le_trans h.size h3)
      · by_cases hsB : hdom g B
        · obtain ⟨oB, hoB⟩ := get_of_hdom hsB
          refine .inr ⟨B, oB, hB, hoB, ?_, by rw [← hBe, h.agree B hsB]⟩
          cases hw : oB.writable with
          | true => rfl
          | false => have := h.stay B oB hoB hw; rw [this] at hBg; cases hBg; rw [hw] at hBw; cases hBw
        · rcases h.fresh B o1 hsB hBg (solid_of_writable hBw) with h4 | ⟨C, oC, hC, hCg, hCw, hCe⟩
          · exact .inl (by rw [← hBe]; exact h4)
          · exact .inr ⟨C, oC, hm C hC, hCg, hCw, by rw [hCe, hBe]⟩
theorem roomy_mono {ι ι' : Io} {g g' : Hp} (ha : ∀ i, hdom g i → ι' i = ι i) (hd : ∀ i, hdom g i → hdom g' i) : ∀ i k, roomy ι g i k → roomy ι' g' i k := fun i k h => ⟨hd i h.1, by rw [ha i h.1]; exact h.2⟩
theorem roomy_hset {ι : Io} {g : Hp} {n : Nat} {o : AObj} : ∀ i k, roomy ι g i k → roomy ι (hset g n o) i k := fun i k h => ⟨hdom_hset h.1, h.2⟩
theorem Ext.rm {ι ι' : Io} {g g' : Hp} {w w' : World} {M : List Nat} (h : Ext tb ι g w ι' g' w' M) : ∀ i k, roomy ι g i k → roomy ι' g' i k := roomy_mono h.agree h.dom
theorem map_conc_congr {ι ι' : Io} {D : Nat → Nat → Prop} (h : ∀ i k, D i k → ι' i = ι i) {c : List Value} (hc : ∀ v ∈ c, inD D v) : c.map (conc ι') = c.map (conc ι) :=
  List.map_congr_left fun v hv => conc_congr h v (hc v hv)
theorem TmOk.congr {ι ι' : Io} {D : Nat → Nat → Prop} {N : Nat} {tm : Tr Value} {tmps : Array Value} (h : TmOk ι N tm tmps) (hin : TmIn D tm) (hD : ∀ i k, D i k → ι' i = ι i) : TmOk ι' N tm tmps :=
  ⟨h.1, fun t => by rw [h.2 t, conc_congr hD _ (hin t)]⟩
theorem ObjOk.mono {ι ι' : Io} {w w' : World} {L : Loc} {o : AObj} {D : Nat → Nat → Prop} (h : ObjOk tb ι w L o) (hD : ∀ i k, D i k → ι' i = ι i) (hin : o.inD D)
    (hb : o.solid = true → w'.heap[L.block]? = w.heap[L.block]?) : ObjOk tb ι' w' L o := by
  cases o with
  | dead => trivial
  | cells c m =>
    have hc : ∀ v ∈ c, inD D v := hin
    cases m with
    | exact =>
      obtain ⟨h1, h2, e, fz, h3, h4⟩ := h
      refine ⟨h1, h2, e, fz, ?_, h4⟩
      rw [hb rfl, h3, map_conc_congr hD hc]
    | grow =>
      obtain ⟨h1, rest, e, fz, h3, h4⟩ := h
      refine ⟨h1, rest, e, fz, ?_, h4⟩
      rw [hb rfl, h3, map_conc_congr hD hc]
    | ro =>
      intro j v hj
      have hne : AObj.solid (.cells c .ro) = true := by
        cases c with
        | nil => simp at hj
        | cons x c => rfl
      have hv : v ∈ c := List.mem_of_getElem? hj
      rw [conc_congr hD v (hc v hv), ← h j v hj]
      unfold World.cell?
      simp only [hb hne]
  | map es =>
    obtain ⟨h0, ms, clock, h1, h2, h3⟩ := h
    refine ⟨h0, ms, clock, by rw [hb rfl, h1], ?_, h3⟩
    have : es.map (pairC ι') = es.map (pairC ι) := List.map_congr_left fun p hp => by unfold pairC; rw [conc_congr hD _ (hin p hp).1, conc_congr hD _ (hin p hp).2]
    rw [this]; exact h2
  | loop state p fid tm params assign body d =>
    obtain ⟨fn, tmps, N, h1, h2, h3⟩ := h
    exact ⟨fn, tmps, N, by rw [hb rfl, h1, hD d 0 hin.2], h2.congr hin.1 hD, h3⟩
  | deferred fresh => exact (hb rfl).trans h
theorem lt_of_cell {w : World} {a : Addr} {v : Value} (h : w.cell? a = some v) : a.block < w.heap.size := by
  unfold World.cell? at h
  cases hb : w.heap[a.block]? with
  | none => rw [hb] at h; simp at h
  | some o => exact (Array.getElem?_eq_some_iff.1 hb).1
theorem ObjOk.lt {ι : Io} {w : World} {L : Loc} {o : AObj} (h : ObjOk tb ι w L o) (hs : o.solid = true) : L.block < w.heap.size := by
  cases o with
  | dead => simp [AObj.solid] at hs
  | cells c m =>
    cases m with
    | exact => obtain ⟨h1, h2, e, fz, h3, h4⟩ := h; exact (Array.getElem?_eq_some_iff.1 h3).1
    | grow => obtain ⟨h1, rest, e, fz, h3, h4⟩ := h; exact (Array.getElem?_eq_some_iff.1 h3).1
    | ro =>
      cases c with
      | nil => simp [AObj.solid] at hs
      | cons x c => exact lt_of_cell (h 0 x rfl)
  | map es => obtain ⟨h0, ms, clock, h1, h2⟩ := h; exact (Array.getElem?_eq_some_iff.1 h1).1
  | loop state p fid tm params assign body d => obtain ⟨fn, tmps, N, h1, _⟩ := h; exact (Array.getElem?_eq_some_iff.1 h1).1
  | deferred fresh => exact (Array.getElem?_eq_some_iff.1 h).1
theorem TmIn.mono {D D' : Nat → Nat → Prop} (h : ∀ i k, D i k → D' i k) {tm : Tr Value} (ht : TmIn D tm) : TmIn D' tm := fun t => Ae.inD_mono h _ (ht t)
theorem AObj.inD_mono {D D' : Nat → Nat → Prop} (h : ∀ i k, D i k → D' i k) {o : AObj} (ho : o.inD D) : o.inD D' := by
  cases o with
  | cells c m => exact fun v hv => Ae.inD_mono h v (ho v hv)
  | map es => exact fun p hp => ⟨Ae.inD_mono h _ (ho p hp).1, Ae.inD_mono h _ (ho p hp).2⟩
  | loop state p fid tm params assign body d => exact ⟨ho.1.mono h, h d 0 ho.2⟩
  | _ => trivial
def upI (ι : Io) (n : Nat) (L : Loc) : Io := fun i => if i = n then L else ι i
theorem upI_self (ι : Io) (n : Nat) (L : Loc) : upI ι n L n = L := by simp [upI]
theorem upI_ne (ι : Io) (n : Nat) (L : Loc) {i : Nat} (h : i ≠ n) : upI ι n L i = ι i := by simp [upI, h]
theorem ne_of_hdom {g : Hp} {i n : Nat} (hf : g n = none) (h : hdom g i) : i ≠ n := fun e => h (by rw [e]; exact hf)
theorem Ext.alloc {ι : Io} {g : Hp} {w : World} (G : Good tb ι g w) {n : Nat} (hf : g n = none) (o : AObj) (L : Loc) (w' : World) (M : List Nat)
    (hio : o.inD (roomy ι g)) (hos : w'.os = w.os) (htape : w'.tape = w.tape) (hout : w'.output = w.output) (hsize : w.heap.size ≤ w'.heap.size)
    (hold : ∀ b, b < w.heap.size → w'.heap[b]? = w.heap[b]?) (hnew : o.writable = false ∧ o.solid = false ∨ L.block = w.heap.size) (hok : ObjOk tb (upI ι n L) w' L o) :
    Ext tb ι g w (upI ι n L) (hset g n o) w' M := by
  have hag : ∀ i, hdom g i → upI ι n L i = ι i := fun i hi => upI_ne _ _ _ (ne_of_hdom hf hi)
  refine ⟨⟨?_, ?_, ?_, fun i hi => ⟨hdom_hset (G.glob i hi).1, by rw [hag i (G.glob i hi).1]; exact (G.glob i hi).2⟩⟩, hag, fun i hi => hdom_hset hi, ?_, hsize, hos, htape, hout, fun b hb _ => hold b hb, ?_⟩
  · intro id o1 h1
    by_cases e : id = n
    · subst e
      rw [hset_self] at h1; cases h1
      rw [upI_self]; exact hok
    · rw [hset_ne _ _ _ _ e] at h1
      rw [upI_ne _ _ _ e]
      exact (G.obj id o1 h1).mono (fun i k h => hag i h.1) (G.closed id o1 h1) (fun hs => hold _ ((G.obj id o1 h1).lt hs))
  · intro id o1 id' o2 h1 h2 hw hs hne
    by_cases e : id = n
    · subst e
      rw [hset_self] at h1; cases h1
      rw [hset_ne _ _ _ _ hne] at h2
      rw [upI_self, upI_ne _ _ _ hne]
      have hlt := (G.obj id' o2 h2).lt hs
      rcases hnew with ⟨hr, _⟩ | hL
      · rw [hw] at hr; cases hr
      · omega
    · rw [hset_ne _ _ _ _ e] at h1
      rw [upI_ne _ _ _ e]
      by_cases e' : id' = n
      · subst e'
        rw [hset_self] at h2; cases h2
        rw [upI_self]
        have hlt := (G.obj id o1 h1).lt (solid_of_writable hw)
        rcases hnew with ⟨_, hr⟩ | hL
        · rw [hs] at hr; cases hr
        · omega
      · rw [hset_ne _ _ _ _ e'] at h2
        rw [upI_ne _ _ _ e']
        exact G.apart id o1 id' o2 h1 h2 hw hs hne
  · intro id o1 h1
    by_cases e : id = n
    · subst e
      rw [hset_self] at h1; cases h1
      exact AObj.inD_mono (roomy_mono hag fun i hi => hdom_hset hi) hio
    · rw [hset_ne _ _ _ _ e] at h1
      exact AObj.inD_mono (roomy_mono hag fun i hi => hdom_hset hi) (G.closed id o1 h1)
  · intro i o1 h1 _
    rw [hset_ne _ _ _ _ (ne_of_hdom hf (hdom_of h1))]; exact h1
  · intro i o1 hn h1 hs
    have e : i = n := Classical.byContradiction fun e => hn (by unfold hdom; rw [hset_ne _ _ _ _ e] at h1; rw [h1]; simp)
    subst e
    rw [hset_self] at h1; cases h1
    rw [upI_self]
    rcases hnew with ⟨_, hr⟩ | hL
    · rw [hs] at hr; cases hr
    · exact .inl (by omega)
structure Wr (w w' : World) (b : Nat) (o : Obj) : Prop where
  os : w'.os = w.os
  tape : w'.tape = w.tape
  output : w'.output = w.output
  size : w'.heap.size = w.heap.size
  here : w'.heap[b]? = some o
  other : ∀ k, k ≠ b → w'.heap[k]? = w.heap[k]?
theorem Ext.write {ι : Io} {g : Hp} {w w' : World} (G : Good tb ι g w) {id : Nat} {o o' : AObj} {obj : Obj} {M : List Nat} (hM : id ∈ M) (hg : g id = some o) (hw : o.writable = true) (hw' : o'.writable = true)
    (hio : o'.inD (roomy ι g)) (W : Wr w w' (ι id).block obj) (hok : ObjOk tb ι w' (ι id) o') : Ext tb ι g w ι (hset g id o') w' M := by
  refine ⟨⟨?_, ?_, ?_, fun i hi => ⟨hdom_hset (G.glob i hi).1, (G.glob i hi).2⟩⟩, fun _ _ => rfl, fun i hi => hdom_hset hi, ?_, by rw [W.size]; exact Nat.le_refl _, W.os, W.tape, W.output, ?_, ?_⟩
  · intro i o1 h1
    by_cases e : i = id
    · subst e; rw [hset_self] at h1; cases h1; exact hok
    · rw [hset_ne _ _ _ _ e] at h1
      exact (G.obj i o1 h1).mono (D := roomy ι g) (fun _ _ _ => rfl) (G.closed i o1 h1) (fun hs => W.other _ (G.apart id o i o1 hg h1 hw hs e))
  · intro i o1 j o2 h1 h2 hw1 hs2 hne
    by_cases e : i = id
    · subst e
      rw [hset_ne _ _ _ _ hne] at h2
      exact G.apart i o j o2 hg h2 hw hs2 hne
    · rw [hset_ne _ _ _ _ e] at h1
      by_cases e' : j = id
      · subst e'
        exact G.apart i o1 j o h1 hg hw1 (solid_of_writable hw) hne
      · rw [hset_ne _ _ _ _ e'] at h2
        exact G.apart i o1 j o2 h1 h2 hw1 hs2 hne
  · intro i o1 h1
    by_cases e : i = id
    · subst e; rw [hset_self] at h1; cases h1
      exact AObj.inD_mono roomy_hset hio
    · rw [hset_ne _ _ _ _ e] at h1
      exact AObj.inD_mono roomy_hset (G.closed i o1 h1)
  · intro i o1 h1 hw1
    have e : i ≠ id := fun e => by subst e; rw [hg] at h1; cases h1; rw [hw] at hw1; cases hw1
    rw [hset_ne _ _ _ _ e]; exact h1
  · intro b hb hm
    exact W.other b (fun e => hm id hM o hg hw e.symm)
  · intro i o1 hn h1 _
    by_cases e : i = id
    · subst e; exact absurd (hdom_of hg) hn
    · rw [hset_ne _ _ _ _ e] at h1; exact absurd (hdom_of h1) hn
theorem Good.drew {ι : Io} {g : Hp} {w : World} (G : Good tb ι g w) : Good tb ι g w.drew :=
  ⟨fun id o h => (G.obj id o h).mono (D := roomy ι g) (fun _ _ _ => rfl) (G.closed id o h) (fun _ => rfl), G.apart, G.closed, G.glob⟩
theorem Ext.drew {ι : Io} {g : Hp} {w : World} (G : Good tb ι g w) (M : List Nat) : Ext tb ι g w ι g w.drew M :=
  ⟨G.drew, fun _ _ => rfl, fun _ h => h, fun _ _ h _ => h, Nat.le_refl _, rfl, rfl, rfl, fun _ _ _ => rfl, fun i o hn hs _ => absurd (hdom_of hs) hn⟩
theorem Ext.move {ι : Io} {g : Hp} {w w' : World} (G : Good tb ι g w) {id n : Nat} {o o' : AObj} {M : List Nat} (hM : id ∈ M) (hg : g id = some o) (hw : o.writable = true) (hf : g n = none) (L : Loc) (hw' : o'.writable = true)
    (hio : o'.inD (roomy ι g)) (hos : w'.os = w.os) (htape : w'.tape = w.tape) (hout : w'.output = w.output) (hsize : w.heap.size ≤ w'.heap.size)
    (hold : ∀ b, b < w.heap.size → b ≠ (ι id).block → w'.heap[b]? = w.heap[b]?) (hnew : L.block = (ι id).block ∨ L.block = w.heap.size) (hok : ObjOk tb (upI ι n L) w' L o') :
    Ext tb ι g w (upI ι n L) (hset (hset g id .dead) n o') w' M := by
  have hne : id ≠ n := ne_of_hdom hf (hdom_of hg)
  have hag : ∀ i, hdom g i → upI ι n L i = ι i := fun i hi => upI_ne _ _ _ (ne_of_hdom hf hi)
  have hlt : (ι id).block < w.heap.size := (G.obj id o hg).lt (solid_of_writable hw)
  have hgetn : hset (hset g id .dead) n o' n = some o' := hset_self _ _ _
  have hgetd : hset (hset g id .dead) n o' id = some .dead := by rw [hset_ne _ _ _ _ hne]; exact hset_self _ _ _
  have hgeto : ∀ i, i ≠ n → i ≠ id → hset (hset g id .dead) n o' i = g i := fun i h1 h2 => by rw [hset_ne _ _ _ _ h1, hset_ne _ _ _ _ h2]
  have hdm : ∀ i, hdom g i → hdom (hset (hset g id .dead) n o') i := fun i hi => hdom_hset (hdom_hset hi)
  refine ⟨⟨?_, ?_, ?_, fun i hi => ⟨hdm i (G.glob i hi).1, by rw [hag i (G.glob i hi).1]; exact (G.glob i hi).2⟩⟩, hag, hdm, ?_, hsize, hos, htape, hout, ?_, ?_⟩
  · intro i o1 h1
    by_cases e : i = n
    · subst e; rw [hgetn] at h1; cases h1; rw [upI_self]; exact hok
    · by_cases e' : i = id
      · subst e'; rw [hgetd] at h1; cases h1; trivial
      · rw [hgeto i e e'] at h1
        rw [upI_ne _ _ _ e]
        exact (G.obj i o1 h1).mono (fun i k h => hag i h.1) (G.closed i o1 h1) (fun hs => hold _ ((G.obj i o1 h1).lt hs) (G.apart id o i o1 hg h1 hw hs e'))
  · intro i o1 j o2 h1 h2 hw1 hs2 hij
    by_cases e : i = n
    · subst e
      rw [hgetn] at h1; cases h1
      by_cases e' : j = id
      · subst e'; rw [hgetd] at h2; cases h2; simp [AObj.solid] at hs2
      · rw [hgeto j hij e'] at h2
        rw [upI_self, upI_ne _ _ _ hij]
        have := (G.obj j o2 h2).lt hs2
        rcases hnew with hL | hL
        · rw [hL]; exact G.apart id o j o2 hg h2 hw hs2 e'
        · omega
    · by_cases ei : i = id
      · subst ei; rw [hgetd] at h1; cases h1; simp [AObj.writable] at hw1
      · rw [hgeto i e ei] at h1
        rw [upI_ne _ _ _ e]
        by_cases ej : j = n
        · subst ej
          rw [hgetn] at h2; cases h2
          rw [upI_self]
          have h4 := (G.obj i o1 h1).lt (solid_of_writable hw1)
          rcases hnew with hL | hL
          · rw [hL]; exact G.apart i o1 id o h1 hg hw1 (solid_of_writable hw) (Ne.symm ei)
          · omega
        · by_cases ej' : j = id
          · subst ej'; rw [hgetd] at h2; cases h2; simp [AObj.solid] at hs2
          · rw [hgeto j ej ej'] at h2
            rw [upI_ne _ _ _ ej]
            exact G.apart i o1 j o2 h1 h2 hw1 hs2 hij
  · intro i o1 h1
    by_cases e : i = n
    · subst e; rw [hgetn] at h1; cases h1; exact AObj.inD_mono (roomy_mono hag hdm) hio
    · by_cases e' : i = id
      · subst e'; rw [hgetd] at h1; cases h1; trivial
      · rw [hgeto i e e'] at h1; exact AObj.inD_mono (roomy_mono hag hdm) (G.closed i o1 h1)
  · intro i o1 h1 hw1
    have e : i ≠ id := fun e => by subst e; rw [hg] at h1; cases h1; rw [hw] at hw1; cases hw1
    rw [hgeto i (ne_of_hdom hf (hdom_of h1)) e]; exact h1
  · intro b hb hm
    exact hold b hb (fun e => hm id hM o hg hw e.symm)
  · intro i o1 hn h1 _
    by_cases e : i = n
    · subst e
      rw [upI_self]
      rcases hnew with hL | hL
      · exact .inr ⟨id, o, hM, hg, hw, hL.symm⟩
      · exact .inl (by omega)
    · by_cases e' : i = id
      · subst e'; exact absurd (hdom_of hg) hn
      · rw [hgeto i e e'] at h1; exact absurd (hdom_of h1) hn
end Go.Proofs.Ae
namespace Go.Proofs.Ae
theorem takeX_nil (n : Nat) : takeX [] n = (if n = 0 then some [] else none) := by cases n <;> rfl
theorem takeX_zero (l : List Value) : takeX l 0 = some [] := by cases l <;> rfl
theorem takeX_succ (v : Value) (l : List Value) (n : Nat) : takeX (v :: l) (n + 1) = (takeX l n).map (v :: ·) := by
  change Option.rec (motive := fun _ => Option (List Value)) none (fun r => some (v :: r)) (takeX l n) = _
  cases takeX l n <;> rfl
theorem takeX_some : ∀ {l : List Value} {n : Nat} {r : List Value}, takeX l n = some r → r = l.take n ∧ r.length = n
  | [], n, r, h => by
    rw [takeX_nil] at h
    split at h
    · rename_i hn; subst hn; cases h; exact ⟨rfl, rfl⟩
    · cases h
  | v :: l, 0, r, h => by rw [takeX_zero] at h; cases h; exact ⟨rfl, rfl⟩
  | v :: l, n + 1, r, h => by
    rw [takeX_succ] at h
    cases ht : takeX l n with
    | none => rw [ht] at h; cases h
    | some q =>
      rw [ht] at h
      simp only [Option.map_some, Option.some.injEq] at h
      subst h
      obtain ⟨h1, h2⟩ := takeX_some ht
      subst h1
      exact ⟨rfl, by simpa using h2⟩
theorem dropX_eq : ∀ (l : List Value) (n : Nat), dropX l n = l.drop n
  | [], n => by cases n <;> rfl
  | v :: l, 0 => rfl
  | v :: l, n + 1 => by
    change dropX l n = _
    rw [dropX_eq l n]; rfl
def putAt : List Value → Nat → List Value → List Value
  | [], _, _ => []
  | c, 0, [] => c
  | _ :: c, 0, v :: vs => v :: putAt c 0 vs
  | x :: c, n + 1, vs => x :: putAt c n vs
theorem putX_nil_zero (vs : List Value) : putX [] 0 vs = (if vs = [] then some [] else none) := by cases vs <;> rfl
theorem putX_zero_nil (x : Value) (c : List Value) : putX (x :: c) 0 [] = some (x :: c) := rfl
theorem putX_zero_cons (x : Value) (c : List Value) (v : Value) (vs : List Value) : putX (x :: c) 0 (v :: vs) = (putX c 0 vs).map (v :: ·) := by
  change Option.rec (motive := fun _ => Option (List Value)) none (fun r => some (v :: r)) (putX c 0 vs) = _
  cases putX c 0 vs <;> rfl
theorem putX_succ (x : Value) (c : List Value) (n : Nat) (vs : List Value) : putX (x :: c) (n + 1) vs = (putX c n vs).map (x :: ·) := by
  change Option.rec (motive := fun _ => Option (List Value)) none (fun r => some (x :: r)) (putX c n vs) = _
  cases putX c n vs <;> rfl
theorem putX_some : ∀ {c : List Value} {n : Nat} {vs c' : List Value}, putX c n vs = some c' → c' = putAt c n vs ∧ n + vs.length ≤ c.length
  | [], 0, vs, c', h => by
    rw [putX_nil_zero] at h
    split at h
    · rename_i hv; subst hv; cases h; exact ⟨rfl, Nat.le_refl _⟩
    · cases h
  | [], n + 1, vs, c', h => by cases h
  | x :: c, 0, [], c', h => by rw [putX_zero_nil] at h; cases h; exact ⟨rfl, by simp⟩
  | x :: c, 0, v :: vs, c', h => by
    rw [putX_zero_cons] at h
    cases hp : putX c 0 vs with
    | none => rw [hp] at h; cases h
    | some q =>
      rw [hp] at h
      simp only [Option.map_some, Option.some.injEq] at h
      obtain ⟨h1, h2⟩ := putX_some hp
      subst h1 h
      exact ⟨rfl, by simp at h2 ⊢; omega⟩
  | x :: c, n + 1, vs, c', h => by
    rw [putX_succ] at h
    cases hp : putX c n vs with
    | none => rw [hp] at h; cases h
    | some q =>
      rw [hp] at h
      simp only [Option.map_some, Option.some.injEq] at h
      obtain ⟨h1, h2⟩ := putX_some hp
      subst h1 h
      exact ⟨rfl, by simp; omega⟩
theorem putAt_nil : ∀ (c : List Value) (n : Nat), putAt c n [] = c
  | [], n => by cases n <;> rfl
  | _ :: _, 0 => rfl
  | x :: c, n + 1 => by simp [putAt, putAt_nil c n]
theorem length_putAt : ∀ (c : List Value) (n : Nat) (vs : List Value), (putAt c n vs).length = c.length
  | [], n, vs => by cases n <;> cases vs <;> rfl
  | _ :: _, 0, [] => rfl
  | x :: c, 0, v :: vs => by simp [putAt, length_putAt c 0 vs]
  | x :: c, n + 1, vs => by simp [putAt, length_putAt c n vs]
theorem putAt_cons : ∀ (c : List Value) (n : Nat) (v : Value) (vs : List Value), putAt c n (v :: vs) = putAt (c.set n v) (n + 1) vs
  | [], n, _, vs => by cases n <;> cases vs <;> rfl
  | x :: c, 0, v, vs => by simp [putAt]
  | x :: c, n + 1, v, vs => by simp [putAt, putAt_cons c n v vs]
theorem map_putAt (f : Value → Value) : ∀ (c : List Value) (n : Nat) (vs : List Value), (putAt c n vs).map f = putAt (c.map f) n (vs.map f)
  | [], n, vs => by cases n <;> cases vs <;> rfl
  | _ :: _, 0, [] => rfl
  | x :: c, 0, v :: vs => by simp [putAt, map_putAt f c 0 vs]
  | x :: c, n + 1, vs => by simp [putAt, map_putAt f c n vs]
theorem putAt_append : ∀ (c d : List Value) (n : Nat) (vs : List Value), n + vs.length ≤ c.length → putAt (c ++ d) n vs = putAt c n vs ++ d
  | [], d, 0, [], _ => by cases d <;> rfl
  | [], d, 0, _ :: _, h => by simp at h
  | [], d, _ + 1, _, h => by simp at h
  | x :: c, d, 0, [], _ => rfl
  | x :: c, d, 0, v :: vs, h => by simp [putAt, putAt_append c d 0 vs (by simpa using h)]
  | x :: c, d, n + 1, vs, h => by simp [putAt, putAt_append c d n vs (by simp at h; omega)]
theorem mem_putAt : ∀ (c : List Value) (n : Nat) (vs : List Value) (x : Value), x ∈ putAt c n vs → x ∈ c ∨ x ∈ vs
  | [], n, vs, x, h => by cases n <;> cases vs <;> simp [putAt] at h
  | _ :: _, 0, [], x, h => .inl h
  | y :: c, 0, v :: vs, x, h => by
    simp only [putAt, List.mem_cons] at h
    rcases h with rfl | h
    · exact .inr (by simp)
    · rcases mem_putAt c 0 vs x h with h | h
      · exact .inl (by simp [h])
      · exact .inr (by simp [h])
  | y :: c, n + 1, vs, x, h => by
    simp only [putAt, List.mem_cons] at h
    rcases h with rfl | h
    · exact .inl (by simp)
    · rcases mem_putAt c n vs x h with h | h
      · exact .inl (by simp [h])
      · exact .inr h
theorem oneV_eq (v : Value) : oneV v = v.oneCell' := by cases v <;> rfl
theorem allOne_spec : ∀ {l : List Value}, allOne l = true → ∀ v ∈ l, oneV v = true
  | [], _, v, hv => by cases hv
  | x :: l, h, v, hv => by
    change Bool.rec (motive := fun _ => Bool) false (allOne l) (oneV x) = true at h
    cases hp : oneV x with
    | false => rw [hp] at h; cases h
    | true =>
      rw [hp] at h
      rcases List.mem_cons.1 hv with rfl | hv
      · exact hp
      · exact allOne_spec (l := l) h v hv
theorem Wr.setCell {w : World} {b o : Nat} {cs : List Value} {e : TypeId} {fz : Nat × Nat} (h : w.heap[b]? = some (.cells cs.toArray e fz)) (v : Value) (ho : o < cs.length) :
    Wr w (w.setCell ⟨b, o, none⟩ v) b (.cells (cs.set o v).toArray e fz) := by
  refine ⟨rfl, rfl, rfl, by simp [World.setCell], ?_, ?_⟩
  · simp only [World.setCell, Array.getElem?_modify, ↓reduceIte, h, Option.map_some]
    simp [List.setIfInBounds_toArray]
  · intro k hk
    simp only [World.setCell, Array.getElem?_modify]
    rw [if_neg (Ne.symm hk)]
theorem Wr.trans {w w1 w2 : World} {b : Nat} {o1 o2 : Obj} (h : Wr w w1 b o1) (k : Wr w1 w2 b o2) : Wr w w2 b o2 :=
  ⟨k.os.trans h.os, k.tape.trans h.tape, k.output.trans h.output, k.size.trans h.size, k.here, fun i hi => (k.other i hi).trans (h.other i hi)⟩
theorem not_frozen {w : World} {b o : Nat} {cs : Array Value} {e : TypeId} {fz : Nat × Nat} (h : w.heap[b]? = some (.cells cs e fz)) (hz : fz.2 ≤ fz.1 ∨ cs.size ≤ fz.1) (ho : o < cs.size) :
    w.frozen? ⟨b, o, none⟩ = false := by
  obtain ⟨lo, hi⟩ := fz
  simp only [World.frozen?, h]
  simp only at hz
  rcases hz with hz | hz
  · by_cases h1 : lo ≤ o
    · have : ¬ o < hi := by omega
      simp [this]
    · simp [h1]
  · have : ¬ lo ≤ o := by omega
    simp [this]
variable {P : Program}
theorem run_storeCells_wr (b o : Nat) (e : TypeId) (fz : Nat × Nat) : ∀ (vs : List Value) (i : Nat) (cs : List Value) (w : World), w.heap[b]? = some (.cells cs.toArray e fz) → o + i + vs.length ≤ cs.length →
    (fz.2 ≤ fz.1 ∨ cs.length ≤ fz.1) → (∀ v ∈ vs, v.oneCell' = true) →
    ∃ w', (storeCells ⟨b, o, none⟩ vs i).run P w = .ok () w' ∧ Wr w w' b (.cells (putAt cs (o + i) vs).toArray e fz)
  | [], i, cs, w, hb, _, _, _ => ⟨w, rfl, rfl, rfl, rfl, rfl, by rw [putAt_nil]; exact hb, fun _ _ => rfl⟩
  | v :: r, i, cs, w, hb, hl, hz, h1 => by
    simp only [List.length_cons] at hl
    have hadd : (⟨b, o, none⟩ : Addr).add i = ⟨b, o + i, none⟩ := by unfold Addr.add; split <;> simp_all
    have hcell : w.cell? ⟨b, o + i, none⟩ = some (cs[o + i]'(by omega)) := by
      simp only [World.cell?, hb]
      simp [List.getElem?_eq_getElem (show o + i < cs.length by omega)]
    have hfz : w.frozen? ⟨b, o + i, none⟩ = false := not_frozen hb (by simpa using hz) (by simp; omega)
    have hst : (store ((⟨b, o, none⟩ : Addr).add i) v).run P w = .ok () (w.setCell ⟨b, o + i, none⟩ v) := by
      rw [hadd, run_store P w _ v _ (h1 v (by simp)), hcell]
      simp only [hfz, Bool.false_eq_true, if_false]
    have W1 := Wr.setCell hb v (show o + i < cs.length by omega)
    obtain ⟨w', hr, W2⟩ := run_storeCells_wr b o e fz r (i + 1) (cs.set (o + i) v) _ W1.here (by simp; omega) (by simpa using hz) (fun x hx => h1 x (by simp [hx]))
    refine ⟨w', ?_, ?_⟩
    · simp only [storeCells, Sem.run_bind, hst, Result.andThen_ok, hr]
    · rw [putAt_cons, show o + i + 1 = o + (i + 1) by omega]
      exact W1.trans W2
noncomputable def cellsH (g : Hp) (a : Addr) (n : Nat) : Option (List Value) :=
  match a.spot with
  | some _ => none
  | none => cellsOf n a.off (g a.block)
theorem cellsAt_eq (s : St) (a : Addr) (n : Nat) : cellsAt s a n = cellsH s.get a n := rfl
theorem cellsH_spec {g : Hp} {a : Addr} {n : Nat} {l : List Value} (h : cellsH g a n = some l) :
    ∃ c m, a.spot = none ∧ g a.block = some (.cells c m) ∧ l = (c.drop a.off).take n ∧ l.length = n := by
  unfold cellsH at h
  split at h
  · cases h
  · rename_i hsp
    unfold cellsOf at h
    split at h
    · rename_i c m hg
      rw [dropX_eq] at h
      obtain ⟨h1, h2⟩ := takeX_some h
      exact ⟨c, m, hsp, hg, h1, h2⟩
    · cases h
theorem addr_add (a : Addr) (h : a.spot = none) (n : Nat) : a.add n = { a with off := a.off + n } := by
  unfold Addr.add
  split
  · subst_vars; cases a; simp_all
  · cases a; simp_all
theorem addC_spot (ι : Io) (a : Addr) : (addrC ι a).spot = a.spot := rfl
variable {tb : Tb}
theorem Good.cell {ι : Io} {g : Hp} {w : World} (G : Good tb ι g w) {id : Nat} {c : List Value} {m : Mode} (hg : g id = some (.cells c m)) {j : Nat} {v : Value} (hj : c[j]? = some v) :
    w.cell? ⟨(ι id).block, j + (ι id).off, none⟩ = some (conc ι v) := by
  have h := G.obj id _ hg
  cases m with
  | exact =>
    obtain ⟨h1, h2, e, fz, h3, h4⟩ := h
    simp only [World.cell?, h3, h1]
    simp [hj]
  | grow =>
    obtain ⟨h1, rest, e, fz, h3, h4⟩ := h
    simp only [World.cell?, h3, h1]
    obtain ⟨hlt, hv⟩ := List.getElem?_eq_some_iff.1 hj
    simp [List.getElem?_append_left, hlt, hv]
  | ro => rw [Nat.add_comm]; exact h j v hj
theorem Good.cellsH {ι : Io} {g : Hp} {w : World} (G : Good tb ι g w) {a : Addr} {n : Nat} {l : List Value} (h : cellsH g a n = some l) :
    ∀ j v, l[j]? = some v → w.cell? ((addrC ι a).add j) = some (conc ι v) := by
  obtain ⟨c, m, hsp, hg, rfl, hl⟩ := cellsH_spec h
  intro j v hj
  rw [addr_add _ (by rw [addC_spot, hsp])]
  have hjn : j < n := by rw [← hl]; exact (List.getElem?_eq_some_iff.1 hj).1
  rw [List.getElem?_take_of_lt hjn, List.getElem?_drop] at hj
  have := G.cell hg hj
  simp only [addrC, hsp]
  rw [show a.off + (ι a.block).off + j = a.off + j + (ι a.block).off by omega]
  exact this
theorem Good.cellsIn {ι : Io} {g : Hp} {w : World} (G : Good tb ι g w) {a : Addr} {n : Nat} {l : List Value} (h : Ae.cellsH g a n = some l) : ∀ v ∈ l, inD (roomy ι g) v := by
  obtain ⟨c, m, hsp, hg, rfl, hl⟩ := cellsH_spec h
  intro v hv
  exact G.closed _ _ hg v (List.mem_of_mem_drop (List.mem_of_mem_take hv))
theorem run_loadCells_ae {ι : Io} {g : Hp} {w : World} (G : Good tb ι g w) {a : Addr} {n : Nat} {l : List Value} (h : cellsH g a n = some l) :
    (loadCells (addrC ι a) n).run P w = .ok (l.map (conc ι)).toArray w := by
  obtain ⟨_, _, _, _, _, hl⟩ := cellsH_spec h
  have := run_loadCells_list (P := P) w (addrC ι a) (l.map (conc ι)) (fun j v hj => by
    rw [List.getElem?_map] at hj
    cases hv : l[j]? with
    | none => rw [hv] at hj; simp at hj
    | some u => rw [hv] at hj; simp only [Option.map_some, Option.some.injEq] at hj; subst hj; exact G.cellsH h j u hv)
  rw [List.length_map, hl] at this
  exact this
end Go.Proofs.Ae
