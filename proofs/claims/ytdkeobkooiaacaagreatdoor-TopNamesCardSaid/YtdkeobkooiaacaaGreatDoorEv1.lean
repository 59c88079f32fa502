/- The evaluator: values, memory, operations, bodies, calls; what calls are told before (no condition). -/
import GoSem.Step
import Derived.Orders
namespace Go.Proofs.YtdkeobkooiaacaaGreatDoor.Ev
/-! Numbers in binary, trees over them -/
inductive Pos where
  | h
  | o (p : Pos)
  | i (p : Pos)
  deriving DecidableEq, Repr, Inhabited
namespace Pos
def toNat : Pos → Nat
  | .h => 1
  | .o p => 2 * p.toNat
  | .i p => 2 * p.toNat + 1
def succ : Pos → Pos
  | .h => .o .h
  | .o p => .i p
  | .i p => .o p.succ
def succK {β : Type} : Pos → (Pos → β) → β
  | .h, k => k (.o .h)
  | .o p, k => k (.i p)
  | .i p, k => succK p fun q => k (.o q)
def beq : Pos → Pos → Bool
  | .h, .h => true
  | .o p, .o q => beq p q
  | .i p, .i q => beq p q
  | _, _ => false
end Pos
def posF : Nat → Nat → Pos
  | 0, _ => .h
  | f + 1, n => bif Nat.ble n 1 then .h else bif Nat.beq (n % 2) 0 then .o (posF f (n / 2)) else .i (posF f (n / 2))
/-- The place of a number in a tree. -/
def pos (n : Nat) : Pos := posF (n + 1) (n + 1)
inductive Tr (α : Type) where
  | lf
  | nd (l : Tr α) (v : Option α) (r : Tr α)
  deriving Inhabited
namespace Tr
variable {α : Type}
def get : Pos → Tr α → Option α
  | _, .lf => none
  | .h, .nd _ v _ => v
  | .o p, .nd l _ _ => get p l
  | .i p, .nd _ _ r => get p r
def put : Pos → Option α → Tr α → Tr α
  | .h, x, .lf => .nd .lf x .lf
  | .h, x, .nd l _ r => .nd l x r
  | .o p, x, .lf => .nd (put p x .lf) none .lf
  | .o p, x, .nd l v r => .nd (put p x l) v r
  | .i p, x, .lf => .nd .lf none (put p x .lf)
  | .i p, x, .nd l v r => .nd l v (put p x r)
def putK {β : Type} : Pos → Option α → Tr α → (Tr α → β) → β
  | .h, x, .lf, k => k (.nd .lf x .lf)
  | .h, x, .nd l _ r, k => k (.nd l x r)
  | .o p, x, .lf, k => putK p x .lf fun t => k (.nd t none .lf)
  | .o p, x, .nd l v r, k => putK p x l fun t => k (.nd t v r)
  | .i p, x, .lf, k => putK p x .lf fun t => k (.nd .lf none t)
  | .i p, x, .nd l v r, k => putK p x r fun t => k (.nd l v t)
end Tr
/-! Values and memory -/
/-- A slice's capacity: what is left of its block, in elements of so many cells; or a number. -/
inductive Cap where
  | rest (es : Nat)
  | exact (c : Nat)
  deriving Inhabited
inductive AV where
  | bool (b : Bool)
  | int (k : IntKind) (n : Int)
  | str (s : List Nat)
  | ptr0
  | ptr (b : Pos) (off : Nat)
  | slice0
  | slice (b : Pos) (off len : Nat) (cap : Cap)
  | map0
  | map (b : Pos)
  | func0
  | func (f : FuncId) (first captured : List AV)
  | yield (l : Pos)
  | iface0
  | iface (t : TypeId) (v : AV)
  | agg (cs : List AV)
  | tuple (vs : List AV)
  deriving Inhabited
def kindBeq : IntKind → IntKind → Bool
  | .i8, .i8 | .i16, .i16 | .i32, .i32 | .i64, .i64 | .u8, .u8 | .u16, .u16 | .u32, .u32 | .u64, .u64 => true
  | _, _ => false
def intBeq : Int → Int → Bool
  | .ofNat a, .ofNat b => Nat.beq a b
  | .negSucc a, .negSucc b => Nat.beq a b
  | _, _ => false
def natsBeq : List Nat → List Nat → Bool
  | [], [] => true
  | a :: x, b :: y => Nat.beq a b && natsBeq x y
  | _, _ => false
def natsLess : List Nat → List Nat → Bool
  | _, [] => false
  | [], _ :: _ => true
  | a :: x, b :: y => bif Nat.blt a b then true else Nat.beq a b && natsLess x y
def capBeq : Cap → Cap → Bool
  | .rest a, .rest b => Nat.beq a b
  | .exact a, .exact b => Nat.beq a b
  | _, _ => false
mutual
def AV.beq : AV → AV → Bool
  | .bool a, .bool b => a == b
  | .int k a, .int j b => kindBeq k j && intBeq a b
  | .str a, .str b => natsBeq a b
  | .ptr0, .ptr0 | .slice0, .slice0 | .map0, .map0 | .func0, .func0 | .iface0, .iface0 => true
  | .ptr b o, .ptr c p => Pos.beq b c && Nat.beq o p
  | .slice b o l c, .slice b' o' l' c' => Pos.beq b b' && Nat.beq o o' && Nat.beq l l' && capBeq c c'
  | .map b, .map c => Pos.beq b c
  | .func f a b, .func g c d => Nat.beq f g && AV.beqs a c && AV.beqs b d
  | .yield a, .yield b => Pos.beq a b
  | .iface t v, .iface u w => Nat.beq t u && AV.beq v w
  | .agg a, .agg b => AV.beqs a b
  | .tuple a, .tuple b => AV.beqs a b
  | _, _ => false
def AV.beqs : List AV → List AV → Bool
  | [], [] => true
  | a :: x, b :: y => AV.beq a b && AV.beqs x y
  | _, _ => false
end
structure Ent where
  key : AV
  val : AV
  born : Nat
  deriving Inhabited
/-- A block: cells (of which at least these are there), a map, a walk through a string, what a range over a function keeps. -/
inductive Blk where
  | row (cs : List AV) (ty : TypeId) (esz : Nat) (opn stq : Bool) (fz : Nat) (link : Option Pos)
  | mp (es : List Ent) (clock : Nat)
  | si (s : List Nat) (p : Nat)
  | loop (busy : Bool) (fn : FuncId) (tm : Tr AV) (params : List Nat) (assign body : Code) (defers : Pos)
  | dfr
  deriving Inhabited
abbrev Heap := Tr Blk
inductive ADef where
  | call (f : FuncId) (args : List AV)
  | mark (b : Pos)
  deriving Inhabited
/-! What the kernel is to have worked out before it goes on -/
def forceNat {β : Type} (n : Nat) (k : Nat → β) : β :=
  match n with
  | 0 => k 0
  | m + 1 => k (Nat.succ m)
def forceInt {β : Type} (n : Int) (k : Int → β) : β :=
  match n with
  | .ofNat m => forceNat m fun m => k (.ofNat m)
  | .negSucc m => forceNat m fun m => k (.negSucc m)
def forceSpine {α β : Type} : List α → (List α → β) → β
  | [], k => k []
  | x :: l, k => forceSpine l fun l => k (x :: l)
def forceNats {β : Type} : List Nat → (List Nat → β) → β
  | [], k => k []
  | x :: l, k => forceNat x fun x => forceNats l fun l => k (x :: l)
def forceCap {β : Type} (c : Cap) (k : Cap → β) : β :=
  match c with
  | .rest n => forceNat n fun n => k (.rest n)
  | .exact n => forceNat n fun n => k (.exact n)
def AV.force {β : Type} (v : AV) (k : AV → β) : β :=
  match v with
  | .bool b => (match b with | true => k (.bool true) | false => k (.bool false))
  | .int t n => forceInt n fun n => k (.int t n)
  | .str s => forceNats s fun s => k (.str s)
  | .ptr b o => forceNat o fun o => k (.ptr b o)
  | .slice b o l c => forceNat o fun o => forceNat l fun l => forceCap c fun c => k (.slice b o l c)
  | .agg cs => forceSpine cs fun cs => k (.agg cs)
  | .tuple cs => forceSpine cs fun cs => k (.tuple cs)
  | v => k v
def Blk.force {β : Type} (b : Blk) (k : Blk → β) : β :=
  match b with
  | .row cs ty esz opn stq fz link => forceSpine cs fun cs => forceNat fz fun fz => k (.row cs ty esz opn stq fz link)
  | .mp es clock => forceSpine es fun es => forceNat clock fun clock => k (.mp es clock)
  | .si s p => forceNat p fun p => k (.si s p)
  | b => k b
/-! Lists -/
def dropN {α : Type} : Nat → List α → List α
  | 0, l => l
  | n + 1, _ :: l => dropN n l
  | _ + 1, [] => []
def takeN {α : Type} : Nat → List α → Option (List α)
  | 0, _ => some []
  | n + 1, x :: l => (takeN n l).map (x :: ·)
  | _ + 1, [] => none
def nth {α : Type} : Nat → List α → Option α
  | 0, x :: _ => some x
  | n + 1, _ :: l => nth n l
  | _, [] => none
/-- The list with others put over it from a place on. -/
def splice {α : Type} : Nat → List α → List α → List α
  | _, [], l => l
  | 0, x :: xs, _ :: l => x :: splice 0 xs l
  | n + 1, xs, y :: l => y :: splice n xs l
  | _, _ :: _, [] => []
/-! Types -/
def szOf (P : Program) (t : TypeId) : Option Nat := (P.info? t).map (·.size)
def aggOf (P : Program) (t : TypeId) : Option Bool :=
  match P.underlying t with
  | some (.struct _) | some (.array _ _) => some true
  | some _ => some false
  | none => none
def elemOf (P : Program) (t : TypeId) : Option TypeId :=
  match P.underlying t with
  | some (.slice e) => some e
  | _ => none
def fieldOf (P : Program) (t : TypeId) (i : Nat) : Option Field :=
  match P.underlying t with
  | some (.struct fs) => fs[i]?
  | _ => none
def intOf (P : Program) (t : TypeId) : Option IntKind :=
  match P.underlying t with
  | some (.int k) => some k
  | _ => none
def isStr (P : Program) (t : TypeId) : Bool :=
  match P.underlying t with
  | some .string => true
  | _ => false
def isMap (P : Program) (t : TypeId) : Option (TypeId × TypeId) :=
  match P.underlying t with
  | some (.map k e) => some (k, e)
  | _ => none
def isPtr (P : Program) (t : TypeId) : Option TypeId :=
  match P.underlying t with
  | some (.pointer e) => some e
  | _ => none
def isUns (P : Program) (t : TypeId) : Bool :=
  match P.underlying t with
  | some .unsafePointer => true
  | _ => false
/-! Constants -/
def ofValueF : Nat → Value → Option AV
  | 0, _ => none
  | f + 1, v => match v with
    | .bool b => some (.bool b)
    | .int k n => some (.int k n)
    | .string s => some (.str (s.data.toList.map (·.toNat)))
    | .pointer none => some .ptr0
    | .slice none 0 0 => some .slice0
    | .map none => some .map0
    | .nilFunc => some .func0
    | .nilIface => some .iface0
    | .agg cs => (cs.toList.mapM (ofValueF f)).map .agg
    | .func (.func g) a b => if a.isEmpty && b.isEmpty then some (.func g [] []) else none
    | _ => none
def ofValueK (v : Value) : Option AV := match ofValueF 3 v with
  | some v => v.force some
  | none => none
def zeroOf (P : Program) (t : TypeId) : Option AV :=
  match P.info? t with
  | some i => (match i.zero with | some v => ofValueK v | none => none)
  | none => none
def AV.cells : AV → List AV
  | .agg cs => cs
  | v => [v]
def zeroCells (P : Program) (t : TypeId) : Option (List AV) := (zeroOf P t).map AV.cells
def ev (tm : Tr AV) : Operand → Option AV
  | .tmp t => tm.get (pos t)
  | .const v => ofValueK v
  | .global _ => none
  | .func f => some (.func f [] [])
def evs (tm : Tr AV) : List Operand → Option (List AV)
  | [] => some []
  | x :: l => match ev tm x with
    | some v => (evs tm l).map (v :: ·)
    | none => none
/-! Numbers -/
def halfOf : IntKind → Nat
  | .i8 => 0x80 | .u8 => 0x100 | .i16 => 0x8000 | .u16 => 0x10000 | .i32 => 0x80000000 | .u32 => 0x100000000 | .i64 => 0x8000000000000000 | .u64 => 0x10000000000000000
def signedK : IntKind → Bool
  | .i8 | .i16 | .i32 | .i64 => true
  | _ => false
def awrap (k : IntKind) (n : Int) : Int :=
  match n with
  | .ofNat m => bif Nat.blt m (halfOf k) then .ofNat m else k.wrap (.ofNat m)
  | .negSucc m => bif Nat.blt m (halfOf k) then (bif signedK k then .negSucc m else .ofNat (halfOf k - (m + 1))) else k.wrap (.negSucc m)
def ileb : Int → Int → Bool
  | .ofNat a, .ofNat b => Nat.ble a b
  | .negSucc _, .ofNat _ => true
  | .ofNat _, .negSucc _ => false
  | .negSucc a, .negSucc b => Nat.ble b a
def intLss (a b : Int) : Bool := !ileb b a
/-- 2 to the number of a kind's bits. -/
def fullOf : IntKind → Nat
  | .i8 | .u8 => 0x100 | .i16 | .u16 => 0x10000 | .i32 | .u32 => 0x100000000 | .i64 | .u64 => 0x10000000000000000
/-- A number as bits of a kind. -/
def ubits (k : IntKind) (n : Int) : Nat := match n with
  | .ofNat m => m % fullOf k
  | .negSucc m => fullOf k - 1 - m % fullOf k
def bitOp (op : BinOp) (k : IntKind) (a b : Nat) : Nat :=
  match op with
  | .and => Nat.land a b
  | .or => Nat.lor a b
  | .xor => Nat.xor a b
  | _ => Nat.land a (fullOf k - 1 - b)
def shN (k : IntKind) (m : Nat) : Nat := bif Nat.ble m k.bits then m else k.bits
def aShl (k : IntKind) (a b : Int) : Option AV :=
  match b with
  | .negSucc _ => none
  | .ofNat m => some (.int k (awrap k (Int.mul a (.ofNat (Nat.pow 2 (shN k m))))))
def aShr (k : IntKind) (a b : Int) : Option AV :=
  match b with
  | .negSucc _ => none
  | .ofNat m => match a with
    | .ofNat a => some (.int k (.ofNat (Nat.div a (Nat.pow 2 (shN k m)))))
    | .negSucc a => some (.int k (.negSucc (Nat.div a (Nat.pow 2 (shN k m)))))
def aInt (op : BinOp) (k : IntKind) (a b : Int) : Option AV :=
  match op with
  | .add => some (.int k (awrap k (Int.add a b)))
  | .sub => some (.int k (awrap k (Int.sub a b)))
  | .mul => some (.int k (awrap k (Int.mul a b)))
  | .eql => some (.bool (intBeq a b))
  | .neq => some (.bool (!intBeq a b))
  | .lss => some (.bool (!ileb b a))
  | .leq => some (.bool (ileb a b))
  | .gtr => some (.bool (!ileb a b))
  | .geq => some (.bool (ileb b a))
  | .quo => (match b with | .ofNat 0 => none | _ => some (.int k (awrap k (Int.tdiv a b))))
  | .rem => (match b with | .ofNat 0 => none | _ => some (.int k (Int.tmod a b)))
  | .and | .or | .xor | .andNot => some (.int k (awrap k (.ofNat (bitOp op k (ubits k a) (ubits k b)))))
  | _ => none
def aStr (op : BinOp) (a b : List Nat) : Option AV :=
  match op with
  | .add => bif Nat.ble (a.length + b.length) 0x7fffffffffffffff then some (.str (a ++ b)) else none
  | .eql => some (.bool (natsBeq a b))
  | .neq => some (.bool (!natsBeq a b))
  | .lss => some (.bool (natsLess a b))
  | .leq => some (.bool (natsLess a b || natsBeq a b))
  | .gtr => some (.bool (!(natsLess a b || natsBeq a b)))
  | .geq => some (.bool (!natsLess a b))
  | _ => none
/-- Are two the same, by their type? Structs: field by field. -/
def eqFields (eq : TypeId → AV → AV → Option Bool) (P : Program) (xs ys : List AV) : List Field → Option Bool
  | [] => some true
  | f :: fs => if f.name = "_" then eqFields eq P xs ys fs else
    match szOf P f.type, aggOf P f.type with
    | some n, some g =>
      match (bif g then (takeN n (dropN f.offset xs)).map .agg else nth f.offset xs), (bif g then (takeN n (dropN f.offset ys)).map .agg else nth f.offset ys) with
      | some x, some y => match eq f.type x y with
        | some true => eqFields eq P xs ys fs
        | r => r
      | _, _ => none
    | _, _ => none
def aEq (P : Program) : Nat → TypeId → AV → AV → Option Bool
  | 0, _, _, _ => none
  | d + 1, t, x, y =>
    match P.underlying t, x, y with
    | some .bool, .bool a, .bool b => some (a == b)
    | some (.int _), .int k a, .int j b => bif kindBeq k j then some (intBeq a b) else none
    | some .string, .str a, .str b => some (natsBeq a b)
    | some (.pointer _), .ptr0, .ptr0 => some true
    | some (.pointer _), .ptr0, .ptr _ _ => some false
    | some (.pointer _), .ptr _ _, .ptr0 => some false
    | some (.pointer e), .ptr a o, .ptr b p => bif Pos.beq a b then (match szOf P e with | some (_ + 1) => some (Nat.beq o p) | _ => none) else none
    | some (.interface _), .iface0, .iface0 => some true
    | some (.interface _), .iface0, .iface _ _ => some false
    | some (.interface _), .iface _ _, .iface0 => some false
    | some (.struct fs), .agg xs, .agg ys => if P.stoodInHeld t then none else eqFields (aEq P d) P xs ys fs.toList
    | some (.slice _), .slice0, .slice0 => some true
    | some (.slice _), .slice0, .slice _ _ _ _ => some false
    | some (.slice _), .slice _ _ _ _, .slice0 => some false
    | some (.map _ _), .map0, .map0 => some true
    | some (.map _ _), .map0, .map _ => some false
    | some (.map _ _), .map _, .map0 => some false
    | some (.func _ _ _), .func0, .func0 => some true
    | some (.func _ _ _), .func0, .func _ _ _ => some false
    | some (.func _ _ _), .func _ _ _, .func0 => some false
    | _, _, _ => none
def isConstO : Operand → Bool
  | .const _ => true
  | _ => false
def aBin (P : Program) (op : BinOp) (t : TypeId) (x y : Operand) (a b : AV) : Option AV :=
  match a, b with
  | .int k n, .int j m =>
    (match op with
     | .shl => aShl k n m
     | .shr => aShr k n m
     | _ => bif kindBeq k j then aInt op k n m else none)
  | .str s, .str r => aStr op s r
  | .iface0, .iface0 => bif isConstO x || isConstO y then (match op with | .eql => (aEq P 9 t a b).map .bool | .neq => (aEq P 9 t a b).map fun r => .bool (!r) | _ => none) else none
  | .agg _, .agg _ => if P.eqGuardType P.depth t then none else
    match op with
    | .eql => (aEq P 9 t a b).map .bool
    | .neq => (aEq P 9 t a b).map fun r => .bool (!r)
    | _ => none
  | _, _ => match op with
    | .eql => (aEq P 9 t a b).map .bool
    | .neq => (aEq P 9 t a b).map fun r => .bool (!r)
    | _ => none
/-! Operations that look at nothing but their operands -/
def aBuildFill (P : Program) (fs : List Field) : List AV → List (Nat × AV) → Option (List AV)
  | cs, [] => some cs
  | cs, (i, v) :: rest =>
    match nth i fs with
    | none => none
    | some f => match szOf P f.type with
      | none => none
      | some n => bif Nat.beq v.cells.length n && Nat.ble (f.offset + n) cs.length then aBuildFill P fs (splice f.offset v.cells cs) rest else none
def aArrFill (size : Nat) : List AV → List (Nat × AV) → Option (List AV)
  | cs, [] => some cs
  | cs, (i, v) :: rest => bif Nat.beq v.cells.length size && Nat.ble (i * size + size) cs.length then aArrFill size (splice (i * size) v.cells cs) rest else none
def evParts (tm : Tr AV) : List (Nat × Operand) → Option (List (Nat × AV))
  | [] => some []
  | (i, x) :: l => match ev tm x with
    | some v => (evParts tm l).map ((i, v) :: ·)
    | none => none
def evOpt (tm : Tr AV) : Option Operand → Option (Option Nat)
  | none => some none
  | some x => match ev tm x with
    | some (.int _ (.ofNat n)) => some (some n)
    | _ => none
/-- A cut of a slice: from, to, and its bound, if one is told. -/
def aSlice (P : Program) (t : TypeId) (x : AV) (lo hi mx : Option Nat) : Option AV :=
  match P.underlying t, x with
  | some .string, .str s =>
    match mx with
    | some _ => none
    | none =>
      let h := hi.getD s.length
      let l := lo.getD 0
      bif Nat.ble h s.length && Nat.ble l h then (takeN (h - l) (dropN l s)).map .str else none
  | some (.slice e), .slice0 =>
    match mx, szOf P e with
    | none, some _ => bif Nat.beq (hi.getD 0) 0 && Nat.beq (lo.getD 0) 0 then some .slice0 else none
    | _, _ => none
  | some (.slice e), .slice b off len cap =>
    match szOf P e with
    | none => none
    | some n => match mx with
      | some m => (match hi with
        | none => none
        | some h =>
          let l := lo.getD 0
          bif Nat.ble l h && Nat.ble h m && Nat.ble m len then (bif Nat.blt l m then some (.slice b (off + l * n) (h - l) (.exact (m - l))) else some (.slice b off 0 (.exact 0))) else none)
      | none =>
        let h := hi.getD len
        let l := lo.getD 0
        bif Nat.ble h len && Nat.ble l h && Nat.blt l len then
          (match cap with
          | .exact c => some (.slice b (off + l * n) (h - l) (.exact (c - l)))
          | .rest es => bif Nat.beq n es then some (.slice b (off + l * n) (h - l) (.rest es)) else none)
        else none
  | _, _ => none
def aConv (P : Program) (s d : TypeId) (v : AV) : Option AV :=
  match P.underlying s, P.underlying d, v with
  | some (.int _), some (.int k), .int _ n => some (.int k (awrap k n))
  | some .string, some .string, .str a => some (.str a)
  | _, _, _ => none
def aMin (big : Bool) : List AV → AV → Option AV
  | [], v => some v
  | .int _ y :: rest, .int k x => aMin big rest (.int k (bif (bif big then intLss x y else intLss y x) then y else x))
  | _, _ => none
def aAssert (P : Program) (x : AV) (asserted : TypeId) (ok : Bool) : Option AV :=
  match P.underlying asserted, x with
  | some (.interface _), _ => none
  | some _, .iface0 => bif ok then (zeroOf P asserted).map fun z => .tuple [z, .bool false] else none
  | some _, .iface t v => bif Nat.beq t asserted then some (bif ok then .tuple [v, .bool true] else v) else bif ok then (zeroOf P asserted).map fun z => .tuple [z, .bool false] else none
  | _, _ => none
def pPick (tm : Tr AV) (c a b : Operand) : Option AV :=
  match ev tm c with
  | some (.bool t) => bif t then ev tm a else ev tm b
  | _ => none
def pNil (tm : Tr AV) (x : Operand) : Option AV :=
  match ev tm x with
  | some (.ptr b n) => some (.ptr b n)
  | some (.func f a b) => some (.func f a b)
  | _ => none
def pBin (P : Program) (tm : Tr AV) (op : BinOp) (t : TypeId) (x y : Operand) : Option AV :=
  match ev tm x, ev tm y with
  | some a, some b => aBin P op t x y a b
  | _, _ => none
def pUn (tm : Tr AV) (op : UnOp) (x : Operand) : Option AV :=
  match op, ev tm x with
  | .not, some (.bool b) => some (.bool (!b))
  | .neg, some (.int k n) => some (.int k (awrap k (Int.sub 0 n)))
  | .xor, some (.int k n) => some (.int k (awrap k (.ofNat (Nat.xor (fullOf k - 1) (ubits k n)))))
  | _, _ => none
def pConv (P : Program) (tm : Tr AV) (s d : TypeId) (x : Operand) : Option AV :=
  match ev tm x with
  | some v => aConv P s d v
  | none => none
def pIface (P : Program) (tm : Tr AV) (t : TypeId) (x : Operand) : Option AV :=
  match P.underlying t, ev tm x with
  | some (.interface _), _ => none
  | some _, some v => some (.iface t v)
  | _, _ => none
def pFunc (tm : Tr AV) (fn : Fn) (a b : List Operand) : Option AV :=
  match fn with
  | .func f => (match evs tm a, evs tm b with
    | some a, some b => some (.func f a b)
    | _, _ => none)
  | _ => none
def pSlice (P : Program) (tm : Tr AV) (t : TypeId) (x : Operand) (lo hi mx : Option Operand) : Option AV :=
  match ev tm x, evOpt tm lo, evOpt tm hi, evOpt tm mx with
  | some v, some l, some h, some m => aSlice P t v l h m
  | _, _, _, _ => none
/-- Where a field lies that has cells. -/
def fldOff (P : Program) (t : TypeId) (i : Nat) : Option Nat :=
  match fieldOf P t i with
  | some f => (match szOf P f.type with
    | some (_ + 1) => some f.offset
    | _ => none)
  | none => none
def pField (P : Program) (tm : Tr AV) (t : TypeId) (x : Operand) (i : Nat) : Option AV :=
  match ev tm x, fldOff P t i with
  | some (.ptr b n), some d => some (.ptr b (n + d))
  | _, _ => none
def pIndex (P : Program) (tm : Tr AV) (t : TypeId) (x i : Operand) : Option AV :=
  match P.underlying t, ev tm x, ev tm i with
  | some .string, some (.str s), some (.int _ (.ofNat n)) => (nth n s).map fun c => .int .u8 (.ofNat c)
  | some (.array len e), some (.agg cs), some (.int _ (.ofNat n)) => (match szOf P e, aggOf P e with
    | some k, some false => bif Nat.blt n len then nth (n * k) cs else none
    | some k, some true => bif Nat.blt n len then (takeN k (dropN (n * k) cs)).map .agg else none
    | _, _ => none)
  | _, _, _ => none
/-- A slice's elements' cells. -/
def slSize (P : Program) (t : TypeId) : Option Nat :=
  match elemOf P t with
  | some e => szOf P e
  | none => none
def arrSize (P : Program) (t : TypeId) : Option (Nat × Nat) :=
  match P.underlying t with
  | some (.array len e) => (match szOf P e with
    | some k => some (len, k)
    | none => none)
  | _ => none
def pIndexAddr (P : Program) (tm : Tr AV) (t : TypeId) (x i : Operand) : Option AV :=
  match ev tm x, ev tm i with
  | some (.slice b off len _), some (.int _ (.ofNat n)) => (match slSize P t with
    | some k => bif Nat.blt n len then some (.ptr b (off + n * k)) else none
    | none => none)
  | some (.ptr b off), some (.int _ (.ofNat n)) => (match arrSize P t with
    | some (len, k) => bif Nat.blt n len then some (.ptr b (off + n * k)) else none
    | none => none)
  | _, _ => none
def pExtract (tm : Tr AV) (x : Operand) (i : Nat) : Option AV :=
  match ev tm x with
  | some (.tuple vs) => nth i vs
  | _ => none
def pAssert (P : Program) (tm : Tr AV) (x : Operand) (t : TypeId) (ok : Bool) : Option AV :=
  match ev tm x with
  | some v => aAssert P v t ok
  | none => none
def allSized (P : Program) : List Field → Bool
  | [] => true
  | f :: fs => (szOf P f.type).isSome && allSized P fs
def pBuild (P : Program) (tm : Tr AV) (t : TypeId) (ps : List (Nat × Operand)) : Option AV :=
  match P.underlying t, zeroCells P t, evParts tm ps with
  | some (.struct fs), some z, some ps => bif allSized P fs.toList then (aBuildFill P fs.toList z ps).map .agg else none
  | some (.array _ e), some z, some ps => (match szOf P e with
    | some n => (aArrFill n z ps).map .agg
    | none => none)
  | _, _, _ => none
def pMin (tm : Tr AV) (big : Bool) (args : List Operand) : Option AV :=
  match evs tm args with
  | some (v :: l) => aMin big l v
  | _ => none
def pCall (tm : Tr AV) (c : Call) : Option AV :=
  match c.callee with
  | .builtin .min => pMin tm false c.args.toList
  | .builtin .max => pMin tm true c.args.toList
  | _ => none
def aPure (P : Program) (tm : Tr AV) (o : Oper) : Option AV :=
  match o.op with
  | .move x => ev tm x
  | .assign x => ev tm x
  | .pick c a b => pPick tm c a b
  | .nilCheck x => pNil tm x
  | .binOp op t x y _ => pBin P tm op t x y
  | .unOp op _ x => pUn tm op x
  | .convert s d x => pConv P tm s d x
  | .makeInterface t x => pIface P tm t x
  | .makeFunc fn a b => pFunc tm fn a.toList b.toList
  | .slice t x lo hi mx => pSlice P tm t x lo hi mx
  | .fieldAddr t x i => pField P tm t x i
  | .index t x i => pIndex P tm t x i
  | .indexAddr t x i => pIndexAddr P tm t x i
  | .extract x i => pExtract tm x i
  | .typeAssert x _ t ok => pAssert P tm x t ok
  | .build t ps => pBuild P tm t ps.toList
  | .call c => pCall tm c
  | _ => none
/-! Operations that look at memory -/
def cellsAt (h : Heap) (b : Pos) (off n : Nat) : Option (List AV) :=
  match h.get b with
  | some (.row cs ..) => takeN n (dropN off cs)
  | _ => none
def cellAt (h : Heap) (b : Pos) (off : Nat) : Option AV :=
  match h.get b with
  | some (.row cs ..) => nth off cs
  | _ => none
def aLoad (P : Program) (h : Heap) (t : TypeId) (b : Pos) (off : Nat) : Option AV :=
  match aggOf P t with
  | some false => cellAt h b off
  | some true => (match szOf P t with | some n => (cellsAt h b off n).map .agg | none => none)
  | none => none
def bytesOfCells : List AV → Option (List Nat)
  | [] => some []
  | .int .u8 (.ofNat n) :: l => bif Nat.blt n 256 then (bytesOfCells l).map (n :: ·) else none
  | _ => none
def keyBeq : AV → AV → Option Bool
  | .int k a, .int j b => bif kindBeq k j then some (intBeq a b) else none
  | .str a, .str b => some (natsBeq a b)
  | _, _ => none
def findEnt (k : AV) : List Ent → Nat → Option (Option (Nat × AV))
  | [], _ => some none
  | e :: es, i => match keyBeq k e.key with
    | some true => some (some (i, e.val))
    | some false => findEnt k es (i + 1)
    | none => none
def keyFits (P : Program) (t : TypeId) : AV → Bool
  | .int k _ => (match P.underlying t with | some (.int j) => kindBeq k j | _ => false)
  | .str _ => (match P.underlying t with | some .string => true | _ => false)
  | _ => false
def entsOf (h : Heap) : AV → Option (List Ent)
  | .map0 => some []
  | .map b => (match h.get b with | some (.mp es _) => some es | _ => none)
  | _ => none
def rLoad (P : Program) (tm : Tr AV) (h : Heap) (t : TypeId) (a : Operand) : Option AV :=
  match ev tm a with
  | some (.ptr b off) => aLoad P h t b off
  | _ => none
def rLookup (P : Program) (tm : Tr AV) (h : Heap) (t : TypeId) (x i : Operand) (ok : Bool) : Option AV :=
  match isMap P t, ev tm x, ev tm i with
  | some (kt, e), some m, some k => bif keyFits P kt k then (match entsOf h m with
    | some es => (match findEnt k es 0 with
      | some (some (_, v)) => some (bif ok then .tuple [v, .bool true] else v)
      | some none => (match zeroOf P e with
        | some z => some (bif ok then .tuple [z, .bool false] else z)
        | none => none)
      | none => none)
    | none => none) else none
  | _, _, _ => none
def rConv (P : Program) (tm : Tr AV) (h : Heap) (s d : TypeId) (x : Operand) : Option AV :=
  match P.underlying s, P.underlying d, ev tm x with
  | some (.slice e), some .string, some v => (match intOf P e with
    | some .u8 => (match v with
      | .slice0 => some (.str [])
      | .slice b off len _ => (match cellsAt h b off len with
        | some cs => (bytesOfCells cs).map .str
        | none => none)
      | _ => none)
    | _ => none)
  | some (.pointer e), some .unsafePointer, some (.ptr b off) => (match szOf P e, h.get b with
    | some (_ + 1), some (.row cs ..) => bif Nat.blt off cs.length then some (.ptr b off) else none
    | _, _ => none)
  | some .unsafePointer, some (.pointer u), some (.ptr b off) => (match szOf P u, h.get b with
    | some (_ + 1), some (.row cs ty _ false ..) => if liesAt P P.depth ty (cs.length / P.cellsOf ty) off u 1 then some (.ptr b off) else none
    | _, _ => none)
  | _, _, _ => none
def rLen (P : Program) (tm : Tr AV) (h : Heap) (ts : List TypeId) (args : List Operand) : Option AV :=
  match ts, evs tm args with
  | t :: _, some (v :: _) => (match P.underlying t, v with
    | some .string, .str s => some (.int .i64 (.ofNat s.length))
    | some (.slice _), .slice0 => some (.int .i64 (.ofNat 0))
    | some (.slice _), .slice _ _ n _ => some (.int .i64 (.ofNat n))
    | some (.map _ _), m => (entsOf h m).map fun es => .int .i64 (.ofNat es.length)
    | _, _ => none)
  | _, _ => none
def rSlData (tm : Tr AV) (args : List Operand) : Option AV :=
  match evs tm args with
  | some [.slice0] => some .ptr0
  | some [.slice b off (_ + 1) (.rest _)] => some (.ptr b off)
  | _ => none
def rCall (P : Program) (tm : Tr AV) (h : Heap) (c : Call) : Option AV :=
  match c.callee with
  | .builtin .len => rLen P tm h c.argTypes.toList c.args.toList
  | .builtin .unsafeSliceData => rSlData tm c.args.toList
  | _ => none
def aRead (P : Program) (tm : Tr AV) (h : Heap) (o : Oper) : Option AV :=
  match o.op with
  | .load t a => rLoad P tm h t a
  | .lookup t x i ok => rLookup P tm h t x i ok
  | .convert s d x => rConv P tm h s d x
  | .call c => rCall P tm h c
  | _ => none
/-! Operations that lay a block -/
def repCells (z : List AV) : Nat → List AV
  | 0 => []
  | n + 1 => z ++ repCells z n
def lAlloc (P : Program) (n : Pos) (t : TypeId) : Option (AV × Blk) :=
  match zeroCells P t, szOf P t with
  | some z, some sz => bif Nat.beq z.length sz then some (.ptr n 0, .row z t sz false false 0 none) else none
  | _, _ => none
def lBox (P : Program) (tm : Tr AV) (n : Pos) (t : TypeId) (x : Operand) : Option (AV × Blk) :=
  match ev tm x, szOf P t with
  | some v, some sz => bif Nat.beq v.cells.length sz then some (.ptr n 0, .row v.cells t sz false false 0 none) else none
  | _, _ => none
def lSlice (P : Program) (tm : Tr AV) (n : Pos) (t : TypeId) (len : Nat) (ps : List (Nat × Operand)) : Option (AV × Blk) :=
  match elemOf P t with
  | some e => (match szOf P e, zeroCells P e, evParts tm ps with
    | some sz, some z, some ps => bif Nat.beq z.length sz && Nat.blt 0 sz && Nat.ble (len * sz) 16777216 then (aArrFill sz (repCells z len) ps).map fun cs => (.slice n 0 len (.rest sz), .row cs e sz false false 0 none) else none
    | _, _, _ => none)
  | none => none
def lMake (P : Program) (tm : Tr AV) (n : Pos) (t : TypeId) (l c : Operand) : Option (AV × Blk) :=
  match elemOf P t, ev tm l, ev tm c with
  | some e, some (.int _ (.ofNat l)), some (.int _ (.ofNat c)) => (match szOf P e, zeroCells P e, (P.info? e).map (·.bytes) with
    | some sz, some z, some by_ => bif Nat.beq z.length sz && Nat.blt 0 sz && Nat.ble l c && Nat.blt c 65536 && Nat.blt by_ 65536 then some (.slice n 0 l (.rest sz), .row (repCells z c) e sz false false 0 none) else none
    | _, _, _ => none)
  | _, _, _ => none
def lMap (P : Program) (tm : Tr AV) (n : Pos) (t : TypeId) (r : Option Operand) : Option (AV × Blk) :=
  match r with
  | none => some (.map n, .mp [] 0)
  | some x => (match isMap P t, ev tm x with
    | some _, some (.int _ _) => some (.map n, .mp [] 0)
    | _, _ => none)
def lRange (P : Program) (tm : Tr AV) (n : Pos) (t : TypeId) (x : Operand) : Option (AV × Blk) :=
  match P.underlying t, ev tm x with
  | some .string, some (.str s) => some (.ptr n 0, .si s 0)
  | _, _ => none
def aAlloc (P : Program) (tm : Tr AV) (n : Pos) (o : Oper) : Option (AV × Blk) :=
  match o.op with
  | .alloc t => lAlloc P n t
  | .box t x => lBox P tm n t x
  | .buildSlice t len ps => lSlice P tm n t len ps.toList
  | .makeSlice t l c => lMake P tm n t l c
  | .makeMap t r => lMap P tm n t r
  | .range t x => lRange P tm n t x
  | _ => none
/-! Operations that change memory -/
def kill : Option Pos → Heap → Heap
  | none, h => h
  | some p, h => h.put p none
def AV.one : AV → Bool
  | .agg _ | .tuple _ => false
  | _ => true
def oneAll : List AV → Bool
  | [] => true
  | v :: l => bif v.one then oneAll l else false
/-- Cells are written. -/
def writeAt (h : Heap) (b : Pos) (off : Nat) (xs : List AV) : Option Heap :=
  match h.get b with
  | some (.row cs ty esz opn stq fz link) =>
    bif Nat.ble fz off && Nat.ble (off + xs.length) cs.length && oneAll xs && Nat.blt off 1099511627776 then some ((kill link h).put b (some (.row (splice off xs cs) ty esz opn stq fz none))) else none
  | _ => none
/-- The cells that are appended, and how many. -/
def appCells (h : Heap) (esz : Nat) : AV → Option (List AV × Nat)
  | .slice0 => some ([], 0)
  | .slice b off len _ => (cellsAt h b off (len * esz)).map fun cs => (cs, len)
  | .str s => bif Nat.beq esz 1 then some (s.map fun c => .int .u8 (.ofNat c), s.length) else none
  | _ => none
structure Eff where
  v : AV
  h : Heap
  n : Pos
def appFresh (h : Heap) (n : Pos) (ty : TypeId) (esz len : Nat) (cs : List AV) : Eff :=
  ⟨.slice n 0 len (.rest esz), h.put n (some (.row cs ty esz true false 0 none)), n.succ⟩
def appInPlace (h : Heap) (n : Pos) (b : Pos) (off len at_ : Nat) (cap : Cap) (xs : List AV) : Option Eff :=
  (writeAt h b at_ xs).map fun h => ⟨.slice b off len cap, h, n⟩
/-- A slice that is appended to, whose row may have room or may not. -/
def appEither (h : Heap) (n : Pos) (b : Pos) (off len at_ : Nat) (ty : TypeId) (esz : Nat) (cs old xs : List AV) (stq : Bool) (fz : Nat) (link : Option Pos) : Eff :=
  ⟨.slice n 0 len (.rest esz), ((kill link h).put b (some (.row (cs.take at_) ty esz true stq fz (some n)))).put n (some (.row (old ++ xs) ty esz true stq (fz - off) (some b))), n.succ⟩
def appTo (h : Heap) (n : Pos) (ty : TypeId) (esz : Nat) (b : Pos) (off len : Nat) (cap : Cap) (xs : List AV) (k : Nat) : Option Eff :=
  match h.get b with
  | some (.row cs bty besz opn stq fz link) =>
    bif Nat.beq besz esz then
      match takeN (len * esz) (dropN off cs) with
      | none => none
      | some old =>
        bif Nat.blt (len + k) 0x1000000 then
          match cap with
          | .exact c => bif Nat.ble (len + k) c then appInPlace h n b off (len + k) (off + len * esz) (.exact c) xs else some (appFresh h n ty esz (len + k) (old ++ xs))
          | .rest es =>
            bif Nat.beq es esz then
            bif Nat.ble (off + (len + k) * esz) cs.length then appInPlace h n b off (len + k) (off + len * esz) (.rest es) xs
            else bif opn then
              bif Nat.beq bty ty && Nat.ble fz (off + len * esz) && oneAll xs && Nat.blt (off + len * esz) 1099511627776 then some (appEither h n b off (len + k) (off + len * esz) ty esz cs old xs stq fz link) else none
            else some (appFresh h n ty esz (len + k) (old ++ xs))
            else none
        else none
    else none
  | _ => none
def aAppend (P : Program) (h : Heap) (n : Pos) (ty : TypeId) (s x : AV) : Option Eff :=
  match szOf P ty, (P.info? ty).map (·.bytes), zeroCells P ty with
  | some esz, some by_, some z =>
    bif Nat.blt 0 esz && Nat.blt by_ 65536 && Nat.blt 0 by_ && Nat.beq z.length esz then
      match appCells h esz x with
      | none => none
      | some (xs, k) =>
        match s with
        | .slice0 => bif Nat.beq k 0 then some ⟨.slice0, h, n⟩ else bif Nat.blt k 0x1000000 then some (appFresh h n ty esz k xs) else none
        | .slice b off len cap => bif Nat.beq k 0 then some ⟨.slice b off len cap, h, n⟩ else appTo h n ty esz b off len cap xs k
        | _ => none
    else none
  | _, _, _ => none
def setEnt (k v : AV) : List Ent → Nat → List Ent
  | [], _ => []
  | e :: es, 0 => { e with key := k, val := v } :: es
  | e :: es, i + 1 => e :: setEnt k v es i
def delEnt : List Ent → Nat → List Ent
  | [], _ => []
  | _ :: es, 0 => es
  | e :: es, i + 1 => e :: delEnt es i
def decodeAt (s : List Nat) (i : Nat) : Option (Nat × Nat) := (nth i s).bind fun c => bif Nat.blt c 128 then some (c, 1) else none
def aUpdate (P : Program) (h : Heap) (n : Pos) (t : TypeId) (m k v : AV) : Option Eff :=
  match isMap P t, m with
  | some (kt, _), .map b => bif keyFits P kt k then (match h.get b with
    | some (.mp es clock) => (match findEnt k es 0 with
      | some (some (i, _)) => some ⟨.tuple [], h.put b (some (.mp (setEnt k v es i) clock)), n⟩
      | some none => some ⟨.tuple [], h.put b (some (.mp (es ++ [⟨k, v, clock⟩]) (clock + 1))), n⟩
      | none => none)
    | _ => none) else none
  | _, _ => none
def eStore (P : Program) (tm : Tr AV) (h : Heap) (n : Pos) (t : TypeId) (a x : Operand) : Option Eff :=
  match ev tm a, ev tm x, szOf P t with
  | some (.ptr b off), some v, some sz => bif Nat.beq v.cells.length sz then (writeAt h b off v.cells).map fun h => ⟨.tuple [], h, n⟩ else none
  | _, _, _ => none
def eUpdate (P : Program) (tm : Tr AV) (h : Heap) (n : Pos) (t : TypeId) (m k x : Operand) : Option Eff :=
  match ev tm m, ev tm k, ev tm x with
  | some m, some k, some v => aUpdate P h n t m k v
  | _, _, _ => none
def byteCells (s : List Nat) : List AV := s.map fun c => .int .u8 (.ofNat c)
def eConv (P : Program) (tm : Tr AV) (h : Heap) (n : Pos) (s d : TypeId) (x : Operand) : Option Eff :=
  match P.underlying s, P.underlying d, ev tm x with
  | some .string, some (.slice e), some (.str s) => (match intOf P e, szOf P e with
    | some .u8, some 1 => some ⟨.slice n 0 s.length (.rest 1), h.put n (some (.row (byteCells s) e 1 true true 0 none)), n.succ⟩
    | _, _ => none)
  | some (.slice _), some (.slice e), some (.slice b off len cap) => bif Nat.beq s d then (match intOf P e, h.get b with
    | some .u8, some (.row cs ty esz opn _ _ link) => some ⟨.slice b off len cap, (kill link h).put b (some (.row cs ty esz opn true 18446744073709551616 none)), n⟩
    | _, _ => none) else none
  | _, _, _ => none
def eNext (tm : Tr AV) (h : Heap) (n : Pos) (x : Operand) : Option Eff :=
  match ev tm x with
  | some (.ptr b 0) => (match h.get b with
    | some (.si s p) => bif Nat.blt p s.length then (match decodeAt s p with
        | some (c, w) => some ⟨.tuple [.bool true, .int .i64 (.ofNat p), .int .i32 (.ofNat c)], h.put b (some (.si s (p + w))), n⟩
        | none => none)
      else some ⟨.tuple [.bool false], h, n⟩
    | _ => none)
  | _ => none
/-- a type, and none of whole numbers -/
def notInt (P : Program) (t : TypeId) : Bool :=
  match P.underlying t with
  | some (.slice _) => true
  | some .string => true
  | _ => false
def eAppend (P : Program) (tm : Tr AV) (h : Heap) (n : Pos) (ts : List TypeId) (args : List Operand) : Option Eff :=
  match ts, evs tm args with
  | t :: xt :: _, some (s :: x :: _) => (match elemOf P t with
    | some e => bif notInt P xt then aAppend P h n e s x else none
    | none => none)
  | _, _ => none
def eCopy (P : Program) (tm : Tr AV) (h : Heap) (n : Pos) (ts : List TypeId) (args : List Operand) : Option Eff :=
  match ts, evs tm args with
  | t :: _, some (d :: x :: _) => (match slSize P t, d with
    | some 1, .slice b off len _ => (match appCells h 1 x with
      | some (xs, k) => bif Nat.ble k len then (writeAt h b off xs).map fun h => ⟨.int .i64 (.ofNat k), h, n⟩ else none
      | none => none)
    | _, _ => none)
  | _, _ => none
def eDelete (P : Program) (tm : Tr AV) (h : Heap) (n : Pos) (ts : List TypeId) (args : List Operand) : Option Eff :=
  match ts, evs tm args with
  | t :: _, some (m :: k :: _) => (match isMap P t, m with
    | some (kt, _), .map b => bif keyFits P kt k then (match h.get b with
      | some (.mp es clock) => (match findEnt k es 0 with
        | some (some (i, _)) => some ⟨.tuple [], h.put b (some (.mp (delEnt es i) clock)), n⟩
        | some none => some ⟨.tuple [], h, n⟩
        | none => none)
      | _ => none) else none
    | _, _ => none)
  | _, _ => none
def eClear (P : Program) (tm : Tr AV) (h : Heap) (n : Pos) (ts : List TypeId) (args : List Operand) : Option Eff :=
  match ts, evs tm args with
  | t :: _, some (v :: _) => (match elemOf P t, v with
    | some _, .slice0 => some ⟨.tuple [], h, n⟩
    | some _, .slice _ _ 0 _ => some ⟨.tuple [], h, n⟩
    | some e, .slice b off (len + 1) _ => (match zeroCells P e with
      | some z => (writeAt h b off (repCells z (len + 1))).map fun h => ⟨.tuple [], h, n⟩
      | none => none)
    | _, _ => none)
  | _, _ => none
def freezeAt (P : Program) (h : Heap) (n : Pos) (pt : TypeId) (b : Pos) (off k : Nat) : Option Eff :=
  match isPtr P pt, h.get b with
  | some u, some (.row cs ty esz opn false fz link) => bif Nat.beq u ty && Nat.beq esz 1 && Nat.blt k 0x1000000 then (match szOf P ty, takeN k (dropN off cs) with
    | some 1, some xs => (bytesOfCells xs).map fun s => ⟨.str s, (kill link h).put b (some (.row cs ty esz opn false (Nat.max fz (off + k)) none)), n⟩
    | _, _ => none) else none
  | _, _ => none
def eUnsafeStr (P : Program) (tm : Tr AV) (h : Heap) (n : Pos) (ts : List TypeId) (args : List Operand) : Option Eff :=
  match ts, evs tm args with
  | pt :: _, some [p, .int _ (.ofNat k)] => (match p with
    | .ptr0 => bif Nat.beq k 0 then some ⟨.str [], h, n⟩ else none
    | .ptr b off => bif Nat.beq k 0 then some ⟨.str [], h, n⟩ else freezeAt P h n pt b off k
    | _ => none)
  | _, _ => none
def eCall (P : Program) (tm : Tr AV) (h : Heap) (n : Pos) (c : Call) : Option Eff :=
  match c.callee with
  | .builtin .append => eAppend P tm h n c.argTypes.toList c.args.toList
  | .builtin .copy => eCopy P tm h n c.argTypes.toList c.args.toList
  | .builtin .delete => eDelete P tm h n c.argTypes.toList c.args.toList
  | .builtin .clear => eClear P tm h n c.argTypes.toList c.args.toList
  | .builtin .unsafeString => eUnsafeStr P tm h n c.argTypes.toList c.args.toList
  | _ => none
def aEff (P : Program) (tm : Tr AV) (h : Heap) (n : Pos) (o : Oper) : Option Eff :=
  match o.op with
  | .store t a x => eStore P tm h n t a x
  | .mapUpdate t m k x => eUpdate P tm h n t m k x
  | .insert t m k x => eUpdate P tm h n t m k x
  | .convert s d x => eConv P tm h n s d x
  | .next x str => bif str then eNext tm h n x else none
  | .call c => eCall P tm h n c
  | _ => none
end Go.Proofs.YtdkeobkooiaacaaGreatDoor.Ev
namespace Go.Proofs.YtdkeobkooiaacaaGreatDoor.Ev
/-! What a call has come to before: told once, used at each like call -/
/-- How the names of a table's entry are met: by which names, what the next one is, which are met, which are to be dropped. -/
structure MS where
  σ : Tr Pos
  c : Pos
  used : Tr Unit
  kills : List Pos
def bindP {β : Type} (no : β) (a b : Pos) (s : MS) (k : MS → β) : β :=
  match s.σ.get a with
  | some b' => bif Pos.beq b' b then k s else no
  | none => bif Pos.beq a s.c then (match s.used.get b with
      | none => s.σ.putK a (some b) fun σ => s.c.succK fun c => s.used.putK b (some ()) fun used => k ⟨σ, c, used, s.kills⟩
      | some _ => no) else no
mutual
def matchV {β : Type} (no : β) : AV → AV → MS → (MS → β) → β
  | .bool a, .bool b, s, k => bif a == b then k s else no
  | .int i a, .int j b, s, k => bif kindBeq i j && intBeq a b then k s else no
  | .str a, .str b, s, k => bif natsBeq a b then k s else no
  | .ptr0, .ptr0, s, k => k s
  | .slice0, .slice0, s, k => k s
  | .map0, .map0, s, k => k s
  | .func0, .func0, s, k => k s
  | .iface0, .iface0, s, k => k s
  | .ptr a o, .ptr b p, s, k => bif Nat.beq o p then bindP no a b s k else no
  | .slice a o l c, .slice b o' l' c', s, k => bif Nat.beq o o' && Nat.beq l l' && capBeq c c' then bindP no a b s k else no
  | .map a, .map b, s, k => bindP no a b s k
  | .func f a b, .func g c d, s, k => bif Nat.beq f g then matchVs no a c s fun s => matchVs no b d s k else no
  | .iface t v, .iface u w, s, k => bif Nat.beq t u then matchV no v w s k else no
  | .agg a, .agg b, s, k => matchVs no a b s k
  | .tuple a, .tuple b, s, k => matchVs no a b s k
  | _, _, _, _ => no
def matchVs {β : Type} (no : β) : List AV → List AV → MS → (MS → β) → β
  | [], [], s, k => k s
  | x :: xs, y :: ys, s, k => matchV no x y s fun s => matchVs no xs ys s k
  | _, _, _, _ => no
end
def matchEs {β : Type} (no : β) : List Ent → List Ent → MS → (MS → β) → β
  | [], [], s, k => k s
  | x :: xs, y :: ys, s, k => bif Nat.beq x.born y.born then matchV no x.key y.key s fun s => matchV no x.val y.val s fun s => matchEs no xs ys s k else no
  | _, _, _, _ => no
def matchL {β : Type} (no : β) : Option Pos → Option Pos → MS → (MS → β) → β
  | none, none, s, k => k s
  | none, some p, s, k => k ⟨s.σ, s.c, s.used, p :: s.kills⟩
  | some a, some b, s, k => bindP no a b s k
  | some _, none, _, _ => no
def matchB {β : Type} (no : β) : Blk → Blk → MS → (MS → β) → β
  | .row cs ty esz opn stq fz link, .row cs' ty' esz' opn' stq' fz' link', s, k =>
    bif Nat.beq ty ty' && Nat.beq esz esz' && (opn == opn') && (stq == stq') && Nat.beq fz fz' then matchVs no cs cs' s fun s => matchL no link link' s k else no
  | .mp es c, .mp es' c', s, k => bif Nat.beq c c' then matchEs no es es' s k else no
  | _, _, _, _ => no
/-- So many blocks, from a name on. -/
def matchH {β : Type} (no : β) (h0 h : Heap) : Nat → Pos → MS → (MS → β) → β
  | 0, _, s, k => k s
  | m + 1, a, s, k => match h0.get a with
    | none => a.succK fun a => matchH no h0 h m a s k
    | some bl0 => match s.σ.get a with
      | none => no
      | some b => match h.get b with
        | none => no
        | some bl => matchB no bl0 bl s fun s => a.succK fun a => matchH no h0 h m a s k
mutual
def renV {β : Type} (no : β) (σ : Tr Pos) : AV → (AV → β) → β
  | .ptr a o, k => (match σ.get a with | some b => k (.ptr b o) | none => no)
  | .slice a o l c, k => (match σ.get a with | some b => k (.slice b o l c) | none => no)
  | .map a, k => (match σ.get a with | some b => k (.map b) | none => no)
  | .func f x y, k => renVs no σ x fun x => renVs no σ y fun y => k (.func f x y)
  | .yield _, _ => no
  | .iface t v, k => renV no σ v fun v => k (.iface t v)
  | .agg x, k => renVs no σ x fun x => k (.agg x)
  | .tuple x, k => renVs no σ x fun x => k (.tuple x)
  | .bool b, k => k (.bool b)
  | .int t n, k => k (.int t n)
  | .str s, k => k (.str s)
  | .ptr0, k => k .ptr0
  | .slice0, k => k .slice0
  | .map0, k => k .map0
  | .func0, k => k .func0
  | .iface0, k => k .iface0
def renVs {β : Type} (no : β) (σ : Tr Pos) : List AV → (List AV → β) → β
  | [], k => k []
  | x :: xs, k => renV no σ x fun x => renVs no σ xs fun xs => k (x :: xs)
end
def renEs {β : Type} (no : β) (σ : Tr Pos) : List Ent → (List Ent → β) → β
  | [], k => k []
  | x :: xs, k => renV no σ x.key fun a => renV no σ x.val fun b => renEs no σ xs fun xs => k (⟨a, b, x.born⟩ :: xs)
def renL {β : Type} (no : β) (σ : Tr Pos) : Option Pos → (Option Pos → β) → β
  | none, k => k none
  | some a, k => match σ.get a with | some b => k (some b) | none => no
def renB {β : Type} (no : β) (σ : Tr Pos) : Blk → (Blk → β) → β
  | .row cs ty esz opn stq fz link, k => renVs no σ cs fun cs => renL no σ link fun link => k (.row cs ty esz opn stq fz link)
  | .mp es c, k => renEs no σ es fun es => k (.mp es c)
  | _, _ => no
def putOuts {β : Type} (no : β) (σ : Tr Pos) : List (Pos × Option Blk) → Heap → (Heap → β) → β
  | [], h, k => k h
  | (a, none) :: l, h, k => (match σ.get a with
    | none => no
    | some b => h.putK b none fun h => putOuts no σ l h k)
  | (a, some bl) :: l, h, k => (match σ.get a with
    | none => no
    | some b => renB no σ bl fun bl => h.putK b (some bl) fun h => putOuts no σ l h k)
def killAll {β : Type} : List Pos → Heap → (Heap → β) → β
  | [], h, k => k h
  | p :: l, h, k => h.putK p none fun h => killAll l h k
/-- New names are met by new names. -/
def extendN {β : Type} (no : β) : Nat → Pos → MS → (Pos → MS → β) → β
  | 0, n, s, k => k n s
  | m + 1, n, s, k => bindP no s.c n s fun s => n.succK fun n => extendN no m n s k
def insHeap {β : Type} : List Blk → Pos → Heap → (Pos → Heap → β) → β
  | [], n, h, k => k n h
  | b :: l, n, h, k => h.putK n (some b) fun h => n.succK fun n => insHeap l n h k
def outsHeap {β : Type} : List (Pos × Option Blk) → Heap → (Heap → β) → β
  | [], h, k => k h
  | (a, x) :: l, h, k => h.putK a x fun h => outsHeap l h k
def stepsP {β : Type} : Nat → Pos → (Pos → β) → β
  | 0, n, k => k n
  | m + 1, n, k => n.succK fun n => stepsP m n k
/-- What a call comes to that has these arguments and this memory. -/
structure Memo where
  args : List AV
  ins : List Blk
  v : AV
  outs : List (Pos × Option Blk)
  news : Nat
def useMemo {β : Type} (no : β) (m : Memo) (args : List AV) (h : Heap) (n : Pos) (k : AV → Heap → Pos → β) : β :=
  matchVs no m.args args ⟨.lf, .h, .lf, []⟩ fun s => insHeap m.ins .h .lf fun n0 h0 => matchH no h0 h m.ins.length .h s fun s =>
    bif Pos.beq s.c n0 && s.kills.all (fun p => (s.used.get p).isNone) then
      extendN no m.news n s fun n s => killAll s.kills h fun h => putOuts no s.σ m.outs h fun h => renV no s.σ m.v fun v => k v h n
    else no
def newsIn (h : Heap) : Nat → Pos → Bool
  | 0, _ => true
  | m + 1, n => match h.get n with | none => false | some _ => n.succK fun n => newsIn h m n
/-- Is an entry what a run of it has come to? -/
def memoFits (m : Memo) (v1 : AV) (h1 : Heap) : Bool :=
  insHeap m.ins .h .lf fun n0 h0 => outsHeap m.outs h0 fun h' => extendN false m.ins.length .h ⟨.lf, .h, .lf, []⟩ fun _ s =>
    matchV false m.v v1 s fun s => matchH false h' h1 (m.ins.length + m.news) .h s fun s =>
      stepsP m.news n0 fun n' => Pos.beq s.c n' && (s.kills.all (fun p => (s.used.get p).isNone) && (m.outs.all (fun x => (s.σ.get x.1).isSome) && newsIn h' m.news n0))
end Go.Proofs.YtdkeobkooiaacaaGreatDoor.Ev
namespace Go.Proofs.YtdkeobkooiaacaaGreatDoor.Ev
inductive Kd where
  | pure | read | alloc | eff | call | defer | panic | recover | bad
  deriving DecidableEq
def kindOf (P : Program) (o : Oper) : Kd :=
  match o.op with
  | .move _ | .assign _ | .pick .. | .nilCheck _ | .binOp .. | .unOp .. | .makeInterface .. | .makeFunc .. | .slice .. | .fieldAddr .. | .index .. | .indexAddr .. | .extract .. | .typeAssert .. | .build .. => .pure
  | .convert s d _ => (match P.underlying s, P.underlying d with
    | some .string, some (.slice _) => .eff
    | some (.slice _), some (.slice _) => .eff
    | some (.slice _), _ => .read
    | some (.pointer _), _ => .read
    | some .unsafePointer, _ => .read
    | _, _ => .pure)
  | .load .. | .lookup .. => .read
  | .alloc _ | .box .. | .buildSlice .. | .makeSlice .. | .makeMap .. | .range .. => .alloc
  | .store .. | .mapUpdate .. | .insert .. | .next .. => .eff
  | .call c => (match c.callee with
    | .builtin .min | .builtin .max => .pure
    | .builtin .len | .builtin .unsafeSliceData => .read
    | .builtin .append | .builtin .copy | .builtin .delete | .builtin .clear | .builtin .unsafeString => .eff
    | .builtin .recover => .recover
    | .value _ => .call
    | _ => .bad)
  | .defer _ => .defer
  | .panic _ => .panic
  | _ => .bad
abbrev Chain := List (AV × Bool)
inductive AExit where
  | normal
  | exit (id : Nat)
  | ret
  | panic (c : Chain)
structure St where
  tm : Tr AV
  df : List ADef
  h : Heap
  n : Pos
/-- What a call comes to. -/
inductive CR where
  | fail
  | ret (v : AV) (h : Heap) (n : Pos)
  | pan (c : Chain) (h : Heap) (n : Pos)
inductive R where
  | fail
  | ok (e : AExit) (s : St)
/-- What one operation comes to. -/
inductive SR where
  | fail
  | val (v : AV) (df : List ADef) (h : Heap) (n : Pos)
  | pan (c : Chain) (h : Heap) (n : Pos)
/-- The functions that may be gone into; the program's rows that have no body, by their numbers; what calls are told before. -/
structure Ext where
  mask : Nat
  noEsc : Nat
  idxByte : Nat
  /-- The functions of which the table tells. -/
  mm : Nat
  memo : List (FuncId × Memo)
abbrev CallF := FuncId → List AV → Heap → Pos → CR
def putTm {β : Type} (dst : Option Nat) (v : AV) (tm : Tr AV) (k : Tr AV → β) : β :=
  match dst with
  | none => k tm
  | some d => tm.putK (pos d) (some v) k
def guardOf (all : List Oper) (tm : Tr AV) (o : Oper) : Option Bool :=
  match o.guard with
  | none => some true
  | some (j, want) => match nth j all with
    | some oj => (match oj.dst with
      | some d => (match tm.get (pos d) with
        | some (.bool b) => some (b == want)
        | some (.tuple []) => some false
        | _ => none)
      | none => none)
    | none => none
def findByte (c : Nat) : List Nat → Nat → Option Nat
  | [], _ => none
  | x :: l, i => bif Nat.beq x c then some i else findByte c l (i + 1)
def memoOf (call : CallF) (g : FuncId) (args : List AV) (h : Heap) (n : Pos) : List (FuncId × Memo) → CR
  | [] => call g args h n
  | (f, m) :: l => bif Nat.beq f g then (match useMemo none m args h n fun v h n => some (CR.ret v h n) with
    | some r => r
    | none => memoOf call g args h n l) else memoOf call g args h n l
def bitAt (m i : Nat) : Bool := Nat.beq (Nat.land (Nat.shiftRight m i) 1) 1
def callOf (E : Ext) (call : CallF) (g : FuncId) (args : List AV) (h : Heap) (n : Pos) : CR :=
  bif Nat.beq g E.noEsc then (match args with | [x] => .ret x h n | _ => .fail)
  else bif Nat.beq g E.idxByte then (match args with
    | [.str s, .int .u8 (.ofNat c)] => bif Nat.blt c 256 then (match findByte c s 0 with
      | some i => .ret (.int .i64 (.ofNat i)) h n
      | none => .ret (.int .i64 (.negSucc 0)) h n) else .fail
    | _ => .fail)
  else bif bitAt E.mm g then memoOf call g args h n E.memo
  else call g args h n
/-- A call's function and arguments. -/
def target (tm : Tr AV) (c : Call) : Option (AV × List AV) :=
  match c.callee with
  | .value f => (match ev tm f, evs tm c.args.toList with
    | some f, some args => some (f, args)
    | _, _ => none)
  | _ => none
def stepOp (P : Program) (call round : CallF) (tm : Tr AV) (df : List ADef) (h : Heap) (n : Pos) (o : Oper) : SR :=
  match kindOf P o with
  | .pure => (match aPure P tm o with
    | some v => v.force fun v => .val v df h n
    | none => .fail)
  | .read => (match aRead P tm h o with
    | some v => v.force fun v => .val v df h n
    | none => .fail)
  | .alloc => (match aAlloc P tm n o with
    | some (v, b) => v.force fun v => b.force fun b => h.putK n (some b) fun h => n.succK fun n => .val v df h n
    | none => .fail)
  | .eff => (match aEff P tm h n o with
    | some ⟨v, h, n⟩ => v.force fun v => .val v df h n
    | none => .fail)
  | .call => (match o.op with
    | .call c => (match target tm c with
      | some (.func g a b, args) => (match call g (a ++ args ++ b) h n with
        | .fail => .fail
        | .ret v h n => .val v df h n
        | .pan c h n => .pan c h n)
      | some (.yield l, args) => (match round 0 (.yield l :: args) h n with
          | .ret v h n => .val v df h n
          | _ => .fail)
      | _ => .fail)
    | _ => .fail)
  | .defer => (match o.op with
    | .defer c => (match target tm c with
      | some (.func g a b, args) => .val (.tuple []) (.call g (a ++ args ++ b) :: df) h n
      | _ => .fail)
    | _ => .fail)
  | .panic => (match o.op with
    | .panic x => (match ev tm x with
      | some (.iface t v) => .pan [(.iface t v, false)] h n
      | _ => .fail)
    | _ => .fail)
  | .recover => .fail
  | .bad => .fail
structure Watch where
  j : Nat
  o : Oper
  tm : Tr AV
  v : AV
def stillReads (P : Program) (h : Heap) (mask : Nat) : List Watch → Bool
  | [] => true
  | w :: l => bif bitAt mask w.j then stillReads P h mask l else
    match aRead P w.tm h w.o with
    | some v => bif v.beq w.v then stillReads P h mask l else false
    | none => false
def readBefore (P : Program) (tm : Tr AV) (o : Oper) (v : AV) (mask : Nat) : List (Nat × Heap) → Bool
  | [] => true
  | (e, h) :: l => bif bitAt mask e then readBefore P tm o v mask l else
    match aRead P tm h o with
    | some v' => bif v'.beq v then readBefore P tm o v mask l else false
    | none => false
def regN (P : Program) (call round : CallF) (all : List Oper) : List Oper → St → R
  | [], s => .ok .normal s
  | o :: rest, s => match guardOf all s.tm o with
    | none => .fail
    | some false => putTm o.dst (.tuple []) s.tm fun tm => regN P call round all rest ⟨tm, s.df, s.h, s.n⟩
    | some true => match stepOp P call round s.tm s.df s.h s.n o with
      | .fail => .fail
      | .val v df h n => putTm o.dst v s.tm fun tm => regN P call round all rest ⟨tm, df, h, n⟩
      | .pan c h n => .ok (.panic c) ⟨s.tm, s.df, h, n⟩
/-- Does a store leave a block as it is? -/
def keepsBlk (tm : Tr AV) (h : Heap) (o : Oper) (id : Pos) : Bool :=
  match o.op with
  | .store _ a _ => (match ev tm a with
    | some (.ptr b _) => (match h.get b with
      | some (.row _ _ _ _ _ _ none) => !Pos.beq b id
      | _ => false)
    | _ => false)
  | _ => false
def keepsAll (tm : Tr AV) (h : Heap) (o : Oper) (mask : Nat) : List (Nat × Pos) → Bool
  | [] => true
  | (j, id) :: l => bif bitAt mask j then keepsAll tm h o mask l else bif keepsBlk tm h o id then keepsAll tm h o mask l else false
def regD (P : Program) (call round : CallF) (all : List Oper) : List (Oper × Nat) → Nat → St → List Watch → List (Nat × Heap) → List (Nat × Pos) → R
  | [], _, s, _, _, _ => .ok .normal s
  | (o, mask) :: rest, i, s, ws, hs, al => match guardOf all s.tm o with
    | none => .fail
    | some false => putTm o.dst (.tuple []) s.tm fun tm => regD P call round all rest (i + 1) ⟨tm, s.df, s.h, s.n⟩ ws hs al
    | some true => match stepOp P call round s.tm s.df s.h s.n o with
      | .fail => .fail
      | .pan c h n => (match rest with | [] => .ok (.panic c) ⟨.lf, s.df, h, n⟩ | _ => .fail)
      | .val v df h n => match kindOf P o with
        | .read => bif readBefore P s.tm o v mask hs then putTm o.dst v s.tm fun tm => regD P call round all rest (i + 1) ⟨tm, df, h, n⟩ (⟨i, o, s.tm, v⟩ :: ws) hs al else .fail
        | .eff | .call | .defer => bif stillReads P h mask ws && keepsAll s.tm s.h o mask al then putTm o.dst v s.tm fun tm => regD P call round all rest (i + 1) ⟨tm, df, h, n⟩ ws ((i, s.h) :: hs) al else .fail
        | .alloc => bif (s.h.get s.n).isNone && hs.all fun e => bitAt mask e.1 || (e.2.get s.n).isNone then putTm o.dst v s.tm fun tm => regD P call round all rest (i + 1) ⟨tm, df, h, n⟩ ws hs ((i, s.n) :: al) else .fail
        | _ => putTm o.dst v s.tm fun tm => regD P call round all rest (i + 1) ⟨tm, df, h, n⟩ ws hs al
/-- What comes before, whatever the order: of each operation. -/
def maskOf (ms : List Nat) : List Edge → Nat
  | [] => 0
  | e :: l => bif Region.binds .any e then Nat.lor (Nat.lor (Nat.shiftLeft 1 e.on) ((nth e.on ms).getD 0)) (maskOf ms l) else maskOf ms l
def masksOf : List Oper → List Nat → List (Oper × Nat) → List (Oper × Nat)
  | [], _, r => r
  | o :: l, ms, r => masksOf l (ms ++ [maskOf ms o.after.toList]) (r ++ [(o, maskOf ms o.after.toList)])
def maskList (ops : List Oper) : List (Oper × Nat) := masksOf ops [] []
def apartAll (ops : Array Oper) (o : Oper) (m : Nat) : List (Oper × Nat) → Nat → Bool
  | [], _ => true
  | (x, _) :: l, i => (bitAt m i || Oper.apart ops x o) && apartAll ops o m l (i + 1)
def pairsOk (ops : Array Oper) (all : List (Oper × Nat)) : List (Oper × Nat) → Nat → Bool
  | [], _ => true
  | (o, m) :: l, i => apartAll ops o m (all.take i) 0 && pairsOk ops all l (i + 1)
/-- May a region that draws be gone through in its own order? -/
def effOrder (P : Program) : List (Oper × Nat) → Nat → List Nat → Bool
  | [], _, _ => true
  | (o, m) :: l, i, es => match kindOf P o with
    | .eff | .call | .defer | .panic => es.all (bitAt m) && effOrder P l (i + 1) (i :: es)
    | _ => effOrder P l (i + 1) es
def afterOk (o : Oper) (m i : Nat) : Bool :=
  (o.after.all fun e => !Region.binds .any e || Nat.blt e.on i) && (match o.guard with | none => true | some (j, _) => bitAt m j)
def aftersOk : List (Oper × Nat) → Nat → Bool
  | [], _ => true
  | (o, m) :: l, i => afterOk o m i && aftersOk l (i + 1)
def regOk (P : Program) (ops : Array Oper) : Bool :=
  let l := maskList ops.toList
  aftersOk l 0 && pairsOk ops l l 0 && effOrder P l 0 []
def anyDefer : List Oper → Bool
  | [] => false
  | o :: l => match o.op with | .defer _ => true | _ => anyDefer l
def dstsOk (N : Nat) : List Oper → Bool
  | [] => true
  | o :: l => match o.dst with | none => dstsOk N l | some d => Nat.blt d N && dstsOk N l
/-- Is a body in the form that the steps ask for? -/
def codeOk (P : Program) (N : Nat) : Code → Bool
  | .skip | .label _ | .exit _ | .ret => true
  | .region _ ops draw => dstsOk N ops.toList && (!draw || regOk P ops)
  | .seq a b => codeOk P N a && codeOk P N b
  | .cond _ a b => codeOk P N a && codeOk P N b
  | .block _ a => codeOk P N a
  | .loop a => codeOk P N a
  | .rangeFunc _ ps a b => ps.toList.all (Nat.blt · N) && codeOk P N a && codeOk P N b
  | _ => true
def loopN (f : St → R) : Nat → St → R
  | 0, _ => .fail
  | n + 1, s => match f s with
    | .ok .normal s => loopN f n s
    | r => r
def putArgs : List Nat → List AV → Tr AV → Tr AV
  | t :: ts, v :: vs, tm => putArgs ts vs (tm.put (pos t) (some v))
  | _, _, tm => tm
def exec (P : Program) (call round : CallF) (L N : Nat) (rnd : Bool) : Code → St → R
  | .skip, s => .ok .normal s
  | .label _, s => .ok .normal s
  | .region _ ops draw, s => bif rnd && anyDefer ops.toList then .fail else match draw with
    | false => regN P call round ops.toList ops.toList s
    | true => regD P call round ops.toList (maskList ops.toList) 0 s [] [] []
  | .seq a b, s => match exec P call round L N rnd a s with
    | .ok .normal s => exec P call round L N rnd b s
    | r => r
  | .cond c x y, s => match ev s.tm c with
    | some (.bool true) => exec P call round L N rnd x s
    | some (.bool false) => exec P call round L N rnd y s
    | _ => .fail
  | .block id c, s => match exec P call round L N rnd c s with
    | .ok (.exit id') s => bif Nat.beq id' id then .ok .normal s else .ok (.exit id') s
    | r => r
  | .loop c, s => loopN (exec P call round L N rnd c) L s
  | .exit id, s => .ok (.exit id) s
  | .ret, s => .ok .ret s
  | .rangeFunc f ps assign body, s => bif rnd then .fail else
    match ev s.tm f with
    | some (.func g a b) =>
      let d := s.n
      let l := d.succ
      bif ((P.funcs[g]?).bind (·.body)).isNone then .fail else
      match call g (a ++ .yield l :: b) ((s.h.put d (some .dfr)).put l (some (.loop false N s.tm ps.toList assign body d))) l.succ with
      | .ret _ h n => (match h.get l with
        | some (.loop false ..) => .ok .normal ⟨s.tm, .mark d :: s.df, h.put l none, n⟩
        | _ => .fail)
      | .pan .. => .fail
      | .fail => .fail
    | _ => .fail
  | .scope _, _ | .goto _, _ | .refuse _, _ => .fail
def resultsOf (P : Program) (tm : Tr AV) (h : Heap) : List ResultVar → Option (List AV)
  | [] => some []
  | .tmp t :: l => (match tm.get (pos t) with
    | some v => (resultsOf P tm h l).map (v :: ·)
    | none => none)
  | .cell a t :: l => (match tm.get (pos a) with
    | some (.ptr b off) => (match aLoad P h t b off with
      | some v => v.force fun v => (resultsOf P tm h l).map (v :: ·)
      | none => none)
    | _ => none)
def settleA : Option Chain → Option Chain
  | some ((_, true) :: _) => none
  | u => u
def raisedA : Option Chain → Chain → Chain
  | some old, c => c ++ old
  | none, c => c
inductive DR where
  | fail
  | ret (u : Option Chain) (h : Heap) (n : Pos)
def leaveF (P : Program) (callD : FuncId → List AV → Option Chain → Heap → Pos → DR) (fn : Func) (tm : Tr AV) : List ADef → Option Chain → Heap → Pos → CR
  | [], none, h, n => (match resultsOf P tm h fn.results.toList with
    | some [v] => .ret v h n
    | some vs => (AV.tuple vs).force fun v => .ret v h n
    | none => .fail)
  | [], some c, h, n => .pan c h n
  | .call f args :: ds, u, h, n => (match callD f args u h n with
    | .ret u h n => leaveF P callD fn tm ds (settleA u) h n
    | .fail => .fail)
  | .mark b :: ds, u, h, n => (match h.get b with
    | some .dfr => leaveF P callD fn tm ds u (h.put b none) n
    | _ => .fail)
def argTm : List AV → Nat → Tr AV → Tr AV
  | [], _, tm => tm
  | v :: vs, i, tm => argTm vs (i + 1) (tm.put (pos i) (some v))
def bodyOf (P : Program) (M : Nat) (f : FuncId) : Option (Func × Code) :=
  bif bitAt M f then match P.funcs[f]? with
  | some fn => (match fn.body with
    | some c => some (fn, c)
    | none => none)
  | none => none
  else none
def recoverAt (ops : Array Oper) : Option (Oper × List Oper) :=
  match ops.toList with
  | o :: l => (match o.op, o.guard with
    | .call { callee := .builtin .recover, .. }, none => some (o, l)
    | _, _ => none)
  | [] => none
def endD (P : Program) (fn : Func) (u : Option Chain) : R → DR
  | .ok .normal ⟨tm, [], h, n⟩ => bif (resultsOf P tm h fn.results.toList).isSome then .ret u h n else .fail
  | .ok .ret ⟨tm, [], h, n⟩ => bif (resultsOf P tm h fn.results.toList).isSome then .ret u h n else .fail
  | .fail => .fail
  | _ => .fail
def recovered : Option Chain → AV × Option Chain
  | some ((v, false) :: older) => (v, some ((v, true) :: older))
  | u => (.iface0, u)
def noCall : CallF := fun _ _ _ _ => .fail
/-- A deferred call: of a body that begins with recover, or of one that has none. -/
def runD (P : Program) (call round : CallF) (L M : Nat) (f : FuncId) (args : List AV) (u : Option Chain) (h : Heap) (n : Pos) : DR :=
  match bodyOf P M f with
  | none => .fail
  | some (fn, c) => bif !Nat.ble args.length fn.ntmps then .fail else match c with
    | .seq (.region id ops false) rest => (match recoverAt ops with
      | none => endD P fn u (exec P call round L fn.ntmps false (.seq (.region id ops false) rest) ⟨argTm args 0 .lf, [], h, n⟩)
      | some (o, l) => bif anyDefer l then .fail else putTm o.dst (recovered u).1 (argTm args 0 .lf) fun tm => match regN P noCall noCall ops.toList l ⟨tm, [], h, n⟩ with
          | .ok .normal s => endD P fn (recovered u).2 (exec P call round L fn.ntmps false rest s)
          | .fail => .fail
          | _ => .fail)
    | c => endD P fn u (exec P call round L fn.ntmps false c ⟨argTm args 0 .lf, [], h, n⟩)
def runF (P : Program) (call round : CallF) (L M : Nat) (f : FuncId) (args : List AV) (h : Heap) (n : Pos) : CR :=
  match bodyOf P M f with
  | none => .fail
  | some (fn, c) => bif !Nat.ble args.length fn.ntmps then .fail else
    match exec P call round L fn.ntmps false c ⟨argTm args 0 .lf, [], h, n⟩ with
    | .ok .normal s => leaveF P (runD P call round L M) fn s.tm s.df none s.h s.n
    | .ok .ret s => leaveF P (runD P call round L M) fn s.tm s.df none s.h s.n
    | .ok (.panic c) s => leaveF P (runD P call round L M) fn s.tm s.df (some c) s.h s.n
    | .ok (.exit _) _ => .fail
    | .fail => .fail
/-- A round of a range over a function. -/
def runRound (P : Program) (call round : CallF) (L : Nat) (l : Pos) (args : List AV) (h : Heap) (n : Pos) : CR :=
  match h.get l with
  | some (.loop false N tm ps assign body _) =>
    bif Nat.beq ps.length args.length && ps.all (Nat.blt · N) && codeOk P N assign && codeOk P N body then
    match exec P call round L N true assign ⟨putArgs ps args tm, [], h, n⟩ with
    | .ok .normal s => (match s.h.get l with
      | some (.loop false N' tm ps as bo d) => (match exec P call round L N true body ⟨s.tm, s.df, s.h.put l (some (.loop true N' tm ps as bo d)), s.n⟩ with
        | .ok .normal ⟨_, [], h, n⟩ => (match h.get l with
          | some (.loop true fn tm ps assign body d) => .ret (.bool true) (h.put l (some (.loop false fn tm ps assign body d))) n
          | _ => .fail)
        | .fail => .fail
        | _ => .fail)
      | _ => .fail)
    | .fail => .fail
    | _ => .fail
    else .fail
  | _ => .fail
mutual
def callN (E : Ext) (P : Program) (L : Nat) : Nat → CallF
  | 0 => fun _ _ _ _ => .fail
  | k + 1 => fun f args h n => runF P (callOf E (callN E P L k)) (roundN E P L k) L E.mask f args h n
def roundN (E : Ext) (P : Program) (L : Nat) : Nat → CallF
  | 0 => fun _ _ _ _ => .fail
  | k + 1 => fun _ args h n => match args with
    | .yield l :: args => runRound P (callOf E (callN E P L k)) (roundN E P L k) L l args h n
    | _ => .fail
end
end Go.Proofs.YtdkeobkooiaacaaGreatDoor.Ev
