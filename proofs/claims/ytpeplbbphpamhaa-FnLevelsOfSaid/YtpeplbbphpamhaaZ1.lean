/- What the proof names: lemmas and words, merged by a program from its parts. No condition. -/
import GoSem.Dispatch
import Derived.Laws.FloatArith
import Derived.Orders
namespace Go.Proofs.Ytpeplbbphpamhaa.Ab
set_option linter.unusedVariables false
set_option linter.unusedSimpArgs false
open Go
inductive A where
  | bool (b : Bool)
  | int (k : IntKind) (n : Int)
  | fl (k : FloatKind) (b : Nat)
  | cx (k : FloatKind) (x y : Nat)
  | ptr (i o : Nat)
  | sl (i o len : Nat)
  | nil
  | sl0
  | fn (f : FuncId)
  | ro (i n : Nat)
  | dig (v : Nat)
  | big (v : Nat)
  | mp (i : Nat)
inductive U where
  | a (x : A)
  | g (l : List A)
inductive V where
  | any
  | u (x : U)
  | tup (l : List U)
@[match_pattern] abbrev V.a (x : A) : V := .u (.a x)
@[match_pattern] abbrev V.g (l : List A) : V := .u (.g l)
@[match_pattern] abbrev V.bool (b : Bool) : V := .u (.a (.bool b))
@[match_pattern] abbrev V.int (k : IntKind) (n : Int) : V := .u (.a (.int k n))
@[match_pattern] abbrev V.fl (k : FloatKind) (b : Nat) : V := .u (.a (.fl k b))
@[match_pattern] abbrev V.cx (k : FloatKind) (x y : Nat) : V := .u (.a (.cx k x y))
@[match_pattern] abbrev V.ptr (i o : Nat) : V := .u (.a (.ptr i o))
@[match_pattern] abbrev V.sl (i o len : Nat) : V := .u (.a (.sl i o len))
@[match_pattern] abbrev V.ro (i n : Nat) : V := .u (.a (.ro i n))
@[match_pattern] abbrev V.big (v : Nat) : V := .u (.a (.big v))
@[match_pattern] abbrev V.mp (i : Nat) : V := .u (.a (.mp i))
@[match_pattern] abbrev V.nil : V := .u (.a .nil)
@[match_pattern] abbrev V.sl0 : V := .u (.a .sl0)
@[match_pattern] abbrev V.fn (f : FuncId) : V := .u (.a (.fn f))
abbrev V.no : V := .tup []
inductive C where
  | fl (k : FloatKind) (l : List Nat)
  | int (k : IntKind) (l : List Int)
  | bool (l : List Bool)
  | cx (k : FloatKind) (l : List (Nat × Nat))
  | as (e : Nat) (l : List A)
  | mp (l : List ((Int × Int) × Int))
inductive B where
  | gone
  | at (rw : Bool) (c : C)
abbrev H := List B
structure St where
  t : List V
  h : H
inductive X where
  | norm
  | exit (id : Nat)
  | ret
inductive D where
  | other
  | bool
  | int (k : IntKind)
  | fl (k : FloatKind)
  | cx (k : FloatKind)
  | slice (e : TypeId)
  | struct (fs : List (Nat × TypeId))
  | array (n : Nat) (e : TypeId)
structure TyI where
  agg : Bool
  size : Nat
  bytes : Nat
  zero : List A
  d : D
abbrev Ty := TypeId → Option TyI
def qnan : FloatKind → Nat
  | .f32 => 2143289344
  | .f64 => 9221120237041090560
def canon (k : FloatKind) (b : Nat) : Nat := if (k.decode b).isNaN then qnan k else b
def fop (op : BinOp) (k : FloatKind) (x y : Nat) : Nat := (floatBits op k x y).getD (qnan k)
def fneg (k : FloatKind) (x : Nat) : Nat := canon k (Op.negFloat k x)
def fconv (s : FloatKind) (b : Nat) (d : FloatKind) : Option Nat :=
  if s = d then some b else if (s.decode b).isNaN then some (qnan d) else floatToFloatBits s b d
def fcmp (op : BinOp) (k : FloatKind) (x y : Nat) : Option Bool :=
  match op with
  | .eql => some (k.format.order x y == some .eq)
  | .neq => some (k.format.order x y != some .eq)
  | .lss => some (k.format.order x y == some .lt)
  | .leq => some (k.format.order x y == some .lt || k.format.order x y == some .eq)
  | .gtr => some (k.format.order x y == some .gt)
  | .geq => some (k.format.order x y == some .gt || k.format.order x y == some .eq)
  | _ => none
def fmax (k : FloatKind) (x y : Nat) : Nat :=
  match k.format.order x y with
  | none => qnan k
  | some .lt => y
  | some .gt => x
  | some .eq => if (k.decode x).neg then y else x
def fmin (k : FloatKind) (x y : Nat) : Nat :=
  match k.format.order x y with
  | none => qnan k
  | some .lt => x
  | some .gt => y
  | some .eq => if (k.decode x).neg then x else y
def nth : List V → Nat → V
  | [], _ => V.no
  | v :: _, 0 => v
  | _ :: l, n + 1 => nth l n
def setK {R : Type} : List V → Nat → V → (List V → Option R) → Option R
  | [], _, _, K => K []
  | _ :: l, 0, v, K => K (v :: l)
  | x :: l, n + 1, v, K => setK l n v fun l' => K (x :: l')
def atomK {R : Type} (x : A) (K : A → Option R) : Option R :=
  match x with
  | .bool b => K (.bool b)
  | .int k n => K (.int k n)
  | .fl k b => K (.fl k b)
  | .cx k a b => K (.cx k a b)
  | .ptr i o => K (.ptr i o)
  | .sl i o n => K (.sl i o n)
  | .nil => K .nil
  | .sl0 => K .sl0
  | .fn f => K (.fn f)
  | .ro i n => K (.ro i n)
  | .dig v => K (.dig v)
  | .big v => K (.big v)
  | .mp i => K (.mp i)
def atomsK {R : Type} : List A → (List A → Option R) → Option R
  | [], K => K []
  | x :: l, K => atomK x fun x => atomsK l fun l => K (x :: l)
def unitK {R : Type} (x : U) (K : U → Option R) : Option R :=
  match x with
  | .a x => atomK x fun x => K (.a x)
  | .g l => atomsK l fun l => K (.g l)
def unitsK {R : Type} : List U → (List U → Option R) → Option R
  | [], K => K []
  | x :: l, K => unitK x fun x => unitsK l fun l => K (x :: l)
def valK {R : Type} (v : V) (K : V → Option R) : Option R :=
  match v with
  | .any => K .any
  | .u x => unitK x fun x => K (.u x)
  | .tup l => unitsK l fun l => K (.tup l)
def putK {R : Type} (t : List V) (d : Option Tmp) (v : V) (K : List V → Option R) : Option R :=
  match d with
  | some d => valK v fun v => setK t d v K
  | none => K t
def mask (keep : List Nat) : Nat → List V → List V
  | _, [] => []
  | n, v :: l => (if keep.contains n then v else V.any) :: mask keep (n + 1) l
def absA : Value → Option A
  | .bool b => some (.bool b)
  | .int k n => some (.int k n)
  | .float k b => some (.fl k (canon k b))
  | .complex k x y => some (.cx k (canon k x) (canon k y))
  | .slice none 0 0 => some .nil
  | .func (.func f) ⟨[]⟩ ⟨[]⟩ => some (.fn f)
  | _ => none
def optMap {α β : Type} (f : α → Option β) : List α → Option (List β)
  | [] => some []
  | x :: l => match f x with
    | some y => match optMap f l with | some m => some (y :: m) | none => none
    | none => none
def absV : Value → V
  | .agg ⟨cs⟩ => match optMap absA cs with | some l => .g l | none => V.any
  | v => match absA v with | some x => .a x | none => V.any
def ev (t : List V) : Operand → V
  | .tmp n => nth t n
  | .const v => absV v
  | .global _ => V.any
  | .func f => .fn f
def C.len : C → Nat
  | .fl _ l => l.length
  | .int _ l => l.length
  | .bool l => l.length
  | .cx _ l => l.length
  | .as _ l => l.length
  | .mp _ => 0
def C.esz : C → Nat
  | .as e _ => e
  | _ => 1
def C.getK {R : Type} (c : C) (i : Nat) (K : A → Option R) : Option R :=
  match c with
  | .fl k l => match l[i]? with | some b => K (.fl k b) | none => none
  | .int k l => match l[i]? with | some n => K (.int k n) | none => none
  | .bool l => match l[i]? with | some b => K (.bool b) | none => none
  | .cx k l => match l[i]? with | some (x, y) => K (.cx k x y) | none => none
  | .as _ l => match l[i]? with | some x => K x | none => none
  | .mp _ => none
def C.getNK {R : Type} (c : C) : Nat → Nat → (List A → Option R) → Option R
  | _, 0, K => K []
  | i, n + 1, K => c.getK i fun x => c.getNK (i + 1) n fun l => K (x :: l)
def C.setK {R : Type} (c : C) (i : Nat) (x : A) (K : C → Option R) : Option R :=
  match decide (i < c.len) with
  | false => none
  | true =>
    match c, x with
    | .fl k l, .fl k' b => if k = k' then K (.fl k (l.set i b)) else none
    | .int k l, .int k' n => if k = k' then K (.int k (l.set i n)) else none
    | .bool l, .bool b => K (.bool (l.set i b))
    | .cx k l, .cx k' a b => if k = k' then K (.cx k (l.set i (a, b))) else none
    | .as e l, x => K (.as e (l.set i x))
    | _, _ => none
def C.setNK {R : Type} (c : C) (i : Nat) : List A → (C → Option R) → Option R
  | [], K => K c
  | x :: l, K => c.setK i x fun c' => c'.setNK (i + 1) l K
def C.part (c : C) (o n : Nat) : C :=
  match c with
  | .fl k l => .fl k ((l.drop o).take n)
  | .int k l => .int k ((l.drop o).take n)
  | .bool l => .bool ((l.drop o).take n)
  | .cx k l => .cx k ((l.drop o).take n)
  | .as e l => .as e ((l.drop o).take n)
  | .mp l => .mp l
def C.app (c d : C) : Option C :=
  match c, d with
  | .fl k l, .fl k' m => if k = k' then some (.fl k (l ++ m)) else none
  | .int k l, .int k' m => if k = k' then some (.int k (l ++ m)) else none
  | .bool l, .bool m => some (.bool (l ++ m))
  | .cx k l, .cx k' m => if k = k' then some (.cx k (l ++ m)) else none
  | .as e l, .as e' m => if e = e' then some (.as e (l ++ m)) else none
  | _, _ => none
def flsOf (k : FloatKind) : List A → Option (List Nat)
  | [] => some []
  | .fl k' b :: l => if k = k' then (flsOf k l).map (b :: ·) else none
  | _ => none
def intsOf (k : IntKind) : List A → Option (List Int)
  | [] => some []
  | .int k' n :: l => if k = k' then (intsOf k l).map (n :: ·) else none
  | _ => none
def boolsOf : List A → Option (List Bool)
  | [] => some []
  | .bool b :: l => (boolsOf l).map (b :: ·)
  | _ => none
def cxsOf (k : FloatKind) : List A → Option (List (Nat × Nat))
  | [] => some []
  | .cx k' a b :: l => if k = k' then (cxsOf k l).map ((a, b) :: ·) else none
  | _ => none
def mkC (zero : List A) (l : List A) : Option C :=
  match zero with
  | [.fl k _] => (flsOf k l).map (.fl k)
  | [.int k _] => (intsOf k l).map (.int k)
  | [.bool _] => (boolsOf l).map .bool
  | [.cx k _ _] => (cxsOf k l).map (.cx k)
  | _ => some (.as zero.length l)
def zeros (zero : List A) (n : Nat) : Option C :=
  match zero with
  | [.fl k b] => some (.fl k (List.replicate n b))
  | [.int k m] => some (.int k (List.replicate n m))
  | [.bool b] => some (.bool (List.replicate n b))
  | [.cx k a b] => some (.cx k (List.replicate n (a, b)))
  | [x] => some (.as 1 (List.replicate n x))
  | _ => some (.as zero.length (List.replicate n zero).flatten)
def hgetK {R : Type} (h : H) (i : Nat) (K : Bool → C → Option R) : Option R :=
  match h[i]? with
  | some (.at rw c) => K rw c
  | _ => none
def fillA (place : Nat → Option (Nat × Nat)) (cells : List A) : List (Nat × V) → Option (List A)
  | [] => some cells
  | (i, v) :: rest =>
    match place i, v with
    | some (off, 1), .a x => if off < cells.length then fillA place (cells.set off x) rest else none
    | some (off, n), .g l => if l.length = n ∧ off + n ≤ cells.length then fillA place (cells.take off ++ l ++ cells.drop (off + n)) rest else none
    | _, _ => none
def iopK {R : Type} (op : BinOp) (k : IntKind) (x y : Int) (K : V → Option R) : Option R :=
  match op with
  | .add => K (.int k (k.wrap (x + y)))
  | .sub => K (.int k (k.wrap (x - y)))
  | .mul => K (.int k (k.wrap (x * y)))
  | .quo => match decide (y = 0) with | true => none | false => K (.int k (k.wrap (x.tdiv y)))
  | .rem => match decide (y = 0) with | true => none | false => K (.int k (x.tmod y))
  | .and => K (.int k (k.wrap (BitVec.ofInt k.bits x &&& BitVec.ofInt k.bits y).toNat))
  | .or => K (.int k (k.wrap (BitVec.ofInt k.bits x ||| BitVec.ofInt k.bits y).toNat))
  | .xor => K (.int k (k.wrap (BitVec.ofInt k.bits x ^^^ BitVec.ofInt k.bits y).toNat))
  | .andNot => K (.int k (k.wrap (BitVec.ofInt k.bits x &&& ~~~ BitVec.ofInt k.bits y).toNat))
  | .eql => K (.bool (x == y))
  | .neq => K (.bool (x != y))
  | .lss => K (.bool (decide (x < y)))
  | .leq => K (.bool (decide (x ≤ y)))
  | .gtr => K (.bool (decide (x > y)))
  | .geq => K (.bool (decide (x ≥ y)))
  | _ => none
def shiftK {R : Type} (op : BinOp) (k : IntKind) (x y : Int) (K : V → Option R) : Option R :=
  match decide (y < 0) with
  | true => none
  | false => match op with
    | .shl => K (.int k (k.wrap (x * 2 ^ (min y.toNat k.bits))))
    | .shr => K (.int k (x.fdiv (2 ^ (min y.toNat k.bits))))
    | _ => none
def isArith : BinOp → Bool
  | .add | .sub | .mul | .quo => true
  | _ => false
def nilK {R : Type} (ty : Ty) (op : BinOp) (t : TypeId) (b : Bool) (K : V → Option R) : Option R :=
  match ty t with
  | some ⟨_, _, _, _, .slice _⟩ =>
    match op with
    | .eql => K (.bool b)
    | .neq => K (.bool !b)
    | _ => none
  | _ => none
def binK {R : Type} (ty : Ty) (op : BinOp) (t : TypeId) (x y : V) (K : V → Option R) : Option R :=
  match x, y with
  | .int k a, .int k' b =>
    match op with
    | .shl => shiftK .shl k a b K
    | .shr => shiftK .shr k a b K
    | _ => if k = k' then iopK op k a b K else none
  | .fl k a, .fl k' b =>
    if k = k' then
      match isArith op with
      | true => K (.fl k (fop op k a b))
      | false => match fcmp op k a b with | some r => K (.bool r) | none => none
    else none
  | .cx k a b, .cx k' c d =>
    if k = k' then
      match op with
      | .add => K (.cx k (fop .add k a c) (fop .add k b d))
      | .sub => K (.cx k (fop .sub k a c) (fop .sub k b d))
      | .eql => K (.bool ((k.format.order a c == some .eq) && (k.format.order b d == some .eq)))
      | .neq => K (.bool !((k.format.order a c == some .eq) && (k.format.order b d == some .eq)))
      | _ => none
    else none
  | .bool a, .bool b =>
    match ty t with
    | some ⟨_, _, _, _, .bool⟩ =>
      match op with
      | .eql => K (.bool (a == b))
      | .neq => K (.bool !(a == b))
      | _ => none
    | _ => none
  | .sl _ _ _, .nil => nilK ty op t false K
  | .sl0, .nil => nilK ty op t false K
  | .nil, .nil => nilK ty op t true K
  | _, _ => none
def unK {R : Type} (op : UnOp) (x : V) (K : V → Option R) : Option R :=
  match op, x with
  | .not, .bool b => K (.bool !b)
  | .neg, .int k n => K (.int k (k.wrap (0 - n)))
  | .neg, .fl k b => K (.fl k (fneg k b))
  | .neg, .cx k a b => K (.cx k (fneg k a) (fneg k b))
  | .xor, .int k n => iopK .xor k (if k.signed then -1 else k.max) n K
  | _, _ => none
def convK {R : Type} (ty : Ty) (s d : TypeId) (x : V) (K : V → Option R) : Option R :=
  match ty s, ty d, x with
  | some _, some ⟨_, _, _, _, .int k⟩, .int _ n => K (.int k (k.wrap n))
  | some _, some ⟨_, _, _, _, .int k⟩, .fl q b => match floatToIntVal q b k with | some n => K (.int k n) | none => none
  | some _, some ⟨_, _, _, _, .fl k⟩, .int _ n => K (.fl k (floatOfInt k n))
  | some _, some ⟨_, _, _, _, .fl k⟩, .fl q b => match fconv q b k with | some r => K (.fl k r) | none => none
  | some _, some ⟨_, _, _, _, .cx k⟩, .cx q a b =>
    match fconv q a k with
    | some r => match fconv q b k with | some s => K (.cx k r s) | none => none
    | none => none
  | _, _, _ => none
def fieldOf (ty : Ty) (t : TypeId) (f : Nat) : Option (Nat × TyI) :=
  match ty t with
  | some ⟨_, _, _, _, .struct fs⟩ => match fs[f]? with | some (o, e) => (ty e).map (o, ·) | none => none
  | _ => none
def partK {R : Type} (I : TyI) (l : List A) (o : Nat) (K : V → Option R) : Option R :=
  match I.agg with
  | true => K (.g ((l.drop o).take I.size))
  | false => match l[o]? with | some x => K (.a x) | none => none
def idxAddrK {R : Type} (ty : Ty) (t : TypeId) (x i : V) (K : V → Option R) : Option R :=
  match ty t, x, i with
  | some ⟨_, _, _, _, .slice e⟩, .sl b o len, .int _ n =>
    match ty e with
    | some I => match decide (0 ≤ n ∧ n < len) with | true => K (.ptr b (o + n.toNat * I.size)) | false => none
    | none => none
  | some ⟨_, _, _, _, .array len e⟩, .ptr b o, .int _ n =>
    match ty e with
    | some I => match decide (0 ≤ n ∧ n < len) with | true => K (.ptr b (o + n.toNat * I.size)) | false => none
    | none => none
  | some ⟨_, _, _, _, .slice e⟩, .ro b len, .int _ n =>
    match ty e with
    | some I => match decide (0 ≤ n ∧ n < len) with | true => K (.ptr b (0 + n.toNat * I.size)) | false => none
    | none => none
  | _, _, _ => none
def idxK {R : Type} (ty : Ty) (t : TypeId) (x i : V) (K : V → Option R) : Option R :=
  match ty t, x, i with
  | some ⟨_, _, _, _, .array len e⟩, .g l, .int _ n =>
    match ty e with
    | some I => match decide (0 ≤ n ∧ n < len) with | true => partK I l (n.toNat * I.size) K | false => none
    | none => none
  | _, _, _ => none
def loadK {R : Type} (ty : Ty) (h : H) (t : TypeId) (x : V) (K : V → Option R) : Option R :=
  match ty t, x with
  | some I, .ptr i o =>
    hgetK h i fun _ c =>
      match I.agg with
      | true => c.getNK o I.size fun l => K (.g l)
      | false => c.getK o fun a => K (.a a)
  | _, _ => none
def ndigF : Nat → Nat → Nat
  | 0, _ => 0
  | k + 1, v => if v = 0 then 0 else ndigF k (v / 4294967296) + 1
def ndig (v : Nat) : Nat := ndigF v v
def lenK {R : Type} (ty : Ty) (t : TypeId) (x : V) (K : V → Option R) : Option R :=
  match ty t, x with
  | some ⟨_, _, _, _, .slice _⟩, .sl _ _ n => K (.int .i64 n)
  | some ⟨_, _, _, _, .slice _⟩, .ro _ n => K (.int .i64 n)
  | some ⟨_, _, _, _, .slice _⟩, .big v => K (.int .i64 (ndig v))
  | some ⟨_, _, _, _, .slice _⟩, .nil => K (.int .i64 0)
  | some ⟨_, _, _, _, .slice _⟩, .sl0 => K (.int .i64 0)
  | _, _ => none
def sliceK {R : Type} (ty : Ty) (t : TypeId) (x : V) (lo hi mx : Option V) (K : V → Option R) : Option R :=
  match ty t, x, mx with
  | some ⟨_, _, _, _, .slice e⟩, .sl b o len, none =>
    match ty e, lo.getD (.int .i64 0), hi.getD (.int .i64 len) with
    | some I, .int _ l, .int _ m =>
      match decide (0 ≤ l ∧ l ≤ m ∧ m ≤ len) with
      | true => K (.sl b (o + l.toNat * I.size) (m - l).toNat)
      | false => none
    | _, _, _ => none
  | some ⟨_, _, _, _, .slice e⟩, .ro b len, none =>
    match ty e, lo, hi with
    | some _, none, some (.int _ m) =>
      match decide (0 ≤ m ∧ m ≤ len) with
      | true => K (.ro b m.toNat)
      | false => none
    | _, _, _ => none
  | some ⟨_, _, _, _, .slice e⟩, .sl _ _ _, some (.int _ m) =>
    match ty e, hi, lo with
    | some _, some (.int _ q), none => match decide (m = 0 ∧ q = 0) with | true => K .sl0 | false => none
    | _, _, _ => none
  | some ⟨_, _, _, _, .slice e⟩, .nil, some (.int _ m) =>
    match ty e, hi, lo with
    | some _, some (.int _ q), none => match decide (m = 0 ∧ q = 0) with | true => K .nil | false => none
    | _, _, _ => none
  | _, _, _ => none
def minmaxK {R : Type} (mx : Bool) (x y : V) (K : V → Option R) : Option R :=
  match x, y with
  | .int k a, .int k' b => if k = k' then K (.int k (match mx with | true => if b > a then b else a | false => if b < a then b else a)) else none
  | .fl k a, .fl k' b => if k = k' then K (.fl k (match mx with | true => fmax k a b | false => fmin k a b)) else none
  | _, _ => none
def minmaxsK {R : Type} (mx : Bool) (x : V) : List V → (V → Option R) → Option R
  | [], K => K x
  | y :: l, K => minmaxK mx x y fun z => minmaxsK mx z l K
def placeOf (ty : Ty) (fs : List (Nat × TypeId)) (i : Nat) : Option (Nat × Nat) :=
  match fs[i]? with
  | some (o, e) => match ty e with | some I => some (o, I.size) | none => none
  | none => none
def quietK {R : Type} (ty : Ty) (t : List V) (h : H) (op : Op) (K : V → Option R) : Option R :=
  match op with
  | .move x => K (ev t x)
  | .assign x => K (ev t x)
  | .pick c a b => match ev t c with
    | .bool p => match p with
      | true => K (ev t a)
      | false => K (ev t b)
    | _ => none
  | .binOp op xt x y _ => binK ty op xt (ev t x) (ev t y) K
  | .unOp op _ x => unK op (ev t x) K
  | .convert s d x => convK ty s d (ev t x) K
  | .extract x i => match ev t x with
    | .tup l => match l[i]? with | some u => K (.u u) | none => none
    | _ => none
  | .field xt x f => match ev t x, fieldOf ty xt f with
    | .g l, some (o, I) => partK I l o K
    | _, _ => none
  | .index xt x i => idxK ty xt (ev t x) (ev t i) K
  | .fieldAddr s x f => match ev t x, fieldOf ty s f with
    | .ptr i o, some (p, I) => match decide (I.size = 0) with | true => none | false => K (.ptr i (o + p))
    | _, _ => none
  | .indexAddr xt x i => idxAddrK ty xt (ev t x) (ev t i) K
  | .load lt x => loadK ty h lt (ev t x) K
  | .nilCheck x => match ev t x with
    | .ptr i o => K (.ptr i o)
    | _ => none
  | .slice xt x lo hi mx => sliceK ty xt (ev t x) (lo.map (ev t)) (hi.map (ev t)) (mx.map (ev t)) K
  | .build bt parts =>
    match ty bt with
    | some ⟨_, _, _, zero, .struct fs⟩ =>
      match fs.all (fun p => (ty p.2).isSome) with
      | false => none
      | true =>
      match fillA (placeOf ty fs) zero (parts.toList.map fun p => (p.1, ev t p.2)) with
      | some l => K (.g l)
      | none => none
    | some ⟨_, _, _, zero, .array _ e⟩ =>
      match ty e with
      | some I => match fillA (fun i => some (i * I.size, I.size)) zero (parts.toList.map fun p => (p.1, ev t p.2)) with
        | some l => K (.g l)
        | none => none
      | none => none
    | _ => none
  | .makeFunc (.func f) ⟨[]⟩ ⟨[]⟩ => K (.fn f)
  | .call ⟨.builtin .len, ⟨[x]⟩, ⟨lt :: _⟩⟩ => lenK ty lt (ev t x) K
  | .call ⟨.builtin .max, ⟨x :: xs⟩, _⟩ => minmaxsK true (ev t x) (xs.map (ev t)) K
  | .call ⟨.builtin .min, ⟨x :: xs⟩, _⟩ => minmaxsK false (ev t x) (xs.map (ev t)) K
  | .call ⟨.builtin .complex, ⟨[x, y]⟩, _⟩ => match ev t x, ev t y with
    | .fl k a, .fl k' b => if k = k' then K (.cx k a b) else none
    | _, _ => none
  | .call ⟨.builtin .real, ⟨[x]⟩, _⟩ => match ev t x with | .cx k a _ => K (.fl k a) | _ => none
  | .call ⟨.builtin .imag, ⟨[x]⟩, _⟩ => match ev t x with | .cx k _ b => K (.fl k b) | _ => none
  | _ => none
def A.ids : A → List Nat
  | .ptr i _ => [i]
  | .sl i _ _ => [i]
  | .ro i _ => [i]
  | .mp i => [i]
  | _ => []
def U.ids : U → List Nat
  | .a x => x.ids
  | .g l => l.flatMap A.ids
def V.ids : V → List Nat
  | .any => []
  | .u x => x.ids
  | .tup l => l.flatMap U.ids
def B.ids : B → List Nat
  | .at _ (.as _ l) => l.flatMap A.ids
  | _ => []
def addNew (acc : List Nat) (i : Nat) : List Nat := if acc.contains i then acc else acc ++ [i]
def idsAt (h : H) (i : Nat) : List Nat := match h[i]? with | some b => b.ids | none => []
def close (h : H) : Nat → List Nat → List Nat
  | 0, ids => ids
  | n + 1, ids => close h n ((ids.flatMap (idsAt h)).foldl addNew ids)
def A.ren (ids : List Nat) : A → Option A
  | .ptr i o => (ids.idxOf? i).map (.ptr · o)
  | .sl i o n => (ids.idxOf? i).map (.sl · o n)
  | .ro i n => (ids.idxOf? i).map (.ro · n)
  | .mp i => (ids.idxOf? i).map .mp
  | x => some x
def U.ren (ids : List Nat) : U → Option U
  | .a x => (x.ren ids).map .a
  | .g l => (optMap (A.ren ids) l).map .g
def V.ren (ids : List Nat) : V → Option V
  | .any => some .any
  | .u x => (x.ren ids).map .u
  | .tup l => (optMap (U.ren ids) l).map .tup
def B.ren (ids : List Nat) : B → Option B
  | .gone => some .gone
  | .at rw (.as e l) => (optMap (A.ren ids) l).map fun m => .at rw (.as e m)
  | .at rw c => some (.at rw c)
def renAt (h : H) (ids : List Nat) (i : Nat) : Option B := match h[i]? with | some b => b.ren ids | none => none
def subH (h : H) (ids : List Nat) : Option H := optMap (renAt h ids) ids
def back (ids : List Nat) (base : Nat) (j : Nat) : Nat := match ids[j]? with | some i => i | none => base + (j - ids.length)
def A.up (f : Nat → Nat) : A → A
  | .ptr i o => .ptr (f i) o
  | .sl i o n => .sl (f i) o n
  | .ro i n => .ro (f i) n
  | .mp i => .mp (f i)
  | x => x
def U.up (f : Nat → Nat) : U → U
  | .a x => .a (x.up f)
  | .g l => .g (l.map (A.up f))
def V.up (f : Nat → Nat) : V → V
  | .any => .any
  | .u x => .u (x.up f)
  | .tup l => .tup (l.map (U.up f))
def B.up (f : Nat → Nat) : B → B
  | .at rw (.as e l) => .at rw (.as e (l.map (A.up f)))
  | b => b
def layBack (f : Nat → Nat) : H → List Nat → H → H
  | h, [], new => h ++ new.map (B.up f)
  | h, i :: ids, b :: new => layBack f (h.set i (b.up f)) ids new
  | h, _ :: _, [] => h
inductive T where
  | no
  | ret (v : V) (h : H)
  | ite (b : Bool) (x y : T)
def T.k {R : Type} : T → (V → H → Option R) → Option R
  | .no, _ => none
  | .ret v h, K => K v h
  | .ite b x y, K => match b with
    | true => x.k K
    | false => y.k K
def T.of : Option (V × H) → T
  | some (v, h) => .ret v h
  | none => .no
abbrev T.run (t : T) : Option (V × H) := t.k fun v h => some (v, h)
theorem T.k_run {R : Type} (K : V → H → Option R) : ∀ t : T, t.k K = match t.run with | some (v, h) => K v h | none => none
  | .no => rfl
  | .ret _ _ => rfl
  | .ite b x y => by cases b with
    | true => exact T.k_run K x
    | false => exact T.k_run K y
theorem T.run_of (o : Option (V × H)) : (T.of o).run = o := by cases o <;> rfl
abbrev Fns := FuncId → List V → H → T
def B.still : B → B
  | .at _ c => .at false c
  | b => b
def A.flat : A → Bool
  | .bool _ | .int _ _ | .fl _ _ | .cx _ _ _ => true
  | _ => false
def U.flat : U → Bool
  | .a x => x.flat
  | .g l => l.all A.flat
def V.flat : V → Bool
  | .any => false
  | .u x => x.flat
  | .tup l => l.all U.flat
def callK {R : Type} (fns : Fns) (f : FuncId) (vs : List V) (h : H) (K : V → H → Option R) : Option R :=
  match close h 3 ((vs.flatMap V.ids).foldl addNew []) with
  | ids =>
    match optMap (V.ren ids) vs with
    | none => none
    | some ws =>
      match subH h ids with
      | none => none
      | some g =>
        (fns f ws g).k fun v g' => K (v.up (back ids h.length)) (layBack (back ids h.length) h ids g')
def callQ {R : Type} (fns : Fns) (f : FuncId) (vs : List V) (h : H) (K : V → Option R) : Option R :=
  callK fns f vs (h.map B.still) fun v _ => match v.flat with | true => K v | false => none
def callG {R : Type} (fns : Fns) (f : FuncId) (vs : List V) (h : H) (K : V → H → Option R) : Option R :=
  callK fns f vs (h.map B.still) fun v h' => K v (h ++ h'.drop h.length)
inductive Cls where
  | plain
  | quiet
  | grow
def newK {R : Type} (h : H) (c : C) (K : Nat → H → Option R) : Option R := K h.length (h ++ [.at true c])
def boxC (l : List A) : C :=
  match decide (8 ≤ l.length), l with
  | true, .int k n :: r => match intsOf k (.int k n :: r) with
    | some m => .int k m
    | none => .as 1 (.int k n :: r)
  | _, l => .as 1 l
def boundB (n b : Nat) : Bool := decide (n ≤ 9223372036854775807 ∧ n * b ≤ 140737488355328)
def srcK {R : Type} (h : H) (sz : Nat) (x : V) (K : Nat → Option C → Option R) : Option R :=
  match x with
  | .sl j o m => hgetK h j fun _ c => match decide (o + m * sz ≤ c.len) with
    | true => K m (some (c.part o (m * sz)))
    | false => none
  | .nil => K 0 none
  | .sl0 => K 0 none
  | _ => none
def appendK {R : Type} (ty : Ty) (h : H) (st xt : TypeId) (s x : V) (K : V → H → Option R) : Option R :=
  if st = xt then
  match ty st with
  | some ⟨_, _, _, _, .slice e⟩ =>
    match ty e with
    | some I =>
      match decide (0 < I.size ∧ I.zero.length = I.size) with
      | false => none
      | true =>
      srcK h I.size x fun m d =>
        match s, d with
        | .sl i 0 n, none => K (.sl i 0 n) h
        | .nil, none => K .nil h
        | .sl0, none => K .sl0 h
        | .sl i 0 n, some d =>
          hgetK h i fun rw c =>
            match rw && decide (n * I.size = c.len ∧ c.esz = I.size) && boundB (n + m) I.bytes with
            | false => none
            | true => match x with
              | .sl j _ _ => match decide (j = i) with
                | true => none
                | false => match c.app d with
                  | some c' => K (.sl h.length 0 (n + m)) ((h.set i .gone) ++ [.at true c'])
                  | none => none
              | _ => none
        | .nil, some d => match boundB m I.bytes && decide (d.esz = I.size) with
          | true => match decide (m = 0) with | true => K .nil h | false => K (.sl h.length 0 m) (h ++ [.at true d])
          | false => none
        | .sl0, some d => match boundB m I.bytes && decide (d.esz = I.size) with
          | true => match decide (m = 0) with | true => K .sl0 h | false => K (.sl h.length 0 m) (h ++ [.at true d])
          | false => none
        | _, _ => none
    | none => none
  | _ => none
  else none
def storeK {R : Type} (ty : Ty) (h : H) (t : TypeId) (x v : V) (K : H → Option R) : Option R :=
  match ty t, x with
  | some I, .ptr i o =>
    hgetK h i fun rw c =>
      match rw with
      | false => none
      | true =>
        match v with
        | .a y => if I.size = 1 then c.setK o y fun c' => K (h.set i (.at true c')) else none
        | .g l => if I.size = l.length then c.setNK o l fun c' => K (h.set i (.at true c')) else none
        | _ => none
  | _, _ => none
def vcells : V → Option (List A)
  | .a x => some [x]
  | .g l => some l
  | _ => none
def stepK {R : Type} (ty : Ty) (fns : Fns) (cls : Cls) (t : List V) (h : H) (op : Op) (K : V → H → Option R) : Option R :=
  match op with
  | .alloc e => match ty e with
    | some I => newK h (.as 1 I.zero) fun i h' => K (.ptr i 0) h'
    | none => none
  | .box e x => match ty e, vcells (ev t x) with
    | some I, some l => if l.length = I.size then newK h (boxC l) fun i h' => K (.ptr i 0) h' else none
    | _, _ => none
  | .buildSlice bt len parts =>
    match ty bt with
    | some ⟨_, _, _, _, .slice e⟩ =>
      match ty e with
      | some I =>
        match decide (len * I.size ≤ 16777216 ∧ 0 < I.size ∧ I.zero.length = I.size) with
        | false => none
        | true =>
        match fillA (fun i => some (i * I.size, I.size)) (List.replicate len I.zero).flatten (parts.toList.map fun p => (p.1, ev t p.2)) with
        | some l => match mkC I.zero l with
          | some c => newK h c fun i h' => K (.sl i 0 len) h'
          | none => none
        | none => none
      | none => none
    | _ => none
  | .makeSlice mt x y =>
    match ty mt, ev t x, ev t y with
    | some ⟨_, _, _, _, .slice e⟩, .int _ n, .int _ m =>
      match ty e with
      | some I =>
        match decide (0 ≤ n ∧ n ≤ m ∧ m ≤ 9223372036854775807 ∧ m.toNat * I.bytes ≤ 140737488355328 ∧ 0 < I.size ∧ I.zero.length = I.size) with
        | true => match zeros I.zero n.toNat with
          | some c => newK h c fun i h' => K (.sl i 0 n.toNat) h'
          | none => none
        | false => none
      | none => none
    | _, _, _ => none
  | .store st x v => storeK ty h st (ev t x) (ev t v) fun h' => K V.no h'
  | .call ⟨.builtin .append, ⟨[s, x]⟩, ⟨[st, xt]⟩⟩ => appendK ty h st xt (ev t s) (ev t x) K
  | .call ⟨.value f, args, _⟩ =>
    match ev t f with
    | .fn f => match cls with
      | .quiet => callQ fns f (args.toList.map (ev t)) h fun v => K v h
      | .grow => callG fns f (args.toList.map (ev t)) h K
      | .plain => callK fns f (args.toList.map (ev t)) h K
    | _ => none
  | op => quietK ty t h op fun v => K v h
def dstAt (ops : Array Oper) (j : Nat) : Option Tmp := (ops[j]?).bind (·.dst)
def opsK {R : Type} (ty : Ty) (fns : Fns) (cl : Nat → Cls) (ops : Array Oper) : Nat → List Oper → List V → H → (List V → H → Option R) → Option R
  | _, [], t, h, K => K t h
  | n, o :: rest, t, h, K =>
    match o.guard with
    | none => stepK ty fns (cl n) t h o.op fun v h' => putK t o.dst v fun t' => opsK ty fns cl ops (n + 1) rest t' h' K
    | some (j, want) =>
      match dstAt ops j with
      | none => none
      | some d =>
        match nth t d with
        | .bool p => match p with
          | true => match want with
            | true => setK t d (.bool true) fun t => stepK ty fns (cl n) t h o.op fun v h' => putK t o.dst v fun t' => opsK ty fns cl ops (n + 1) rest t' h' K
            | false => setK t d (.bool true) fun t => putK t o.dst V.no fun t' => opsK ty fns cl ops (n + 1) rest t' h K
          | false => match want with
            | false => setK t d (.bool false) fun t => stepK ty fns (cl n) t h o.op fun v h' => putK t o.dst v fun t' => opsK ty fns cl ops (n + 1) rest t' h' K
            | true => setK t d (.bool false) fun t => putK t o.dst V.no fun t' => opsK ty fns cl ops (n + 1) rest t' h K
        | .tup [] => putK t o.dst V.no fun t' => opsK ty fns cl ops (n + 1) rest t' h K
        | _ => none
structure Ann where
  keep : Nat → Option (List Nat × List Nat)
  cl : Nat → Nat → Cls
def firstRegion : Code → Option Nat
  | .region id _ _ => some id
  | .seq a b => match firstRegion a with | some i => some i | none => firstRegion b
  | .block _ b => firstRegion b
  | .loop b => firstRegion b
  | .scope b => firstRegion b
  | .cond _ a _ => firstRegion a
  | _ => none
def tidyK {R : Type} (k : Nat) (keep : Option (List Nat)) (st : St) (K : St → Option R) : Option R :=
  match keep with
  | none => K st
  | some l =>
    match mask l 0 st.t with
    | t =>
      match close st.h 3 ((t.flatMap V.ids).foldl addNew (List.range k)) with
      | ids =>
        match optMap (V.ren ids) t with
        | none => none
        | some t' => match subH st.h ids with
          | none => none
          | some h' => K ⟨t', h'⟩
def loopH {R : Type} (k : Nat) (kp : Option (List Nat × List Nat)) (body : St → (X → St → Option R) → Option R) : Nat → St → (X → St → Option R) → Option R
  | 0, _, _ => none
  | n + 1, st, K => body st fun x st =>
    match x with
    | .norm => tidyK k (kp.map (·.1)) st fun st => loopH k kp body n st K
    | x => tidyK k (kp.map (·.2)) st fun st => K x st
def loopK {R : Type} (k : Nat) (kp : Option (List Nat × List Nat)) (body : St → (X → St → Option R) → Option R) (N : Nat) (st : St) (K : X → St → Option R) : Option R :=
  tidyK k (kp.map (·.1)) st fun st => loopH k kp body N st K
inductive Kd where
  | s
  | q
  | n
  | g
  | l
def kindOf (cl : Cls) (op : Op) : Kd :=
  match op with
  | .alloc _ | .box _ _ | .buildSlice _ _ _ | .makeSlice _ _ _ => .g
  | .call ⟨.builtin b, _, _⟩ => match b with | .len | .max | .min | .complex | .real | .imag => .q | _ => .l
  | .call ⟨.value _, _, _⟩ => match cl with | .quiet => .n | .grow => .g | .plain => .l
  | .move _ | .extract _ _ => .s
  | .assign _ | .pick _ _ _ | .binOp _ _ _ _ _ | .unOp _ _ _ | .convert _ _ _ | .field _ _ _ | .index _ _ _ | .fieldAddr _ _ _
  | .indexAddr _ _ _ | .load _ _ | .nilCheck _ | .slice _ _ _ _ _ | .build _ _ | .makeFunc _ _ _ => .q
  | _ => .l
def Kd.free : Kd → Kd → Bool
  | .s, _ | _, .s | .q, .q | .q, .n | .n, .q | .n, .n | .q, .g | .g, .q => true
  | _, _ => false
def anc (ops : Array Oper) : Nat → List Nat → List Nat
  | 0, l => l
  | n + 1, l => anc ops n ((l.flatMap fun i => match ops[i]? with | some o => (o.after.toList.filter (Region.binds .any)).map (·.on) | none => []).foldl addNew l)
def waits (ops : Array Oper) (j i : Nat) : Bool := match ops[j]? with | some o => o.after.toList.any fun e => Region.binds .any e && e.on == i | none => false
def pairOk (cl : Nat → Cls) (ops : Array Oper) (j i : Nat) : Bool :=
  match ops[i]?, ops[j]? with
  | some p, some o => (waits ops j i || p.apart ops o) && ((kindOf (cl i) p.op).free (kindOf (cl j) o.op) || (anc ops ops.size [j]).contains i)
  | _, _ => false
def drawOk (cl : Nat → Cls) (ops : Array Oper) : Bool :=
  (List.range ops.size).all fun j =>
    (match ops[j]? with
      | some o => (o.after.toList.all fun e => !Region.binds .any e || decide (e.on < j)) && (match o.guard with | some (g, _) => decide (g < j) | none => true)
      | none => false) && (List.range j).all (pairOk cl ops j)
def fuelOf (kp : Option (List Nat × List Nat)) (N : Nat) : Nat := match kp with | some _ => N | none => N + 40
def exec {R : Type} (ty : Ty) (fns : Fns) (an : Ann) (N k : Nat) : Code → St → (X → St → Option R) → Option R
  | .skip, st, K => K .norm st
  | .label _, st, K => K .norm st
  | .region id ops draw, st, K =>
    match draw with
    | true => match drawOk (an.cl id) ops with
      | true => opsK ty fns (an.cl id) ops 0 ops.toList st.t st.h fun t h => K .norm ⟨t, h⟩
      | false => none
    | false => opsK ty fns (fun _ => .plain) ops 0 ops.toList st.t st.h fun t h => K .norm ⟨t, h⟩
  | .seq a b, st, K => exec ty fns an N k a st fun x st => match x with
    | .norm => exec ty fns an N k b st K
    | x => K x st
  | .cond c a b, st, K => match ev st.t c with
    | .bool p => match p with
      | true => exec ty fns an N k a st K
      | false => exec ty fns an N k b st K
    | _ => none
  | .block id b, st, K => exec ty fns an N k b st fun x st => match x with
    | .exit j => match decide (j = id) with
      | true => K .norm st
      | false => K (.exit j) st
    | x => K x st
  | .loop b, st, K => loopK k ((firstRegion b).bind an.keep) (fun st K => exec ty fns an N k b st K) (fuelOf ((firstRegion b).bind an.keep) N) st K
  | .exit id, st, K => K (.exit id) st
  | .ret, st, K => K .ret st
  | _, _, _ => none
def resOf (ty : Ty) (fn : Func) (h : H) (t : List V) : Option V :=
  match fn.results.toList with
  | [.tmp r] => some (nth t r)
  | [.cell b tt] => loadK ty h tt (nth t b) some
  | l => (optMap (fun r => match r with | .tmp r => (match nth t r with | .u x => some x | _ => none) | .cell b tt => (match loadK ty h tt (nth t b) some with | some (.u x) => some x | _ => none)) l).map .tup
def finish (ty : Ty) (fn : Func) (k : Nat) (st : St) : Option (V × H) :=
  match resOf ty fn st.h st.t with
  | none => none
  | some v =>
    match close st.h 3 ((v.ids).foldl addNew (List.range k)) with
    | ids => match v.ren ids with
      | none => none
      | some v' => match subH st.h ids with
        | none => none
        | some h' => some (v', h')
def run (ty : Ty) (fns : Fns) (an : Ann) (N : Nat) (fn : Func) (vs : List V) (h : H) : Option (V × H) :=
  match fn.body with
  | none => none
  | some code => exec ty fns an N h.length code ⟨vs ++ List.replicate (fn.ntmps - vs.length) V.no, h⟩ fun x st => match x with
    | .exit _ => none
    | _ => finish ty fn h.length st
end Go.Proofs.Ytpeplbbphpamhaa.Ab
