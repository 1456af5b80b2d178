/- What the proof names: lemmas and words, merged by a program from its parts. No condition. -/
import GoSem.Dispatch
import Derived.Laws.FloatArith
import Derived.Orders
import Derived.WalkKit
import Derived.WalkLawsBesides
import Derived.ChangeKeysEq
import Derived.Laws.ComplexArith
import Derived.StillTail
namespace Go.Proofs.Ytpjoapgfdjfbdaa.Ab
set_option linter.unusedVariables false
set_option linter.unusedSimpArgs false
open Go
inductive A where
  | bool (b : Bool)
  | int (k : IntKind) (n : Int)
  | fl (k : FloatKind) (b : Nat)
  | cx (k : FloatKind) (x y : Nat)
  | ptr (i o : Nat)
  | sl (i o len : Nat)
  | nil
  | sl0
  | fn (f : FuncId)
  | ro (i n : Nat)
  | dig (v : Nat)
  | big (v : Nat)
  | mp (i : Nat)
inductive U where
  | a (x : A)
  | g (l : List A)
inductive V where
  | any
  | u (x : U)
  | tup (l : List U)
@[match_pattern] abbrev V.a (x : A) : V := .u (.a x)
@[match_pattern] abbrev V.g (l : List A) : V := .u (.g l)
@[match_pattern] abbrev V.bool (b : Bool) : V := .u (.a (.bool b))
@[match_pattern] abbrev V.int (k : IntKind) (n : Int) : V := .u (.a (.int k n))
@[match_pattern] abbrev V.fl (k : FloatKind) (b : Nat) : V := .u (.a (.fl k b))
@[match_pattern] abbrev V.cx (k : FloatKind) (x y : Nat) : V := .u (.a (.cx k x y))
@[match_pattern] abbrev V.ptr (i o : Nat) : V := .u (.a (.ptr i o))
@[match_pattern] abbrev V.sl (i o len : Nat) : V := .u (.a (.sl i o len))
@[match_pattern] abbrev V.ro (i n : Nat) : V := .u (.a (.ro i n))
@[match_pattern] abbrev V.big (v : Nat) : V := .u (.a (.big v))
@[match_pattern] abbrev V.mp (i : Nat) : V := .u (.a (.mp i))
@[match_pattern] abbrev V.nil : V := .u (.a .nil)
@[match_pattern] abbrev V.sl0 : V := .u (.a .sl0)
@[match_pattern] abbrev V.fn (f : FuncId) : V := .u (.a (.fn f))
abbrev V.no : V := .tup []
inductive C where
  | fl (k : FloatKind) (l : List Nat)
  | int (k : IntKind) (l : List Int)
  | bool (l : List Bool)
  | cx (k : FloatKind) (l : List (Nat × Nat))
  | as (e : Nat) (l : List A)
  | mp (l : List ((Int × Int) × Int))
inductive B where
  | gone
  | at (rw : Bool) (c : C)
abbrev H := List B
structure St where
  t : List V
  h : H
inductive X where
  | norm
  | exit (id : Nat)
  | ret
inductive D where
  | other
  | bool
  | int (k : IntKind)
  | fl (k : FloatKind)
  | cx (k : FloatKind)
  | slice (e : TypeId)
  | struct (fs : List (Nat × TypeId))
  | array (n : Nat) (e : TypeId)
structure TyI where
  agg : Bool
  size : Nat
  bytes : Nat
  zero : List A
  d : D
abbrev Ty := TypeId → Option TyI
def rC : FloatKind → Nat
  | .f32 => 2143289344
  | .f64 => 9221120237041090560
def canon (k : FloatKind) (b : Nat) : Nat := if (k.decode b).isNaN then rC k else b
def fop (op : BinOp) (k : FloatKind) (x y : Nat) : Nat := (floatBits op k x y).getD (rC k)
def I5 (k : FloatKind) (x : Nat) : Nat := canon k (Op.negFloat k x)
def fF (s : FloatKind) (b : Nat) (d : FloatKind) : Option Nat :=
  if s = d then some b else if (s.decode b).isNaN then some (rC d) else floatToFloatBits s b d
def aYB (op : BinOp) (k : FloatKind) (x y : Nat) : Option Bool :=
  match op with
  | .eql => some (k.format.order x y == some .eq)
  | .neq => some (k.format.order x y != some .eq)
  | .lss => some (k.format.order x y == some .lt)
  | .leq => some (k.format.order x y == some .lt || k.format.order x y == some .eq)
  | .gtr => some (k.format.order x y == some .gt)
  | .geq => some (k.format.order x y == some .gt || k.format.order x y == some .eq)
  | _ => none
def aiZ (k : FloatKind) (x y : Nat) : Nat :=
  match k.format.order x y with
  | none => rC k
  | some .lt => y
  | some .gt => x
  | some .eq => if (k.decode x).neg then y else x
def aE1 (k : FloatKind) (x y : Nat) : Nat :=
  match k.format.order x y with
  | none => rC k
  | some .lt => x
  | some .gt => y
  | some .eq => if (k.decode x).neg then x else y
def nth : List V → Nat → V
  | [], _ => V.no
  | v :: _, 0 => v
  | _ :: l, n + 1 => nth l n
def setK {R : Type} : List V → Nat → V → (List V → Option R) → Option R
  | [], _, _, K => K []
  | _ :: l, 0, v, K => K (v :: l)
  | x :: l, n + 1, v, K => setK l n v fun l' => K (x :: l')
def aE2 {R : Type} (x : A) (K : A → Option R) : Option R :=
  match x with
  | .bool b => K (.bool b)
  | .int k n => K (.int k n)
  | .fl k b => K (.fl k b)
  | .cx k a b => K (.cx k a b)
  | .ptr i o => K (.ptr i o)
  | .sl i o n => K (.sl i o n)
  | .nil => K .nil
  | .sl0 => K .sl0
  | .fn f => K (.fn f)
  | .ro i n => K (.ro i n)
  | .dig v => K (.dig v)
  | .big v => K (.big v)
  | .mp i => K (.mp i)
def ai0 {R : Type} : List A → (List A → Option R) → Option R
  | [], K => K []
  | x :: l, K => aE2 x fun x => ai0 l fun l => K (x :: l)
def anB {R : Type} (x : U) (K : U → Option R) : Option R :=
  match x with
  | .a x => aE2 x fun x => K (.a x)
  | .g l => ai0 l fun l => K (.g l)
def ai1 {R : Type} : List U → (List U → Option R) → Option R
  | [], K => K []
  | x :: l, K => anB x fun x => ai1 l fun l => K (x :: l)
def aM6 {R : Type} (v : V) (K : V → Option R) : Option R :=
  match v with
  | .any => K .any
  | .u x => anB x fun x => K (.u x)
  | .tup l => ai1 l fun l => K (.tup l)
def anC {R : Type} (t : List V) (d : Option Tmp) (v : V) (K : List V → Option R) : Option R :=
  match d with
  | some d => aM6 v fun v => setK t d v K
  | none => K t
def mask (keep : List Nat) : Nat → List V → List V
  | _, [] => []
  | n, v :: l => (if keep.contains n then v else V.any) :: mask keep (n + 1) l
def aE3 : Value → Option A
  | .bool b => some (.bool b)
  | .int k n => some (.int k n)
  | .float k b => some (.fl k (canon k b))
  | .complex k x y => some (.cx k (canon k x) (canon k y))
  | .slice none 0 0 => some .nil
  | .func (.func f) ⟨[]⟩ ⟨[]⟩ => some (.fn f)
  | _ => none
def nN {α β : Type} (f : α → Option β) : List α → Option (List β)
  | [] => some []
  | x :: l => match f x with
    | some y => match nN f l with | some m => some (y :: m) | none => none
    | none => none
def aUQ : Value → V
  | .agg ⟨cs⟩ => match nN aE3 cs with | some l => .g l | none => V.any
  | v => match aE3 v with | some x => .a x | none => V.any
def ev (t : List V) : Operand → V
  | .tmp n => nth t n
  | .const v => aUQ v
  | .global _ => V.any
  | .func f => .fn f
def C.len : C → Nat
  | .fl _ l => l.length
  | .int _ l => l.length
  | .bool l => l.length
  | .cx _ l => l.length
  | .as _ l => l.length
  | .mp _ => 0
def C.esz : C → Nat
  | .as e _ => e
  | _ => 1
def C.getK {R : Type} (c : C) (i : Nat) (K : A → Option R) : Option R :=
  match c with
  | .fl k l => match l[i]? with | some b => K (.fl k b) | none => none
  | .int k l => match l[i]? with | some n => K (.int k n) | none => none
  | .bool l => match l[i]? with | some b => K (.bool b) | none => none
  | .cx k l => match l[i]? with | some (x, y) => K (.cx k x y) | none => none
  | .as _ l => match l[i]? with | some x => K x | none => none
  | .mp _ => none
def C.getNK {R : Type} (c : C) : Nat → Nat → (List A → Option R) → Option R
  | _, 0, K => K []
  | i, n + 1, K => c.getK i fun x => c.getNK (i + 1) n fun l => K (x :: l)
def C.setK {R : Type} (c : C) (i : Nat) (x : A) (K : C → Option R) : Option R :=
  match decide (i < c.len) with
  | false => none
  | true =>
    match c, x with
    | .fl k l, .fl k' b => if k = k' then K (.fl k (l.set i b)) else none
    | .int k l, .int k' n => if k = k' then K (.int k (l.set i n)) else none
    | .bool l, .bool b => K (.bool (l.set i b))
    | .cx k l, .cx k' a b => if k = k' then K (.cx k (l.set i (a, b))) else none
    | .as e l, x => K (.as e (l.set i x))
    | _, _ => none
def C.setNK {R : Type} (c : C) (i : Nat) : List A → (C → Option R) → Option R
  | [], K => K c
  | x :: l, K => c.setK i x fun c' => c'.setNK (i + 1) l K
def C.part (c : C) (o n : Nat) : C :=
  match c with
  | .fl k l => .fl k ((l.drop o).take n)
  | .int k l => .int k ((l.drop o).take n)
  | .bool l => .bool ((l.drop o).take n)
  | .cx k l => .cx k ((l.drop o).take n)
  | .as e l => .as e ((l.drop o).take n)
  | .mp l => .mp l
def C.app (c d : C) : Option C :=
  match c, d with
  | .fl k l, .fl k' m => if k = k' then some (.fl k (l ++ m)) else none
  | .int k l, .int k' m => if k = k' then some (.int k (l ++ m)) else none
  | .bool l, .bool m => some (.bool (l ++ m))
  | .cx k l, .cx k' m => if k = k' then some (.cx k (l ++ m)) else none
  | .as e l, .as e' m => if e = e' then some (.as e (l ++ m)) else none
  | _, _ => none
def awL (k : FloatKind) : List A → Option (List Nat)
  | [] => some []
  | .fl k' b :: l => if k = k' then (awL k l).map (b :: ·) else none
  | _ => none
def intsOf (k : IntKind) : List A → Option (List Int)
  | [] => some []
  | .int k' n :: l => if k = k' then (intsOf k l).map (n :: ·) else none
  | _ => none
def ab3 : List A → Option (List Bool)
  | [] => some []
  | .bool b :: l => (ab3 l).map (b :: ·)
  | _ => none
def awM (k : FloatKind) : List A → Option (List (Nat × Nat))
  | [] => some []
  | .cx k' a b :: l => if k = k' then (awM k l).map ((a, b) :: ·) else none
  | _ => none
def mkC (zero : List A) (l : List A) : Option C :=
  match zero with
  | [.fl k _] => (awL k l).map (.fl k)
  | [.int k _] => (intsOf k l).map (.int k)
  | [.bool _] => (ab3 l).map .bool
  | [.cx k _ _] => (awM k l).map (.cx k)
  | _ => some (.as zero.length l)
def zeros (zero : List A) (n : Nat) : Option C :=
  match zero with
  | [.fl k b] => some (.fl k (List.replicate n b))
  | [.int k m] => some (.int k (List.replicate n m))
  | [.bool b] => some (.bool (List.replicate n b))
  | [.cx k a b] => some (.cx k (List.replicate n (a, b)))
  | [x] => some (.as 1 (List.replicate n x))
  | _ => some (.as zero.length (List.replicate n zero).flatten)
def agR {R : Type} (h : H) (i : Nat) (K : Bool → C → Option R) : Option R :=
  match h[i]? with
  | some (.at rw c) => K rw c
  | _ => none
def OG (place : Nat → Option (Nat × Nat)) (cells : List A) : List (Nat × V) → Option (List A)
  | [] => some cells
  | (i, v) :: rest =>
    match place i, v with
    | some (off, 1), .a x => if off < cells.length then OG place (cells.set off x) rest else none
    | some (off, n), .g l => if l.length = n ∧ off + n ≤ cells.length then OG place (cells.take off ++ l ++ cells.drop (off + n)) rest else none
    | _, _ => none
def aE4 {R : Type} (op : BinOp) (k : IntKind) (x y : Int) (K : V → Option R) : Option R :=
  match op with
  | .add => K (.int k (k.wrap (x + y)))
  | .sub => K (.int k (k.wrap (x - y)))
  | .mul => K (.int k (k.wrap (x * y)))
  | .quo => match decide (y = 0) with | true => none | false => K (.int k (k.wrap (x.tdiv y)))
  | .rem => match decide (y = 0) with | true => none | false => K (.int k (x.tmod y))
  | .and => K (.int k (k.wrap (BitVec.ofInt k.bits x &&& BitVec.ofInt k.bits y).toNat))
  | .or => K (.int k (k.wrap (BitVec.ofInt k.bits x ||| BitVec.ofInt k.bits y).toNat))
  | .xor => K (.int k (k.wrap (BitVec.ofInt k.bits x ^^^ BitVec.ofInt k.bits y).toNat))
  | .andNot => K (.int k (k.wrap (BitVec.ofInt k.bits x &&& ~~~ BitVec.ofInt k.bits y).toNat))
  | .eql => K (.bool (x == y))
  | .neq => K (.bool (x != y))
  | .lss => K (.bool (decide (x < y)))
  | .leq => K (.bool (decide (x ≤ y)))
  | .gtr => K (.bool (decide (x > y)))
  | .geq => K (.bool (decide (x ≥ y)))
  | _ => none
def ai2 {R : Type} (op : BinOp) (k : IntKind) (x y : Int) (K : V → Option R) : Option R :=
  match decide (y < 0) with
  | true => none
  | false => match op with
    | .shl => K (.int k (k.wrap (x * 2 ^ (min y.toNat k.bits))))
    | .shr => K (.int k (x.fdiv (2 ^ (min y.toNat k.bits))))
    | _ => none
def QQ : BinOp → Bool
  | .add | .sub | .mul | .quo => true
  | _ => false
def aE5 {R : Type} (ty : Ty) (op : BinOp) (t : TypeId) (b : Bool) (K : V → Option R) : Option R :=
  match ty t with
  | some ⟨_, _, _, _, .slice _⟩ =>
    match op with
    | .eql => K (.bool b)
    | .neq => K (.bool !b)
    | _ => none
  | _ => none
def aUR {R : Type} (ty : Ty) (op : BinOp) (t : TypeId) (x y : V) (K : V → Option R) : Option R :=
  match x, y with
  | .int k a, .int k' b =>
    match op with
    | .shl => ai2 .shl k a b K
    | .shr => ai2 .shr k a b K
    | _ => if k = k' then aE4 op k a b K else none
  | .fl k a, .fl k' b =>
    if k = k' then
      match QQ op with
      | true => K (.fl k (fop op k a b))
      | false => match aYB op k a b with | some r => K (.bool r) | none => none
    else none
  | .cx k a b, .cx k' c d =>
    if k = k' then
      match op with
      | .add => K (.cx k (fop .add k a c) (fop .add k b d))
      | .sub => K (.cx k (fop .sub k a c) (fop .sub k b d))
      | .eql => K (.bool ((k.format.order a c == some .eq) && (k.format.order b d == some .eq)))
      | .neq => K (.bool !((k.format.order a c == some .eq) && (k.format.order b d == some .eq)))
      | _ => none
    else none
  | .bool a, .bool b =>
    match ty t with
    | some ⟨_, _, _, _, .bool⟩ =>
      match op with
      | .eql => K (.bool (a == b))
      | .neq => K (.bool !(a == b))
      | _ => none
    | _ => none
  | .sl _ _ _, .nil => aE5 ty op t false K
  | .sl0, .nil => aE5 ty op t false K
  | .nil, .nil => aE5 ty op t true K
  | _, _ => none
def unK {R : Type} (op : UnOp) (x : V) (K : V → Option R) : Option R :=
  match op, x with
  | .not, .bool b => K (.bool !b)
  | .neg, .int k n => K (.int k (k.wrap (0 - n)))
  | .neg, .fl k b => K (.fl k (I5 k b))
  | .neg, .cx k a b => K (.cx k (I5 k a) (I5 k b))
  | .xor, .int k n => aE4 .xor k (if k.signed then -1 else k.max) n K
  | _, _ => none
def aE6 {R : Type} (ty : Ty) (s d : TypeId) (x : V) (K : V → Option R) : Option R :=
  match ty s, ty d, x with
  | some _, some ⟨_, _, _, _, .int k⟩, .int _ n => K (.int k (k.wrap n))
  | some _, some ⟨_, _, _, _, .int k⟩, .fl q b => match floatToIntVal q b k with | some n => K (.int k n) | none => none
  | some _, some ⟨_, _, _, _, .fl k⟩, .int _ n => K (.fl k (floatOfInt k n))
  | some _, some ⟨_, _, _, _, .fl k⟩, .fl q b => match fF q b k with | some r => K (.fl k r) | none => none
  | some _, some ⟨_, _, _, _, .cx k⟩, .cx q a b =>
    match fF q a k with
    | some r => match fF q b k with | some s => K (.cx k r s) | none => none
    | none => none
  | _, _, _ => none
def ab4 (ty : Ty) (t : TypeId) (f : Nat) : Option (Nat × TyI) :=
  match ty t with
  | some ⟨_, _, _, _, .struct fs⟩ => match fs[f]? with | some (o, e) => (ty e).map (o, ·) | none => none
  | _ => none
def awN {R : Type} (I : TyI) (l : List A) (o : Nat) (K : V → Option R) : Option R :=
  match I.agg with
  | true => K (.g ((l.drop o).take I.size))
  | false => match l[o]? with | some x => K (.a x) | none => none
def ac5 {R : Type} (ty : Ty) (t : TypeId) (x i : V) (K : V → Option R) : Option R :=
  match ty t, x, i with
  | some ⟨_, _, _, _, .slice e⟩, .sl b o len, .int _ n =>
    match ty e with
    | some I => match decide (0 ≤ n ∧ n < len) with | true => K (.ptr b (o + n.toNat * I.size)) | false => none
    | none => none
  | some ⟨_, _, _, _, .array len e⟩, .ptr b o, .int _ n =>
    match ty e with
    | some I => match decide (0 ≤ n ∧ n < len) with | true => K (.ptr b (o + n.toNat * I.size)) | false => none
    | none => none
  | some ⟨_, _, _, _, .slice e⟩, .ro b len, .int _ n =>
    match ty e with
    | some I => match decide (0 ≤ n ∧ n < len) with | true => K (.ptr b (0 + n.toNat * I.size)) | false => none
    | none => none
  | _, _, _ => none
def aUS {R : Type} (ty : Ty) (t : TypeId) (x i : V) (K : V → Option R) : Option R :=
  match ty t, x, i with
  | some ⟨_, _, _, _, .array len e⟩, .g l, .int _ n =>
    match ty e with
    | some I => match decide (0 ≤ n ∧ n < len) with | true => awN I l (n.toNat * I.size) K | false => none
    | none => none
  | _, _, _ => none
def ZX {R : Type} (ty : Ty) (h : H) (t : TypeId) (x : V) (K : V → Option R) : Option R :=
  match ty t, x with
  | some I, .ptr i o =>
    agR h i fun _ c =>
      match I.agg with
      | true => c.getNK o I.size fun l => K (.g l)
      | false => c.getK o fun a => K (.a a)
  | _, _ => none
def awO : Nat → Nat → Nat
  | 0, _ => 0
  | k + 1, v => if v = 0 then 0 else awO k (v / 4294967296) + 1
def aYC (v : Nat) : Nat := awO v v
def aUT {R : Type} (ty : Ty) (t : TypeId) (x : V) (K : V → Option R) : Option R :=
  match ty t, x with
  | some ⟨_, _, _, _, .slice _⟩, .sl _ _ n => K (.int .i64 n)
  | some ⟨_, _, _, _, .slice _⟩, .ro _ n => K (.int .i64 n)
  | some ⟨_, _, _, _, .slice _⟩, .big v => K (.int .i64 (aYC v))
  | some ⟨_, _, _, _, .slice _⟩, .nil => K (.int .i64 0)
  | some ⟨_, _, _, _, .slice _⟩, .sl0 => K (.int .i64 0)
  | _, _ => none
def arD {R : Type} (ty : Ty) (t : TypeId) (x : V) (lo hi mx : Option V) (K : V → Option R) : Option R :=
  match ty t, x, mx with
  | some ⟨_, _, _, _, .slice e⟩, .sl b o len, none =>
    match ty e, lo.getD (.int .i64 0), hi.getD (.int .i64 len) with
    | some I, .int _ l, .int _ m =>
      match decide (0 ≤ l ∧ l ≤ m ∧ m ≤ len) with
      | true => K (.sl b (o + l.toNat * I.size) (m - l).toNat)
      | false => none
    | _, _, _ => none
  | some ⟨_, _, _, _, .slice e⟩, .ro b len, none =>
    match ty e, lo, hi with
    | some _, none, some (.int _ m) =>
      match decide (0 ≤ m ∧ m ≤ len) with
      | true => K (.ro b m.toNat)
      | false => none
    | _, _, _ => none
  | some ⟨_, _, _, _, .slice e⟩, .sl _ _ _, some (.int _ m) =>
    match ty e, hi, lo with
    | some _, some (.int _ q), none => match decide (m = 0 ∧ q = 0) with | true => K .sl0 | false => none
    | _, _, _ => none
  | some ⟨_, _, _, _, .slice e⟩, .nil, some (.int _ m) =>
    match ty e, hi, lo with
    | some _, some (.int _ q), none => match decide (m = 0 ∧ q = 0) with | true => K .nil | false => none
    | _, _, _ => none
  | _, _, _ => none
def ai3 {R : Type} (mx : Bool) (x y : V) (K : V → Option R) : Option R :=
  match x, y with
  | .int k a, .int k' b => if k = k' then K (.int k (match mx with | true => if b > a then b else a | false => if b < a then b else a)) else none
  | .fl k a, .fl k' b => if k = k' then K (.fl k (match mx with | true => aiZ k a b | false => aE1 k a b)) else none
  | _, _ => none
def QR {R : Type} (mx : Bool) (x : V) : List V → (V → Option R) → Option R
  | [], K => K x
  | y :: l, K => ai3 mx x y fun z => QR mx z l K
def placeOf (ty : Ty) (fs : List (Nat × TypeId)) (i : Nat) : Option (Nat × Nat) :=
  match fs[i]? with
  | some (o, e) => match ty e with | some I => some (o, I.size) | none => none
  | none => none
def uB {R : Type} (ty : Ty) (t : List V) (h : H) (op : Op) (K : V → Option R) : Option R :=
  match op with
  | .move x => K (ev t x)
  | .assign x => K (ev t x)
  | .pick c a b => match ev t c with
    | .bool p => match p with
      | true => K (ev t a)
      | false => K (ev t b)
    | _ => none
  | .binOp op xt x y _ => aUR ty op xt (ev t x) (ev t y) K
  | .unOp op _ x => unK op (ev t x) K
  | .convert s d x => aE6 ty s d (ev t x) K
  | .extract x i => match ev t x with
    | .tup l => match l[i]? with | some u => K (.u u) | none => none
    | _ => none
  | .field xt x f => match ev t x, ab4 ty xt f with
    | .g l, some (o, I) => awN I l o K
    | _, _ => none
  | .index xt x i => aUS ty xt (ev t x) (ev t i) K
  | .fieldAddr s x f => match ev t x, ab4 ty s f with
    | .ptr i o, some (p, I) => match decide (I.size = 0) with | true => none | false => K (.ptr i (o + p))
    | _, _ => none
  | .indexAddr xt x i => ac5 ty xt (ev t x) (ev t i) K
  | .load lt x => ZX ty h lt (ev t x) K
  | .nilCheck x => match ev t x with
    | .ptr i o => K (.ptr i o)
    | _ => none
  | .slice xt x lo hi mx => arD ty xt (ev t x) (lo.map (ev t)) (hi.map (ev t)) (mx.map (ev t)) K
  | .build bt parts =>
    match ty bt with
    | some ⟨_, _, _, zero, .struct fs⟩ =>
      match fs.all (fun p => (ty p.2).isSome) with
      | false => none
      | true =>
      match OG (placeOf ty fs) zero (parts.toList.map fun p => (p.1, ev t p.2)) with
      | some l => K (.g l)
      | none => none
    | some ⟨_, _, _, zero, .array _ e⟩ =>
      match ty e with
      | some I => match OG (fun i => some (i * I.size, I.size)) zero (parts.toList.map fun p => (p.1, ev t p.2)) with
        | some l => K (.g l)
        | none => none
      | none => none
    | _ => none
  | .makeFunc (.func f) ⟨[]⟩ ⟨[]⟩ => K (.fn f)
  | .call ⟨.builtin .len, ⟨[x]⟩, ⟨lt :: _⟩⟩ => aUT ty lt (ev t x) K
  | .call ⟨.builtin .max, ⟨x :: xs⟩, _⟩ => QR true (ev t x) (xs.map (ev t)) K
  | .call ⟨.builtin .min, ⟨x :: xs⟩, _⟩ => QR false (ev t x) (xs.map (ev t)) K
  | .call ⟨.builtin .complex, ⟨[x, y]⟩, _⟩ => match ev t x, ev t y with
    | .fl k a, .fl k' b => if k = k' then K (.cx k a b) else none
    | _, _ => none
  | .call ⟨.builtin .real, ⟨[x]⟩, _⟩ => match ev t x with | .cx k a _ => K (.fl k a) | _ => none
  | .call ⟨.builtin .imag, ⟨[x]⟩, _⟩ => match ev t x with | .cx k _ b => K (.fl k b) | _ => none
  | _ => none
def A.ids : A → List Nat
  | .ptr i _ => [i]
  | .sl i _ _ => [i]
  | .ro i _ => [i]
  | .mp i => [i]
  | _ => []
def U.ids : U → List Nat
  | .a x => x.ids
  | .g l => l.flatMap A.ids
def V.ids : V → List Nat
  | .any => []
  | .u x => x.ids
  | .tup l => l.flatMap U.ids
def B.ids : B → List Nat
  | .at _ (.as _ l) => l.flatMap A.ids
  | _ => []
def o9 (acc : List Nat) (i : Nat) : List Nat := if acc.contains i then acc else acc ++ [i]
def aE7 (h : H) (i : Nat) : List Nat := match h[i]? with | some b => b.ids | none => []
def close (h : H) : Nat → List Nat → List Nat
  | 0, ids => ids
  | n + 1, ids => close h n ((ids.flatMap (aE7 h)).foldl o9 ids)
def A.ren (ids : List Nat) : A → Option A
  | .ptr i o => (ids.idxOf? i).map (.ptr · o)
  | .sl i o n => (ids.idxOf? i).map (.sl · o n)
  | .ro i n => (ids.idxOf? i).map (.ro · n)
  | .mp i => (ids.idxOf? i).map .mp
  | x => some x
def U.ren (ids : List Nat) : U → Option U
  | .a x => (x.ren ids).map .a
  | .g l => (nN (A.ren ids) l).map .g
def V.ren (ids : List Nat) : V → Option V
  | .any => some .any
  | .u x => (x.ren ids).map .u
  | .tup l => (nN (U.ren ids) l).map .tup
def B.ren (ids : List Nat) : B → Option B
  | .gone => some .gone
  | .at rw (.as e l) => (nN (A.ren ids) l).map fun m => .at rw (.as e m)
  | .at rw c => some (.at rw c)
def anD (h : H) (ids : List Nat) (i : Nat) : Option B := match h[i]? with | some b => b.ren ids | none => none
def anE (h : H) (ids : List Nat) : Option H := nN (anD h ids) ids
def back (ids : List Nat) (base : Nat) (j : Nat) : Nat := match ids[j]? with | some i => i | none => base + (j - ids.length)
def A.up (f : Nat → Nat) : A → A
  | .ptr i o => .ptr (f i) o
  | .sl i o n => .sl (f i) o n
  | .ro i n => .ro (f i) n
  | .mp i => .mp (f i)
  | x => x
def U.up (f : Nat → Nat) : U → U
  | .a x => .a (x.up f)
  | .g l => .g (l.map (A.up f))
def V.up (f : Nat → Nat) : V → V
  | .any => .any
  | .u x => .u (x.up f)
  | .tup l => .tup (l.map (U.up f))
def B.up (f : Nat → Nat) : B → B
  | .at rw (.as e l) => .at rw (.as e (l.map (A.up f)))
  | b => b
def oG (f : Nat → Nat) : H → List Nat → H → H
  | h, [], new => h ++ new.map (B.up f)
  | h, i :: ids, b :: new => oG f (h.set i (b.up f)) ids new
  | h, _ :: _, [] => h
inductive T where
  | no
  | ret (v : V) (h : H)
  | ite (b : Bool) (x y : T)
def T.k {R : Type} : T → (V → H → Option R) → Option R
  | .no, _ => none
  | .ret v h, K => K v h
  | .ite b x y, K => match b with
    | true => x.k K
    | false => y.k K
def T.of : Option (V × H) → T
  | some (v, h) => .ret v h
  | none => .no
abbrev T.run (t : T) : Option (V × H) := t.k fun v h => some (v, h)
theorem T.k_run {R : Type} (K : V → H → Option R) : ∀ t : T, t.k K = match t.run with | some (v, h) => K v h | none => none
  | .no => rfl
  | .ret _ _ => rfl
  | .ite b x y => by cases b with
    | true => exact T.k_run K x
    | false => exact T.k_run K y
theorem T.run_of (o : Option (V × H)) : (T.of o).run = o := by cases o <;> rfl
abbrev Fns := FuncId → List V → H → T
def B.still : B → B
  | .at _ c => .at false c
  | b => b
def A.flat : A → Bool
  | .bool _ | .int _ _ | .fl _ _ | .cx _ _ _ => true
  | _ => false
def U.flat : U → Bool
  | .a x => x.flat
  | .g l => l.all A.flat
def V.flat : V → Bool
  | .any => false
  | .u x => x.flat
  | .tup l => l.all U.flat
def anF {R : Type} (fns : Fns) (f : FuncId) (vs : List V) (h : H) (K : V → H → Option R) : Option R :=
  match close h 3 ((vs.flatMap V.ids).foldl o9 []) with
  | ids =>
    match nN (V.ren ids) vs with
    | none => none
    | some ws =>
      match anE h ids with
      | none => none
      | some g =>
        (fns f ws g).k fun v g' => K (v.up (back ids h.length)) (oG (back ids h.length) h ids g')
def aE8 {R : Type} (fns : Fns) (f : FuncId) (vs : List V) (h : H) (K : V → Option R) : Option R :=
  anF fns f vs (h.map B.still) fun v _ => match v.flat with | true => K v | false => none
def aE9 {R : Type} (fns : Fns) (f : FuncId) (vs : List V) (h : H) (K : V → H → Option R) : Option R :=
  anF fns f vs (h.map B.still) fun v h' => K v (h ++ h'.drop h.length)
inductive Cls where
  | plain
  | quiet
  | grow
def aM7 {R : Type} (h : H) (c : C) (K : Nat → H → Option R) : Option R := K h.length (h ++ [.at true c])
def aM8 (l : List A) : C :=
  match decide (8 ≤ l.length), l with
  | true, .int k n :: r => match intsOf k (.int k n :: r) with
    | some m => .int k m
    | none => .as 1 (.int k n :: r)
  | _, l => .as 1 l
def xY (n b : Nat) : Bool := decide (n ≤ 9223372036854775807 ∧ n * b ≤ 140737488355328)
def aYD {R : Type} (h : H) (sz : Nat) (x : V) (K : Nat → Option C → Option R) : Option R :=
  match x with
  | .sl j o m => agR h j fun _ c => match decide (o + m * sz ≤ c.len) with
    | true => K m (some (c.part o (m * sz)))
    | false => none
  | .nil => K 0 none
  | .sl0 => K 0 none
  | _ => none
def ai4 {R : Type} (ty : Ty) (h : H) (st xt : TypeId) (s x : V) (K : V → H → Option R) : Option R :=
  if st = xt then
  match ty st with
  | some ⟨_, _, _, _, .slice e⟩ =>
    match ty e with
    | some I =>
      match decide (0 < I.size ∧ I.zero.length = I.size) with
      | false => none
      | true =>
      aYD h I.size x fun m d =>
        match s, d with
        | .sl i 0 n, none => K (.sl i 0 n) h
        | .nil, none => K .nil h
        | .sl0, none => K .sl0 h
        | .sl i 0 n, some d =>
          agR h i fun rw c =>
            match rw && decide (n * I.size = c.len ∧ c.esz = I.size) && xY (n + m) I.bytes with
            | false => none
            | true => match x with
              | .sl j _ _ => match decide (j = i) with
                | true => none
                | false => match c.app d with
                  | some c' => K (.sl h.length 0 (n + m)) ((h.set i .gone) ++ [.at true c'])
                  | none => none
              | _ => none
        | .nil, some d => match xY m I.bytes && decide (d.esz = I.size) with
          | true => match decide (m = 0) with | true => K .nil h | false => K (.sl h.length 0 m) (h ++ [.at true d])
          | false => none
        | .sl0, some d => match xY m I.bytes && decide (d.esz = I.size) with
          | true => match decide (m = 0) with | true => K .sl0 h | false => K (.sl h.length 0 m) (h ++ [.at true d])
          | false => none
        | _, _ => none
    | none => none
  | _ => none
  else none
def arE {R : Type} (ty : Ty) (h : H) (t : TypeId) (x v : V) (K : H → Option R) : Option R :=
  match ty t, x with
  | some I, .ptr i o =>
    agR h i fun rw c =>
      match rw with
      | false => none
      | true =>
        match v with
        | .a y => if I.size = 1 then c.setK o y fun c' => K (h.set i (.at true c')) else none
        | .g l => if I.size = l.length then c.setNK o l fun c' => K (h.set i (.at true c')) else none
        | _ => none
  | _, _ => none
def ac6 : V → Option (List A)
  | .a x => some [x]
  | .g l => some l
  | _ => none
def ZY {R : Type} (ty : Ty) (fns : Fns) (cls : Cls) (t : List V) (h : H) (op : Op) (K : V → H → Option R) : Option R :=
  match op with
  | .alloc e => match ty e with
    | some I => aM7 h (.as 1 I.zero) fun i h' => K (.ptr i 0) h'
    | none => none
  | .box e x => match ty e, ac6 (ev t x) with
    | some I, some l => if l.length = I.size then aM7 h (aM8 l) fun i h' => K (.ptr i 0) h' else none
    | _, _ => none
  | .buildSlice bt len parts =>
    match ty bt with
    | some ⟨_, _, _, _, .slice e⟩ =>
      match ty e with
      | some I =>
        match decide (len * I.size ≤ 16777216 ∧ 0 < I.size ∧ I.zero.length = I.size) with
        | false => none
        | true =>
        match OG (fun i => some (i * I.size, I.size)) (List.replicate len I.zero).flatten (parts.toList.map fun p => (p.1, ev t p.2)) with
        | some l => match mkC I.zero l with
          | some c => aM7 h c fun i h' => K (.sl i 0 len) h'
          | none => none
        | none => none
      | none => none
    | _ => none
  | .makeSlice mt x y =>
    match ty mt, ev t x, ev t y with
    | some ⟨_, _, _, _, .slice e⟩, .int _ n, .int _ m =>
      match ty e with
      | some I =>
        match decide (0 ≤ n ∧ n ≤ m ∧ m ≤ 9223372036854775807 ∧ m.toNat * I.bytes ≤ 140737488355328 ∧ 0 < I.size ∧ I.zero.length = I.size) with
        | true => match zeros I.zero n.toNat with
          | some c => aM7 h c fun i h' => K (.sl i 0 n.toNat) h'
          | none => none
        | false => none
      | none => none
    | _, _, _ => none
  | .store st x v => arE ty h st (ev t x) (ev t v) fun h' => K V.no h'
  | .call ⟨.builtin .append, ⟨[s, x]⟩, ⟨[st, xt]⟩⟩ => ai4 ty h st xt (ev t s) (ev t x) K
  | .call ⟨.value f, args, _⟩ =>
    match ev t f with
    | .fn f => match cls with
      | .quiet => aE8 fns f (args.toList.map (ev t)) h fun v => K v h
      | .grow => aE9 fns f (args.toList.map (ev t)) h K
      | .plain => anF fns f (args.toList.map (ev t)) h K
    | _ => none
  | op => uB ty t h op fun v => K v h
def xZ (ops : Array Oper) (j : Nat) : Option Tmp := (ops[j]?).bind (·.dst)
def abU {R : Type} (ty : Ty) (fns : Fns) (cl : Nat → Cls) (ops : Array Oper) : Nat → List Oper → List V → H → (List V → H → Option R) → Option R
  | _, [], t, h, K => K t h
  | n, o :: rest, t, h, K =>
    match o.guard with
    | none => ZY ty fns (cl n) t h o.op fun v h' => anC t o.dst v fun t' => abU ty fns cl ops (n + 1) rest t' h' K
    | some (j, want) =>
      match xZ ops j with
      | none => none
      | some d =>
        match nth t d with
        | .bool p => match p with
          | true => match want with
            | true => setK t d (.bool true) fun t => ZY ty fns (cl n) t h o.op fun v h' => anC t o.dst v fun t' => abU ty fns cl ops (n + 1) rest t' h' K
            | false => setK t d (.bool true) fun t => anC t o.dst V.no fun t' => abU ty fns cl ops (n + 1) rest t' h K
          | false => match want with
            | false => setK t d (.bool false) fun t => ZY ty fns (cl n) t h o.op fun v h' => anC t o.dst v fun t' => abU ty fns cl ops (n + 1) rest t' h' K
            | true => setK t d (.bool false) fun t => anC t o.dst V.no fun t' => abU ty fns cl ops (n + 1) rest t' h K
        | .tup [] => anC t o.dst V.no fun t' => abU ty fns cl ops (n + 1) rest t' h K
        | _ => none
structure Ann where
  keep : Nat → Option (List Nat × List Nat)
  cl : Nat → Nat → Cls
def nU : Code → Option Nat
  | .region id _ _ => some id
  | .seq a b => match nU a with | some i => some i | none => nU b
  | .block _ b => nU b
  | .loop b => nU b
  | .scope b => nU b
  | .cond _ a _ => nU a
  | _ => none
def anG {R : Type} (k : Nat) (keep : Option (List Nat)) (st : St) (K : St → Option R) : Option R :=
  match keep with
  | none => K st
  | some l =>
    match mask l 0 st.t with
    | t =>
      match close st.h 3 ((t.flatMap V.ids).foldl o9 (List.range k)) with
      | ids =>
        match nN (V.ren ids) t with
        | none => none
        | some t' => match anE st.h ids with
          | none => none
          | some h' => K ⟨t', h'⟩
def pO {R : Type} (k : Nat) (kp : Option (List Nat × List Nat)) (body : St → (X → St → Option R) → Option R) : Nat → St → (X → St → Option R) → Option R
  | 0, _, _ => none
  | n + 1, st, K => body st fun x st =>
    match x with
    | .norm => anG k (kp.map (·.1)) st fun st => pO k kp body n st K
    | x => anG k (kp.map (·.2)) st fun st => K x st
def awP {R : Type} (k : Nat) (kp : Option (List Nat × List Nat)) (body : St → (X → St → Option R) → Option R) (N : Nat) (st : St) (K : X → St → Option R) : Option R :=
  anG k (kp.map (·.1)) st fun st => pO k kp body N st K
inductive Kd where
  | s
  | q
  | n
  | g
  | l
def kindOf (cl : Cls) (op : Op) : Kd :=
  match op with
  | .alloc _ | .box _ _ | .buildSlice _ _ _ | .makeSlice _ _ _ => .g
  | .call ⟨.builtin b, _, _⟩ => match b with | .len | .max | .min | .complex | .real | .imag => .q | _ => .l
  | .call ⟨.value _, _, _⟩ => match cl with | .quiet => .n | .grow => .g | .plain => .l
  | .move _ | .extract _ _ => .s
  | .assign _ | .pick _ _ _ | .binOp _ _ _ _ _ | .unOp _ _ _ | .convert _ _ _ | .field _ _ _ | .index _ _ _ | .fieldAddr _ _ _
  | .indexAddr _ _ _ | .load _ _ | .nilCheck _ | .slice _ _ _ _ _ | .build _ _ | .makeFunc _ _ _ => .q
  | _ => .l
def Kd.free : Kd → Kd → Bool
  | .s, _ | _, .s | .q, .q | .q, .n | .n, .q | .n, .n | .q, .g | .g, .q => true
  | _, _ => false
def anc (ops : Array Oper) : Nat → List Nat → List Nat
  | 0, l => l
  | n + 1, l => anc ops n ((l.flatMap fun i => match ops[i]? with | some o => (o.after.toList.filter (Region.binds .any)).map (·.on) | none => []).foldl o9 l)
def waits (ops : Array Oper) (j i : Nat) : Bool := match ops[j]? with | some o => o.after.toList.any fun e => Region.binds .any e && e.on == i | none => false
def arF (cl : Nat → Cls) (ops : Array Oper) (j i : Nat) : Bool :=
  match ops[i]?, ops[j]? with
  | some p, some o => (waits ops j i || p.apart ops o) && ((kindOf (cl i) p.op).free (kindOf (cl j) o.op) || (anc ops ops.size [j]).contains i)
  | _, _ => false
def ai5 (cl : Nat → Cls) (ops : Array Oper) : Bool :=
  (List.range ops.size).all fun j =>
    (match ops[j]? with
      | some o => (o.after.toList.all fun e => !Region.binds .any e || decide (e.on < j)) && (match o.guard with | some (g, _) => decide (g < j) | none => true)
      | none => false) && (List.range j).all (arF cl ops j)
def aUU (kp : Option (List Nat × List Nat)) (N : Nat) : Nat := match kp with | some _ => N | none => N + 40
def exec {R : Type} (ty : Ty) (fns : Fns) (an : Ann) (N k : Nat) : Code → St → (X → St → Option R) → Option R
  | .skip, st, K => K .norm st
  | .label _, st, K => K .norm st
  | .region id ops draw, st, K =>
    match draw with
    | true => match ai5 (an.cl id) ops with
      | true => abU ty fns (an.cl id) ops 0 ops.toList st.t st.h fun t h => K .norm ⟨t, h⟩
      | false => none
    | false => abU ty fns (fun _ => .plain) ops 0 ops.toList st.t st.h fun t h => K .norm ⟨t, h⟩
  | .seq a b, st, K => exec ty fns an N k a st fun x st => match x with
    | .norm => exec ty fns an N k b st K
    | x => K x st
  | .cond c a b, st, K => match ev st.t c with
    | .bool p => match p with
      | true => exec ty fns an N k a st K
      | false => exec ty fns an N k b st K
    | _ => none
  | .block id b, st, K => exec ty fns an N k b st fun x st => match x with
    | .exit j => match decide (j = id) with
      | true => K .norm st
      | false => K (.exit j) st
    | x => K x st
  | .loop b, st, K => awP k ((nU b).bind an.keep) (fun st K => exec ty fns an N k b st K) (aUU ((nU b).bind an.keep) N) st K
  | .exit id, st, K => K (.exit id) st
  | .ret, st, K => K .ret st
  | _, _, _ => none
def aT8 (ty : Ty) (fn : Func) (h : H) (t : List V) : Option V :=
  match fn.results.toList with
  | [.tmp r] => some (nth t r)
  | [.cell b tt] => ZX ty h tt (nth t b) some
  | l => (nN (fun r => match r with | .tmp r => (match nth t r with | .u x => some x | _ => none) | .cell b tt => (match ZX ty h tt (nth t b) some with | some (.u x) => some x | _ => none)) l).map .tup
def finish (ty : Ty) (fn : Func) (k : Nat) (st : St) : Option (V × H) :=
  match aT8 ty fn st.h st.t with
  | none => none
  | some v =>
    match close st.h 3 ((v.ids).foldl o9 (List.range k)) with
    | ids => match v.ren ids with
      | none => none
      | some v' => match anE st.h ids with
        | none => none
        | some h' => some (v', h')
def run (ty : Ty) (fns : Fns) (an : Ann) (N : Nat) (fn : Func) (vs : List V) (h : H) : Option (V × H) :=
  match fn.body with
  | none => none
  | some code => exec ty fns an N h.length code ⟨vs ++ List.replicate (fn.ntmps - vs.length) V.no, h⟩ fun x st => match x with
    | .exit _ => none
    | _ => finish ty fn h.length st
structure M where
  blk : Nat
  off : Nat
  own : Bool
  size : Nat
  esz : Nat
  el : TypeId
structure Mu where
  z : Nat → Option (Array Value)
  l : List M
abbrev Mu.app (μ : Mu) (ν : List M) : Mu := ⟨μ.z, μ.l ++ ν⟩
def noZ : Nat → Option (Array Value) := fun _ => none
def Zle (z z' : Nat → Option (Array Value)) : Prop := ∀ k c, z k = some c → z' k = some c
theorem Zle.refl (z : Nat → Option (Array Value)) : Zle z z := fun _ _ h => h
theorem Zle.trans {a b c : Nat → Option (Array Value)} (h : Zle a b) (k : Zle b c) : Zle a c := fun i x e => k i x (h i x e)
def nv : List Int → Nat
  | [] => 0
  | d :: l => d.toNat + 4294967296 * nv l
def okD (D : List Int) : Prop := ∀ d ∈ D, 0 ≤ d ∧ d < 4294967296
theorem agS {d : Int} {D : List Int} (h : (d :: D).getLast? ≠ some 0) : D.getLast? ≠ some 0 := by
  cases D with
  | nil => simp
  | cons x D => rwa [List.getLast?_cons_cons] at h
theorem arG : ∀ {D : List Int}, okD D → D.getLast? ≠ some 0 → D.length ≤ nv D
  | [], _, _ => Nat.zero_le _
  | [d], h, hl => by
    have h1 := h d (List.mem_cons_self ..)
    have h2 : d ≠ 0 := fun e => hl (by rw [e]; rfl)
    simp only [nv, List.length_cons, List.length_nil]
    omega
  | d :: x :: D, h, hl => by
    have h1 := arG (D := x :: D) (fun y hy => h y (List.mem_cons_of_mem _ hy)) (agS hl)
    simp only [nv, List.length_cons] at h1 ⊢
    omega
theorem agT : ∀ {D : List Int} (k : Nat), okD D → D.getLast? ≠ some 0 → D.length ≤ k → awO k (nv D) = D.length
  | [], 0, _, _, _ => rfl
  | [], k + 1, _, _, _ => rfl
  | d :: D, 0, _, _, hk => by simp at hk
  | d :: D, k + 1, h, hl, hk => by
    have h1 := agT k (fun y hy => h y (List.mem_cons_of_mem _ hy)) (agS hl) (by simpa using hk)
    have h2 := arG h hl
    have h3 := h d (List.mem_cons_self ..)
    simp only [List.length_cons] at h2 ⊢
    unfold awO
    rw [if_neg (by omega)]
    simp only [nv]
    rw [show (d.toNat + 4294967296 * nv D) / 4294967296 = nv D by omega, h1]
theorem anH {D : List Int} (h : okD D) (hl : D.getLast? ≠ some 0) : aYC (nv D) = D.length := agT _ h hl (arG h hl)
def SlZ (z : Nat → Option (Array Value)) (D : List Int) (cv : Value) : Prop :=
  (D = [] ∧ cv = .slice none 0 0) ∨ ∃ b off c, cv = .slice (some ⟨b, off, none⟩) D.length c ∧ D.length ≤ c ∧ c ≤ maxLen ∧
    (D = [] ∨ ∃ cur, z b = some cur ∧ ∀ j d, D[j]? = some d → cur[off + j]? = some (.int .u32 d))
theorem SlZ.mono {z z' : Nat → Option (Array Value)} (h : Zle z z') {D : List Int} {cv : Value} (r : SlZ z D cv) : SlZ z' D cv := by
  rcases r with r | ⟨b, off, c, h1, h2, h3, h4⟩
  · exact .inl r
  · exact .inr ⟨b, off, c, h1, h2, h3, h4.imp id fun ⟨cur, h5, h6⟩ => ⟨cur, h b cur h5, h6⟩⟩
def oQ (μ : Mu) : A → Value → Prop
  | .bool b, cv => cv = .bool b
  | .int k n, cv => cv = .int k n
  | .fl k b, cv => ∃ b', cv = .float k b' ∧ canon k b' = b
  | .cx k x y, cv => ∃ x' y', cv = .complex k x' y' ∧ canon k x' = x ∧ canon k y' = y
  | .ptr i o, cv => ∃ m, μ.l[i]? = some m ∧ cv = .pointer (some ⟨m.blk, m.off + o, none⟩)
  | .sl i o n, cv => ∃ m ad c, μ.l[i]? = some m ∧ cv = .slice (some ad) n c ∧ n ≤ c ∧ c ≤ maxLen ∧
      (0 < n ∨ o = 0 → ad = ⟨m.blk, m.off + o, none⟩) ∧ (o = 0 → m.own = true → c * m.esz = m.size)
  | .ro i n, cv => ∃ m, μ.l[i]? = some m ∧ ((∃ c, cv = .slice (some ⟨m.blk, m.off, none⟩) n c ∧ n ≤ c ∧ c ≤ maxLen) ∨ (n = 0 ∧ cv = .slice none 0 0))
  | .nil, cv => cv = .slice none 0 0
  | .sl0, cv => ∃ ad, cv = .slice (some ad) 0 0
  | .fn f, cv => cv = .func (.func f) #[] #[]
  | .dig v, cv => ∃ D, okD D ∧ nv D = v ∧ SlZ μ.z D cv
  | .big v, cv => ∃ D, okD D ∧ nv D = v ∧ D.getLast? ≠ some 0 ∧ SlZ μ.z D cv
  | .mp i, cv => ∃ m, μ.l[i]? = some m ∧ cv = .map (some m.blk)
def jQ (μ : Mu) : List A → List Value → Prop
  | [], [] => True
  | x :: l, v :: m => oQ μ x v ∧ jQ μ l m
  | _, _ => False
def YO (μ : Mu) : U → Value → Prop
  | .a x, cv => oQ μ x cv
  | .g l, cv => ∃ cs, cv = .agg ⟨cs⟩ ∧ jQ μ l cs
def IW (μ : Mu) : List U → List Value → Prop
  | [], [] => True
  | x :: l, v :: m => YO μ x v ∧ IW μ l m
  | _, _ => False
def kK (μ : Mu) : V → Value → Prop
  | .any, _ => True
  | .u x, cv => YO μ x cv
  | .tup l, cv => ∃ cs, cv = .tuple ⟨cs⟩ ∧ IW μ l cs
def uX (μ : Mu) : List V → List Value → Prop
  | [], [] => True
  | x :: l, v :: m => kK μ x v ∧ uX μ l m
  | _, _ => False
theorem kK.no (μ : Mu) : kK μ V.no undef := ⟨[], rfl, trivial⟩
def Pre (μ μ' : Mu) : Prop := Zle μ.z μ'.z ∧ ∃ ν, μ'.l = μ.l ++ ν
theorem Pre.refl (μ : Mu) : Pre μ μ := ⟨.refl _, [], by simp⟩
theorem Pre.app (μ : Mu) (ν : List M) : Pre μ (μ.app ν) := ⟨.refl _, ν, rfl⟩
theorem Pre.trans {a b c : Mu} (h : Pre a b) (k : Pre b c) : Pre a c := by
  obtain ⟨z1, x, hx⟩ := h; obtain ⟨z2, y, hy⟩ := k; exact ⟨z1.trans z2, x ++ y, by rw [hy, hx, List.append_assoc]⟩
theorem Pre.get {a b : Mu} (h : Pre a b) {i : Nat} {m : M} (e : a.l[i]? = some m) : b.l[i]? = some m := by
  obtain ⟨_, x, hx⟩ := h
  rw [hx, List.getElem?_append_left (by have := List.getElem?_eq_some_iff.1 e; exact this.1)]; exact e
def QS (f : Nat → Nat) (μ μ' : Mu) : Prop := Zle μ.z μ'.z ∧ ∀ i m, μ.l[i]? = some m → μ'.l[f i]? = some m
theorem QS.of_pre {μ μ' : Mu} (h : Pre μ μ') : QS id μ μ' := ⟨h.1, fun _ _ e => h.get e⟩
theorem oQ.up {f : Nat → Nat} {μ μ' : Mu} (h : QS f μ μ') {x : A} {cv : Value} (r : oQ μ x cv) : oQ μ' (x.up f) cv := by
  cases x with
  | ptr i o => obtain ⟨m, e, rfl⟩ := r; exact ⟨m, h.2 _ _ e, rfl⟩
  | sl i o n => obtain ⟨m, ad, c, e, rest⟩ := r; exact ⟨m, ad, c, h.2 _ _ e, rest⟩
  | ro i n => obtain ⟨m, e, rest⟩ := r; exact ⟨m, h.2 _ _ e, rest⟩
  | dig v => obtain ⟨D, h1, h2, h3⟩ := r; exact ⟨D, h1, h2, h3.mono h.1⟩
  | big v => obtain ⟨D, h1, h2, h4, h3⟩ := r; exact ⟨D, h1, h2, h4, h3.mono h.1⟩
  | mp i => obtain ⟨m, e, rfl⟩ := r; exact ⟨m, h.2 _ _ e, rfl⟩
  | _ => exact r
theorem jQ.up {f : Nat → Nat} {μ μ' : Mu} (h : QS f μ μ') : ∀ {l : List A} {cs : List Value}, jQ μ l cs → jQ μ' (l.map (A.up f)) cs
  | [], [], _ => trivial
  | _ :: _, _ :: _, ⟨a, b⟩ => ⟨a.up h, jQ.up h b⟩
theorem YO.up {f : Nat → Nat} {μ μ' : Mu} (h : QS f μ μ') {x : U} {cv : Value} (r : YO μ x cv) : YO μ' (x.up f) cv := by
  cases x with
  | a x => exact oQ.up h r
  | g l => obtain ⟨cs, rfl, r⟩ := r; exact ⟨cs, rfl, r.up h⟩
theorem IW.up {f : Nat → Nat} {μ μ' : Mu} (h : QS f μ μ') : ∀ {l : List U} {cs : List Value}, IW μ l cs → IW μ' (l.map (U.up f)) cs
  | [], [], _ => trivial
  | _ :: _, _ :: _, ⟨a, b⟩ => ⟨a.up h, IW.up h b⟩
theorem kK.up {f : Nat → Nat} {μ μ' : Mu} (h : QS f μ μ') {x : V} {cv : Value} (r : kK μ x cv) : kK μ' (x.up f) cv := by
  cases x with
  | any => trivial
  | u x => exact YO.up h r
  | tup l => obtain ⟨cs, rfl, r⟩ := r; exact ⟨cs, rfl, r.up h⟩
theorem A.up_id (x : A) : x.up id = x := by cases x <;> rfl
theorem aM9 (l : List A) : l.map (A.up id) = l := by induction l with | nil => rfl | cons x l ih => simp [A.up_id, ih]
theorem U.up_id (x : U) : x.up id = x := by cases x <;> simp [U.up, A.up_id, aM9]
theorem aNA (l : List U) : l.map (U.up id) = l := by induction l with | nil => rfl | cons x l ih => simp [U.up_id, ih]
theorem V.up_id (x : V) : x.up id = x := by cases x <;> simp [V.up, U.up_id, aNA]
theorem oQ.pre {μ μ' : Mu} (h : Pre μ μ') {x : A} {cv : Value} (r : oQ μ x cv) : oQ μ' x cv := by have := r.up (.of_pre h); rwa [A.up_id] at this
theorem kK.pre {μ μ' : Mu} (h : Pre μ μ') {x : V} {cv : Value} (r : kK μ x cv) : kK μ' x cv := by have := r.up (.of_pre h); rwa [V.up_id] at this
def Sub (ids : List Nat) (μ μ' : Mu) : Prop := Zle μ.z μ'.z ∧ ∀ (j i : Nat) (m : M), ids[j]? = some i → μ.l[i]? = some m → μ'.l[j]? = some m
theorem oQ.ren {ids : List Nat} {μ μ' : Mu} (h : Sub ids μ μ') {x y : A} {cv : Value} (e : x.ren ids = some y) (r : oQ μ x cv) : oQ μ' y cv := by
  have key : ∀ i j, ids.idxOf? i = some j → ids[j]? = some i := by
    intro i j hj
    have h1 := List.idxOf?_eq_some_iff.1 hj
    obtain ⟨h2, h3, _⟩ := h1
    rw [List.getElem?_eq_some_iff]; exact ⟨h2, by simpa using h3⟩
  cases x with
  | ptr i o =>
    simp only [A.ren, Option.map_eq_some_iff] at e
    obtain ⟨j, hj, rfl⟩ := e
    obtain ⟨m, hm, rfl⟩ := r
    exact ⟨m, h.2 j i m (key _ _ hj) hm, rfl⟩
  | sl i o n =>
    simp only [A.ren, Option.map_eq_some_iff] at e
    obtain ⟨j, hj, rfl⟩ := e
    obtain ⟨m, ad, c, hm, rest⟩ := r
    exact ⟨m, ad, c, h.2 j i m (key _ _ hj) hm, rest⟩
  | ro i n =>
    simp only [A.ren, Option.map_eq_some_iff] at e
    obtain ⟨j, hj, rfl⟩ := e
    obtain ⟨m, hm, rest⟩ := r
    exact ⟨m, h.2 j i m (key _ _ hj) hm, rest⟩
  | dig v => cases e; obtain ⟨D, h1, h2, h3⟩ := r; exact ⟨D, h1, h2, h3.mono h.1⟩
  | big v => cases e; obtain ⟨D, h1, h2, h4, h3⟩ := r; exact ⟨D, h1, h2, h4, h3.mono h.1⟩
  | mp i =>
    simp only [A.ren, Option.map_eq_some_iff] at e
    obtain ⟨j, hj, rfl⟩ := e
    obtain ⟨m, hm, rfl⟩ := r
    exact ⟨m, h.2 j i m (key _ _ hj) hm, rfl⟩
  | _ => simp only [A.ren, Option.some.injEq] at e; subst e; exact r
theorem nV {α β : Type} {f : α → Option β} {x : α} {l : List α} {r : List β} (h : nN f (x :: l) = some r) : ∃ y m, f x = some y ∧ nN f l = some m ∧ r = y :: m := by
  simp only [nN] at h
  split at h
  · split at h
    · cases h; exact ⟨_, _, ‹_›, ‹_›, rfl⟩
    · cases h
  · cases h
theorem jQ.ren {ids : List Nat} {μ μ' : Mu} (h : Sub ids μ μ') : ∀ {l m : List A} {cs : List Value}, nN (A.ren ids) l = some m → jQ μ l cs → jQ μ' m cs
  | [], m, [], e, _ => by cases e; trivial
  | x :: l, m, c :: cs, e, ⟨a, b⟩ => by
    obtain ⟨y, m', e1, e2, rfl⟩ := nV e
    exact ⟨a.ren h e1, jQ.ren h e2 b⟩
theorem YO.ren {ids : List Nat} {μ μ' : Mu} (h : Sub ids μ μ') {x y : U} {cv : Value} (e : x.ren ids = some y) (r : YO μ x cv) : YO μ' y cv := by
  cases x with
  | a x => simp only [U.ren, Option.map_eq_some_iff] at e; obtain ⟨z, hz, rfl⟩ := e; exact oQ.ren h hz r
  | g l => simp only [U.ren, Option.map_eq_some_iff] at e; obtain ⟨z, hz, rfl⟩ := e; obtain ⟨cs, rfl, r⟩ := r; exact ⟨cs, rfl, r.ren h hz⟩
theorem IW.ren {ids : List Nat} {μ μ' : Mu} (h : Sub ids μ μ') : ∀ {l m : List U} {cs : List Value}, nN (U.ren ids) l = some m → IW μ l cs → IW μ' m cs
  | [], m, [], e, _ => by cases e; trivial
  | x :: l, m, c :: cs, e, ⟨a, b⟩ => by
    obtain ⟨y, m', e1, e2, rfl⟩ := nV e
    exact ⟨a.ren h e1, IW.ren h e2 b⟩
theorem kK.ren {ids : List Nat} {μ μ' : Mu} (h : Sub ids μ μ') {x y : V} {cv : Value} (e : x.ren ids = some y) (r : kK μ x cv) : kK μ' y cv := by
  cases x with
  | any => cases e; trivial
  | u x => simp only [V.ren, Option.map_eq_some_iff] at e; obtain ⟨z, hz, rfl⟩ := e; exact YO.ren h hz r
  | tup l => simp only [V.ren, Option.map_eq_some_iff] at e; obtain ⟨z, hz, rfl⟩ := e; obtain ⟨cs, rfl, r⟩ := r; exact ⟨cs, rfl, r.ren h hz⟩
theorem uX.ren {ids : List Nat} {μ μ' : Mu} (h : Sub ids μ μ') : ∀ {l m : List V} {cs : List Value}, nN (V.ren ids) l = some m → uX μ l cs → uX μ' m cs
  | [], m, [], e, _ => by cases e; trivial
  | x :: l, m, c :: cs, e, ⟨a, b⟩ => by
    obtain ⟨y, m', e1, e2, rfl⟩ := nV e
    exact ⟨a.ren h e1, uX.ren h e2 b⟩
def C.get? (c : C) (j : Nat) : Option A := c.getK j some
def C.live (rw : Bool) (c : C) : Prop := rw = true ∨ ∃ p x, c.get? p = some x
structure Rel (μ : Mu) (h : H) (w : World) : Prop where
  len : μ.l.length = h.length
  cell : ∀ (i : Nat) (m : M) (rw : Bool) (c : C), μ.l[i]? = some m → h[i]? = some (.at rw c) → ∀ (j : Nat) (x : A), c.get? j = some x → ∃ cv, w.cell? ⟨m.blk, m.off + j, none⟩ = some cv ∧ oQ μ x cv
  own : ∀ (i : Nat) (m : M) (c : C), μ.l[i]? = some m → h[i]? = some (.at true c) → m.own = true ∧ m.off = 0 ∧ m.esz = c.esz ∧ ∃ cur, w.heap[m.blk]? = some (.cells cur m.el (0, 0)) ∧ cur.size = m.size
  lt : ∀ (i : Nat) (m : M) (rw : Bool) (c : C), μ.l[i]? = some m → h[i]? = some (.at rw c) → c.live rw → m.blk < w.heap.size
  sep : ∀ (i j : Nat) (m n : M) (c : C) (rw : Bool) (d : C), i ≠ j → μ.l[i]? = some m → μ.l[j]? = some n → h[i]? = some (.at true c) → h[j]? = some (.at rw d) → d.live rw → m.blk ≠ n.blk
  fz : ∀ (k : Nat) (cur : Array Value), μ.z k = some cur → (∃ el, w.heap[k]? = some (.cells cur el (0, 0))) ∧ ∀ (i : Nat) (m : M) (c : C), μ.l[i]? = some m → h[i]? = some (.at true c) → m.blk ≠ k
def Wr (μ : Mu) (h : H) (k : Nat) : Prop := ∃ (i : Nat) (m : M) (c : C), μ.l[i]? = some m ∧ h[i]? = some (.at true c) ∧ m.blk = k
structure Fr (S : Nat → Prop) (w w' : World) : Prop where
  os : w'.os = w.os
  tape : w'.tape = w.tape
  output : w'.output = w.output
  size : w.heap.size ≤ w'.heap.size
  block : ∀ k, k < w.heap.size → ¬ S k → w'.heap[k]? = w.heap[k]?
theorem Fr.refl (S : Nat → Prop) (w : World) : Fr S w w := ⟨rfl, rfl, rfl, Nat.le_refl _, fun _ _ _ => rfl⟩
theorem Fr.trans {S T : Nat → Prop} {a b c : World} (h : Fr S a b) (k : Fr T b c) (hT : ∀ i, T i → S i ∨ a.heap.size ≤ i) : Fr S a c :=
  ⟨k.os.trans h.os, k.tape.trans h.tape, k.output.trans h.output, Nat.le_trans h.size k.size, fun i hi hn =>
    (k.block i (Nat.lt_of_lt_of_le hi h.size) (fun ht => (hT i ht).elim hn (fun h => absurd hi (Nat.not_lt.2 h)))).trans (h.block i hi hn)⟩
theorem Fr.mono {S T : Nat → Prop} {a b : World} (h : Fr S a b) (hS : ∀ i, S i → T i) : Fr T a b :=
  ⟨h.os, h.tape, h.output, h.size, fun i hi hn => h.block i hi (fun hs => hn (hS i hs))⟩
theorem Fr.drewN (S : Nat → Prop) (w : World) (n : Nat) : Fr S w (w.drewN n) := ⟨rfl, rfl, rfl, Nat.le_refl _, fun _ _ _ => rfl⟩
theorem Fr.alloc (S : Nat → Prop) (w : World) (o : Obj) : Fr S w (w.alloc o) :=
  ⟨rfl, rfl, rfl, by show w.heap.size ≤ (w.heap.push o).size; simp, fun k hk _ => by show (w.heap.push o)[k]? = _; rw [Array.getElem?_push]; simp [Nat.ne_of_lt hk]⟩
theorem cell_of_block {w w' : World} {a : Addr} (h : w'.heap[a.block]? = w.heap[a.block]?) : w'.cell? a = w.cell? a := World.cell?_of_block h
theorem Rel.drewN {μ : Mu} {h : H} {w : World} (r : Rel μ h w) (n : Nat) : Rel μ h (w.drewN n) := ⟨r.len, r.cell, r.own, r.lt, r.sep, r.fz⟩
theorem fD {α : Type} {l : List α} {i : Nat} {x : α} (h : l[i]? = some x) : i < l.length := (List.getElem?_eq_some_iff.1 h).1
theorem ai6 {w : World} {k : Nat} {o : Obj} (h : w.heap[k]? = some o) : k < w.heap.size := by
  by_cases hk : k < w.heap.size
  · exact hk
  · rw [Array.getElem?_eq_none (by omega)] at h
    cases h
theorem Rel.fr {μ : Mu} {h : H} {w w' : World} (r : Rel μ h w) {S : Nat → Prop} (f : Fr S w w')
    (hS : ∀ (i : Nat) (m : M) (rw : Bool) (c : C), μ.l[i]? = some m → h[i]? = some (.at rw c) → ¬ S m.blk) (hZ : ∀ (k : Nat) (cur : Array Value), μ.z k = some cur → ¬ S k) : Rel μ h w' where
  len := r.len
  cell i m rw c hm hb j x hx := by
    obtain ⟨cv, h1, h2⟩ := r.cell i m rw c hm hb j x hx
    exact ⟨cv, (cell_of_block (f.block m.blk (r.lt i m rw c hm hb (.inr ⟨j, x, hx⟩)) (hS i m rw c hm hb))).trans h1, h2⟩
  own i m c hm hb := by
    obtain ⟨h1, h2, h5, cur, h3, h4⟩ := r.own i m c hm hb
    exact ⟨h1, h2, h5, cur, (f.block m.blk (r.lt i m _ c hm hb (.inl rfl)) (hS i m _ c hm hb)).trans h3, h4⟩
  lt i m rw c hm hb hl := Nat.lt_of_lt_of_le (r.lt i m rw c hm hb hl) f.size
  sep := r.sep
  fz k cur hk := by
    obtain ⟨⟨el, h1⟩, h2⟩ := r.fz k cur hk
    exact ⟨⟨el, (f.block k (ai6 h1) (hZ k cur hk)).trans h1⟩, h2⟩
theorem Rel.new {μ : Mu} {h : H} {w : World} (r : Rel μ h w) (c : C) (m : M) (cur : Array Value)
    (hm : m = ⟨w.heap.size, 0, true, cur.size, c.esz, m.el⟩)
    (hc : ∀ j x, c.get? j = some x → ∃ cv, cur[j]? = some cv ∧ oQ (μ.app [m]) x cv) :
    Rel (μ.app [m]) (h ++ [.at true c]) (w.alloc (.cells cur m.el)) := by
  have hlen := r.len
  have hsz : (w.alloc (.cells cur m.el)).heap.size = w.heap.size + 1 := by show (w.heap.push _).size = _; simp
  have hnew : (w.alloc (.cells cur m.el)).heap[w.heap.size]? = some (.cells cur m.el (0, 0)) := by show (w.heap.push _)[w.heap.size]? = _; simp
  have split : ∀ (i : Nat) (m' : M) (b : B), (μ.l ++ [m])[i]? = some m' → (h ++ [.at true c])[i]? = some b →
      (μ.l[i]? = some m' ∧ h[i]? = some b) ∨ (i = μ.l.length ∧ m' = m ∧ b = .at true c) := by
    intro i m' b h1 h2
    by_cases hi : i < μ.l.length
    · rw [List.getElem?_append_left hi] at h1
      rw [List.getElem?_append_left (by omega)] at h2
      exact .inl ⟨h1, h2⟩
    · have hlt := fD h1
      simp at hlt
      have hi' : i = μ.l.length := by omega
      subst hi'
      simp at h1
      rw [hlen] at h2
      simp at h2
      exact .inr ⟨rfl, h1.symm, h2.symm⟩
  have eb : m.blk = w.heap.size := by rw [hm]
  have eo : m.off = 0 := by rw [hm]
  have es : m.size = cur.size := by rw [hm]
  have ew : m.own = true := by rw [hm]
  have ee : m.esz = c.esz := by rw [hm]
  clear hm
  refine ⟨by simp [hlen], ?_, ?_, ?_, ?_, ?_⟩
  · intro i m' rw c' h1 h2 j x hx
    rcases split i m' _ h1 h2 with ⟨h1, h2⟩ | ⟨_, e, h2⟩
    · obtain ⟨cv, h3, h4⟩ := r.cell i m' rw c' h1 h2 j x hx
      exact ⟨cv, (cell_of_block ((Fr.alloc (fun _ => False) w _).block m'.blk (r.lt i m' rw c' h1 h2 (.inr ⟨j, x, hx⟩)) id)).trans h3, h4.pre (.app μ _)⟩
    · cases h2
      obtain ⟨cv, h3, h4⟩ := hc j x hx
      refine ⟨cv, ?_, h4⟩
      rw [e, eb, eo]
      simp only [World.cell?, Nat.zero_add]
      rw [hnew]
      simpa using h3
  · intro i m' c' h1 h2
    rcases split i m' _ h1 h2 with ⟨h1, h2⟩ | ⟨_, e, h2⟩
    · obtain ⟨h3, h4, h7, cur', h5, h6⟩ := r.own i m' c' h1 h2
      exact ⟨h3, h4, h7, cur', ((Fr.alloc (fun _ => False) w _).block m'.blk (r.lt i m' _ c' h1 h2 (.inl rfl)) id).trans h5, h6⟩
    · rw [e]
      cases h2
      exact ⟨ew, eo, ee, cur, by rw [eb]; exact hnew, es.symm⟩
  · intro i m' rw c' h1 h2 hl
    rcases split i m' _ h1 h2 with ⟨h1, h2⟩ | ⟨_, e, h2⟩
    · have := r.lt i m' rw c' h1 h2 hl; omega
    · rw [e]; omega
  · intro i j m' n c' rw d hij h1 h2 h3 h4 hl
    rcases split i m' _ h1 h3 with ⟨h1, h3⟩ | ⟨e1, e1', h3⟩
    · rcases split j n _ h2 h4 with ⟨h2, h4⟩ | ⟨e2, e2', h4⟩
      · exact r.sep i j m' n c' rw d hij h1 h2 h3 h4 hl
      · have := r.lt i m' _ c' h1 h3 (.inl rfl)
        rw [e2']; omega
    · rcases split j n _ h2 h4 with ⟨h2, h4⟩ | ⟨e2, e2', h4⟩
      · have := r.lt j n _ d h2 h4 hl
        rw [e1']; omega
      · omega
  · intro k cur' hk
    obtain ⟨⟨el, h1⟩, h2⟩ := r.fz k cur' hk
    have hlt := ai6 h1
    refine ⟨⟨el, ((Fr.alloc (fun _ => False) w _).block k hlt id).trans h1⟩, fun i m' c' h3 h4 => ?_⟩
    rcases split i m' _ h3 h4 with ⟨h3, h4⟩ | ⟨_, e, _⟩
    · exact h2 i m' c' h3 h4
    · rw [e, eb]; omega
theorem ai7 {l : List Nat} (h : l.Nodup) (i : Nat) : (o9 l i).Nodup := by
  unfold o9
  split
  · exact h
  · rename_i hc
    rw [List.nodup_append]
    refine ⟨h, by simp, ?_⟩
    intro a ha b hb
    simp at hb
    subst hb
    intro e
    subst e
    exact hc (by simpa using ha)
theorem rD : ∀ (m : List Nat) {l : List Nat}, l.Nodup → (m.foldl o9 l).Nodup
  | [], _, h => h
  | i :: m, _, h => rD m (ai7 h i)
theorem yP : ∀ (m : List Nat) (l : List Nat), ∃ n, m.foldl o9 l = l ++ n
  | [], l => ⟨[], by simp⟩
  | i :: m, l => by
    obtain ⟨n, hn⟩ := yP m (o9 l i)
    simp only [List.foldl_cons, hn]
    unfold o9
    split
    · exact ⟨n, rfl⟩
    · exact ⟨i :: n, by simp⟩
theorem yQ (h : H) : ∀ (n : Nat) {l : List Nat}, l.Nodup → (close h n l).Nodup
  | 0, _, k => k
  | n + 1, _, k => yQ h n (rD _ k)
theorem YP (h : H) : ∀ (n : Nat) (l : List Nat), ∃ m, close h n l = l ++ m
  | 0, l => ⟨[], by simp [close]⟩
  | n + 1, l => by
    obtain ⟨m, hm⟩ := YP h n ((l.flatMap (aE7 h)).foldl o9 l)
    obtain ⟨p, hp⟩ := yP (l.flatMap (aE7 h)) l
    exact ⟨p ++ m, by unfold close; rw [hm, hp, List.append_assoc]⟩
theorem x9 {α β : Type} {f : α → Option β} : ∀ {l : List α} {m : List β}, nN f l = some m → m.length = l.length
  | [], m, e => by cases e; rfl
  | x :: l, m, e => by
    obtain ⟨y, m', _, e2, rfl⟩ := nV e
    simp [x9 e2]
theorem AQ {α β : Type} {f : α → Option β} : ∀ {l : List α} {m : List β}, nN f l = some m → ∀ (j : Nat) (x : α), l[j]? = some x → ∃ y, f x = some y ∧ m[j]? = some y
  | [], _, _, _, _, h => by simp at h
  | x :: l, m, e, j, z, h => by
    obtain ⟨y, m', e1, e2, rfl⟩ := nV e
    cases j with
    | zero => simp at h; subst h; exact ⟨y, e1, rfl⟩
    | succ j => simp at h; obtain ⟨u, h1, h2⟩ := AQ e2 j z h; exact ⟨u, h1, by simpa using h2⟩
theorem rP {α β : Type} {f : α → Option β} : ∀ {l : List α} {m : List β}, nN f l = some m → ∀ (j : Nat) (y : β), m[j]? = some y → ∃ x, l[j]? = some x ∧ f x = some y
  | [], m, e, _, _, h => by cases e; simp at h
  | x :: l, m, e, j, z, h => by
    obtain ⟨y, m', e1, e2, rfl⟩ := nV e
    cases j with
    | zero => simp at h; subst h; exact ⟨x, rfl, e1⟩
    | succ j => simp at h; obtain ⟨u, h1, h2⟩ := rP e2 j z h; exact ⟨u, by simpa using h1, h2⟩
theorem C.get?_as (e : Nat) (l : List A) (j : Nat) : (C.as e l).get? j = l[j]? := by
  unfold C.get? C.getK
  cases h : l[j]? <;> simp [h]
theorem C.get?_plain {c : C} (hc : ∀ e l, c ≠ .as e l) {j : Nat} {x : A} (h : c.get? j = some x) : x.ids = [] := by
  unfold C.get? C.getK at h
  cases c <;> simp only at h
  case as e l => exact absurd rfl (hc e l)
  case mp l => cases h
  all_goals (split at h <;> cases h; rfl)
theorem A.ren_plain {x : A} (h : x.ids = []) (ids : List Nat) : x.ren ids = some x := by
  cases x <;> first | rfl | simp [A.ids] at h
theorem B.ren_at {ids : List Nat} {b : B} {rw : Bool} {c' : C} (e : b.ren ids = some (.at rw c')) :
    ∃ c, b = .at rw c ∧ c'.esz = c.esz ∧ ∀ p x, c'.get? p = some x → ∃ y, c.get? p = some y ∧ y.ren ids = some x := by
  cases b with
  | gone => cases e
  | «at» rw' c =>
    cases c with
    | as ee l =>
      simp only [B.ren, Option.map_eq_some_iff] at e
      obtain ⟨m, h1, h2⟩ := e
      cases h2
      refine ⟨_, rfl, rfl, fun p x hx => ?_⟩
      rw [C.get?_as] at hx
      obtain ⟨y, h3, h4⟩ := rP h1 p x hx
      exact ⟨y, by rw [C.get?_as]; exact h3, h4⟩
    | _ =>
      simp only [B.ren] at e
      cases e
      exact ⟨_, rfl, rfl, fun p x hx => ⟨x, hx, A.ren_plain (C.get?_plain (by simp) hx) ids⟩⟩
theorem zQ {h : H} {ids : List Nat} {i : Nat} {rw : Bool} {c' : C} (e : anD h ids i = some (.at rw c')) :
    ∃ c, h[i]? = some (.at rw c) ∧ c'.esz = c.esz ∧ ∀ p x, c'.get? p = some x → ∃ y, c.get? p = some y ∧ y.ren ids = some x := by
  unfold anD at e
  cases hh : h[i]? with
  | none => simp [hh] at e
  | some b =>
    simp only [hh] at e
    obtain ⟨c, rfl, hc⟩ := B.ren_at e
    exact ⟨c, rfl, hc⟩
theorem anI {h : H} {ids : List Nat} {i : Nat} {b : B} (e : anD h ids i = some b) : i < h.length := by
  unfold anD at e
  cases hh : h[i]? with
  | none => simp [hh] at e
  | some b => exact fD hh
def pick (μ : Mu) (ids : List Nat) : Mu := ⟨μ.z, ids.map fun i => (μ.l[i]?).getD ⟨0, 0, false, 0, 0, 0⟩⟩
theorem yC (μ : Mu) (ids : List Nat) : Sub ids μ (pick μ ids) := by
  refine ⟨.refl _, fun j i m h1 h2 => ?_⟩
  simp [pick, h1, h2]
theorem Rel.sub {μ : Mu} {h g : H} {w : World} {ids : List Nat} (r : Rel μ h w) (hn : ids.Nodup) (e : anE h ids = some g) : Rel (pick μ ids) g w := by
  have hsub := yC μ ids
  have key : ∀ (j : Nat) (m : M) (rw : Bool) (c' : C), (pick μ ids).l[j]? = some m → g[j]? = some (.at rw c') →
      ∃ i c, ids[j]? = some i ∧ μ.l[i]? = some m ∧ h[i]? = some (.at rw c) ∧ c'.esz = c.esz ∧ ∀ p x, c'.get? p = some x → ∃ y, c.get? p = some y ∧ y.ren ids = some x := by
    intro j m rw c' h1 h2
    obtain ⟨i, hi, hb⟩ := rP e j _ h2
    obtain ⟨c, hh, hc⟩ := zQ hb
    have hlt : i < μ.l.length := by rw [r.len]; exact fD hh
    have hm : (pick μ ids).l[j]? = some μ.l[i] := hsub.2 j i _ hi (List.getElem?_eq_getElem hlt)
    rw [hm] at h1
    cases h1
    exact ⟨i, c, hi, List.getElem?_eq_getElem hlt, hh, hc⟩
  refine ⟨by simp [pick, x9 e], ?_, ?_, ?_, ?_, ?_⟩
  · intro j m rw c' h1 h2 p x hx
    obtain ⟨i, c, hi, hm, hb, _, hc⟩ := key j m rw c' h1 h2
    obtain ⟨y, hy, hr⟩ := hc p x hx
    obtain ⟨cv, h3, h4⟩ := r.cell i m rw c hm hb p y hy
    exact ⟨cv, h3, h4.ren hsub hr⟩
  · intro j m c' h1 h2
    obtain ⟨i, c, hi, hm, hb, he, _⟩ := key j m true c' h1 h2
    rw [he]
    exact r.own i m c hm hb
  · intro j m rw c' h1 h2 hl
    obtain ⟨i, c, hi, hm, hb, _, hc⟩ := key j m rw c' h1 h2
    exact r.lt i m rw c hm hb (hl.imp id fun ⟨p, x, hx⟩ => (hc p x hx).elim fun y hy => ⟨p, y, hy.1⟩)
  · intro j j' m n c' rw d' hj h1 h2 h3 h4 hl
    obtain ⟨i, c, hi, hm, hb, _⟩ := key j m true c' h1 h3
    obtain ⟨i', d, hi', hm', hb', _, hc⟩ := key j' n rw d' h2 h4
    refine r.sep i i' m n c rw d ?_ hm hm' hb hb' (hl.imp id fun ⟨p, x, hx⟩ => (hc p x hx).elim fun y hy => ⟨p, y, hy.1⟩)
    intro e'
    subst e'
    have h5 := List.getElem?_eq_some_iff.1 hi
    have h6 := List.getElem?_eq_some_iff.1 hi'
    exact hj ((List.getElem_inj hn).1 (h5.2.trans h6.2.symm))
  · intro k cur hk
    obtain ⟨h1, h2⟩ := r.fz k cur hk
    refine ⟨h1, fun j m c' h3 h4 => ?_⟩
    obtain ⟨i, c, hi, hm, hb, _⟩ := key j m true c' h3 h4
    exact h2 i m c hm hb
theorem Wr.sub {μ : Mu} {h g : H} {w : World} {ids : List Nat} (r : Rel μ h w) (e : anE h ids = some g) {k : Nat} (hk : Wr (pick μ ids) g k) :
    ∃ (j i : Nat) (m : M) (c : C), ids[j]? = some i ∧ μ.l[i]? = some m ∧ h[i]? = some (.at true c) ∧ m.blk = k := by
  obtain ⟨j, m, c', h1, h2, rfl⟩ := hk
  obtain ⟨i, hi, hb⟩ := rP e j _ h2
  obtain ⟨c, hh, _⟩ := zQ hb
  have hlt : i < μ.l.length := by rw [r.len]; exact fD hh
  have hm : (pick μ ids).l[j]? = some μ.l[i] := (yC μ ids).2 j i _ hi (List.getElem?_eq_getElem hlt)
  rw [hm] at h1
  cases h1
  exact ⟨j, i, _, c, hi, List.getElem?_eq_getElem hlt, hh, rfl⟩
theorem ZZ (f : Nat → Nat) : ∀ (ids : List Nat) (h g : H), ids.length ≤ g.length → (oG f h ids g).length = h.length + (g.length - ids.length)
  | [], h, g, _ => by simp [oG]
  | i :: ids, h, b :: g, e => by
    simp only [oG]
    rw [ZZ f ids _ g (by simpa using e)]
    simp
  | _ :: _, h, [], e => by simp at e
theorem I8 (f : Nat → Nat) : ∀ (ids : List Nat) (h g : H), ids.Nodup → ids.length ≤ g.length → (∀ i ∈ ids, i < h.length) →
    (∀ i, i < h.length → i ∉ ids → (oG f h ids g)[i]? = h[i]?) ∧
    (∀ (j i : Nat), ids[j]? = some i → (oG f h ids g)[i]? = (g[j]?).map (B.up f)) ∧
    (∀ j, (oG f h ids g)[h.length + j]? = (g[ids.length + j]?).map (B.up f))
  | [], h, g, _, _, _ => by
    refine ⟨fun i hi _ => by simp [oG, List.getElem?_append_left hi], fun j i hj => by simp at hj, fun j => ?_⟩
    simp [oG, List.getElem?_append_right]
  | i :: ids, h, b :: g, hn, hl, hin => by
    have hn' := List.nodup_cons.1 hn
    have ih := I8 f ids (h.set i (b.up f)) g hn'.2 (by simpa using hl) (fun k hk => by simpa using hin k (List.mem_cons_of_mem _ hk))
    have hi : i < h.length := hin i (List.mem_cons_self ..)
    refine ⟨fun k hk hnot => ?_, fun j k hj => ?_, fun j => ?_⟩
    · have h1 := ih.1 k (by simpa using hk) (fun hm => hnot (List.mem_cons_of_mem _ hm))
      simp only [oG, h1]
      rw [List.getElem?_set_ne (fun e => hnot (by rw [e]; exact List.mem_cons_self ..))]
    · cases j with
      | zero =>
        simp at hj
        subst hj
        have h1 := ih.1 i (by simpa using hi) hn'.1
        simp only [oG, h1]
        simp [hi]
      | succ j =>
        simp at hj
        have h1 := ih.2.1 j k hj
        simp only [oG, h1]
        simp
    · have h1 := ih.2.2 j
      simp only [List.length_set] at h1
      simp only [oG, h1, List.length_cons]
      have : ids.length + 1 + j = (ids.length + j) + 1 := by omega
      rw [this]
      simp
  | _ :: _, h, [], _, e, _ => by simp at e
theorem B.up_at {f : Nat → Nat} {b : B} {rw : Bool} {c' : C} (e : b.up f = .at rw c') : ∃ c, b = .at rw c ∧ c'.esz = c.esz ∧ ∀ j x, c'.get? j = some x → ∃ y, c.get? j = some y ∧ x = y.up f := by
  cases b with
  | gone => cases e
  | «at» rw' c =>
    cases c with
    | as ee l =>
      simp only [B.up] at e
      cases e
      refine ⟨_, rfl, rfl, fun j x hx => ?_⟩
      rw [C.get?_as] at hx
      simp only [List.getElem?_map, Option.map_eq_some_iff] at hx
      obtain ⟨y, hy, rfl⟩ := hx
      exact ⟨y, by rw [C.get?_as]; exact hy, rfl⟩
    | _ =>
      simp only [B.up] at e
      cases e
      refine ⟨_, rfl, rfl, fun j x hx => ⟨x, hx, ?_⟩⟩
      have := C.get?_plain (by simp) hx
      cases x <;> first | rfl | simp [A.ids] at this
theorem Rel.laid {μ : Mu} {z' : Nat → Option (Array Value)} {ν : List M} {h g g' : H} {w w' : World} {ids : List Nat} (r : Rel μ h w) (hn : ids.Nodup) (e : anE h ids = some g)
    (hν : ((pick μ ids).l ++ ν).length = g'.length) (r' : Rel ⟨z', (pick μ ids).l ++ ν⟩ g' w') (f : Fr (Wr (pick μ ids) g) w w')
    (hnew : ∀ (i : Nat) (m : M) (rw : Bool) (c : C), ids.length ≤ i → ((pick μ ids).l ++ ν)[i]? = some m → g'[i]? = some (.at rw c) → rw = true ∧ (Wr (pick μ ids) g m.blk ∨ w.heap.size ≤ m.blk))
    (hold : ∀ (j : Nat) (rw : Bool) (c : C), j < ids.length → g'[j]? = some (.at rw c) → ∃ d, g[j]? = some (.at rw d) ∧ (c.live rw → d.live rw)) (hzl : Zle μ.z z')
    (hz : ∀ (k : Nat) (cur : Array Value), z' k = some cur → μ.z k = some cur ∨ Wr (pick μ ids) g k ∨ w.heap.size ≤ k) :
    Rel ⟨z', μ.l ++ ν⟩ (oG (back ids h.length) h ids g') w' ∧ QS (back ids h.length) ⟨z', (pick μ ids).l ++ ν⟩ ⟨z', μ.l ++ ν⟩ := by
  have hpl : (pick μ ids).l.length = ids.length := by simp [pick]
  have hgl : g.length = ids.length := x9 e
  have hidlt : ∀ i ∈ ids, i < h.length := by
    intro i hi
    obtain ⟨j, hj⟩ := List.getElem?_of_mem hi
    obtain ⟨y, hy, _⟩ := AQ e j i hj
    exact anI hy
  have hlen' : ids.length ≤ g'.length := by rw [← hν]; simp [hpl]
  obtain ⟨L1, L2, L3⟩ := I8 (back ids h.length) ids h g' hn hlen' hidlt
  have hμ : μ.l.length = h.length := r.len
  have tells : QS (back ids h.length) ⟨z', (pick μ ids).l ++ ν⟩ ⟨z', μ.l ++ ν⟩ := by
    refine ⟨.refl _, fun j m hj => ?_⟩
    unfold back
    by_cases hlt : j < ids.length
    · rw [List.getElem?_append_left (by omega)] at hj
      have hi : ids[j]? = some ids[j] := List.getElem?_eq_getElem hlt
      rw [hi]
      simp only
      have hm : ids[j] < μ.l.length := by rw [hμ]; exact hidlt _ (List.getElem_mem hlt)
      have := (yC μ ids).2 j _ _ hi (List.getElem?_eq_getElem hm)
      rw [this] at hj
      cases hj
      rw [List.getElem?_append_left hm]
      exact List.getElem?_eq_getElem hm
    · rw [List.getElem?_append_right (by omega), hpl] at hj
      have : ids[j]? = none := List.getElem?_eq_none (by omega)
      rw [this]
      simp only
      rw [List.getElem?_append_right (by omega), hμ, Nat.add_sub_cancel_left]
      exact hj
  refine ⟨?_, tells⟩
  have cases3 : ∀ (i : Nat) (m : M) (rw : Bool) (c : C), (μ.l ++ ν)[i]? = some m → (oG (back ids h.length) h ids g')[i]? = some (.at rw c) →
      (i < h.length ∧ i ∉ ids ∧ μ.l[i]? = some m ∧ h[i]? = some (.at rw c)) ∨
      (∃ j d, ((pick μ ids).l ++ ν)[j]? = some m ∧ g'[j]? = some (.at rw d) ∧ (c.esz = d.esz ∧ ∀ p x, c.get? p = some x → ∃ y, d.get? p = some y ∧ x = y.up (back ids h.length)) ∧
        ((j < ids.length ∧ ids[j]? = some i) ∨ (ids.length ≤ j ∧ i = h.length + (j - ids.length)))) := by
    intro i m rw c h1 h2
    by_cases hi : i < h.length
    · rw [List.getElem?_append_left (by omega)] at h1
      by_cases hm : i ∈ ids
      · right
        obtain ⟨j, hj⟩ := List.getElem?_of_mem hm
        rw [L2 j i hj] at h2
        simp only [Option.map_eq_some_iff] at h2
        obtain ⟨b, hb, hb'⟩ := h2
        obtain ⟨d, rfl, hd⟩ := B.up_at hb'
        refine ⟨j, d, ?_, hb, hd, .inl ⟨fD hj, hj⟩⟩
        rw [List.getElem?_append_left (by rw [hpl]; exact fD hj)]
        exact (yC μ ids).2 j i m hj h1
      · rw [L1 i hi hm] at h2
        exact .inl ⟨hi, hm, h1, h2⟩
    · right
      obtain ⟨j, rfl⟩ : ∃ j, i = h.length + j := ⟨i - h.length, by omega⟩
      rw [L3 j] at h2
      simp only [Option.map_eq_some_iff] at h2
      obtain ⟨b, hb, hb'⟩ := h2
      obtain ⟨d, rfl, hd⟩ := B.up_at hb'
      refine ⟨ids.length + j, d, ?_, hb, hd, .inr ⟨by omega, by omega⟩⟩
      rw [List.getElem?_append_right (by omega), hμ, Nat.add_sub_cancel_left] at h1
      rw [List.getElem?_append_right (by omega), hpl, Nat.add_sub_cancel_left]
      exact h1
  have apart : ∀ (i : Nat) (m : M) (rw : Bool) (c : C), i ∉ ids → μ.l[i]? = some m → h[i]? = some (.at rw c) → c.live rw → ¬ Wr (pick μ ids) g m.blk := by
    intro i m rw c hi hm hb hl hw
    obtain ⟨j, i', m', c', hj, hm', hb', hk⟩ := Wr.sub r e hw
    exact r.sep i' i m' m c' rw c (fun e' => hi (e' ▸ List.mem_of_getElem? hj)) hm' hm hb' hb hl hk
  refine ⟨by rw [ZZ _ _ _ _ hlen']; rw [← hν]; simp [hpl, hμ], ?_, ?_, ?_, ?_, ?_⟩
  · intro i m rw c h1 h2 p x hx
    rcases cases3 i m rw c h1 h2 with ⟨_, hm, h3, h4⟩ | ⟨j, d, h3, h4, h5, _⟩
    · obtain ⟨cv, h6, h7⟩ := r.cell i m rw c h3 h4 p x hx
      exact ⟨cv, (cell_of_block (f.block m.blk (r.lt i m rw c h3 h4 (.inr ⟨p, x, hx⟩)) (apart i m rw c hm h3 h4 (.inr ⟨p, x, hx⟩)))).trans h6, h7.pre (μ' := ⟨z', μ.l ++ ν⟩) ⟨hzl, ν, rfl⟩⟩
    · obtain ⟨y, h6, rfl⟩ := h5.2 p x hx
      obtain ⟨cv, h7, h8⟩ := r'.cell j m rw d h3 h4 p y h6
      exact ⟨cv, h7, h8.up tells⟩
  · intro i m c h1 h2
    rcases cases3 i m true c h1 h2 with ⟨_, hm, h3, h4⟩ | ⟨j, d, h3, h4, hes, _⟩
    · obtain ⟨h5, h6, h9, cur, h7, h8⟩ := r.own i m c h3 h4
      exact ⟨h5, h6, h9, cur, (f.block m.blk (r.lt i m _ c h3 h4 (.inl rfl)) (apart i m _ c hm h3 h4 (.inl rfl))).trans h7, h8⟩
    · rw [hes.1]; exact r'.own j m d h3 h4
  · intro i m rw c h1 h2 hl
    rcases cases3 i m rw c h1 h2 with ⟨_, hm, h3, h4⟩ | ⟨j, d, h3, h4, h5, _⟩
    · exact Nat.lt_of_lt_of_le (r.lt i m rw c h3 h4 hl) f.size
    · exact r'.lt j m rw d h3 h4 (hl.imp id fun ⟨p, x, hx⟩ => (h5.2 p x hx).elim fun y hy => ⟨p, y, hy.1⟩)
  · intro i i' m n c rw d hne h1 h2 h3 h4 hl
    have where_ : ∀ (j : Nat) (m : M) (c : C), ((pick μ ids).l ++ ν)[j]? = some m → g'[j]? = some (.at true c) → Wr (pick μ ids) g m.blk ∨ w.heap.size ≤ m.blk := by
      intro j m c hj hb
      by_cases hlt : j < ids.length
      · obtain ⟨d, hd, _⟩ := hold j true c hlt hb
        rw [List.getElem?_append_left (by omega)] at hj
        exact .inl ⟨j, m, d, hj, hd, rfl⟩
      · exact (hnew j m true c (by omega) hj hb).2
    rcases cases3 i m true c h1 h3 with ⟨_, hm, a1, a2⟩ | ⟨j, c', a1, a2, _, aj⟩
    · rcases cases3 i' n rw d h2 h4 with ⟨_, hm', b1, b2⟩ | ⟨j', d', b1, b2, b5, bj⟩
      · exact r.sep i i' m n c rw d hne a1 b1 a2 b2 hl
      · -- m an old block, n one of the called function's
        rcases bj with ⟨hlt, hj'⟩ | ⟨hge, _⟩
        · rw [List.getElem?_append_left (by omega)] at b1
          have hi' := fD hj'
          have hμi : i' < μ.l.length := by rw [hμ]; exact hidlt i' (List.mem_of_getElem? hj')
          have hp := (yC μ ids).2 j' i' _ hj' (List.getElem?_eq_getElem hμi)
          rw [hp] at b1
          cases b1
          obtain ⟨y, hy, hy'⟩ := AQ e j' i' hj'
          obtain ⟨d2, hd2, hl2⟩ := hold j' rw d' hlt b2
          rw [hd2] at hy'
          cases hy'
          obtain ⟨c2, hh, _, hc2⟩ := zQ hy
          have hl3 := hl2 (hl.imp id fun ⟨p, x, hx⟩ => (b5.2 p x hx).elim fun y hy => ⟨p, y, hy.1⟩)
          exact r.sep i i' m _ c rw c2 hne a1 (List.getElem?_eq_getElem hμi) a2 hh (hl3.imp id fun ⟨p, x, hx⟩ => (hc2 p x hx).elim fun y hy => ⟨p, y, hy.1⟩)
        · have h5 := (hnew j' n rw d' hge b1 b2).2
          rcases h5 with h5 | h5
          · intro e'
            rw [← e'] at h5
            exact apart i m true c hm a1 a2 (.inl rfl) h5
          · have := r.lt i m true c a1 a2 (.inl rfl)
            omega
    · rcases cases3 i' n rw d h2 h4 with ⟨_, hm', b1, b2⟩ | ⟨j', d', b1, b2, b5, bj⟩
      · rcases where_ j m c' a1 a2 with h5 | h5
        · intro e'
          rw [e'] at h5
          exact apart i' n rw d hm' b1 b2 hl h5
        · have := r.lt i' n rw d b1 b2 hl
          omega
      · refine r'.sep j j' m n c' rw d' ?_ a1 b1 a2 b2 (hl.imp id fun ⟨p, x, hx⟩ => (b5.2 p x hx).elim fun y hy => ⟨p, y, hy.1⟩)
        intro e'
        subst e'
        rcases aj with ⟨x1, x2⟩ | ⟨x1, x2⟩ <;> rcases bj with ⟨y1, y2⟩ | ⟨y1, y2⟩
        · rw [x2] at y2; cases y2; exact hne rfl
        · omega
        · omega
        · omega
  · intro k cur hk
    obtain ⟨h1, h2⟩ := r'.fz k cur hk
    refine ⟨h1, fun i m c h3 h4 => ?_⟩
    rcases cases3 i m true c h3 h4 with ⟨_, hm, a1, a2⟩ | ⟨j, d, a1, a2, _, _⟩
    · rcases hz k cur hk with h5 | h5 | h5
      · exact (r.fz k cur h5).2 i m c a1 a2
      · intro e'
        rw [← e'] at h5
        exact apart i m true c hm a1 a2 (.inl rfl) h5
      · have := r.lt i m true c a1 a2 (.inl rfl)
        omega
    · exact h2 j m d a1 a2
def aUV : A → Value → Bool
  | .bool b, .bool c => b == c
  | .int k n, .int k' m => k == k' && n == m
  | .fl k b, .float k' c => k == k' && canon k c == b
  | .cx k a b, .complex k' c d => k == k' && canon k c == a && canon k d == b
  | .nil, .slice none 0 0 => true
  | .big v, .slice none 0 0 => v == 0
  | _, _ => false
theorem aFA {x : A} {v : Value} (h : aUV x v = true) (μ : Mu) : oQ μ x v := by
  unfold aUV at h
  split at h
  · simp at h; subst h; rfl
  · simp at h; obtain ⟨rfl, rfl⟩ := h; rfl
  · simp at h; obtain ⟨rfl, h⟩ := h; exact ⟨_, rfl, h⟩
  · simp at h; obtain ⟨⟨rfl, h⟩, h'⟩ := h; exact ⟨_, _, rfl, h, h'⟩
  · rfl
  · simp at h; subst h; exact ⟨[], (fun d hd => by cases hd), rfl, by simp, .inl ⟨rfl, rfl⟩⟩
  · cases h
def awQ : List A → List Value → Bool
  | [], [] => true
  | x :: l, v :: m => aUV x v && awQ l m
  | _, _ => false
theorem agU : ∀ {l : List A} {m : List Value}, awQ l m = true → ∀ μ, jQ μ l m
  | [], [], _, _ => trivial
  | x :: l, v :: m, h, μ => by simp [awQ] at h; exact ⟨aFA h.1 μ, agU h.2 μ⟩
  | [], _ :: _, h, _ => by cases h
  | _ :: _, [], h, _ => by cases h
def uF (I : TyI) (d : TypeDesc) : Bool :=
  match I.d, d with
  | .other, _ => false
  | .bool, .bool => !I.agg
  | .int k, .int k' => k == k' && !I.agg
  | .fl k, .float k' => k == k' && !I.agg
  | .cx k, .complex k' => k == k' && !I.agg
  | .slice e, .slice e' => e == e' && !I.agg
  | .struct fs, .struct gs => fs == gs.toList.map (fun f => (f.offset, f.type)) && I.agg
  | .array n e, .array m e' => n == m && e == e' && I.agg
  | _, _ => false
def rowB (P : Program) (t : TypeId) (I : TyI) : Bool :=
  match P.info? t, P.underlying t with
  | some i, some d => i.size == I.size && i.bytes == I.bytes && I.zero.length == I.size && decide (0 < I.size) && (match i.zero with | some z => awQ I.zero z.cells.toList && (match z with | .agg _ => I.agg | _ => !I.agg) | none => false) && uF I d
  | _, _ => false
structure QT (P : Program) (t : TypeId) (I : TyI) (i : TypeInfo) (z : Value) (d : TypeDesc) : Prop where
  info : P.info? t = some i
  under : P.underlying t = some d
  size : i.size = I.size
  bytes : i.bytes = I.bytes
  zlen : I.zero.length = I.size
  pos : 0 < I.size
  zero : i.zero = some z
  rep : ∀ μ, jQ μ I.zero z.cells.toList
  desc : uF I d = true
theorem aNB {P : Program} {t : TypeId} {I : TyI} (h : rowB P t I = true) : ∃ i z d, QT P t I i z d := by
  unfold rowB at h
  split at h
  · rename_i i d hi hd
    simp only [Bool.and_eq_true, beq_iff_eq, decide_eq_true_eq] at h
    obtain ⟨⟨⟨⟨⟨h1, h2⟩, h3⟩, h4⟩, h5⟩, h6⟩ := h
    split at h5
    · rename_i z hz
      simp only [Bool.and_eq_true] at h5
      exact ⟨i, z, d, hi, hd, h1, h2, h3, h4, hz, agU h5.1, h6⟩
    · cases h5
  · cases h
def tJ (P : Program) (ty : Ty) : Prop := ∀ t I, ty t = some I → rowB P t I = true
def aFB (P : Program) : Nat → List (Option TyI) → Bool
  | _, [] => true
  | n, none :: l => aFB P (n + 1) l
  | n, some I :: l => rowB P n I && aFB P (n + 1) l
theorem ac7 {P : Program} : ∀ {l : List (Option TyI)} {n : Nat}, aFB P n l = true → ∀ (j : Nat) (I : TyI), l[j]? = some (some I) → rowB P (n + j) I = true
  | [], _, _, _, _, h => by simp at h
  | none :: l, n, h, j, I, e => by
    cases j with
    | zero => simp at e
    | succ j => simp at e; have := ac7 (n := n + 1) h j I e; rwa [show n + 1 + j = n + (j + 1) by omega] at this
  | some J :: l, n, h, j, I, e => by
    simp [aFB] at h
    cases j with
    | zero => simp at e; subst e; exact h.1
    | succ j => simp at e; have := ac7 (n := n + 1) h.2 j I e; rwa [show n + 1 + j = n + (j + 1) by omega] at this
theorem aNC {P : Program} {tab : List (Option TyI)} (h : aFB P 0 tab = true) : tJ P (fun t => match tab[t]? with | some o => o | none => none) := by
  intro t I e
  have : tab[t]? = some (some I) := by
    simp only at e
    split at e
    · rename_i o ho; rw [ho, e]
    · cases e
  have := ac7 h t I this
  rwa [Nat.zero_add] at this
section
variable {P : Program} {t : TypeId} {I : TyI} {i : TypeInfo} {z : Value} {d : TypeDesc} (h : QT P t I i z d)
include h
theorem QT.agg_eq : I.agg = (match d with | .struct _ | .array _ _ => true | _ => false) := by
  have h1 := h.desc
  unfold uF at h1
  cases hd : I.d <;> cases d <;> simp_all
theorem QT.run_isAgg (w : World) : (Go.isAgg t).run P w = .ok I.agg w := by
  have h1 := h.agg_eq
  have h2 := run_underlying h.under w
  cases d <;> simp_all [Go.isAgg]
theorem QT.run_sizeOf (w : World) : (Go.sizeOf t).run P w = .ok I.size w := by
  simp [Go.sizeOf, run_typeInfo w h.info, h.size]
theorem QT.run_zero (w : World) : (Go.zeroValue t).run P w = .ok z w := by
  simp [Go.zeroValue, run_typeInfo w h.info, h.zero]
end
theorem row {P : Program} {ty : Ty} (hty : tJ P ty) {t : TypeId} {I : TyI} (e : ty t = some I) : ∃ i z d, QT P t I i z d := aNB (hty t I e)
def isN (k : FloatKind) (b : Nat) : Bool := (k.decode b).isNaN
def aFC : FloatKind → Nat
  | .f32 => 2139095040
  | .f64 => 9218868437227405312
def sgn : FloatKind → Nat
  | .f32 => 2147483648
  | .f64 => 9223372036854775808
theorem OU (k : FloatKind) : k.format.infRung = aFC k := by cases k <;> decide
theorem awR (k : FloatKind) : k.format.signWeight = sgn k := by cases k <;> decide
theorem azZ (k : FloatKind) : k.format.binade ≤ aFC k := by cases k <;> decide
theorem aND (k : FloatKind) : aFC k < sgn k := by cases k <;> decide
theorem OV (k : FloatKind) (b : Nat) : isN k b = decide (aFC k < b % sgn k) := by
  unfold isN FloatKind.decode Ieee.Format.read
  rw [OU, awR]
  have := azZ k
  dsimp only
  split
  · simp [Ieee.Datum.isNaN]; omega
  · split
    · simp [Ieee.Datum.isNaN]; omega
    · split
      · rename_i h; simp [Ieee.Datum.isNaN, h]
      · simp [Ieee.Datum.isNaN]; omega
theorem zS (k : FloatKind) : isN k (rC k) = true := by rw [OV]; cases k <;> decide
theorem iV {k : FloatKind} {b : Nat} (h : isN k b = false) : canon k b = b := by unfold canon; unfold isN at h; rw [h]; rfl
theorem oL {k : FloatKind} {b : Nat} (h : isN k b = true) : canon k b = rC k := by unfold canon; unfold isN at h; rw [h]; rfl
theorem qQ (k : FloatKind) (b : Nat) : isN k (canon k b) = isN k b := by
  cases h : isN k b
  · rw [iV h, h]
  · rw [oL h, zS]
theorem rQ (k : FloatKind) : canon k (rC k) = rC k := oL (zS k)
theorem aFD (k : FloatKind) (neg : Bool) {r : Nat} (h : r < sgn k) : k.format.word neg r % sgn k = r := by
  unfold Ieee.Format.word
  rw [awR]
  split
  · rw [Nat.add_mod_left]; exact Nat.mod_eq_of_lt h
  · exact Nat.mod_eq_of_lt h
theorem ac8 (k : FloatKind) (neg : Bool) {r : Nat} (h : r ≤ aFC k) : isN k (k.format.word neg r) = false := by
  have := aND k
  rw [OV, aFD k neg (by omega)]
  simp; omega
theorem anJ (k : FloatKind) (neg : Bool) (mag : Nat) (place : Int) : isN k (k.format.nearest neg mag place) = false := by
  unfold Ieee.Format.nearest
  dsimp only
  split
  · exact ac8 k neg (Nat.zero_le _)
  · exact ac8 k neg (by rw [OU]; exact Nat.min_le_right _ _)
theorem pV (k : FloatKind) {d : Ieee.Datum} (h : d.isNaN = false) : isN k (k.format.write d) = false := by
  cases d with
  | number s m e => exact anJ k s m e
  | infinity s => exact ac8 k s (by rw [OU]; exact Nat.le_refl _)
  | nan s f => cases h
theorem anK {x y d : Ieee.Datum} (h : x.sum y = some d) : x.isNaN = false ∧ y.isNaN = false ∧ d.isNaN = false := by
  cases x <;> cases y <;> simp [Ieee.Datum.sum] at h <;> first | (obtain ⟨_, rfl⟩ := h; simp [Ieee.Datum.isNaN]) | (subst h; simp [Ieee.Datum.isNaN])
theorem ai8 {x y d : Ieee.Datum} (h : x.product y = some d) : x.isNaN = false ∧ y.isNaN = false ∧ d.isNaN = false := by
  unfold Ieee.Datum.product at h
  split at h <;> (try split at h) <;> first | (cases h; done) | (injection h with h; subst h; simp [Ieee.Datum.isNaN])
theorem agG {n : Nat} {x y d : Ieee.Datum} (h : x.quotient n y = some d) : x.isNaN = false ∧ y.isNaN = false ∧ d.isNaN = false := by
  unfold Ieee.Datum.quotient at h
  dsimp only at h
  split at h <;> (try split at h) <;> (try split at h) <;> first | (cases h; done) | (injection h with h; subst h; simp [Ieee.Datum.isNaN])
theorem agV {n : Nat} {x d : Ieee.Datum} (h : x.root n = some d) : x.isNaN = false ∧ d.isNaN = false := by
  cases x with
  | nan s f => simp [Ieee.Datum.root] at h
  | infinity s => simp [Ieee.Datum.root] at h; obtain ⟨_, rfl⟩ := h; simp [Ieee.Datum.isNaN]
  | number s m i =>
    simp only [Ieee.Datum.root] at h
    split at h
    · cases h; simp [Ieee.Datum.isNaN]
    · split at h
      · cases h
      · cases h; simp [Ieee.Datum.isNaN]
theorem aNE (d : Ieee.Datum) : d.opposite.isNaN = d.isNaN := by cases d <;> rfl
theorem yE {op : BinOp} {k : FloatKind} {x y r : Nat} (h : floatBits op k x y = some r) : isN k x = false ∧ isN k y = false ∧ isN k r = false := by
  unfold floatBits at h
  split at h
  · simp only [Ieee.Format.add, Option.map_eq_some_iff] at h
    obtain ⟨d, h1, rfl⟩ := h
    obtain ⟨a, b, c⟩ := anK h1
    exact ⟨a, b, pV k c⟩
  · simp only [Ieee.Format.sub, Option.map_eq_some_iff] at h
    obtain ⟨d, h1, rfl⟩ := h
    obtain ⟨a, b, c⟩ := anK h1
    exact ⟨a, by rw [aNE] at b; exact b, pV k c⟩
  · simp only [Ieee.Format.mul, Option.map_eq_some_iff] at h
    obtain ⟨d, h1, rfl⟩ := h
    obtain ⟨a, b, c⟩ := ai8 h1
    exact ⟨a, b, pV k c⟩
  · simp only [Ieee.Format.div, Option.map_eq_some_iff] at h
    obtain ⟨d, h1, rfl⟩ := h
    obtain ⟨a, b, c⟩ := agG h1
    exact ⟨a, b, pV k c⟩
  · cases h
theorem az0 (op : BinOp) (k : FloatKind) (x y : Nat) : fop op k (canon k x) (canon k y) = canon k (fop op k x y) := by
  have hq : ∀ a b, isN k a = true ∨ isN k b = true → fop op k a b = rC k := by
    intro a b h
    unfold fop
    cases e : floatBits op k a b with
    | none => rfl
    | some r =>
      have := yE e
      rcases h with h | h
      · rw [h] at this; cases this.1
      · rw [h] at this; cases this.2.1
  cases hx : isN k x
  · cases hy : isN k y
    · rw [iV hx, iV hy]
      unfold fop
      cases e : floatBits op k x y with
      | none => simp [rQ]
      | some r => simp [iV (yE e).2.2]
    · rw [hq x y (.inr hy), hq _ _ (.inr (by rw [qQ]; exact hy)), rQ]
  · rw [hq x y (.inl hx), hq _ _ (.inl (by rw [qQ]; exact hx)), rQ]
theorem anL (s S A m r : Nat) (hr : r < m) (hS : A + 1 + m ≤ S) : A < (s * S + A + 1 + r) % S := by
  have h1 : s * S + A + 1 + r = A + 1 + r + s * S := by omega
  rw [h1, Nat.add_mul_mod_self_right, Nat.mod_eq_of_lt (by omega)]
  omega
theorem ab5 (k : FloatKind) (q : Question) (t : Nat) (h : (∃ x y, q = .nanBits k x y) ∨ (∃ b, q = .nanConv k b) ∨ (∃ m x y, q = .nanMinMax k m x y)) : isN k (q.cut t) = true := by
  rw [OV, decide_eq_true_eq]
  rcases h with ⟨x, y, rfl⟩ | ⟨b, rfl⟩ | ⟨m, x, y, rfl⟩ <;> cases k
  all_goals first
    | exact anL (t % 2) (2 ^ 31) 0x7f800000 (2 ^ 23 - 1) ((t / 2) % (2 ^ 23 - 1)) (Nat.mod_lt _ (by decide)) (by decide)
    | exact anL (t % 2) (2 ^ 63) 0x7ff0000000000000 (2 ^ 52 - 1) ((t / 2) % (2 ^ 52 - 1)) (Nat.mod_lt _ (by decide)) (by decide)
theorem awS {P : Program} (op : BinOp) (k : FloatKind) (x y : Nat) (w : World) (h : QQ op = true) :
    ∃ r n, (Op.floatArith op k x y).run P w = .ok (.float k r) (w.drewN n) ∧ canon k r = fop op k (canon k x) (canon k y) := by
  rw [az0]
  cases e : floatBits op k x y with
  | some r =>
    refine ⟨r, 0, run_floatArith w e, ?_⟩
    unfold fop; rw [e]; rfl
  | none =>
    refine ⟨(Question.nanBits k x y).cut (w.tape w.drawn (.nanBits k x y)), 1, ?_, ?_⟩
    rotate_left
    · have : fop op k x y = rC k := by unfold fop; rw [e]; rfl
      rw [this, rQ]
      exact oL (ab5 k (.nanBits k x y) (w.tape w.drawn (.nanBits k x y)) (.inl ⟨x, y, rfl⟩))
    · unfold floatBits at e
      cases op <;> simp [QQ] at h <;> simp only at e <;> simp only [Op.floatArith, e] <;> (simp [choose, Sem.run]; rfl)
theorem pW {k : FloatKind} {x y : Nat} (h : isN k x = true ∨ isN k y = true) : k.format.order x y = none := by
  unfold Ieee.Format.order
  unfold isN FloatKind.decode at h
  cases e : k.format.read x <;> cases e' : k.format.read y <;> simp [e, e', Ieee.Datum.isNaN] at h <;> simp [Ieee.Datum.order]
theorem rV (k : FloatKind) (x y : Nat) : k.format.order (canon k x) (canon k y) = k.format.order x y := by
  cases hx : isN k x
  · cases hy : isN k y
    · rw [iV hx, iV hy]
    · rw [pW (.inr hy), pW (.inr (by rw [qQ]; exact hy))]
  · rw [pW (.inl hx), pW (.inl (by rw [qQ]; exact hx))]
theorem ab6 (k : FloatKind) (x : Nat) : isN k (Op.negFloat k x) = isN k x := by
  rw [OV, OV]
  unfold Op.negFloat
  have : 2 ^ (k.format.exponentBits + k.format.fractionBits) = sgn k := by cases k <;> decide
  rw [this]
  have h2 : ∃ m, sgn k = 2 ^ m := by cases k; exact ⟨31, by decide⟩; exact ⟨63, by decide⟩
  obtain ⟨m, hm⟩ := h2
  rw [hm, Nat.xor_mod_two_pow]
  simp
theorem OW (k : FloatKind) (x : Nat) : I5 k (canon k x) = canon k (Op.negFloat k x) := by
  unfold I5
  cases hx : isN k x
  · rw [iV hx]
  · rw [oL (b := Op.negFloat k x) (by rw [ab6]; exact hx), oL (by rw [ab6, qQ]; exact hx)]
theorem anM (q : FloatKind) (b : Nat) (k : IntKind) : floatToIntVal q (canon q b) k = floatToIntVal q b k := by
  cases h : isN q b
  · rw [iV h]
  · have key : ∀ c, isN q c = true → floatToIntVal q c k = none := by
      intro c hc
      unfold floatToIntVal
      unfold isN at hc
      cases e : q.decode c <;> simp [e, Ieee.Datum.isNaN] at hc
      simp [Ieee.Datum.toInt, Ieee.Datum.integral]
    rw [key _ h, key _ (by rw [qQ]; exact h)]
theorem ai9 (k : FloatKind) (n : Int) : isN k (floatOfInt k n) = false := pV k (d := .number (n < 0) n.natAbs 0) rfl
theorem YQ {P : Program} {s d : FloatKind} {b r : Nat} (w : World) (h : fF s (canon s b) d = some r) :
    ∃ r' n, (Conv.floatToFloat s b d).run P w = .ok (.float d r') (w.drewN n) ∧ canon d r' = r := by
  unfold fF at h
  split at h
  · rename_i e; cases h; subst e
    exact ⟨b, 0, by simp [Conv.floatToFloat, World.drewN], rfl⟩
  · rename_i ne
    have hc := qQ s b
    unfold isN at hc
    rw [hc] at h
    split at h
    · rename_i hn
      cases h
      refine ⟨(Question.nanConv d b).cut (w.tape w.drawn (.nanConv d b)), 1, ?_, ?_⟩
      rotate_left
      · exact oL (ab5 d (.nanConv d b) (w.tape w.drawn (.nanConv d b)) (.inr (.inl ⟨b, rfl⟩)))
      · cases e : s.decode b <;> simp [e, Ieee.Datum.isNaN] at hn
        simp only [Conv.floatToFloat, ne, if_false, e]
        simp [choose, Sem.run]
        rfl
    · rename_i hn
      have hn' : isN s b = false := by unfold isN; simpa using hn
      rw [iV hn'] at h
      refine ⟨r, 0, ?_, ?_⟩
      · unfold floatToFloatBits at h
        simp only [ne, if_false] at h
        split at h
        · cases h
        · rename_i e; cases h; simp [Conv.floatToFloat, ne, e, World.drewN]
        · rename_i e
          split at h
          · cases h
          · rename_i hi; cases h; simp [Conv.floatToFloat, ne, e, hi, World.drewN]
      · refine iV ?_
        unfold floatToFloatBits at h
        simp only [ne, if_false] at h
        split at h
        · cases h
        · cases h; exact pV d rfl
        · split at h
          · cases h
          · cases h; exact pV d rfl
def Gives (P : Program) (s : Sem Value) (μ : Mu) (v : V) (w : World) : Prop := ∃ cv n, s.run P w = .ok cv (w.drewN n) ∧ kK μ v cv
theorem Gives.ofRep {P : Program} {μ : Mu} {v : V} {cv : Value} (h : kK μ v cv) (w : World) : Gives P (pure cv) μ v w := ⟨cv, 0, rfl, h⟩
section
variable {P : Program} {R : Type} {K : V → Option R} {r : R}
theorem mJ {μ : Mu} {k : IntKind} {n : Int} {cv : Value} (h : kK μ (.int k n) cv) : cv = .int k n := h
theorem I9 {μ : Mu} {k : FloatKind} {n : Nat} {cv : Value} (h : kK μ (.fl k n) cv) : ∃ b, cv = .float k b ∧ canon k b = n := h
theorem IX {μ : Mu} {k : FloatKind} {x y : Nat} {cv : Value} (h : kK μ (.cx k x y) cv) : ∃ a b, cv = .complex k a b ∧ canon k a = x ∧ canon k b = y := h
theorem oH {μ : Mu} {b : Bool} {cv : Value} (h : kK μ (.bool b) cv) : cv = .bool b := h
theorem aNF {op : BinOp} {k : IntKind} {x y : Int} (hs : op ≠ .shl) (hs' : op ≠ .shr) (e : aE4 op k x y K = some r) :
    ∃ v, K v = some r ∧ ∀ (μ : Mu) (w : World) (xt : TypeId) (xo yo : Operand),
      Gives P (do eqGuard op xt xo yo (.int k x) (.int k y); binOp op xt (.int k x) (.int k y)) μ v w := by
  cases op <;> simp only [aE4] at e
  case quo =>
    split at e
    · cases e
    · rename_i h; simp at h
      exact ⟨_, e, fun μ w xt xo yo => ⟨_, 0, by simp [eqGuard, binOp, Op.intDiv, h, World.drewN], rfl⟩⟩
  case rem =>
    split at e
    · cases e
    · rename_i h; simp at h
      exact ⟨_, e, fun μ w xt xo yo => ⟨_, 0, by simp [eqGuard, binOp, Op.intDiv, h, World.drewN], rfl⟩⟩
  all_goals first
    | (cases e; done)
    | exact absurd rfl hs
    | exact absurd rfl hs'
    | exact ⟨_, e, fun μ w xt xo yo => ⟨_, 0, by simp [eqGuard, binOp, Op.intArith, Op.intCmp, Op.intBits, World.drewN], rfl⟩⟩
theorem agW {op : BinOp} {k k' : IntKind} {x y : Int} (e : ai2 op k x y K = some r) :
    ∃ v, K v = some r ∧ ∀ (μ : Mu) (w : World) (xt : TypeId) (xo yo : Operand),
      Gives P (do eqGuard op xt xo yo (.int k x) (.int k' y); binOp op xt (.int k x) (.int k' y)) μ v w := by
  unfold ai2 at e
  split at e
  · cases e
  rename_i h; simp at h
  split at e
  · exact ⟨_, e, fun μ w xt xo yo => ⟨_, 0, by simp [eqGuard, binOp, Op.shift, Int.not_lt.2 h, World.drewN], rfl⟩⟩
  · exact ⟨_, e, fun μ w xt xo yo => ⟨_, 0, by simp [eqGuard, binOp, Op.shift, Int.not_lt.2 h, World.drewN], rfl⟩⟩
  · cases e
theorem OH (op : BinOp) (t : TypeId) (xo yo : Operand) (k k' : FloatKind) (a b : Nat) : eqGuard op t xo yo (.float k a) (.float k' b) = pure () := by
  cases op <;> rfl
theorem rM (op : BinOp) (t : TypeId) (xo yo : Operand) (k k' : FloatKind) (a b c d : Nat) : eqGuard op t xo yo (.complex k a b) (.complex k' c d) = pure () := by
  cases op <;> rfl
theorem QU (op : BinOp) (t : TypeId) (xo yo : Operand) (a b : Bool) : eqGuard op t xo yo (.bool a) (.bool b) = pure () := by
  cases op <;> rfl
theorem mY {μ : Mu} {v : V} {w : World} {s : Sem Unit} {t : Sem Value} (hs : s = pure ()) (h : Gives P t μ v w) : Gives P (do s; t) μ v w := by
  subst hs; exact h
theorem L6 (op : BinOp) (k : FloatKind) (x y : Nat) (w : World) (h : QQ op = true) :
    ∃ r' n, (Op.Complex.arith op k x y).run P w = .ok r' (w.drewN n) ∧ canon k r' = fop op k (canon k x) (canon k y) := by
  obtain ⟨r', n, h1, h2⟩ := awS (P := P) op k x y w h
  exact ⟨r', n, by simp [Op.Complex.arith, h1], h2⟩
theorem drewN_drewN (w : World) (a b : Nat) : (w.drewN a).drewN b = w.drewN (a + b) := by simp [World.drewN, Nat.add_assoc]
theorem ajA {ty : Ty} (hty : tJ P ty) {op : BinOp} {xt : TypeId} {b : Bool} (e : aE5 ty op xt b K = some r) :
    ∃ v, K v = some r ∧ ∀ (μ : Mu) (ad : Option Addr) (l c : Nat), ad.isNone = b → ∀ (w : World) (xo yo : Operand),
      Gives P (do eqGuard op xt xo yo (.slice ad l c) (.slice none 0 0); binOp op xt (.slice ad l c) (.slice none 0 0)) μ v w := by
  unfold aE5 at e
  split at e
  · rename_i hI
    obtain ⟨i, z, d, hr⟩ := row hty hI
    have hd := hr.desc
    have hu := hr.under
    unfold uF at hd
    cases d <;> simp at hd
    have hq : ∀ (d : Nat) (ad : Option Addr) (l c : Nat) (w : World), (Op.equalIn (d + 1) xt (.slice ad l c) (.slice none 0 0)).run P w = .ok ad.isNone w := by
      intro d ad l c w
      cases ad <;> simp [Op.equalIn, run_underlying hu]
    split at e
    · refine ⟨_, e, fun μ ad l c hb w xo yo => ?_⟩
      subst hb
      refine mY rfl ⟨.bool ad.isNone, 0, ?_, rfl⟩
      simp only [binOp]
      simp [Op.equal, Op.maxDepth, hq 9999 ad l c w, World.drewN]
    · refine ⟨_, e, fun μ ad l c hb w xo yo => ?_⟩
      subst hb
      refine mY rfl ⟨.bool (!ad.isNone), 0, ?_, rfl⟩
      simp only [binOp]
      simp [Op.equal, Op.maxDepth, hq 9999 ad l c w, World.drewN]
    · cases e
  · cases e
theorem aNG {ty : Ty} (hty : tJ P ty) {op : BinOp} {xt : TypeId} {x y : V} (e : aUR ty op xt x y K = some r) :
    ∃ v, K v = some r ∧ ∀ (μ : Mu) (a b : Value), kK μ x a → kK μ y b → ∀ (w : World) (xo yo : Operand),
      Gives P (do eqGuard op xt xo yo a b; binOp op xt a b) μ v w := by
  unfold aUR at e
  split at e
  · -- integers
    rename_i k a k' b
    split at e
    · obtain ⟨v, h1, h2⟩ := agW (P := P) (k' := k') e
      exact ⟨v, h1, fun μ x y hx hy w xo yo => by cases mJ hx; cases mJ hy; exact h2 μ w xt xo yo⟩
    · obtain ⟨v, h1, h2⟩ := agW (P := P) (k' := k') e
      exact ⟨v, h1, fun μ x y hx hy w xo yo => by cases mJ hx; cases mJ hy; exact h2 μ w xt xo yo⟩
    · rename_i hs hs'
      split at e
      · rename_i hk; subst hk
        obtain ⟨v, h1, h2⟩ := aNF (P := P) (fun h => hs h) (fun h => hs' h) e
        exact ⟨v, h1, fun μ x y hx hy w xo yo => by cases mJ hx; cases mJ hy; exact h2 μ w xt xo yo⟩
      · cases e
  · -- floats
    rename_i k a k' b
    split at e
    · rename_i hk; subst hk
      split at e
      · rename_i ha
        refine ⟨_, e, fun μ x y hx hy w xo yo => ?_⟩
        obtain ⟨x', rfl, rfl⟩ := I9 hx
        obtain ⟨y', rfl, rfl⟩ := I9 hy
        refine mY (OH ..) ?_
        obtain ⟨r', n, h1, h2⟩ := awS (P := P) op k x' y' w ha
        refine ⟨.float k r', n, ?_, ⟨r', rfl, h2⟩⟩
        cases op <;> simp [QQ] at ha <;> simpa [binOp] using h1
      · rename_i ha
        split at e
        · rename_i c hc
          refine ⟨_, e, fun μ x y hx hy w xo yo => ?_⟩
          obtain ⟨x', rfl, rfl⟩ := I9 hx
          obtain ⟨y', rfl, rfl⟩ := I9 hy
          refine mY (OH ..) ⟨.bool c, 0, ?_, rfl⟩
          unfold aYB at hc
          rw [rV] at hc
          cases op <;> simp at hc <;> simp [binOp, Op.floatCmp, hc, World.drewN]
        · cases e
    · cases e
  · -- complex numbers
    rename_i k a b k' c d
    split at e
    · rename_i hk; subst hk
      split at e
      · refine ⟨_, e, fun μ x y hx hy w xo yo => ?_⟩
        obtain ⟨x1, x2, rfl, rfl, rfl⟩ := IX hx
        obtain ⟨y1, y2, rfl, rfl, rfl⟩ := IX hy
        refine mY (rM ..) ?_
        obtain ⟨r1, n1, h1, h2⟩ := L6 (P := P) .add k x1 y1 w rfl
        obtain ⟨r2, n2, h3, h4⟩ := L6 (P := P) .add k x2 y2 (w.drewN n1) rfl
        exact ⟨.complex k r1 r2, n1 + n2, by simp [binOp, Op.complexOp, h1, h3], ⟨r1, r2, rfl, h2, h4⟩⟩
      · refine ⟨_, e, fun μ x y hx hy w xo yo => ?_⟩
        obtain ⟨x1, x2, rfl, rfl, rfl⟩ := IX hx
        obtain ⟨y1, y2, rfl, rfl, rfl⟩ := IX hy
        refine mY (rM ..) ?_
        obtain ⟨r1, n1, h1, h2⟩ := L6 (P := P) .sub k x1 y1 w rfl
        obtain ⟨r2, n2, h3, h4⟩ := L6 (P := P) .sub k x2 y2 (w.drewN n1) rfl
        exact ⟨.complex k r1 r2, n1 + n2, by simp [binOp, Op.complexOp, h1, h3], ⟨r1, r2, rfl, h2, h4⟩⟩
      · refine ⟨_, e, fun μ x y hx hy w xo yo => ?_⟩
        obtain ⟨x1, x2, rfl, rfl, rfl⟩ := IX hx
        obtain ⟨y1, y2, rfl, rfl, rfl⟩ := IX hy
        exact mY (rM ..) ⟨_, 0, run_eql_complex .., by rw [rV, rV]; rfl⟩
      · refine ⟨_, e, fun μ x y hx hy w xo yo => ?_⟩
        obtain ⟨x1, x2, rfl, rfl, rfl⟩ := IX hx
        obtain ⟨y1, y2, rfl, rfl, rfl⟩ := IX hy
        exact mY (rM ..) ⟨_, 0, run_neq_complex .., by rw [rV, rV]; rfl⟩
      · cases e
    · cases e
  · -- bools
    rename_i a b
    split at e
    · rename_i hI
      obtain ⟨i, z, d, hr⟩ := row hty hI
      have hd := hr.desc
      have hu := hr.under
      unfold uF at hd
      cases d <;> simp at hd
      split at e
      · refine ⟨_, e, fun μ x y hx hy w xo yo => ?_⟩
        cases oH hx; cases oH hy
        exact mY (QU ..) ⟨.bool (a == b), 0, run_eql_bool w xt _ _ hu, rfl⟩
      · refine ⟨_, e, fun μ x y hx hy w xo yo => ?_⟩
        cases oH hx; cases oH hy
        exact mY (QU ..) ⟨.bool (!(a == b)), 0, run_neq_bool w xt _ _ hu, rfl⟩
      · cases e
    · cases e
  · obtain ⟨v, h1, h2⟩ := ajA (P := P) hty e
    refine ⟨v, h1, fun μ x y hx hy w xo yo => ?_⟩
    obtain ⟨m, ad, c, _, rfl, _⟩ := hx
    have hy : y = .slice none 0 0 := hy
    subst hy
    exact h2 μ (some ad) _ c rfl w xo yo
  · obtain ⟨v, h1, h2⟩ := ajA (P := P) hty e
    refine ⟨v, h1, fun μ x y hx hy w xo yo => ?_⟩
    obtain ⟨ad, rfl⟩ := hx
    have hy : y = .slice none 0 0 := hy
    subst hy
    exact h2 μ (some ad) 0 0 rfl w xo yo
  · obtain ⟨v, h1, h2⟩ := ajA (P := P) hty e
    refine ⟨v, h1, fun μ x y hx hy w xo yo => ?_⟩
    have hx : x = .slice none 0 0 := hx
    have hy : y = .slice none 0 0 := hy
    subst hx
    subst hy
    exact h2 μ none 0 0 rfl w xo yo
  · cases e
theorem aUW {op : UnOp} {x : V} (e : unK op x K = some r) :
    ∃ v, K v = some r ∧ ∀ (μ : Mu) (a : Value), kK μ x a → ∀ (w : World), Gives P (Op.unary op a) μ v w := by
  unfold unK at e
  split at e
  · exact ⟨_, e, fun μ a h w => by cases oH h; exact ⟨_, 0, rfl, rfl⟩⟩
  · exact ⟨_, e, fun μ a h w => by cases mJ h; exact ⟨_, 0, rfl, rfl⟩⟩
  · refine ⟨_, e, fun μ a h w => ?_⟩
    obtain ⟨b, rfl, rfl⟩ := I9 h
    exact ⟨_, 0, rfl, ⟨_, rfl, (OW _ _).symm⟩⟩
  · refine ⟨_, e, fun μ a h w => ?_⟩
    obtain ⟨b, c, rfl, rfl, rfl⟩ := IX h
    exact ⟨_, 0, rfl, ⟨_, _, rfl, (OW _ _).symm, (OW _ _).symm⟩⟩
  · simp only [aE4] at e
    exact ⟨_, e, fun μ a h w => by cases mJ h; exact ⟨_, 0, rfl, rfl⟩⟩
  · cases e
theorem anN {I : TyI} {d : TypeDesc} {k : IntKind} (h : uF I d = true) (e : I.d = .int k) : d = .int k := by
  unfold uF at h; rw [e] at h; cases d <;> simp at h; rw [h.1]
theorem awT {I : TyI} {d : TypeDesc} {k : FloatKind} (h : uF I d = true) (e : I.d = .fl k) : d = .float k := by
  unfold uF at h; rw [e] at h; cases d <;> simp at h; rw [h.1]
theorem aNH {I : TyI} {d : TypeDesc} {k : FloatKind} (h : uF I d = true) (e : I.d = .cx k) : d = .complex k := by
  unfold uF at h; rw [e] at h; cases d <;> simp at h; rw [h.1]
theorem lY {I : TyI} {d : TypeDesc} {k : TypeId} (h : uF I d = true) (e : I.d = .slice k) : d = .slice k := by
  unfold uF at h; rw [e] at h; cases d <;> simp at h; rw [h.1]
theorem OX {I : TyI} {d : TypeDesc} {n : Nat} {k : TypeId} (h : uF I d = true) (e : I.d = .array n k) : d = .array n k := by
  unfold uF at h; rw [e] at h; cases d <;> simp at h; rw [h.1.1, h.1.2]
theorem Z7 {I : TyI} {d : TypeDesc} {fs : List (Nat × TypeId)} (h : uF I d = true) (e : I.d = .struct fs) : ∃ gs, d = .struct gs ∧ fs = gs.toList.map fun f => (f.offset, f.type) := by
  unfold uF at h; rw [e] at h; cases d <;> simp at h; exact ⟨_, rfl, h.1⟩
theorem aFE {ty : Ty} (hty : tJ P ty) {s d : TypeId} {x : V} (e : aE6 ty s d x K = some r) :
    ∃ v, K v = some r ∧ ∀ (μ : Mu) (a : Value), kK μ x a → ∀ (w : World), Gives P (convert s d a) μ v w := by
  unfold aE6 at e
  split at e
  · rename_i hs hd
    obtain ⟨_, _, ds, rs⟩ := row hty hs
    obtain ⟨_, _, dd, rd⟩ := row hty hd
    have h2 := anN rd.desc rfl
    subst h2
    refine ⟨_, e, fun μ a h w => ?_⟩
    cases mJ h
    refine ⟨_, 0, ?_, rfl⟩
    cases ds <;> simp [convert, run_underlying rs.under, run_underlying rd.under, Conv.intToInt, World.drewN]
  · rename_i hs hd
    obtain ⟨_, _, ds, rs⟩ := row hty hs
    obtain ⟨_, _, dd, rd⟩ := row hty hd
    have h2 := anN rd.desc rfl
    subst h2
    split at e
    · rename_i n hn
      refine ⟨_, e, fun μ a h w => ?_⟩
      obtain ⟨b, rfl, rfl⟩ := I9 h
      rw [anM] at hn
      exact ⟨_, 0, run_convert_float_int w s d _ _ b n (by rw [rs.under]; rfl) rd.under hn, rfl⟩
    · cases e
  · rename_i hs hd
    obtain ⟨_, _, ds, rs⟩ := row hty hs
    obtain ⟨_, _, dd, rd⟩ := row hty hd
    have h2 := awT rd.desc rfl
    subst h2
    refine ⟨_, e, fun μ a h w => ?_⟩
    cases mJ h
    exact ⟨_, 0, run_convert_int_float w s d _ _ _ (by rw [rs.under]; rfl) rd.under, ⟨_, rfl, iV (ai9 _ _)⟩⟩
  · rename_i hs hd
    obtain ⟨_, _, ds, rs⟩ := row hty hs
    obtain ⟨_, _, dd, rd⟩ := row hty hd
    have h2 := awT rd.desc rfl
    subst h2
    split at e
    · rename_i q hq
      refine ⟨_, e, fun μ a h w => ?_⟩
      obtain ⟨b, rfl, rfl⟩ := I9 h
      obtain ⟨r', n, h3, h4⟩ := YQ (P := P) w hq
      refine ⟨_, n, ?_, ⟨r', rfl, h4⟩⟩
      cases ds <;> simp [convert, run_underlying rs.under, run_underlying rd.under, h3]
    · cases e
  · rename_i hs hd
    obtain ⟨_, _, ds, rs⟩ := row hty hs
    obtain ⟨_, _, dd, rd⟩ := row hty hd
    have h2 := aNH rd.desc rfl
    subst h2
    split at e
    · rename_i q hq
      split at e
      · rename_i q2 hq2
        refine ⟨_, e, fun μ a h w => ?_⟩
        obtain ⟨b, c, rfl, rfl, rfl⟩ := IX h
        obtain ⟨r1, n1, h3, h4⟩ := YQ (P := P) w hq
        obtain ⟨r2, n2, h5, h6⟩ := YQ (P := P) (w.drewN n1) hq2
        refine ⟨_, n1 + n2, ?_, ⟨r1, r2, rfl, h4, h6⟩⟩
        cases ds <;> simp [convert, run_underlying rs.under, run_underlying rd.under, Conv.complexToComplex, h3, h5]
      · cases e
    · cases e
  · cases e
end
theorem addr_add (b o n : Nat) : (⟨b, o, none⟩ : Addr).add n = ⟨b, o + n, none⟩ := by
  unfold Addr.add
  split
  · rename_i h; subst h; rfl
  · rfl
theorem jQ.len {μ : Mu} : ∀ {l : List A} {cs : List Value}, jQ μ l cs → cs.length = l.length
  | [], [], _ => rfl
  | _ :: _, _ :: _, h => by simp [jQ.len h.2]
theorem jQ.get {μ : Mu} : ∀ {l : List A} {cs : List Value}, jQ μ l cs → ∀ {i : Nat} {x : A}, l[i]? = some x → ∃ cv, cs[i]? = some cv ∧ oQ μ x cv
  | [], [], _, _, _, h => by simp at h
  | a :: l, c :: cs, h, i, x, e => by
    cases i with
    | zero => simp at e; subst e; exact ⟨c, rfl, h.1⟩
    | succ i => simp at e; obtain ⟨cv, h1, h2⟩ := jQ.get h.2 e; exact ⟨cv, by simpa using h1, h2⟩
theorem jQ.drop {μ : Mu} : ∀ {l : List A} {cs : List Value} (n : Nat), jQ μ l cs → jQ μ (l.drop n) (cs.drop n)
  | _, _, 0, h => h
  | [], [], _ + 1, _ => trivial
  | _ :: _, _ :: _, n + 1, h => jQ.drop n h.2
theorem jQ.take {μ : Mu} : ∀ {l : List A} {cs : List Value} (n : Nat), jQ μ l cs → jQ μ (l.take n) (cs.take n)
  | _, _, 0, _ => by simp; trivial
  | [], [], _ + 1, _ => trivial
  | _ :: _, _ :: _, n + 1, h => ⟨h.1, jQ.take n h.2⟩
theorem jQ.append {μ : Mu} : ∀ {l m : List A} {cs ds : List Value}, jQ μ l cs → jQ μ m ds → jQ μ (l ++ m) (cs ++ ds)
  | [], _, [], _, _, k => k
  | _ :: _, _, _ :: _, _, h, k => ⟨h.1, jQ.append h.2 k⟩
theorem jQ.set {μ : Mu} {x : A} {cv : Value} (hx : oQ μ x cv) : ∀ {l : List A} {cs : List Value} (n : Nat), jQ μ l cs → jQ μ (l.set n x) (cs.set n cv)
  | [], [], _, _ => trivial
  | _ :: _, _ :: _, 0, h => ⟨hx, h.2⟩
  | _ :: _, _ :: _, n + 1, h => ⟨h.1, jQ.set hx n h.2⟩
theorem oQ.one {μ : Mu} {x : A} {cv : Value} (h : oQ μ x cv) : cv.oneCell' = true ∧ cv.cells = #[cv] := by
  cases x with
  | bool b => cases h; exact ⟨rfl, rfl⟩
  | int k n => cases h; exact ⟨rfl, rfl⟩
  | fl k b => obtain ⟨_, rfl, _⟩ := h; exact ⟨rfl, rfl⟩
  | cx k a b => obtain ⟨_, _, rfl, _⟩ := h; exact ⟨rfl, rfl⟩
  | ptr i o => obtain ⟨_, _, rfl⟩ := h; exact ⟨rfl, rfl⟩
  | sl i o n => obtain ⟨_, _, _, _, rfl, _⟩ := h; exact ⟨rfl, rfl⟩
  | nil => cases h; exact ⟨rfl, rfl⟩
  | sl0 => obtain ⟨_, rfl⟩ := h; exact ⟨rfl, rfl⟩
  | fn f => cases h; exact ⟨rfl, rfl⟩
  | ro i n => obtain ⟨_, _, ⟨_, rfl, _⟩ | ⟨_, rfl⟩⟩ := h <;> exact ⟨rfl, rfl⟩
  | dig v => obtain ⟨_, _, _, ⟨_, rfl⟩ | ⟨_, _, _, rfl, _⟩⟩ := h <;> exact ⟨rfl, rfl⟩
  | big v => obtain ⟨_, _, _, _, ⟨_, rfl⟩ | ⟨_, _, _, rfl, _⟩⟩ := h <;> exact ⟨rfl, rfl⟩
  | mp i => obtain ⟨_, _, rfl⟩ := h; exact ⟨rfl, rfl⟩
theorem YR {R : Type} {c : C} {i : Nat} {K : A → Option R} {r : R} (e : c.getK i K = some r) : ∃ x, c.get? i = some x ∧ K x = some r := by
  unfold C.get? C.getK at *
  cases c <;> simp only at * <;> first | (cases e; done) | (split at e <;> first | (cases e; done) | exact ⟨_, by simp [*], e⟩)
theorem OY {R : Type} {c : C} {r : R} : ∀ {n i : Nat} {K : List A → Option R}, c.getNK i n K = some r →
    ∃ l, K l = some r ∧ l.length = n ∧ ∀ j x, l[j]? = some x → c.get? (i + j) = some x
  | 0, i, K, e => ⟨[], e, rfl, fun j x h => by simp at h⟩
  | n + 1, i, K, e => by
    obtain ⟨x, h1, h2⟩ := YR e
    obtain ⟨l, h3, h4, h5⟩ := OY h2
    refine ⟨x :: l, h3, by simp [h4], fun j y hy => ?_⟩
    cases j with
    | zero => simp at hy; subst hy; exact h1
    | succ j => simp at hy; have := h5 j y hy; rwa [show i + (j + 1) = i + 1 + j by omega]
theorem yF {R : Type} {h : H} {i : Nat} {K : Bool → C → Option R} {r : R} (e : agR h i K = some r) : ∃ rw c, h[i]? = some (.at rw c) ∧ K rw c = some r := by
  unfold agR at e
  split at e
  · exact ⟨_, _, ‹_›, e⟩
  · cases e
section
variable {P : Program} {R : Type} {K : V → Option R} {r : R}
theorem anO {ty : Ty} (hty : tJ P ty) {t : TypeId} {x i : V} (e : ac5 ty t x i K = some r) :
    ∃ v, K v = some r ∧ ∀ (μ : Mu) (a b : Value), kK μ x a → kK μ i b → ∀ (w : World), Gives P (Instr.indexAt t a b) μ v w := by
  unfold ac5 at e
  split at e
  · rename_i ht
    split at e
    · rename_i I hI
      split at e
      · rename_i hlt
        simp only [decide_eq_true_eq] at hlt
        refine ⟨_, e, fun μ a b hx hi w => ?_⟩
        obtain ⟨_, _, d, rt⟩ := row hty ht
        have := lY rt.desc rfl
        subst this
        obtain ⟨_, _, _, rI⟩ := row hty hI
        cases mJ hi
        obtain ⟨m, ad, c, hm, rfl, _, _, had, _⟩ := hx
        have := had (.inl (by omega))
        subst this
        refine ⟨_, 0, ?_, ⟨m, hm, rfl⟩⟩
        simp [Instr.indexAt, asIntOf, run_underlying rt.under, hlt, rI.run_sizeOf, addr_add, World.drewN, Nat.add_assoc]
      · cases e
    · cases e
  · rename_i ht
    split at e
    · rename_i I hI
      split at e
      · rename_i hlt
        simp only [decide_eq_true_eq] at hlt
        refine ⟨_, e, fun μ a b hx hi w => ?_⟩
        obtain ⟨_, _, d, rt⟩ := row hty ht
        have := OX rt.desc rfl
        subst this
        obtain ⟨_, _, _, rI⟩ := row hty hI
        cases mJ hi
        obtain ⟨m, hm, rfl⟩ := hx
        refine ⟨_, 0, ?_, ⟨m, hm, rfl⟩⟩
        simp [Instr.indexAt, Instr.sureAddr, asIntOf, run_underlying rt.under, hlt, rI.run_sizeOf, addr_add, World.drewN, Nat.add_assoc]
      · cases e
    · cases e
  · rename_i ht
    split at e
    · rename_i I hI
      split at e
      · rename_i hlt
        simp only [decide_eq_true_eq] at hlt
        refine ⟨_, e, fun μ a b hx hi w => ?_⟩
        obtain ⟨_, _, d, rt⟩ := row hty ht
        have := lY rt.desc rfl
        subst this
        obtain ⟨_, _, _, rI⟩ := row hty hI
        cases mJ hi
        obtain ⟨m, hm, ⟨c, rfl, _, _⟩ | ⟨h0, _⟩⟩ := hx
        · refine ⟨_, 0, ?_, ⟨m, hm, rfl⟩⟩
          simp [Instr.indexAt, asIntOf, run_underlying rt.under, hlt, rI.run_sizeOf, addr_add, World.drewN, Nat.add_assoc]
        · omega
      · cases e
    · cases e
  · cases e
theorem anP {t : TypeId} {I : TyI} {i : TypeInfo} {z : Value} {d : TypeDesc} (hr : QT P t I i z d) {l : List A} {o : Nat} (e : awN I l o K = some r) :
    ∃ v, K v = some r ∧ ∀ (μ : Mu) (cs : List Value), jQ μ l cs → ∀ (w : World), Gives P (part t ⟨cs⟩ o) μ v w := by
  unfold awN at e
  split at e
  · rename_i ha
    refine ⟨_, e, fun μ cs h w => ⟨.agg ⟨(cs.drop o).take I.size⟩, 0, ?_, ⟨_, rfl, (h.drop o).take _⟩⟩⟩
    simp only [part, Sem.run_bind, hr.run_isAgg, Result.andThen, ha, if_true, hr.run_sizeOf]
    simp [World.drewN, List.extract_eq_take_drop]
  · rename_i ha
    split at e
    · rename_i x hx
      refine ⟨_, e, fun μ cs h w => ?_⟩
      obtain ⟨cv, h1, h2⟩ := h.get hx
      refine ⟨cv, 0, ?_, h2⟩
      simp only [part, Sem.run_bind, hr.run_isAgg, Result.andThen, ha]
      simp [h1, World.drewN]
    · cases e
theorem aNI {ty : Ty} (hty : tJ P ty) {t : TypeId} {x i : V} (e : aUS ty t x i K = some r) :
    ∃ v, K v = some r ∧ ∀ (μ : Mu) (a b : Value), kK μ x a → kK μ i b → ∀ (w : World), Gives P (Instr.index t a b) μ v w := by
  unfold aUS at e
  split at e
  · rename_i ht
    split at e
    · rename_i I hI
      split at e
      · rename_i hlt
        simp only [decide_eq_true_eq] at hlt
        obtain ⟨_, _, d, rt⟩ := row hty ht
        have := OX rt.desc rfl
        subst this
        obtain ⟨_, _, _, rI⟩ := row hty hI
        obtain ⟨v, h1, h2⟩ := anP rI e
        refine ⟨v, h1, fun μ a b hx hi w => ?_⟩
        cases mJ hi
        obtain ⟨cs, rfl, hc⟩ := hx
        obtain ⟨cv, n, h3, h4⟩ := h2 μ cs hc w
        refine ⟨cv, n, ?_, h4⟩
        simp [Instr.index, asIntOf, run_underlying rt.under, hlt, rI.run_sizeOf, h3]
      · cases e
    · cases e
  · cases e
theorem Z8 {ty : Ty} (hty : tJ P ty) {t : TypeId} {f o : Nat} {I : TyI} (e : ab4 ty t f = some (o, I)) :
    ∃ gs g i z d, P.underlying t = some (.struct gs) ∧ gs[f]? = some g ∧ g.offset = o ∧ QT P g.type I i z d := by
  unfold ab4 at e
  split at e
  · rename_i ht
    obtain ⟨_, _, d, rt⟩ := row hty ht
    obtain ⟨gs, rfl, hgs⟩ := Z7 rt.desc rfl
    split at e
    · rename_i o' e' hf
      simp only [Option.map_eq_some_iff] at e
      obtain ⟨J, hJ, hh⟩ := e
      cases hh
      obtain ⟨i, z, d', rI⟩ := row hty hJ
      rw [hgs] at hf
      simp only [List.getElem?_map, Option.map_eq_some_iff] at hf
      obtain ⟨g, hg, hgg⟩ := hf
      cases hgg
      exact ⟨gs, g, i, z, d', rt.under, by simpa using hg, rfl, rI⟩
    · cases e
  · cases e
def Agree (h h2 : H) : Prop := ∀ i, i < h.length → i < h2.length → h[i]? = h2[i]?
theorem Agree.refl (h : H) : Agree h h := fun _ _ _ => rfl
theorem aFF {ty : Ty} (hty : tJ P ty) {h : H} {t : TypeId} {x : V} (e : ZX ty h t x K = some r) :
    ∃ v, K v = some r ∧ ∀ (μ : Mu) (a : Value), kK μ x a → ∀ (w : World) (h2 : H), Agree h h2 → Rel μ h2 w → Gives P (Instr.loadAt t a) μ v w := by
  unfold ZX at e
  split at e
  · rename_i I i o ht
    obtain ⟨_, _, d, rt⟩ := row hty ht
    obtain ⟨rw, c, hb, e⟩ := yF e
    split at e
    · rename_i ha
      obtain ⟨l, h1, h2, h3⟩ := OY e
      refine ⟨_, h1, fun μ a hx w h2' ha2 hr => ?_⟩
      obtain ⟨m, hm, rfl⟩ := hx
      have hb : h2'[i]? = some (.at rw c) := (ha2 i (fD hb) (by rw [← hr.len]; exact fD hm)).symm.trans hb
      have key : ∀ (l' : List A) (k : Nat), (∀ j x, l'[j]? = some x → c.get? (o + (k + j)) = some x) →
          ∃ cs : List Value, jQ μ l' cs ∧ ∀ j v, cs[j]? = some v → w.cell? ((⟨m.blk, m.off + o, none⟩ : Addr).add (k + j)) = some v := by
        intro l'
        induction l' with
        | nil => exact fun k _ => ⟨[], trivial, fun j v h => by simp at h⟩
        | cons y l' ih =>
          intro k hk
          obtain ⟨cv, h4, h5⟩ := hr.cell i m rw c hm hb (o + (k + 0)) y (hk 0 y rfl)
          obtain ⟨cs, h6, h7⟩ := ih (k + 1) (fun j x hx => by have := hk (j + 1) x (by simpa using hx); rwa [show k + 1 + j = k + (j + 1) by omega])
          refine ⟨cv :: cs, ⟨h5, h6⟩, fun j v hv => ?_⟩
          cases j with
          | zero =>
            simp at hv
            subst hv
            rw [addr_add, Nat.add_assoc]
            exact h4
          | succ j =>
            simp at hv
            have := h7 j v hv
            rwa [show k + 1 + j = k + (j + 1) by omega] at this
      obtain ⟨cs, h4, h5⟩ := key l 0 (fun j x hx => by rw [Nat.zero_add]; exact h3 j x hx)
      refine ⟨.agg ⟨cs⟩, 0, ?_, ⟨cs, rfl, h4⟩⟩
      have hl : I.size = cs.length := by rw [h4.len, h2]
      have h6 := run_loadCells_list (P := P) w (⟨m.blk, m.off + o, none⟩ : Addr) cs (fun j v hv => by have := h5 j v hv; rwa [Nat.zero_add] at this)
      simp only [Instr.loadAt, Instr.sureAddr, Sem.run_bind, Sem.run_pure, Result.andThen, loadVar, rt.run_isAgg, ha, if_true, rt.run_sizeOf]
      rw [hl, h6]
      simp [World.drewN]
    · rename_i ha
      obtain ⟨y, h1, h2⟩ := YR e
      refine ⟨_, h2, fun μ a hx w h2' ha2 hr => ?_⟩
      obtain ⟨m, hm, rfl⟩ := hx
      have hb : h2'[i]? = some (.at rw c) := (ha2 i (fD hb) (by rw [← hr.len]; exact fD hm)).symm.trans hb
      obtain ⟨cv, h4, h5⟩ := hr.cell i m rw c hm hb o y h1
      refine ⟨cv, 0, ?_, h5⟩
      simp only [Instr.loadAt, Instr.sureAddr, Sem.run_bind, Sem.run_pure, Result.andThen, loadVar, rt.run_isAgg, ha]
      simp [load, Sem.run, h4, World.drewN]
  · cases e
theorem Z9 {ty : Ty} (hty : tJ P ty) {h : H} {t : TypeId} {x : V} (e : ZX ty h t x K = some r) :
    ∃ v, K v = some r ∧ ∀ (μ : Mu) (a : Value), kK μ x a → ∀ (w : World), Rel μ h w → ∃ cv, (do loadVar t (← asAddr a) : Sem Value).run P w = .ok cv w ∧ kK μ v cv := by
  unfold ZX at e
  split at e
  · rename_i I i o ht
    obtain ⟨_, _, d, rt⟩ := row hty ht
    obtain ⟨rw, c, hb, e⟩ := yF e
    split at e
    · rename_i ha
      obtain ⟨l, h1, h2, h3⟩ := OY e
      refine ⟨_, h1, fun μ a hx w hr => ?_⟩
      obtain ⟨m, hm, rfl⟩ := hx
      have key : ∀ (l' : List A) (k : Nat), (∀ j x, l'[j]? = some x → c.get? (o + (k + j)) = some x) →
          ∃ cs : List Value, jQ μ l' cs ∧ ∀ j v, cs[j]? = some v → w.cell? ((⟨m.blk, m.off + o, none⟩ : Addr).add (k + j)) = some v := by
        intro l'
        induction l' with
        | nil => exact fun k _ => ⟨[], trivial, fun j v h => by simp at h⟩
        | cons y l' ih =>
          intro k hk
          obtain ⟨cv, h4, h5⟩ := hr.cell i m rw c hm hb (o + (k + 0)) y (hk 0 y rfl)
          obtain ⟨cs, h6, h7⟩ := ih (k + 1) (fun j x hx => by have := hk (j + 1) x (by simpa using hx); rwa [show k + 1 + j = k + (j + 1) by omega])
          refine ⟨cv :: cs, ⟨h5, h6⟩, fun j v hv => ?_⟩
          cases j with
          | zero =>
            simp at hv
            subst hv
            rw [addr_add, Nat.add_assoc]
            exact h4
          | succ j =>
            simp at hv
            have := h7 j v hv
            rwa [show k + 1 + j = k + (j + 1) by omega] at this
      obtain ⟨cs, h4, h5⟩ := key l 0 (fun j x hx => by rw [Nat.zero_add]; exact h3 j x hx)
      refine ⟨.agg ⟨cs⟩, ?_, ⟨cs, rfl, h4⟩⟩
      have hl : I.size = cs.length := by rw [h4.len, h2]
      have h6 := run_loadCells_list (P := P) w (⟨m.blk, m.off + o, none⟩ : Addr) cs (fun j v hv => by have := h5 j v hv; rwa [Nat.zero_add] at this)
      simp only [asAddr, Sem.run_bind, Sem.run_pure, Result.andThen, loadVar, rt.run_isAgg, ha, if_true, rt.run_sizeOf]
      rw [hl, h6]
    · rename_i ha
      obtain ⟨y, h1, h2⟩ := YR e
      refine ⟨_, h2, fun μ a hx w hr => ?_⟩
      obtain ⟨m, hm, rfl⟩ := hx
      obtain ⟨cv, h4, h5⟩ := hr.cell i m rw c hm hb o y h1
      refine ⟨cv, ?_, h5⟩
      simp only [asAddr, Sem.run_bind, Sem.run_pure, Result.andThen, loadVar, rt.run_isAgg, ha]
      simp [load, Sem.run, h4]
  · cases e
theorem aNJ {ty : Ty} (hty : tJ P ty) {t : TypeId} {x : V} (e : aUT ty t x K = some r) :
    ∃ v, K v = some r ∧ ∀ (μ : Mu) (a : Value), kK μ x a → ∀ (w : World) (ts : List TypeId) (rt : TypeId), Gives P (Builtin.len_ ⟨t :: ts⟩ rt #[a]) μ v w := by
  unfold aUT at e
  split at e
  · rename_i ht
    obtain ⟨_, _, d, rt⟩ := row hty ht
    have := lY rt.desc rfl
    subst this
    refine ⟨_, e, fun μ a h w ts rt' => ?_⟩
    obtain ⟨m, ad, c, _, rfl, _⟩ := h
    exact ⟨_, 0, by simp [Builtin.len_, run_underlying rt.under, goInt, World.drewN], rfl⟩
  · rename_i ht
    obtain ⟨_, _, d, rt⟩ := row hty ht
    have := lY rt.desc rfl
    subst this
    refine ⟨_, e, fun μ a h w ts rt' => ?_⟩
    obtain ⟨m, _, ⟨c, rfl, _, _⟩ | ⟨rfl, rfl⟩⟩ := h
    · exact ⟨_, 0, by simp [Builtin.len_, run_underlying rt.under, goInt, World.drewN], rfl⟩
    · exact ⟨_, 0, by simp [Builtin.len_, run_underlying rt.under, goInt, World.drewN], rfl⟩
  · rename_i ht
    obtain ⟨_, _, d, rt⟩ := row hty ht
    have := lY rt.desc rfl
    subst this
    refine ⟨_, e, fun μ a h w ts rt' => ?_⟩
    obtain ⟨D, hD, rfl, hl, ⟨rfl, rfl⟩ | ⟨_, _, _, rfl, _⟩⟩ := h
    · rw [anH hD hl]
      exact ⟨_, 0, by simp [Builtin.len_, run_underlying rt.under, goInt, World.drewN], rfl⟩
    · rw [anH hD hl]
      exact ⟨_, 0, by simp [Builtin.len_, run_underlying rt.under, goInt, World.drewN], rfl⟩
  · rename_i ht
    obtain ⟨_, _, d, rt⟩ := row hty ht
    have := lY rt.desc rfl
    subst this
    refine ⟨_, e, fun μ a h w ts rt' => ?_⟩
    cases h
    exact ⟨_, 0, by simp [Builtin.len_, run_underlying rt.under, goInt, World.drewN], rfl⟩
  · rename_i ht
    obtain ⟨_, _, d, rt⟩ := row hty ht
    have := lY rt.desc rfl
    subst this
    refine ⟨_, e, fun μ a h w ts rt' => ?_⟩
    obtain ⟨ad, rfl⟩ := h
    exact ⟨_, 0, by simp [Builtin.len_, run_underlying rt.under, goInt, World.drewN], rfl⟩
  · cases e
theorem aFG {mx : Bool} {x y : V} (e : ai3 mx x y K = some r) :
    ∃ v, K v = some r ∧ ∀ (μ : Mu) (a b : Value), kK μ x a → kK μ y b → ∀ (w : World), Gives P (if mx then Builtin.max2 a b else Builtin.min2 a b) μ v w := by
  unfold ai3 at e
  split at e
  · split at e
    · rename_i hk; subst hk
      refine ⟨_, e, fun μ a b hx hy w => ?_⟩
      cases mJ hx; cases mJ hy
      cases mx
      · exact ⟨_, 0, rfl, rfl⟩
      · exact ⟨_, 0, rfl, rfl⟩
    · cases e
  · rename_i k a' k' b'
    split at e
    · rename_i hk; subst hk
      refine ⟨_, e, fun μ a b hx hy w => ?_⟩
      obtain ⟨x', rfl, rfl⟩ := I9 hx
      obtain ⟨y', rfl, rfl⟩ := I9 hy
      cases ho : k.format.order x' y' with
      | none =>
        refine ⟨.float k ((Question.nanMinMax k mx x' y').cut (w.tape w.drawn (.nanMinMax k mx x' y'))), 1, ?_, ⟨_, rfl, ?_⟩⟩
        · cases mx
          · simp only [Bool.false_eq_true, if_false, Builtin.min2, ho]; simp [choose, Sem.run]; rfl
          · simp only [if_true, Builtin.max2, ho]; simp [choose, Sem.run]; rfl
        · rw [oL (ab5 k _ _ (.inr (.inr ⟨mx, x', y', rfl⟩)))]
          cases mx <;> simp [aiZ, aE1, rV, ho]
      | some q =>
        have hx' : isN k x' = false := by
          cases hn : isN k x'
          · rfl
          · rw [pW (.inl hn)] at ho; cases ho
        have hy' : isN k y' = false := by
          cases hn : isN k y'
          · rfl
          · rw [pW (.inr hn)] at ho; cases ho
        rw [iV hx', iV hy']
        cases mx
        · refine ⟨.float k (aE1 k x' y'), 0, ?_, ⟨_, rfl, ?_⟩⟩
          · cases q <;> simp [Builtin.min2, ho, aE1, World.drewN]
          · unfold aE1; rw [ho]; cases q
            · exact iV hx'
            · simp only []; split; exact iV hx'; exact iV hy'
            · exact iV hy'
        · refine ⟨.float k (aiZ k x' y'), 0, ?_, ⟨_, rfl, ?_⟩⟩
          · cases q <;> simp [Builtin.max2, ho, aiZ, World.drewN]
          · unfold aiZ; rw [ho]; cases q
            · exact iV hy'
            · simp only []; split; exact iV hy'; exact iV hx'
            · exact iV hx'
    · cases e
  · cases e
theorem ac9 {mx : Bool} : ∀ {xs : List Operand} {t : List V} {x : V}, QR mx x (xs.map (ev t)) K = some r →
    ∃ v, K v = some r ∧ ∀ (ρ : Operand → Value) (μ : Mu) (a : Value), kK μ x a → (∀ o ∈ xs, kK μ (ev t o) (ρ o)) → ∀ (w : World), Gives P ((xs.map ρ).foldlM (if mx then Builtin.max2 else Builtin.min2) a) μ v w
  | [], t, x, e => ⟨_, e, fun ρ μ a h _ w => ⟨a, 0, rfl, h⟩⟩
  | y :: xs, t, x, e => by
    obtain ⟨z, h1, h2⟩ := aFG (P := P) e
    obtain ⟨v, h3, h4⟩ := ac9 h1
    refine ⟨v, h3, fun ρ μ a ha ho w => ?_⟩
    obtain ⟨c, n, h5, h6⟩ := h2 μ a (ρ y) ha (ho y (List.mem_cons_self ..)) w
    obtain ⟨c', n', h7, h8⟩ := h4 ρ μ c h6 (fun o hh => ho o (List.mem_cons_of_mem _ hh)) (w.drewN n)
    refine ⟨c', n + n', ?_, h8⟩
    simp only [List.map_cons, List.foldlM_cons, Sem.run_bind]
    have : (if mx = true then Builtin.max2 else Builtin.min2) a (ρ y) = if mx = true then Builtin.max2 a (ρ y) else Builtin.min2 a (ρ y) := by split <;> rfl
    rw [this, h5]
    simp only [Result.andThen]
    rw [h7, drewN_drewN]
end
section
variable {P : Program} {R : Type} {K : V → Option R} {r : R}
theorem qU (n : Int) (y : Nat) (code : BoundsCode) (k : IntKind) (w : World) (h : 0 ≤ n ∧ n ≤ y) : (Instr.sliceBound (.int k n) y code).run P w = .ok n.toNat w := by
  simp [Instr.sliceBound, asIntOf, h]
theorem az1 {ty : Ty} (hty : tJ P ty) {t : TypeId} {x : V} {lo hi mx : Option V} (e : arD ty t x lo hi mx K = some r) :
    ∃ v, K v = some r ∧ ∀ (μ : Mu) (a : Value) (lo' hi' mx' : Option Value), kK μ x a →
      (∀ u, lo = some u → ∃ b, lo' = some b ∧ kK μ u b) → (lo = none → lo' = none) →
      (∀ u, hi = some u → ∃ b, hi' = some b ∧ kK μ u b) → (hi = none → hi' = none) →
      (∀ u, mx = some u → ∃ b, mx' = some b ∧ kK μ u b) → (mx = none → mx' = none) →
      ∀ (w : World), Gives P (Instr.sliceAt t a lo' hi' mx') μ v w := by
  unfold arD at e
  split at e
  · rename_i el b o len ht
    obtain ⟨_, _, d, rt⟩ := row hty ht
    have := lY rt.desc rfl
    subst this
    split at e
    · rename_i I k l k' m hI hlo hhi
      obtain ⟨_, _, _, rI⟩ := row hty hI
      split at e
      · rename_i hb
        simp only [decide_eq_true_eq] at hb
        obtain ⟨b1, b2, b3⟩ := hb
        refine ⟨_, e, fun μ a lo' hi' mx' hx hl hl0 hh hh0 hm hm0 w => ?_⟩
        cases hm0 rfl
        obtain ⟨mm, ad, c, hmm, rfl, hc, hmax, had, hown⟩ := hx
        have run1 : (Instr.sliceBounds true len c lo' hi' none).run P w = .ok (l.toNat, m.toNat, c) w := by
          cases hi with
          | none =>
            cases hh0 rfl
            simp only [Option.getD_none] at hhi
            cases hhi
            cases lo with
            | none =>
              cases hl0 rfl
              simp only [Option.getD_none] at hlo
              cases hlo
              simp [Instr.sliceBounds]
            | some u =>
              simp only [Option.getD_some] at hlo
              subst hlo
              obtain ⟨bb, rfl, hr⟩ := hl _ rfl
              cases mJ hr
              have h1 := qU (P := P) l len .sliceB k w ⟨by omega, by omega⟩
              simp [Instr.sliceBounds, h1]
          | some u =>
            simp only [Option.getD_some] at hhi
            subst hhi
            obtain ⟨bb, rfl, hr⟩ := hh _ rfl
            cases mJ hr
            have h2 := qU (P := P) m c .sliceAcap k' w ⟨by omega, by omega⟩
            cases lo with
            | none =>
              cases hl0 rfl
              simp only [Option.getD_none] at hlo
              cases hlo
              simp [Instr.sliceBounds, h2]
            | some u =>
              simp only [Option.getD_some] at hlo
              subst hlo
              obtain ⟨bb, rfl, hr⟩ := hl _ rfl
              cases mJ hr
              have h1 := qU (P := P) l m.toNat .sliceB k w ⟨by omega, by omega⟩
              simp [Instr.sliceBounds, h2, h1]
        refine ⟨.slice (if c = l.toNat then some ad else some (ad.add (l.toNat * I.size))) (m.toNat - l.toNat) (c - l.toNat), 0, ?_, ?_⟩
        · simp only [Instr.sliceAt, Sem.run_bind, run_underlying rt.under, Result.andThen, Instr.slice, run1, rI.run_sizeOf]
          simp [World.drewN]
        · refine ⟨mm, if c = l.toNat then ad else ad.add (l.toNat * I.size), c - l.toNat, hmm, ?_, by omega, by omega, ?_, ?_⟩
          · rw [show (m - l).toNat = m.toNat - l.toNat by omega]
            split <;> rfl
          · intro h
            have hpos := rI.pos
            rcases h with h | h
            · have hne : ¬ c = l.toNat := by omega
              rw [if_neg hne, had (.inl (by omega)), addr_add, Nat.add_assoc]
            · have h1 : l.toNat * I.size = 0 := by omega
              have h2 : l.toNat = 0 := by
                rcases Nat.mul_eq_zero.1 h1 with h | h
                · exact h
                · omega
              have h3 : o = 0 := by omega
              subst h3
              rw [h2, Nat.zero_mul]
              have := had (.inr rfl)
              subst this
              split <;> simp [addr_add]
          · intro h how
            have hpos := rI.pos
            have h1 : l.toNat * I.size = 0 := by omega
            have h2 : l.toNat = 0 := by
              rcases Nat.mul_eq_zero.1 h1 with h | h
              · exact h
              · omega
            rw [h2]
            exact hown (by omega) how
      · cases e
    · cases e
  · rename_i el b len ht
    obtain ⟨_, _, d, rt⟩ := row hty ht
    have := lY rt.desc rfl
    subst this
    split at e
    · rename_i I k m hI
      obtain ⟨_, _, _, rI⟩ := row hty hI
      split at e
      · rename_i hb
        simp only [decide_eq_true_eq] at hb
        refine ⟨_, e, fun μ a lo' hi' mx' hx hl hl0 hh hh0 hm hm0 w => ?_⟩
        cases hm0 rfl
        cases hl0 rfl
        obtain ⟨bb, rfl, hr⟩ := hh _ rfl
        cases mJ hr
        obtain ⟨mm, hmm, ⟨c, rfl, hc, hmax⟩ | ⟨rfl, rfl⟩⟩ := hx
        · have h2 := qU (P := P) m c .sliceAcap k w ⟨by omega, by omega⟩
          refine ⟨.slice (some ⟨mm.blk, mm.off, none⟩) m.toNat c, 0, ?_, ⟨mm, hmm, .inl ⟨c, rfl, by omega, hmax⟩⟩⟩
          simp only [Instr.sliceAt, Sem.run_bind, run_underlying rt.under, Result.andThen, Instr.slice]
          simp [Instr.sliceBounds, h2, rI.run_sizeOf, World.drewN, addr_add]
        · have h2 := qU (P := P) m 0 .sliceAcap k w ⟨by omega, by omega⟩
          refine ⟨.slice none 0 0, 0, ?_, ⟨mm, hmm, .inr ⟨by omega, rfl⟩⟩⟩
          have : m = 0 := by omega
          subst this
          simp only [Instr.sliceAt, Sem.run_bind, run_underlying rt.under, Result.andThen, Instr.slice]
          simp [Instr.sliceBounds, h2, rI.run_sizeOf, World.drewN]
      · cases e
    · cases e
  · rename_i el b o len k m ht
    obtain ⟨_, _, d, rt⟩ := row hty ht
    have := lY rt.desc rfl
    subst this
    split at e
    · rename_i I k' q hI
      split at e
      · rename_i hb
        simp only [decide_eq_true_eq] at hb
        obtain ⟨rfl, rfl⟩ := hb
        obtain ⟨_, _, _, rI⟩ := row hty hI
        refine ⟨_, e, fun μ a lo' hi' mx' hx hl hl0 hh hh0 hm hm0 w => ?_⟩
        cases hl0 rfl
        obtain ⟨b1, rfl, hr1⟩ := hh _ rfl
        obtain ⟨b2, rfl, hr2⟩ := hm _ rfl
        cases mJ hr1
        cases mJ hr2
        obtain ⟨mm, ad, c, hmm, rfl, hc, hmax, had, hown⟩ := hx
        have h1 := qU (P := P) 0 c .slice3Acap k w ⟨by omega, by omega⟩
        have h2 := qU (P := P) 0 0 .slice3B k' w ⟨by omega, by omega⟩
        refine ⟨.slice (some ad) 0 0, 0, ?_, ⟨ad, rfl⟩⟩
        simp only [Instr.sliceAt, Sem.run_bind, run_underlying rt.under, Result.andThen, Instr.slice]
        simp [Instr.sliceBounds, h1, h2, rI.run_sizeOf, World.drewN]
      · cases e
    · cases e
  · rename_i el k m ht
    obtain ⟨_, _, d, rt⟩ := row hty ht
    have := lY rt.desc rfl
    subst this
    split at e
    · rename_i I k' q hI
      split at e
      · rename_i hb
        simp only [decide_eq_true_eq] at hb
        obtain ⟨rfl, rfl⟩ := hb
        obtain ⟨_, _, _, rI⟩ := row hty hI
        refine ⟨_, e, fun μ a lo' hi' mx' hx hl hl0 hh hh0 hm hm0 w => ?_⟩
        cases hl0 rfl
        obtain ⟨b1, rfl, hr1⟩ := hh _ rfl
        obtain ⟨b2, rfl, hr2⟩ := hm _ rfl
        cases mJ hr1
        cases mJ hr2
        cases hx
        have h1 := qU (P := P) 0 0 .slice3Acap k w ⟨by omega, by omega⟩
        have h2 := qU (P := P) 0 0 .slice3B k' w ⟨by omega, by omega⟩
        refine ⟨.slice none 0 0, 0, ?_, rfl⟩
        simp only [Instr.sliceAt, Sem.run_bind, run_underlying rt.under, Result.andThen, Instr.slice]
        simp [Instr.sliceBounds, h1, h2, rI.run_sizeOf, World.drewN]
      · cases e
    · cases e
  · cases e
end
theorem agX (off : Nat) : ∀ (cs : List Value) (j : Nat) (cells : Array Value), off + j + cs.length ≤ cells.size →
    ((cs.zipIdx j).foldl (fun (acc : Array Value) (p : Value × Nat) => acc.setIfInBounds (off + p.2) p.1) cells).toList =
      cells.toList.take (off + j) ++ cs ++ cells.toList.drop (off + j + cs.length)
  | [], j, cells, _ => by simp
  | c :: cs, j, cells, h => by
    simp only [List.length_cons] at h
    simp only [List.zipIdx_cons, List.foldl_cons]
    rw [agX off cs (j + 1) _ (by simp; omega)]
    simp only [Array.toList_setIfInBounds, List.length_cons]
    have h1 : off + (j + 1) = off + j + 1 := by omega
    have h2 : off + j + 1 + cs.length = off + j + (cs.length + 1) := by omega
    rw [h1, h2, List.take_set, List.drop_set_of_lt (by omega)]
    have hlt : off + j < cells.toList.length := by simp; omega
    rw [List.take_succ_eq_append_getElem hlt, List.set_append_right _ _ (by simp; omega), List.length_take, Nat.min_eq_left (by omega), Nat.sub_self]
    simp
theorem JA {μ : Mu} {place place' : Nat → Option (Nat × Nat)} (hpl : ∀ i p, place i = some p → place' i = some p) : ∀ {ps : List (Nat × V)} {qs : List (Nat × Value)} {cells l : List A} {cs : List Value},
    OG place cells ps = some l → jQ μ cells cs → ps.map (·.1) = qs.map (·.1) → uX μ (ps.map (·.2)) (qs.map (·.2)) →
    ∃ cs', Instr.fill place' ⟨cs⟩ qs = some ⟨cs'⟩ ∧ jQ μ l cs'
  | [], [], cells, l, cs, e, h, _, _ => by cases e; exact ⟨cs, rfl, h⟩
  | (i, v) :: ps, (i', cv) :: qs, cells, l, cs, e, h, hi, hv => by
    simp only [List.map_cons, List.cons.injEq] at hi
    obtain ⟨rfl, hi⟩ := hi
    obtain ⟨hv1, hv2⟩ := hv
    simp only [OG] at e
    split at e
    · rename_i off x hp
      split at e
      · rename_i hlt
        have ha : oQ μ x cv := hv1
        have hc := ha.one.2
        obtain ⟨cs', h1, h2⟩ := JA hpl (qs := qs) e (h.set ha off) hi hv2
        refine ⟨cs', ?_, h2⟩
        have hl := h.len
        simp only [Instr.fill, hpl _ _ hp, hc]
        simp only [List.size_toArray, List.length_cons, List.length_nil, Nat.zero_add, ne_eq, not_true, decide_false, Bool.false_or]
        rw [if_neg (by simp; omega)]
        rw [← h1]
        simp
      · cases e
    · rename_i off n m hp
      split at e
      · rename_i hlt
        obtain ⟨ds, rfl, hd⟩ := hv1
        have hl := h.len
        have hdl := hd.len
        obtain ⟨h3, h4⟩ := hlt
        obtain ⟨cs', h1, h2⟩ := JA hpl (qs := qs) e (((h.take off).append hd).append (h.drop (off + n))) hi hv2
        refine ⟨cs', ?_, h2⟩
        have hcond : (decide ((Value.agg ⟨ds⟩).cells.size ≠ n) || decide (off + (Value.agg ⟨ds⟩).cells.size > (⟨cs⟩ : Array Value).size)) = false := by
          show (decide (ds.length ≠ n) || decide (off + ds.length > cs.length)) = false
          simp; omega
        simp only [Instr.fill, hpl _ _ hp]
        rw [hcond]
        simp only [Bool.false_eq_true, if_false]
        rw [← h1]
        congr 1
        apply Array.toList_inj.1
        have := agX off ds 0 ⟨cs⟩ (by simp; omega)
        simp only [Nat.add_zero] at this
        rw [show off + n = off + ds.length by omega]
        have hcells : (Value.agg ⟨ds⟩).cells = ⟨ds⟩ := rfl
        rw [hcells]
        simpa using this
      · cases e
    · cases e
  | [], _ :: _, _, _, _, _, _, hi, _ => by simp at hi
  | _ :: _, [], _, _, _, _, _, hi, _ => by simp at hi
section
variable {P : Program} {R : Type} {K : V → Option R} {r : R}
theorem adA {ty : Ty} (hty : tJ P ty) : ∀ (gs : List Field) (w : World), (∀ g ∈ gs, ∃ I, ty g.type = some I) →
    ∃ ps : List (Nat × Nat), (gs.mapM fun (f : Field) => do pure (f.offset, ← sizeOf f.type)).run P w = .ok ps w ∧ ps.length = gs.length ∧
      ∀ (i : Nat) (g : Field) (I : TyI), gs[i]? = some g → ty g.type = some I → ps[i]? = some (g.offset, I.size)
  | [], w, _ => ⟨[], by simp, rfl, fun i g I h => by simp at h⟩
  | g :: gs, w, h => by
    obtain ⟨I, hI⟩ := h g (List.mem_cons_self ..)
    obtain ⟨_, _, _, rI⟩ := row hty hI
    obtain ⟨ps, h1, h2, h3⟩ := adA hty gs w (fun g hg => h g (List.mem_cons_of_mem _ hg))
    refine ⟨(g.offset, I.size) :: ps, ?_, by simp [h2], fun i g' I' hi hI' => ?_⟩
    · simp only [List.mapM_cons, Sem.run_bind, rI.run_sizeOf, Result.andThen, Sem.run_pure, h1]
    · cases i with
      | zero => simp at hi; subst hi; rw [hI] at hI'; cases hI'; rfl
      | succ i => simp at hi; simpa using h3 i g' I' hi hI'
theorem JB {μ : Mu} {t : List V} {ρ : Operand → Value} : ∀ {xs : List Operand}, (∀ o ∈ xs, kK μ (ev t o) (ρ o)) → uX μ (xs.map (ev t)) (xs.map ρ)
  | [], _ => trivial
  | x :: xs, h => ⟨h x (List.mem_cons_self ..), JB fun o ho => h o (List.mem_cons_of_mem _ ho)⟩
theorem az2 {ty : Ty} (hty : tJ P ty) {t : List V} {h : H} {bt : TypeId} {parts : Array (Nat × Operand)} (e : uB ty t h (.build bt parts) K = some r) :
    ∃ v, K v = some r ∧ ∀ (μ : Mu) (ρ : Operand → Value), (∀ o ∈ parts.toList.map (·.2), kK μ (ev t o) (ρ o)) → ∀ (w : World), Gives P (Instr.build bt (parts.map fun (i, x) => (i, ρ x))) μ v w := by
  have toParts : ∀ ρ : Operand → Value, (parts.map fun (i, x) => (i, ρ x)).toList = parts.toList.map fun p => (p.1, ρ p.2) := fun ρ => by simp
  simp only [uB] at e
  split at e
  · rename_i zero fs ht
    obtain ⟨_, z, d, rt⟩ := row hty ht
    obtain ⟨gs, rfl, hgs⟩ := Z7 rt.desc rfl
    split at e
    · cases e
    · rename_i hall
      split at e
      · rename_i l hl
        refine ⟨_, e, fun μ ρ ho w => ?_⟩
        have hall' : ∀ g ∈ gs.toList, ∃ I, ty g.type = some I := by
          intro g hg
          rw [List.all_eq_true] at hall
          have := hall (g.offset, g.type) (by rw [hgs]; exact List.mem_map.2 ⟨g, hg, rfl⟩)
          exact Option.isSome_iff_exists.1 this
        obtain ⟨ps, h3, h4, h5⟩ := adA hty gs.toList w hall'
        have hpl : ∀ i p, placeOf ty fs i = some p → ps[i]? = some p := by
          intro i p hp
          unfold placeOf at hp
          split at hp
          · rename_i o e' hf
            split at hp
            · rename_i I hI
              cases hp
              rw [hgs] at hf
              simp only [List.getElem?_map, Option.map_eq_some_iff] at hf
              obtain ⟨g, hg, hgg⟩ := hf
              cases hgg
              exact h5 i g I (by simpa using hg) hI
            · cases hp
          · cases hp
        obtain ⟨cs, h1, h2⟩ := JA (place' := fun i => ps[i]?) hpl (μ := μ) (qs := parts.toList.map fun p => (p.1, ρ p.2)) hl (rt.rep μ) (by simp) (by
          have := JB ho
          simp only [List.map_map] at this ⊢
          exact this)
        refine ⟨.agg ⟨cs⟩, 0, ?_, ⟨cs, rfl, h2⟩⟩
        simp only [Instr.build, Sem.run_bind, rt.run_zero, Result.andThen, run_underlying rt.under, Array.mapM_eq_mapM_toList, Sem.run_map, h3]
        rw [toParts]
        have h1' : Instr.fill (fun x => ps[x]?) z.cells (parts.toList.map fun p => (p.1, ρ p.2)) = some ⟨cs⟩ := h1
        simp [h1', World.drewN]
      · cases e
  · rename_i zero n el ht
    obtain ⟨_, z, d, rt⟩ := row hty ht
    have := OX rt.desc rfl
    subst this
    split at e
    · rename_i I hI
      obtain ⟨_, _, _, rI⟩ := row hty hI
      split at e
      · rename_i l hl
        refine ⟨_, e, fun μ ρ ho w => ?_⟩
        obtain ⟨cs, h1, h2⟩ := JA (fun _ _ h => h) (μ := μ) (qs := parts.toList.map fun p => (p.1, ρ p.2)) hl (rt.rep μ) (by simp) (by
          have := JB ho
          simp only [List.map_map] at this ⊢
          exact this)
        refine ⟨.agg ⟨cs⟩, 0, ?_, ⟨cs, rfl, h2⟩⟩
        simp only [Instr.build, Sem.run_bind, rt.run_zero, Result.andThen, run_underlying rt.under, rI.run_sizeOf]
        rw [toParts]
        simp [h1, World.drewN]
      · cases e
    · cases e
  · cases e
end
section
variable {P : Program} {R : Type} {K : V → Option R} {r : R}
def YS (P : Program) (s : Sem Next) (μ : Mu) (v : V) (w : World) : Prop := ∃ cv n, s.run P w = .ok (.value cv) (w.drewN n) ∧ kK μ v cv
theorem Gives.next {s : Sem Value} {μ : Mu} {v : V} {w : World} (h : Gives P s μ v w) : YS P (do pure (Next.value (← s)) : Sem Next) μ v w := by
  obtain ⟨cv, n, h1, h2⟩ := h
  exact ⟨cv, n, by simp [h1], h2⟩
theorem YS.ofRep {μ : Mu} {v : V} {cv : Value} (h : kK μ v cv) (w : World) : YS P (Pure.pure (Next.value cv)) μ v w := ⟨cv, 0, rfl, h⟩
theorem anQ {μ : Mu} {v : Value} {x : A} (h : aE3 v = some x) : oQ μ x v := by
  unfold aE3 at h
  split at h <;> cases h
  · rfl
  · rfl
  · exact ⟨_, rfl, rfl⟩
  · exact ⟨_, _, rfl, rfl, rfl⟩
  · rfl
  · rfl
theorem agY {μ : Mu} : ∀ {vs : List Value} {l : List A}, nN aE3 vs = some l → jQ μ l vs
  | [], l, e => by cases e; trivial
  | v :: vs, l, e => by
    obtain ⟨y, m, h1, h2, rfl⟩ := nV e
    exact ⟨anQ h1, agY h2⟩
theorem anR (μ : Mu) (v : Value) : kK μ (aUQ v) v := by
  unfold aUQ
  split
  · split
    · exact ⟨_, rfl, agY ‹_›⟩
    · trivial
  · split
    · exact anQ ‹_›
    · trivial
def OI (μ : Mu) (t : List V) (a : Act) : Prop := a.tmps.size = t.length ∧ ∀ i, kK μ (nth t i) (a.tmps.getD i undef)
theorem ajB {μ : Mu} {t : List V} {a : Act} (h : OI μ t a) (x : Operand) : kK μ (ev t x) (a.eval x) := by
  cases x with
  | tmp n => exact h.2 n
  | const v => exact anR μ v
  | global g => trivial
  | func f => exact rfl
set_option maxHeartbeats 1000000 in
theorem az3 {ty : Ty} (hty : tJ P ty) {t : List V} {h : H} {o : Oper} {op : Op} (ho : o.op = op) (e : uB ty t h op K = some r) :
    ∃ v, K v = some r ∧ ∀ (μ : Mu) (ρ : Operand → Value), (∀ x ∈ op.operands.toList, kK μ (ev t x) (ρ x)) → ∀ (w : World) (h2 : H), Agree h h2 → Rel μ h2 w → YS P (execOp ρ o) μ v w := by
  have E : ∀ ρ, execOp ρ o = execOp ρ { o with op := op } := fun ρ => by rw [← ho]
  simp only [E]
  clear E
  unfold uB at e
  split at e
  · exact ⟨_, e, fun μ ρ hρ w h2' ha2 hr => YS.ofRep (hρ _ (by simp [Op.operands])) w⟩
  · exact ⟨_, e, fun μ ρ hρ w h2' ha2 hr => YS.ofRep (hρ _ (by simp [Op.operands])) w⟩
  · -- pick
    rename_i c a b
    split at e
    · rename_i p hc
      split at e
      · refine ⟨_, e, fun μ ρ hρ w h2' ha2 hr => ?_⟩
        have h1 := hρ c (by simp [Op.operands])
        rw [hc] at h1
        have h2 := oH h1
        refine ⟨ρ a, 0, ?_, hρ a (by simp [Op.operands])⟩
        simp [execOp, h2, asBool, World.drewN]
      · refine ⟨_, e, fun μ ρ hρ w h2' ha2 hr => ?_⟩
        have h1 := hρ c (by simp [Op.operands])
        rw [hc] at h1
        have h2 := oH h1
        refine ⟨ρ b, 0, ?_, hρ b (by simp [Op.operands])⟩
        simp [execOp, h2, asBool, World.drewN]
    · cases e
  · -- binOp
    obtain ⟨v, h1, h2⟩ := aNG hty e
    exact ⟨v, h1, fun μ ρ hρ w h2' ha2 hr => (h2 μ _ _ (hρ _ (by simp [Op.operands])) (hρ _ (by simp [Op.operands])) w _ _).next⟩
  · obtain ⟨v, h1, h2⟩ := aUW (P := P) e
    exact ⟨v, h1, fun μ ρ hρ w h2' ha2 hr => (h2 μ _ (hρ _ (by simp [Op.operands])) w).next⟩
  · obtain ⟨v, h1, h2⟩ := aFE hty e
    exact ⟨v, h1, fun μ ρ hρ w h2' ha2 hr => (h2 μ _ (hρ _ (by simp [Op.operands])) w).next⟩
  · -- extract
    rename_i x i
    split at e
    · rename_i l hx
      split at e
      · rename_i u hu
        refine ⟨_, e, fun μ ρ hρ w h2' ha2 hr => ?_⟩
        have h1 := hρ x (by simp [Op.operands])
        rw [hx] at h1
        obtain ⟨cs, h2, h3⟩ := h1
        have key : ∀ {l : List U} {cs : List Value}, IW μ l cs → ∀ {i : Nat} {u : U}, l[i]? = some u → ∃ cv, cs[i]? = some cv ∧ YO μ u cv := by
          intro l
          induction l with
          | nil => intro cs _ i u h; simp at h
          | cons y l ih =>
            intro cs h i u hu
            cases cs with
            | nil => exact h.elim
            | cons c cs =>
              cases i with
              | zero => simp at hu; subst hu; exact ⟨c, rfl, h.1⟩
              | succ i => simp at hu; obtain ⟨cv, h4, h5⟩ := ih h.2 hu; exact ⟨cv, by simpa using h4, h5⟩
        obtain ⟨cv, h4, h5⟩ := key h3 hu
        refine ⟨cv, 0, ?_, h5⟩
        simp [execOp, h2, Instr.extract, h4, World.drewN]
      · cases e
    · cases e
  · -- field
    rename_i xt x f
    split at e
    · rename_i l oo I hx hf
      obtain ⟨gs, g, i, z, d, hu, hg, hgo, rI⟩ := Z8 hty hf
      obtain ⟨v, h1, h2⟩ := anP rI e
      refine ⟨v, h1, fun μ ρ hρ w h2' ha2 hr => ?_⟩
      have h3 := hρ x (by simp [Op.operands])
      rw [hx] at h3
      obtain ⟨cs, h4, h5⟩ := h3
      obtain ⟨cv, n, h6, h7⟩ := h2 μ cs h5 w
      refine ⟨cv, n, ?_, h7⟩
      simp [execOp, h4, Instr.field, run_underlying hu, hg, asAgg, hgo, h6]
    · cases e
  · obtain ⟨v, h1, h2⟩ := aNI hty e
    exact ⟨v, h1, fun μ ρ hρ w h2' ha2 hr => (h2 μ _ _ (hρ _ (by simp [Op.operands])) (hρ _ (by simp [Op.operands])) w).next⟩
  · -- fieldAddr
    rename_i s x f
    split at e
    · rename_i bi oo p I hx hf
      split at e
      · cases e
      · rename_i hsz
        obtain ⟨gs, g, i, z, d, hu, hg, hgo, rI⟩ := Z8 hty hf
        refine ⟨_, e, fun μ ρ hρ w h2' ha2 hr => ?_⟩
        have h3 := hρ x (by simp [Op.operands])
        rw [hx] at h3
        obtain ⟨m, hm, h4⟩ := h3
        refine ⟨.pointer (some ⟨m.blk, m.off + oo + p, none⟩), 0, ?_, ⟨m, hm, by rw [Nat.add_assoc]⟩⟩
        have hpos := rI.pos
        have hne : ¬ I.size = 0 := by omega
        simp [execOp, h4, Instr.fieldAt, Instr.sureAddr, run_underlying hu, hg, fieldPlace, rI.run_sizeOf, hne, addr_add, hgo, World.drewN]
    · cases e
  · obtain ⟨v, h1, h2⟩ := anO hty e
    exact ⟨v, h1, fun μ ρ hρ w h2' ha2 hr => (h2 μ _ _ (hρ _ (by simp [Op.operands])) (hρ _ (by simp [Op.operands])) w).next⟩
  · obtain ⟨v, h1, h2⟩ := aFF hty e
    exact ⟨v, h1, fun μ ρ hρ w h2' ha2 hr => (h2 μ _ (hρ _ (by simp [Op.operands])) w h2' ha2 hr).next⟩
  · -- nilCheck
    rename_i x
    split at e
    · rename_i bi oo hx
      refine ⟨_, e, fun μ ρ hρ w h2' ha2 hr => ?_⟩
      have h3 := hρ x (by simp [Op.operands])
      rw [hx] at h3
      obtain ⟨m, hm, h4⟩ := h3
      refine ⟨ρ x, 0, ?_, ⟨m, hm, h4⟩⟩
      simp [execOp, h4, World.drewN]
    · cases e
  · -- slice
    rename_i xt x lo hi mx
    obtain ⟨v, h1, h2⟩ := az1 hty e
    refine ⟨v, h1, fun μ ρ hρ w h2' ha2 hr => Gives.next (h2 μ _ (lo.map ρ) (hi.map ρ) (mx.map ρ) (hρ _ (by simp [Op.operands])) ?_ ?_ ?_ ?_ ?_ ?_ w)⟩
    · intro u hu; simp only [Option.map_eq_some_iff] at hu; obtain ⟨q, rfl, rfl⟩ := hu; exact ⟨_, rfl, hρ _ (by simp [Op.operands])⟩
    · intro hu; cases lo with | none => rfl | some _ => cases hu
    · intro u hu; simp only [Option.map_eq_some_iff] at hu; obtain ⟨q, rfl, rfl⟩ := hu; exact ⟨_, rfl, hρ _ (by simp [Op.operands])⟩
    · intro hu; cases hi with | none => rfl | some _ => cases hu
    · intro u hu; simp only [Option.map_eq_some_iff] at hu; obtain ⟨q, rfl, rfl⟩ := hu; exact ⟨_, rfl, hρ _ (by simp [Op.operands])⟩
    · intro hu; cases mx with | none => rfl | some _ => cases hu
  · -- build
    obtain ⟨v, h1, h2⟩ := az2 (h := h) hty (t := t) (K := K) (by unfold uB; exact e)
    exact ⟨v, h1, fun μ ρ hρ w h2' ha2 hr => (h2 μ ρ (fun x hx => hρ x (by simpa [Op.operands] using hx)) w).next⟩
  · -- makeFunc
    exact ⟨_, e, fun μ ρ hρ w h2' ha2 hr => ⟨_, 0, rfl, by show Value.func _ _ _ = _; simp⟩⟩
  · -- len
    rename_i x lt ts
    obtain ⟨v, h1, h2⟩ := aNJ hty e
    refine ⟨v, h1, fun μ ρ hρ w h2' ha2 hr => ?_⟩
    have h3 := h2 μ _ (hρ x (by simp [Op.operands, Call.operands])) w ts o.type
    simp only [BigFrame.execOp_builtin, BigFrame.builtin_len, List.map_toArray, List.map_cons, List.map_nil]
    exact h3.next
  · -- max
    rename_i x xs ts
    obtain ⟨v, h1, h2⟩ := ac9 (mx := true) (P := P) e
    refine ⟨v, h1, fun μ ρ hρ w h2' ha2 hr => ?_⟩
    have h3 := h2 ρ μ _ (hρ x (by simp [Op.operands, Call.operands])) (fun o ho => hρ o (by simp [Op.operands, Call.operands, ho])) w
    simp only [BigFrame.execOp_builtin, BigFrame.builtin_max]
    refine Gives.next ?_
    simpa [Builtin.max_] using h3
  · -- min
    rename_i x xs ts
    obtain ⟨v, h1, h2⟩ := ac9 (mx := false) (P := P) e
    refine ⟨v, h1, fun μ ρ hρ w h2' ha2 hr => ?_⟩
    have h3 := h2 ρ μ _ (hρ x (by simp [Op.operands, Call.operands])) (fun o ho => hρ o (by simp [Op.operands, Call.operands, ho])) w
    simp only [BigFrame.execOp_builtin, BigFrame.builtin_min]
    refine Gives.next ?_
    simpa [Builtin.min_] using h3
  · -- complex
    rename_i x y ts
    split at e
    · rename_i k a k' b hx hy
      split at e
      · rename_i hk; subst hk
        refine ⟨_, e, fun μ ρ hρ w h2' ha2 hr => ?_⟩
        have h1 := hρ x (by simp [Op.operands, Call.operands])
        have h2 := hρ y (by simp [Op.operands, Call.operands])
        rw [hx] at h1
        rw [hy] at h2
        obtain ⟨x', h3, rfl⟩ := I9 h1
        obtain ⟨y', h4, rfl⟩ := I9 h2
        simp only [BigFrame.execOp_builtin, BigFrame.builtin_complex, List.map_toArray, List.map_cons, List.map_nil]
        rw [h3, h4]
        exact Gives.next (v := .cx k (canon k x') (canon k y')) ⟨_, 0, run_complex w ts o.type k x' y', ⟨x', y', rfl, rfl, rfl⟩⟩
      · cases e
    · cases e
  · -- real
    rename_i x ts
    split at e
    · rename_i k a b hx
      refine ⟨_, e, fun μ ρ hρ w h2' ha2 hr => ?_⟩
      have h1 := hρ x (by simp [Op.operands, Call.operands])
      rw [hx] at h1
      obtain ⟨x', y', h3, rfl, rfl⟩ := IX h1
      simp only [BigFrame.execOp_builtin, BigFrame.builtin_real, List.map_toArray, List.map_cons, List.map_nil]
      rw [h3]
      exact Gives.next (v := .fl k (canon k x')) ⟨_, 0, run_real w ts o.type k x' y', ⟨x', rfl, rfl⟩⟩
    · cases e
  · -- imag
    rename_i x ts
    split at e
    · rename_i k a b hx
      refine ⟨_, e, fun μ ρ hρ w h2' ha2 hr => ?_⟩
      have h1 := hρ x (by simp [Op.operands, Call.operands])
      rw [hx] at h1
      obtain ⟨x', y', h3, rfl, rfl⟩ := IX h1
      simp only [BigFrame.execOp_builtin, BigFrame.builtin_imag, List.map_toArray, List.map_cons, List.map_nil]
      rw [h3]
      exact Gives.next (v := .fl k (canon k y')) ⟨_, 0, run_imag w ts o.type k x' y', ⟨y', rfl, rfl⟩⟩
    · cases e
  · cases e
end
structure Ev (μ : Mu) (h : H) (w : World) (μ' : Mu) (h' : H) (w' : World) : Prop where
  rel : Rel μ' h' w'
  pre : Pre μ μ'
  fr : Fr (Wr μ h) w w'
  old : ∀ (j : Nat) (rw : Bool) (c : C), j < μ.l.length → h'[j]? = some (.at rw c) → ∃ d, h[j]? = some (.at rw d) ∧ (c.live rw → d.live rw)
  new : ∀ (i : Nat) (m : M) (rw : Bool) (c : C), μ.l.length ≤ i → μ'.l[i]? = some m → h'[i]? = some (.at rw c) → rw = true ∧ (Wr μ h m.blk ∨ w.heap.size ≤ m.blk)
  zn : ∀ (k : Nat) (cur : Array Value), μ'.z k = some cur → μ.z k = some cur ∨ Wr μ h k ∨ w.heap.size ≤ k
theorem Pre.len {a b : Mu} (h : Pre a b) : a.l.length ≤ b.l.length := by obtain ⟨_, x, hx⟩ := h; rw [hx]; simp
theorem Pre.back {a b : Mu} (h : Pre a b) {i : Nat} {m : M} (hi : i < a.l.length) (e : b.l[i]? = some m) : a.l[i]? = some m := by
  obtain ⟨_, x, hx⟩ := h
  rwa [hx, List.getElem?_append_left hi] at e
theorem Ev.wr {μ μ' : Mu} {h h' : H} {w w' : World} (e : Ev μ h w μ' h' w') {k : Nat} (hk : Wr μ' h' k) : Wr μ h k ∨ w.heap.size ≤ k := by
  obtain ⟨i, m, c, h1, h2, rfl⟩ := hk
  by_cases hi : i < μ.l.length
  · obtain ⟨d, hd, _⟩ := e.old i true c hi h2
    exact .inl ⟨i, m, d, e.pre.back hi h1, hd, rfl⟩
  · exact (e.new i m true c (by omega) h1 h2).2
theorem Ev.refl {μ : Mu} {h : H} {w : World} (r : Rel μ h w) : Ev μ h w μ h w :=
  ⟨r, .refl μ, .refl _ w, fun j rw c _ hj => ⟨c, hj, id⟩, fun i m rw c hi hm _ => absurd (fD hm) (by omega), fun _ _ h => .inl h⟩
theorem Ev.trans {μ μ1 μ2 : Mu} {h h1 h2 : H} {w w1 w2 : World} (e : Ev μ h w μ1 h1 w1) (f : Ev μ1 h1 w1 μ2 h2 w2) : Ev μ h w μ2 h2 w2 where
  rel := f.rel
  pre := e.pre.trans f.pre
  fr := e.fr.trans f.fr fun _ hk => e.wr hk
  old j rw c hj hb := by
    obtain ⟨d, hd, hl⟩ := f.old j rw c (Nat.lt_of_lt_of_le hj e.pre.len) hb
    obtain ⟨d', hd', hl'⟩ := e.old j rw d hj hd
    exact ⟨d', hd', fun h => hl' (hl h)⟩
  new i m rw c hi hm hb := by
    by_cases hlt : i < μ1.l.length
    · obtain ⟨d, hd, _⟩ := f.old i rw c hlt hb
      exact e.new i m rw d hi (f.pre.back hlt hm) hd
    · obtain ⟨h3, h4⟩ := f.new i m rw c (by omega) hm hb
      refine ⟨h3, ?_⟩
      rcases h4 with h4 | h4
      · exact e.wr h4
      · exact .inr (Nat.le_trans e.fr.size h4)
  zn k cur hk := by
    rcases f.zn k cur hk with h3 | h3 | h3
    · exact e.zn k cur h3
    · exact .inr (e.wr h3)
    · exact .inr (.inr (Nat.le_trans e.fr.size h3))
theorem Ev.drewN {μ : Mu} {h : H} {w : World} (r : Rel μ h w) (n : Nat) : Ev μ h w μ h (w.drewN n) :=
  ⟨r.drewN n, .refl μ, .drewN _ w n, fun j rw c _ hj => ⟨c, hj, id⟩, fun i m rw c hi hm _ => absurd (fD hm) (by omega), fun _ _ h => .inl h⟩
theorem Ev.alloc {μ : Mu} {h : H} {w : World} (r : Rel μ h w) (c : C) (el : TypeId) (cur : Array Value)
    (hc : ∀ j x, c.get? j = some x → ∃ cv, cur[j]? = some cv ∧ oQ μ x cv) :
    Ev μ h w (μ.app [⟨w.heap.size, 0, true, cur.size, c.esz, el⟩]) (h ++ [.at true c]) (w.alloc (.cells cur el)) := by
  refine ⟨r.new c _ cur rfl fun j x hx => ?_, .app μ _, .alloc _ w _, fun j rw c' hj hb => ?_, fun i m rw c' hi hm hb => ?_, fun _ _ h => .inl h⟩
  · obtain ⟨cv, h1, h2⟩ := hc j x hx
    exact ⟨cv, h1, h2.pre (.app μ _)⟩
  · rw [List.getElem?_append_left (by rw [← r.len]; exact hj)] at hb
    exact ⟨c', hb, id⟩
  · have hlt := fD hm
    simp at hlt
    have hi' : i = μ.l.length := by omega
    subst hi'
    simp at hm
    subst hm
    rw [r.len] at hb
    simp at hb
    exact ⟨hb.1, .inr (Nat.le_refl _)⟩
def Goes (μ : Mu) (h : H) (w : World) (v : V) (h' : H) (cv : Value) (w' : World) : Prop := ∃ μ', Ev μ h w μ' h' w' ∧ kK μ' v cv
theorem Ev.pick {μ0 μ : Mu} {h0 h g : H} {w0 w : World} (e : Ev μ0 h0 w0 μ h w) {ids p : List Nat} (hids : ids = List.range μ0.l.length ++ p) (hn : ids.Nodup) (hs : anE h ids = some g) :
    Ev μ0 h0 w0 (pick μ ids) g w ∧ Sub ids μ (pick μ ids) := by
  have hsub := yC μ ids
  have hk : ∀ j, j < μ0.l.length → ids[j]? = some j := by
    intro j hj
    rw [hids, List.getElem?_append_left (by simpa using hj), List.getElem?_range hj]
  have hμ : μ0.l.length ≤ μ.l.length := e.pre.len
  refine ⟨⟨e.rel.sub hn hs, ?_, e.fr, ?_, ?_, e.zn⟩, hsub⟩
  · -- the first blocks
    refine ⟨e.pre.1, (Ab.pick μ ids).l.drop μ0.l.length, ?_⟩
    have h1 : (Ab.pick μ ids).l.take μ0.l.length = μ0.l := by
      apply List.ext_getElem?
      intro j
      rw [List.getElem?_take]
      split
      · rename_i hj
        have h2 := hk j hj
        have h3 : μ.l[j]? = some μ.l[j] := List.getElem?_eq_getElem (by omega)
        rw [hsub.2 j j _ h2 h3, ← h3]
        obtain ⟨_, x, hx⟩ := e.pre
        rw [hx, List.getElem?_append_left hj]
      · rename_i hj
        rw [List.getElem?_eq_none (by omega)]
    conv => lhs; rw [← List.take_append_drop μ0.l.length (Ab.pick μ ids).l, h1]
  · intro j rw c hj hb
    obtain ⟨i, hi, hb'⟩ := rP hs j _ hb
    rw [hk j hj] at hi
    cases hi
    obtain ⟨c', hc', _, hc2⟩ := zQ hb'
    obtain ⟨d, hd, hl⟩ := e.old j rw c' hj hc'
    exact ⟨d, hd, fun h => hl (h.imp id fun ⟨p, x, hx⟩ => (hc2 p x hx).elim fun y hy => ⟨p, y, hy.1⟩)⟩
  · intro j m rw c hj hm hb
    obtain ⟨i, hi, hb'⟩ := rP hs j _ hb
    obtain ⟨c', hc', _⟩ := zQ hb'
    have hlt : i < μ.l.length := by rw [e.rel.len]; exact fD hc'
    have h3 : μ.l[i]? = some μ.l[i] := List.getElem?_eq_getElem hlt
    rw [hsub.2 j i _ hi h3] at hm
    cases hm
    refine e.new i _ rw c' ?_ h3 hc'
    by_cases hlt' : i < μ0.l.length
    · have h4 := List.getElem?_eq_some_iff.1 (hk i hlt')
      have h5 := List.getElem?_eq_some_iff.1 hi
      have := (List.getElem_inj hn).1 (h4.2.trans h5.2.symm)
      omega
    · omega
theorem Ev.set {μ : Mu} {h : H} {w w' : World} {i : Nat} {m : M} {c c' : C} (r : Rel μ h w) (hm : μ.l[i]? = some m) (hb : h[i]? = some (.at true c)) {cur' : Array Value}
    (hes : c'.esz = c.esz) (hw : Fr (fun k => k = m.blk) w w') (hh : w'.heap[m.blk]? = some (.cells cur' m.el (0, 0))) (hsz : cur'.size = m.size)
    (hc : ∀ j x, c'.get? j = some x → ∃ cv, cur'[j]? = some cv ∧ oQ μ x cv) : Ev μ h w μ (h.set i (.at true c')) w' := by
  have hi : i < h.length := fD hb
  have get : ∀ (j : Nat) (b : B), (h.set i (.at true c'))[j]? = some b → (j = i ∧ b = .at true c') ∨ (j ≠ i ∧ h[j]? = some b) := by
    intro j b hj
    by_cases e : i = j
    · subst e
      rw [List.getElem?_set_self hi] at hj
      cases hj
      exact .inl ⟨rfl, rfl⟩
    · rw [List.getElem?_set_ne e] at hj
      exact .inr ⟨fun h => e h.symm, hj⟩
  obtain ⟨ho1, ho2, ho3, _⟩ := r.own i m c hm hb
  have other : ∀ (j : Nat) (n : M) (rw : Bool) (d : C), j ≠ i → μ.l[j]? = some n → h[j]? = some (.at rw d) → d.live rw → n.blk ≠ m.blk :=
    fun j n rw d hj hn hd hl => fun e => r.sep i j m n c rw d (fun e => hj e.symm) hm hn hb hd hl e.symm
  refine ⟨⟨by simp [r.len], ?_, ?_, ?_, ?_, ?_⟩, .refl μ, hw.mono fun k hk => ⟨i, m, c, hm, hb, hk.symm⟩, ?_, ?_, fun _ _ h => .inl h⟩
  · intro j n rw d hn hd p x hx
    rcases get j _ hd with ⟨rfl, e⟩ | ⟨hj, hd⟩
    · cases e
      rw [hm] at hn
      cases hn
      obtain ⟨cv, h1, h2⟩ := hc p x hx
      refine ⟨cv, ?_, h2⟩
      rw [ho2]
      simp only [World.cell?, hh, Nat.zero_add]
      simpa using h1
    · obtain ⟨cv, h1, h2⟩ := r.cell j n rw d hn hd p x hx
      exact ⟨cv, (cell_of_block (hw.block n.blk (r.lt j n rw d hn hd (.inr ⟨p, x, hx⟩)) (other j n rw d hj hn hd (.inr ⟨p, x, hx⟩)))).trans h1, h2⟩
  · intro j n d hn hd
    rcases get j _ hd with ⟨rfl, e⟩ | ⟨hj, hd⟩
    · rw [hm] at hn
      cases hn
      cases e
      exact ⟨ho1, ho2, by rw [hes]; exact ho3, cur', hh, hsz⟩
    · obtain ⟨h1, h2, h5, cur, h3, h4⟩ := r.own j n d hn hd
      exact ⟨h1, h2, h5, cur, (hw.block n.blk (r.lt j n _ d hn hd (.inl rfl)) (other j n _ d hj hn hd (.inl rfl))).trans h3, h4⟩
  · intro j n rw d hn hd hl
    rcases get j _ hd with ⟨rfl, e⟩ | ⟨hj, hd⟩
    · rw [hm] at hn
      cases hn
      exact Nat.lt_of_lt_of_le (r.lt j m _ c hm hb (.inl rfl)) hw.size
    · exact Nat.lt_of_lt_of_le (r.lt j n rw d hn hd hl) hw.size
  · intro j j' n n' d rw d' hjj hn hn' hd hd' hl
    rcases get j _ hd with ⟨e1, e⟩ | ⟨hj, hd1⟩ <;> rcases get j' _ hd' with ⟨e2, e'⟩ | ⟨hj', hd2⟩
    · exact absurd (e1.trans e2.symm) hjj
    · subst e1; exact r.sep j j' n n' c rw d' hjj hn hn' hb hd2 hl
    · subst e2; cases e'
      exact fun e => r.sep j' j n' n c true d hjj.symm hn' hn hb hd1 (.inl rfl) e.symm
    · exact r.sep j j' n n' d rw d' hjj hn hn' hd1 hd2 hl
  · intro k cur hk
    obtain ⟨⟨el, h1⟩, h2⟩ := r.fz k cur hk
    refine ⟨⟨el, (hw.block k (ai6 h1) (fun e => h2 i m c hm hb e.symm)).trans h1⟩, fun j n d hn hd => ?_⟩
    rcases get j _ hd with ⟨e1, e⟩ | ⟨hj, hd1⟩
    · subst e1; exact h2 j n c hn hb
    · exact h2 j n d hn hd1
  · intro j rw d hj hd
    rcases get j _ hd with ⟨rfl, e⟩ | ⟨_, hd⟩
    · cases e; exact ⟨c, hb, fun _ => .inl rfl⟩
    · exact ⟨d, hd, id⟩
  · intro j n rw d hj hn _
    exact absurd (fD hn) (by omega)
theorem C.get?_some {c : C} {j : Nat} (h : j < c.len) : ∃ x, c.get? j = some x := by
  unfold C.len at h
  unfold C.get? C.getK
  cases c with
  | mp l => exact absurd h (Nat.not_lt_zero _)
  | _ => simp only at h ⊢; rw [List.getElem?_eq_getElem h]; exact ⟨_, rfl⟩
theorem C.part_get {c : C} {o n j : Nat} {x : A} (h : (c.part o n).get? j = some x) : j < n ∧ c.get? (o + j) = some x := by
  unfold C.part C.get? C.getK at h
  unfold C.get? C.getK
  cases c <;> simp only at h ⊢ <;> first | (cases h; done) | (split at h; (rename_i hh; rw [List.getElem?_take] at hh; split at hh; (rw [List.getElem?_drop] at hh; exact ⟨‹_›, by rw [hh]; exact h⟩); cases hh); cases h)
theorem C.app_spec {c d e : C} (h : c.app d = some e) : e.len = c.len + d.len ∧ e.esz = c.esz ∧ ∀ j x, e.get? j = some x → (j < c.len ∧ c.get? j = some x) ∨ (c.len ≤ j ∧ d.get? (j - c.len) = some x) := by
  unfold C.app at h
  have key : ∀ {α : Type} (l m : List α) (j : Nat) (x : α), (l ++ m)[j]? = some x → (j < l.length ∧ l[j]? = some x) ∨ (l.length ≤ j ∧ m[j - l.length]? = some x) := by
    intro α l m j x hx
    by_cases hj : j < l.length
    · rw [List.getElem?_append_left hj] at hx; exact .inl ⟨hj, hx⟩
    · rw [List.getElem?_append_right (by omega)] at hx; exact .inr ⟨by omega, hx⟩
  split at h <;> (try split at h) <;> first | (cases h; done) | skip
  all_goals
    injection h with h
    subst h
    refine ⟨by simp [C.len], by first | rfl | (simp only [C.esz]), fun j x hx => ?_⟩
    unfold C.get? C.getK at hx
    simp only at hx
    split at hx
    · rename_i hh
      rcases key _ _ _ _ hh with ⟨h1, h2⟩ | ⟨h1, h2⟩
      · exact .inl ⟨h1, by unfold C.get? C.getK; simp only; rw [h2]; exact hx⟩
      · exact .inr ⟨h1, by unfold C.get? C.getK; simp only [C.len] at *; subst_vars; rw [h2]; exact hx⟩
    · cases hx
theorem adB {R : Type} {c : C} {i : Nat} {x : A} {K : C → Option R} {r : R} (h : c.setK i x K = some r) :
    ∃ c', K c' = some r ∧ c'.esz = c.esz ∧ i < c.len ∧ c'.len = c.len ∧ ∀ j y, c'.get? j = some y → (j = i ∧ y = x) ∨ (j ≠ i ∧ c.get? j = some y) := by
  unfold C.setK at h
  have key : ∀ {α : Type} (l : List α) (a : α) (j : Nat) (y : α), (l.set i a)[j]? = some y → (j = i ∧ y = a) ∨ (j ≠ i ∧ l[j]? = some y) := by
    intro α l a j y hy
    by_cases e : i = j
    · subst e
      rw [List.getElem?_set_self' ] at hy
      simp at hy
      exact .inl ⟨rfl, hy.2.symm⟩
    · rw [List.getElem?_set_ne e] at hy
      exact .inr ⟨fun e' => e e'.symm, hy⟩
  split at h
  · cases h
  · rename_i hlt
    simp only [decide_eq_true_eq] at hlt
    split at h <;> (try split at h) <;> first | (cases h; done) | skip
    all_goals
      refine ⟨_, h, rfl, hlt, by simp [C.len], fun j y hy => ?_⟩
      unfold C.get? C.getK at hy
      simp only at hy
      split at hy
      · rename_i hh
        rcases key _ _ _ _ hh with ⟨h1, h2⟩ | ⟨h1, h2⟩
        · left; refine ⟨h1, ?_⟩
          injection hy with hy
          rw [← hy]
          first | rw [h2] | (injection h2 with h2 h3; rw [h2, h3])
          try subst_vars
          try rfl
        · exact .inr ⟨h1, by unfold C.get? C.getK; simp only; rw [h2]; exact hy⟩
      · cases hy
theorem adC {R : Type} {r : R} : ∀ {l : List A} {c : C} {i : Nat} {K : C → Option R}, c.setNK i l K = some r →
    ∃ c', K c' = some r ∧ c'.esz = c.esz ∧ (l = [] ∨ i + l.length ≤ c.len) ∧ c'.len = c.len ∧ ∀ j y, c'.get? j = some y → (i ≤ j ∧ l[j - i]? = some y) ∨ ((j < i ∨ i + l.length ≤ j) ∧ c.get? j = some y)
  | [], c, i, K, h => ⟨c, h, rfl, .inl rfl, rfl, fun j y hy => .inr ⟨by simp; omega, hy⟩⟩
  | x :: l, c, i, K, h => by
    obtain ⟨c1, h1, h2, h3, h4, h5⟩ := adB h
    obtain ⟨c2, k1, k2, k3, k4, k5⟩ := adC h1
    refine ⟨c2, k1, k2.trans h2, .inr ?_, k4.trans h4, fun j y hy => ?_⟩
    · rcases k3 with k3 | k3
      · subst k3; simp; omega
      · rw [h4] at k3; simp; omega
    · rcases k5 j y hy with ⟨e1, e2⟩ | ⟨e1, e2⟩
      · left
        refine ⟨by omega, ?_⟩
        rw [show j - i = (j - (i + 1)) + 1 by omega]
        simpa using e2
      · rcases h5 j y e2 with ⟨e3, e4⟩ | ⟨e3, e4⟩
        · subst e3; subst e4
          exact .inl ⟨Nat.le_refl _, by simp⟩
        · exact .inr ⟨by simp only [List.length_cons]; omega, e4⟩
theorem agZ {k : FloatKind} : ∀ {l : List A} {m : List Nat}, awL k l = some m → l = m.map (.fl k)
  | [], m, h => by cases h; rfl
  | x :: l, m, h => by
    cases x <;> simp only [awL] at h <;> first | (cases h; done) | skip
    split at h
    · rename_i hk; subst hk
      simp only [Option.map_eq_some_iff] at h
      obtain ⟨n, h1, rfl⟩ := h
      rw [agZ h1]; rfl
    · cases h
theorem OZ {k : IntKind} : ∀ {l : List A} {m : List Int}, intsOf k l = some m → l = m.map (.int k)
  | [], m, h => by cases h; rfl
  | x :: l, m, h => by
    cases x <;> simp only [intsOf] at h <;> first | (cases h; done) | skip
    split at h
    · rename_i hk; subst hk
      simp only [Option.map_eq_some_iff] at h
      obtain ⟨n, h1, rfl⟩ := h
      rw [OZ h1]; rfl
    · cases h
theorem aaA : ∀ {l : List A} {m : List Bool}, ab3 l = some m → l = m.map .bool
  | [], m, h => by cases h; rfl
  | x :: l, m, h => by
    cases x <;> simp only [ab3] at h <;> first | (cases h; done) | skip
    simp only [Option.map_eq_some_iff] at h
    obtain ⟨n, h1, rfl⟩ := h
    rw [aaA h1]; rfl
theorem ag0 {k : FloatKind} : ∀ {l : List A} {m : List (Nat × Nat)}, awM k l = some m → l = m.map fun p => .cx k p.1 p.2
  | [], m, h => by cases h; rfl
  | x :: l, m, h => by
    cases x <;> simp only [awM] at h <;> first | (cases h; done) | skip
    split at h
    · rename_i hk; subst hk
      simp only [Option.map_eq_some_iff] at h
      obtain ⟨n, h1, rfl⟩ := h
      rw [ag0 h1]; rfl
    · cases h
theorem aFH {zero l : List A} {c : C} (h : mkC zero l = some c) : c.esz = zero.length ∧ c.len = l.length ∧ ∀ j x, c.get? j = some x → l[j]? = some x := by
  unfold mkC at h
  split at h
  · simp only [Option.map_eq_some_iff] at h
    obtain ⟨m, h1, rfl⟩ := h
    rw [agZ h1]
    refine ⟨rfl, by simp [C.len], fun j x hx => ?_⟩
    unfold C.get? C.getK at hx
    simp only at hx
    split at hx <;> simp_all
  · simp only [Option.map_eq_some_iff] at h
    obtain ⟨m, h1, rfl⟩ := h
    rw [OZ h1]
    refine ⟨rfl, by simp [C.len], fun j x hx => ?_⟩
    unfold C.get? C.getK at hx
    simp only at hx
    split at hx <;> simp_all
  · simp only [Option.map_eq_some_iff] at h
    obtain ⟨m, h1, rfl⟩ := h
    rw [aaA h1]
    refine ⟨rfl, by simp [C.len], fun j x hx => ?_⟩
    unfold C.get? C.getK at hx
    simp only at hx
    split at hx <;> simp_all
  · simp only [Option.map_eq_some_iff] at h
    obtain ⟨m, h1, rfl⟩ := h
    rw [ag0 h1]
    refine ⟨rfl, by simp [C.len], fun j x hx => ?_⟩
    unfold C.get? C.getK at hx
    simp only at hx
    split at hx <;> simp_all
  · cases h
    exact ⟨rfl, rfl, fun j x hx => by rw [C.get?_as] at hx; exact hx⟩
theorem QV {α : Type} {n : Nat} {a x : α} {j : Nat} (h : (List.replicate n a)[j]? = some x) : x = a ∧ j < n := by
  rw [List.getElem?_replicate] at h
  split at h
  · cases h; exact ⟨rfl, ‹_›⟩
  · cases h
theorem flat_get {z : List A} : ∀ {n j : Nat} {x : A}, (List.replicate n z).flatten[j]? = some x → z[j % z.length]? = some x ∧ j < n * z.length
  | 0, j, x, h => by simp at h
  | n + 1, j, x, h => by
    rw [List.replicate_succ, List.flatten_cons] at h
    by_cases hj : j < z.length
    · rw [List.getElem?_append_left hj] at h
      rw [Nat.mod_eq_of_lt hj]
      exact ⟨h, by rw [Nat.succ_mul]; omega⟩
    · rw [List.getElem?_append_right (by omega)] at h
      obtain ⟨h1, h2⟩ := flat_get h
      rw [Nat.mod_eq_sub_mod (by omega)]
      exact ⟨h1, by rw [Nat.succ_mul]; omega⟩
theorem arH {zero : List A} {n : Nat} {c : C} (hz : 0 < zero.length) (h : zeros zero n = some c) : c.esz = zero.length ∧ ∀ j x, c.get? j = some x → zero[j % zero.length]? = some x ∧ j < n * zero.length := by
  unfold zeros at h
  split at h <;> cases h
  · refine ⟨rfl, fun j x hx => ?_⟩
    unfold C.get? C.getK at hx; simp only at hx
    split at hx
    · rename_i hh; obtain ⟨rfl, h2⟩ := QV hh; cases hx; simp [Nat.mod_one, h2]
    · cases hx
  · refine ⟨rfl, fun j x hx => ?_⟩
    unfold C.get? C.getK at hx; simp only at hx
    split at hx
    · rename_i hh; obtain ⟨rfl, h2⟩ := QV hh; cases hx; simp [Nat.mod_one, h2]
    · cases hx
  · refine ⟨rfl, fun j x hx => ?_⟩
    unfold C.get? C.getK at hx; simp only at hx
    split at hx
    · rename_i hh; obtain ⟨rfl, h2⟩ := QV hh; cases hx; simp [Nat.mod_one, h2]
    · cases hx
  · refine ⟨rfl, fun j x hx => ?_⟩
    unfold C.get? C.getK at hx; simp only at hx
    split at hx
    · rename_i hh; obtain ⟨h1, h2⟩ := QV hh; cases h1; cases hx; simp [Nat.mod_one, h2]
    · cases hx
  · refine ⟨rfl, fun j x hx => ?_⟩
    rw [C.get?_as] at hx
    obtain ⟨rfl, h2⟩ := QV hx; simp [Nat.mod_one, h2]
  · refine ⟨rfl, fun j x hx => ?_⟩
    rw [C.get?_as] at hx
    exact flat_get hx
theorem adD {μ : Mu} {zs : List A} {z : Value} (hz : jQ μ zs z.cells.toList) (hp : 0 < zs.length) (n : Nat) :
    ∀ j x, zs[j % zs.length]? = some x → j < n → ∃ cv, ((Array.range n).map (z.cells[· % z.cells.size]!))[j]? = some cv ∧ oQ μ x cv := by
  intro j x hx hj
  obtain ⟨cv, h1, h2⟩ := hz.get hx
  refine ⟨cv, ?_, h2⟩
  have hl := hz.len
  have hs : z.cells.size = zs.length := by rw [← hl]; simp
  have hlt : j % zs.length < z.cells.size := by rw [hs]; exact Nat.mod_lt _ hp
  rw [← hs] at h1 hlt
  have h3 : z.cells[j % z.cells.size]! = cv := by
    rw [Array.getElem!_eq_getD, Array.getD_eq_getD_getElem?]
    have : z.cells[j % z.cells.size]? = some cv := by rw [← Array.getElem?_toList]; exact h1
    rw [this]; rfl
  simp only [Array.getElem?_map]
  rw [Array.getElem?_eq_getElem (by simpa using hj)]
  simp only [Array.getElem_range, Option.map_some, h3]
theorem az4 {μ : Mu} {zs : List A} {z : Value} (hz : jQ μ zs z.cells.toList) (hp : 0 < zs.length) (n : Nat) :
    jQ μ (List.replicate n zs).flatten ((Array.range (n * zs.length)).map (z.cells[· % z.cells.size]!)).toList := by
  have key : ∀ (l : List A) (cs : List Value), l.length = cs.length → (∀ (j : Nat) (x : A), l[j]? = some x → ∃ cv, cs[j]? = some cv ∧ oQ μ x cv) → jQ μ l cs := by
    intro l
    induction l with
    | nil => intro cs hl _; cases cs with | nil => trivial | cons _ _ => simp at hl
    | cons x l ih =>
      intro cs hl h
      cases cs with
      | nil => simp at hl
      | cons c cs =>
        obtain ⟨cv, h1, h2⟩ := h 0 x rfl
        simp at h1; subst h1
        exact ⟨h2, ih cs (by simpa using hl) fun j y hy => by obtain ⟨cv, h3, h4⟩ := h (j + 1) y (by simpa using hy); exact ⟨cv, by simpa using h3, h4⟩⟩
  refine key _ _ (by simp) fun j x hx => ?_
  obtain ⟨h1, h2⟩ := flat_get hx
  obtain ⟨cv, h3, h4⟩ := adD hz hp (n * zs.length) j x h1 h2
  exact ⟨cv, by rw [Array.getElem?_toList]; exact h3, h4⟩
def tK (P : Program) (o : Oper) (t : List V) (h : H) (v : V) (h' : H) : Prop :=
  ∀ (μ : Mu) (a : Act) (w : World), (∀ x ∈ o.op.operands.toList, kK μ (ev t x) (a.eval x)) → Rel μ h w →
    ∀ (K : Act → World → Prop) (Q : Exit → Act → World → Prop), (∀ cv w', Goes μ h w v h' cv w' → K (a.put o.dst cv) w') → o.wp P a w K Q
section
variable {P : Program} {R : Type} {r : R}
theorem tK.of_value {o : Oper} {t : List V} {h h' : H} {v : V}
    (hh : ∀ (μ : Mu) (ρ : Operand → Value) (w : World), (∀ x ∈ o.op.operands.toList, kK μ (ev t x) (ρ x)) → Rel μ h w → ∃ cv w', (execOp ρ o).run P w = .ok (.value cv) w' ∧ Goes μ h w v h' cv w') :
    tK P o t h v h' := by
  intro μ a w hρ hr K Q hK
  obtain ⟨cv, w', h1, h2⟩ := hh μ a.eval w hρ hr
  unfold Oper.wp
  rw [h1]
  exact hK cv w' h2
theorem adE {ty : Ty} (hty : tJ P ty) {t : List V} {h : H} {o : Oper} {K : V → Option R} (e : uB ty t h o.op K = some r) : ∃ v, K v = some r ∧ ∀ h2, Agree h h2 → tK P o t h2 v h2 := by
  obtain ⟨v, h1, h2⟩ := az3 hty rfl e
  refine ⟨v, h1, fun h2' ha2 => tK.of_value fun μ ρ w hρ hr => ?_⟩
  obtain ⟨cv, n, h3, h4⟩ := h2 μ ρ hρ w h2' ha2 hr
  exact ⟨cv, w.drewN n, h3, μ, Ev.drewN hr n, h4⟩
theorem arI {μ : Mu} {m : M} {h : H} (hl : μ.l.length = h.length) : (μ.app [m]).l[h.length]? = some m := by rw [← hl]; simp
theorem anS {μ : Mu} {h : H} {w : World} (hr : Rel μ h w) (c : C) (el : TypeId) (cur : Array Value)
    (hc : ∀ j x, c.get? j = some x → ∃ cv, cur[j]? = some cv ∧ oQ μ x cv) :
    Goes μ h w (.ptr h.length 0) (h ++ [.at true c]) (.pointer (some ⟨w.heap.size, 0, none⟩)) (w.alloc (.cells cur el)) :=
  ⟨_, Ev.alloc hr c el cur hc, ⟨_, arI hr.len, rfl⟩⟩
theorem L8 {μ : Mu} {h : H} {w : World} (hr : Rel μ h w) (c : C) (el : TypeId) (cur : Array Value)
    (hc : ∀ j x, c.get? j = some x → ∃ cv, cur[j]? = some cv ∧ oQ μ x cv) (n k : Nat) (hn : n ≤ k) (hk : k ≤ maxLen) (hs : k * c.esz = cur.size) :
    Goes μ h w (.sl h.length 0 n) (h ++ [.at true c]) (.slice (some ⟨w.heap.size, 0, none⟩) n k) (w.alloc (.cells cur el)) :=
  ⟨_, Ev.alloc hr c el cur hc, ⟨_, _, k, arI hr.len, rfl, hn, hk, fun _ => by simp, fun _ _ => hs⟩⟩
theorem YT {μ : Mu} {h h' : H} {w w' : World} {v : V} {cv : Value} {n : Nat} (hr : Rel μ h w) (g : Goes μ h (w.drewN n) v h' cv w') : Goes μ h w v h' cv w' := by
  obtain ⟨μ', e, hv⟩ := g
  exact ⟨μ', (Ev.drewN hr n).trans e, hv⟩
theorem aFI {ty : Ty} (hty : tJ P ty) {t : List V} {h : H} {o : Oper} {e : TypeId} {I : TyI} (ho : o.op = .alloc e) (hI : ty e = some I) : tK P o t h (.ptr h.length 0) (h ++ [.at true (.as 1 I.zero)]) := by
  refine tK.of_value fun μ ρ w hρ hr => ?_
  obtain ⟨_, z, d, rI⟩ := row hty hI
  have hrun : (Instr.alloc e true (.tuple #[])).run P w = .ok (.pointer (some ⟨w.heap.size, 0, none⟩)) (w.alloc (.cells z.cells e)) := by
    simp only [Instr.alloc, Sem.run_bind, rI.run_zero, Result.andThen, newVar, newRow, newObj]
    rfl
  refine ⟨.pointer (some ⟨w.heap.size, 0, none⟩), w.alloc (.cells z.cells e), ?_, anS hr _ e z.cells fun j x hx => ?_⟩
  · unfold execOp; rw [ho]; simp only [Sem.run_bind, hrun, Result.andThen]; rfl
  · rw [C.get?_as] at hx
    obtain ⟨cv, h1, h2⟩ := (rI.rep μ).get hx
    exact ⟨cv, by rw [← Array.getElem?_toList]; exact h1, h2⟩
theorem adF {μ : Mu} {v : V} {l : List A} {cv : Value} (h : ac6 v = some l) (hv : kK μ v cv) : jQ μ l cv.cells.toList := by
  unfold ac6 at h
  split at h
  · cases h
    have h1 : oQ μ _ cv := hv
    rw [h1.one.2]
    exact ⟨h1, trivial⟩
  · cases h
    obtain ⟨cs, rfl, h2⟩ := hv
    exact h2
  · cases h
theorem aFJ {l : List A} {j : Nat} {x : A} (h : (aM8 l).get? j = some x) : l[j]? = some x := by
  unfold aM8 at h
  split at h
  · rename_i k n r _
    split at h
    · rename_i m hm
      have e := OZ hm
      unfold C.get? C.getK at h
      rw [e]
      simp only at h
      split at h <;> simp_all
    · rwa [C.get?_as] at h
  · rwa [C.get?_as] at h
theorem aUX {t : List V} {h : H} {o : Oper} {e : TypeId} {x : Operand} {l : List A} (ho : o.op = .box e x) (hl : ac6 (ev t x) = some l) : tK P o t h (.ptr h.length 0) (h ++ [.at true (aM8 l)]) := by
  refine tK.of_value fun μ ρ w hρ hr => ?_
  have hx := adF hl (hρ x (by rw [ho]; simp [Op.operands]))
  refine ⟨.pointer (some ⟨w.heap.size, 0, none⟩), w.alloc (.cells (ρ x).cells e), ?_, anS hr _ e (ρ x).cells fun j y hy => ?_⟩
  · unfold execOp; rw [ho]; simp only [Instr.box, newVar, newRow, newObj, Sem.run_bind]; rfl
  · obtain ⟨cv, h1, h2⟩ := hx.get (aFJ hy)
    exact ⟨cv, by rw [← Array.getElem?_toList]; exact h1, h2⟩
theorem JC (f : Nat → Value) : (Array.range 0).map f = #[] := by simp
theorem agH {ty : Ty} (hty : tJ P ty) {t : List V} {h : H} {o : Oper} {bt e : TypeId} {J I : TyI} {len : Nat} {parts : Array (Nat × Operand)} {l : List A} {c : C}
    (ho : o.op = .buildSlice bt len parts) (hJ : ty bt = some J) (hJd : J.d = .slice e) (hI : ty e = some I)
    (hd : len * I.size ≤ 16777216 ∧ 0 < I.size ∧ I.zero.length = I.size)
    (hl : OG (fun i => some (i * I.size, I.size)) (List.replicate len I.zero).flatten (parts.toList.map fun p => (p.1, ev t p.2)) = some l) (hc : mkC I.zero l = some c) :
    tK P o t h (.sl h.length 0 len) (h ++ [.at true c]) := by
  refine tK.of_value fun μ ρ w hρ hr => ?_
  obtain ⟨_, z, d, rI⟩ := row hty hI
  obtain ⟨_, _, dJ, rJ⟩ := row hty hJ
  have := lY rJ.desc hJd
  subst this
  obtain ⟨hd1, hd2, hd3⟩ := hd
  have hz := az4 (μ := μ) (rI.rep μ) (by omega) len
  rw [hd3] at hz
  have toParts : (parts.map fun (i, x) => (i, ρ x)).toList = parts.toList.map fun p => (p.1, ρ p.2) := by simp
  obtain ⟨cs, h1, h2⟩ := JA (fun _ _ h => h) (μ := μ) (qs := parts.toList.map fun p => (p.1, ρ p.2)) hl hz (by simp) (by
    have := JB (xs := parts.toList.map (·.2)) (t := t) (ρ := ρ) (μ := μ) (fun x hx => hρ x (by rw [ho]; simpa [Op.operands] using hx))
    simp only [List.map_map] at this ⊢
    exact this)
  obtain ⟨c1, c2, c3⟩ := aFH hc
  have hlen : cs.length = len * I.size := by
    have h4 := h2.len
    have h5 : l.length = len * I.size := by
      have : ∀ {ps : List (Nat × V)} {cells l : List A}, OG (fun i => some (i * I.size, I.size)) cells ps = some l → l.length = cells.length := by
        intro ps
        induction ps with
        | nil => intro cells l e; cases e; rfl
        | cons p ps ih =>
          intro cells l e
          obtain ⟨i, v⟩ := p
          simp only [OG] at e
          split at e
          · split at e
            · have := ih e; simpa using this
            · cases e
          · split at e
            · rename_i hh
              have := ih e
              rw [this]
              simp only [List.length_append, List.length_take, List.length_drop]
              omega
            · cases e
          · cases e
      rw [this hl]
      simp [hd3]
    rw [h4, h5]
  have hle : len ≤ maxLen := by
    have : len ≤ len * I.size := Nat.le_mul_of_pos_right _ hd2
    unfold maxLen; omega
  refine ⟨.slice (some ⟨w.heap.size, 0, none⟩) len len, w.alloc (.cells ⟨cs⟩ e), ?_, L8 hr c e ⟨cs⟩ (fun j x hx => ?_) len len (Nat.le_refl _) hle (by rw [c1, hd3]; exact hlen.symm)⟩
  · have h1' : Instr.fill (fun i => some (i * I.size, I.size)) ((Array.range (len * I.size)).map (z.cells[· % z.cells.size]!)) (parts.toList.map fun p => (p.1, ρ p.2)) = some ⟨cs⟩ := h1
    have hnew : ∀ w, (newRow e ⟨cs⟩).run P w = .ok ⟨w.heap.size, 0, none⟩ (w.alloc (.cells ⟨cs⟩ e)) := fun w => rfl
    unfold execOp
    rw [ho]
    simp only [Instr.buildSlice, Sem.run_bind, run_underlying rJ.under, Result.andThen, rI.run_sizeOf]
    rw [if_neg (by omega)]
    by_cases h0 : len * I.size = 0
    · have h1'' : Instr.fill (fun i => some (i * I.size, I.size)) ((Array.range (len * I.size)).map ((#[] : Array Value)[· % (#[] : Array Value).size]!)) (parts.toList.map fun p => (p.1, ρ p.2)) = some ⟨cs⟩ := by
        rw [h0, JC] at h1' ⊢
        exact h1'
      rw [if_pos h0]
      simp only [Sem.run_bind, Sem.run_pure, Result.andThen, toParts, h1'', hnew]
    · rw [if_neg h0]
      simp only [Sem.run_bind, rI.run_zero, Sem.run_pure, Result.andThen, toParts, h1', hnew]
  · obtain ⟨cv, h3, h4⟩ := h2.get (c3 j x hx)
    exact ⟨cv, by simpa using h3, h4⟩
theorem ajC {ty : Ty} (hty : tJ P ty) {t : List V} {h : H} {o : Oper} {mt e : TypeId} {J I : TyI} {x y : Operand} {k k' : IntKind} {n m : Int} {c : C}
    (ho : o.op = .makeSlice mt x y) (hJ : ty mt = some J) (hJd : J.d = .slice e) (hI : ty e = some I) (hx : ev t x = .int k n) (hy : ev t y = .int k' m)
    (hd : 0 ≤ n ∧ n ≤ m ∧ m ≤ 9223372036854775807 ∧ m.toNat * I.bytes ≤ 140737488355328 ∧ 0 < I.size ∧ I.zero.length = I.size) (hc : zeros I.zero n.toNat = some c) :
    tK P o t h (.sl h.length 0 n.toNat) (h ++ [.at true c]) := by
  refine tK.of_value fun μ ρ w hρ hr => ?_
  obtain ⟨i, z, d, rI⟩ := row hty hI
  obtain ⟨_, _, dJ, rJ⟩ := row hty hJ
  have := lY rJ.desc hJd
  subst this
  obtain ⟨hd1, hd2, hd3, hd4, hd5, hd6⟩ := hd
  have hx' := hρ x (by rw [ho]; simp [Op.operands])
  have hy' := hρ y (by rw [ho]; simp [Op.operands])
  rw [hx] at hx'
  rw [hy] at hy'
  have ex := mJ hx'
  have ey := mJ hy'
  obtain ⟨c1, c2⟩ := arH (by omega) hc
  have hz := adD (μ := μ) (rI.rep μ) (by omega) (m.toNat * I.size)
  refine ⟨.slice (some ⟨w.heap.size, 0, none⟩) n.toNat m.toNat, w.alloc (.cells ((Array.range (m.toNat * I.size)).map (z.cells[· % z.cells.size]!)) e), ?_,
    L8 hr c e _ (fun j x hx => ?_) n.toNat m.toNat (by omega) (by unfold maxLen; omega) (by rw [c1, hd6]; simp)⟩
  · have wn : IntKind.i64.wrap n = n := IntWalk.i64_in _ (by omega)
    have wm : IntKind.i64.wrap m = m := IntWalk.i64_in _ (by omega)
    have hb1 : ¬ ((I.bytes : Int) * m > 281474976710656) := by
      have hm0 : (m.toNat : Int) = m := Int.toNat_of_nonneg (by omega)
      have : ((I.bytes : Int) * m) = ((m.toNat * I.bytes : Nat) : Int) := by rw [Int.natCast_mul, hm0, Int.mul_comm]
      omega
    have hcond : ((decide (m < 0) || decide ((I.bytes : Int) * m > 2 ^ 48)) || decide (n < 0) || decide (n > m)) = false := by
      simp; omega
    have hroom : ∀ w, (askRoom (m.toNat * I.bytes)).run P w = .ok () w := by
      intro w
      unfold askRoom roomBytes
      rw [if_neg (by omega)]
      rfl
    have hnew : ∀ (cs : Array Value) w, (newRow e cs).run P w = .ok ⟨w.heap.size, 0, none⟩ (w.alloc (.cells cs e)) := fun _ w => rfl
    unfold execOp
    rw [ho]
    simp only [ex, ey, Instr.makeSlice, asInt, asIntOf, Sem.run_bind, run_underlying rJ.under, Result.andThen, Sem.run_pure, run_typeInfo _ rI.info, rI.bytes, wn, wm]
    rw [if_neg (by simp only [hcond]; simp)]
    simp only [Sem.run_bind, hroom, Result.andThen, rI.run_sizeOf]
    by_cases h0 : m.toNat * I.size = 0
    · rw [if_pos h0]
      simp only [Sem.run_bind, Sem.run_pure, Result.andThen, hnew, h0, JC]
    · rw [if_neg h0]
      simp only [Sem.run_bind, rI.run_zero, Sem.run_pure, Result.andThen, hnew]
  · obtain ⟨h1, h2⟩ := c2 j x hx
    refine hz j x h1 (Nat.lt_of_lt_of_le h2 ?_)
    rw [hd6]
    exact Nat.mul_le_mul_right _ (by omega)
end
section
variable {P : Program} {R : Type} {r : R}
theorem agI {μ : Mu} {h : H} {w : World} {i : Nat} {m : M} {c c' : C} (hr : Rel μ h w) (hm : μ.l[i]? = some m) (hb : h[i]? = some (.at true c)) {l : List A} {vs : List Value} {o : Nat}
    (hv : jQ μ l vs) (hes : c'.esz = c.esz) (hfit : o + l.length ≤ m.size)
    (hc : ∀ j y, c'.get? j = some y → (o ≤ j ∧ l[j - o]? = some y) ∨ ((j < o ∨ o + l.length ≤ j) ∧ c.get? j = some y)) :
    ∃ w', (storeCells ⟨m.blk, m.off + o, none⟩ vs 0).run P w = .ok () w' ∧ Ev μ h w μ (h.set i (.at true c')) w' := by
  obtain ⟨ho1, ho2, ho3, cur, hcur, hsz⟩ := hr.own i m c hm hb
  have hl := hv.len
  have hone : ∀ v ∈ vs, v.oneCell' = true := by
    have : ∀ {l : List A} {vs : List Value}, jQ μ l vs → ∀ v ∈ vs, v.oneCell' = true := by
      intro l
      induction l with
      | nil => intro vs h; cases vs with | nil => intro v hv; cases hv | cons _ _ => exact h.elim
      | cons x l ih =>
        intro vs h
        cases vs with
        | nil => exact h.elim
        | cons v vs =>
          intro u hu
          cases hu with
          | head => exact h.1.one.1
          | tail _ hu => exact ih h.2 u hu
    exact this hv
  have hst := run_storeCells_at P m.blk o m.el vs 0 cur w hcur (by omega) hone
  simp only [Nat.add_zero] at hst
  have hst' : (storeCells ⟨m.blk, m.off + o, none⟩ vs 0).run P w = .ok () (w.setRow m.blk (cur.toList.take o ++ vs ++ cur.toList.drop (o + vs.length)).toArray) := by rw [ho2, Nat.zero_add]; exact hst
  refine ⟨_, hst', Ev.set hr hm hb hes ⟨rfl, rfl, rfl, by simp, fun k _ hk => setRow_other w m.blk k _ hk⟩ (setRow_heap w m.blk cur _ m.el _ hcur) ?_ ?_⟩
  · simp; omega
  · intro j y hy
    rcases hc j y hy with ⟨h1, h2⟩ | ⟨h1, h2⟩
    · obtain ⟨cv, h3, h4⟩ := hv.get h2
      refine ⟨cv, ?_, h4⟩
      have hj : j - o < vs.length := fD h3
      simp only [List.getElem?_toArray]
      rw [List.append_assoc, List.getElem?_append_right (by simp; omega), List.length_take]
      rw [Nat.min_eq_left (by simp; omega), List.getElem?_append_left hj]
      exact h3
    · obtain ⟨cv, h3, h4⟩ := hr.cell i m true c hm hb j y h2
      refine ⟨cv, ?_, h4⟩
      rw [ho2] at h3
      simp only [World.cell?, hcur, Nat.zero_add] at h3
      have h5 : cur.toList[j]? = some cv := by simpa using h3
      have hjl := fD h5
      simp only [List.getElem?_toArray]
      rcases h1 with h1 | h1
      · rw [List.append_assoc, List.getElem?_append_left (by simp; omega), List.getElem?_take]
        simp [h1, h5]
      · rw [List.getElem?_append_right (by simp; omega), List.getElem?_drop]
        rw [show o + vs.length + (j - (cur.toList.take o ++ vs).length) = j by simp at hjl ⊢; omega]
        exact h5
theorem aNK {μ : Mu} {h : H} {w : World} {i : Nat} {m : M} {c : C} (hr : Rel μ h w) (hm : μ.l[i]? = some m) (hb : h[i]? = some (.at true c)) : c.len ≤ m.size := by
  obtain ⟨ho1, ho2, ho3, cur, hcur, hsz⟩ := hr.own i m c hm hb
  rcases Nat.eq_zero_or_pos c.len with h0 | h0
  · omega
  · obtain ⟨x, hx⟩ := C.get?_some (c := c) (j := c.len - 1) (by omega)
    obtain ⟨cv, h3, _⟩ := hr.cell i m true c hm hb _ x hx
    rw [ho2] at h3
    simp only [World.cell?, hcur, Nat.zero_add] at h3
    have : c.len - 1 < cur.size := by
      have h4 : cur[c.len - 1]? = some cv := by simpa using h3
      exact (Array.getElem?_eq_some_iff.1 h4).1
    omega
theorem aFK {ty : Ty} (hty : tJ P ty) {t : List V} {h : H} {o : Oper} {st : TypeId} {x y : Operand} {K : H → Option R} (ho : o.op = .store st x y)
    (e : arE ty h st (ev t x) (ev t y) K = some r) : ∃ h', K h' = some r ∧ tK P o t h V.no h' := by
  unfold arE at e
  split at e
  · rename_i I i oo hI hx
    obtain ⟨_, _, d, rI⟩ := row hty hI
    obtain ⟨rw, c, hb, e⟩ := yF e
    split at e
    · cases e
    · have finish : ∀ (l : List A) (c' : C), ac6 (ev t y) = some l → I.size = l.length → c'.esz = c.esz → oo + l.length ≤ c.len →
          (∀ j y, c'.get? j = some y → (oo ≤ j ∧ l[j - oo]? = some y) ∨ ((j < oo ∨ oo + l.length ≤ j) ∧ c.get? j = some y)) → tK P o t h V.no (h.set i (.at true c')) := by
        intro l c' hl hsz hes hfit hget μ a w hρ hr K Q hK
        have hxr := hρ x (by rw [ho]; simp [Op.operands])
        have hyr := hρ y (by rw [ho]; simp [Op.operands])
        rw [hx] at hxr
        obtain ⟨m, hm, hpx⟩ := hxr
        have hv := adF hl hyr
        have hlen := aNK hr hm hb
        obtain ⟨w', h1, h2⟩ := agI (P := P) hr hm hb hv hes (by omega) hget
        have hcs : (a.eval y).cells.size = I.size := by
          have := hv.len
          rw [hsz, ← this]; simp
        have hrun : (Instr.storeAt st (a.eval x) (a.eval y)).run P w = .ok () w' := by
          rw [hpx]
          simp only [Instr.storeAt, Instr.sureAddr, Sem.run_bind, Sem.run_pure, Result.andThen, storeVar, rI.run_sizeOf, hcs]
          simp only [ne_eq, not_true, if_false]
          exact h1
        have hex : (execOp a.eval o).run P w = .ok .skip w' := by
          unfold execOp
          rw [ho]
          simp only [Sem.run_bind, hrun, Result.andThen]
          rfl
        unfold Oper.wp
        rw [hex]
        exact hK undef w' ⟨μ, h2, kK.no μ⟩
      split at e
      · rename_i z hz
        split at e
        · rename_i hs
          obtain ⟨c', h1, h2, h3, h4, h5⟩ := adB e
          refine ⟨_, h1, finish [z] c' (by rw [hz]; rfl) hs h2 (by simp; omega) fun j u hu => ?_⟩
          rcases h5 j u hu with ⟨e1, e2⟩ | ⟨e1, e2⟩
          · subst e1; subst e2; exact .inl ⟨Nat.le_refl _, by simp⟩
          · exact .inr ⟨by simp; omega, e2⟩
        · cases e
      · rename_i l hz
        split at e
        · rename_i hs
          obtain ⟨c', h1, h2, h3, h4, h5⟩ := adC e
          have hpos := rI.pos
          refine ⟨_, h1, finish l c' (by rw [hz]; rfl) hs h2 ?_ h5⟩
          rcases h3 with h3 | h3
          · subst h3; simp at hs; omega
          · exact h3
        · cases e
      · cases e
  · cases e
end
theorem Rel.goneAt {μ : Mu} {h : H} {w : World} (r : Rel μ h w) (i : Nat) : Rel μ (h.set i .gone) w := by
  have get : ∀ (j : Nat) (rw : Bool) (c : C), (h.set i .gone)[j]? = some (.at rw c) → h[j]? = some (.at rw c) := by
    intro j rw c hj
    by_cases e : i = j
    · subst e
      rw [List.getElem?_set_self'] at hj
      cases hh : h[i]? <;> simp [hh] at hj
    · rwa [List.getElem?_set_ne e] at hj
  exact ⟨by simp [r.len], fun j m rw c hm hb => r.cell j m rw c hm (get j rw c hb), fun j m c hm hb => r.own j m c hm (get j _ c hb), fun j m rw c hm hb hl => r.lt j m rw c hm (get j rw c hb) hl,
    fun j k m n c rw d hne hm hn hb hd hl => r.sep j k m n c rw d hne hm hn (get j _ c hb) (get k rw d hd) hl, fun k cur hk => ⟨(r.fz k cur hk).1, fun j m c hm hb => (r.fz k cur hk).2 j m c hm (get j _ c hb)⟩⟩
theorem Rel.move {μ : Mu} {h : H} {w : World} (r : Rel μ h w) {i : Nat} {m : M} {rw : Bool} {c : C} (hm : μ.l[i]? = some m) (hb : h[i]? = some (.at rw c)) :
    Rel (μ.app [m]) (h.set i .gone ++ [.at rw c]) w := by
  have hi : i < h.length := fD hb
  have get : ∀ (j : Nat) (n : M) (rw' : Bool) (d : C), (μ.l ++ [m])[j]? = some n → (h.set i .gone ++ [.at rw c])[j]? = some (.at rw' d) →
      (j < h.length ∧ j ≠ i ∧ μ.l[j]? = some n ∧ h[j]? = some (.at rw' d)) ∨ (j = h.length ∧ n = m ∧ rw' = rw ∧ d = c) := by
    intro j n rw' d h1 h2
    by_cases hj : j < h.length
    · rw [List.getElem?_append_left (by simpa using hj)] at h2
      rw [List.getElem?_append_left (by rw [r.len]; exact hj)] at h1
      by_cases e : i = j
      · subst e
        rw [List.getElem?_set_self hi] at h2
        cases h2
      · rw [List.getElem?_set_ne e] at h2
        exact .inl ⟨hj, fun e' => e e'.symm, h1, h2⟩
    · have hlt := fD h2
      simp at hlt
      have hj' : j = h.length := by omega
      subst hj'
      rw [← r.len] at h1
      simp at h1
      rw [List.getElem?_append_right (by simp)] at h2
      simp at h2
      exact .inr ⟨rfl, h1.symm, h2.1.symm, h2.2.symm⟩
  refine ⟨by simp [r.len], ?_, ?_, ?_, ?_, ?_⟩
  · intro j n rw' d h1 h2 p x hx
    rcases get j n rw' d h1 h2 with ⟨_, _, h3, h4⟩ | ⟨_, e1, e2, e3⟩
    · obtain ⟨cv, h5, h6⟩ := r.cell j n rw' d h3 h4 p x hx
      exact ⟨cv, h5, h6.pre (.app μ _)⟩
    · subst e1; subst e2; subst e3
      obtain ⟨cv, h5, h6⟩ := r.cell i n rw' d hm hb p x hx
      exact ⟨cv, h5, h6.pre (.app μ _)⟩
  · intro j n d h1 h2
    rcases get j n _ d h1 h2 with ⟨_, _, h3, h4⟩ | ⟨_, e1, e2, e3⟩
    · exact r.own j n d h3 h4
    · subst e1; subst e2; subst e3
      exact r.own i n d hm hb
  · intro j n rw' d h1 h2 hl
    rcases get j n rw' d h1 h2 with ⟨_, _, h3, h4⟩ | ⟨_, e1, e2, e3⟩
    · exact r.lt j n rw' d h3 h4 hl
    · subst e1; subst e2; subst e3
      exact r.lt i n rw' d hm hb hl
  · intro j k n n' d rw' d' hne h1 h2 h3 h4 hl
    rcases get j n _ d h1 h3 with ⟨a1, a2, a3, a4⟩ | ⟨a1, a2, a3, a4⟩ <;> rcases get k n' rw' d' h2 h4 with ⟨b1, b2, b3, b4⟩ | ⟨b1, b2, b3, b4⟩
    · exact r.sep j k n n' d rw' d' hne a3 b3 a4 b4 hl
    · subst b2; subst b3; subst b4
      exact r.sep j i n n' d rw' d' a2 a3 hm a4 hb hl
    · subst a2; subst a3; subst a4
      exact r.sep i k n n' d rw' d' (fun e => b2 e.symm) hm b3 hb b4 hl
    · omega
  · intro k cur hk
    refine ⟨(r.fz k cur hk).1, fun j n d h1 h2 => ?_⟩
    rcases get j n _ d h1 h2 with ⟨_, _, h3, h4⟩ | ⟨_, e1, e2, e3⟩
    · exact (r.fz k cur hk).2 j n d h3 h4
    · subst e1; subst e2; subst e3
      exact (r.fz k cur hk).2 i n d hm hb
section
variable {P : Program} {R : Type} {r : R}
theorem adG {μ : Mu} {h : H} {w : World} {i : Nat} {m : M} {rw : Bool} {c : C} (hr : Rel μ h w) (hm : μ.l[i]? = some m) (hb : h[i]? = some (.at rw c)) (o : Nat) :
    ∀ n, o + n ≤ c.len → ∃ vs : List Value, vs.length = n ∧ (∀ p u, vs[p]? = some u → w.cell? ((⟨m.blk, m.off + o, none⟩ : Addr).add p) = some u) ∧
      (∀ p y, p < n → c.get? (o + p) = some y → ∃ u, vs[p]? = some u ∧ oQ μ y u) ∧ ∀ u ∈ vs, u.oneCell' = true
  | 0, _ => ⟨[], rfl, fun p u h => by simp at h, fun p y h => by omega, fun u h => by cases h⟩
  | n + 1, hn => by
    obtain ⟨vs, h1, h2, h3, h4⟩ := adG hr hm hb o n (by omega)
    obtain ⟨y, hy⟩ := C.get?_some (c := c) (j := o + n) (by omega)
    obtain ⟨cv, h5, h6⟩ := hr.cell i m rw c hm hb (o + n) y hy
    refine ⟨vs ++ [cv], by simp [h1], fun p u hp => ?_, fun p y' hp hy' => ?_, fun u hu => ?_⟩
    · by_cases hlt : p < n
      · rw [List.getElem?_append_left (by omega)] at hp
        exact h2 p u hp
      · have := fD hp
        simp at this
        have hpn : p = n := by omega
        subst hpn
        rw [List.getElem?_append_right (by omega)] at hp
        simp [h1] at hp
        subst hp
        rw [addr_add, Nat.add_assoc]
        exact h5
    · by_cases hlt : p < n
      · obtain ⟨u, h7, h8⟩ := h3 p y' hlt hy'
        exact ⟨u, by rw [List.getElem?_append_left (by omega)]; exact h7, h8⟩
      · have hpn : p = n := by omega
        subst hpn
        rw [hy] at hy'
        cases hy'
        exact ⟨cv, by rw [List.getElem?_append_right (by omega)]; simp [h1], h6⟩
    · rcases List.mem_append.1 hu with hu | hu
      · exact h4 u hu
      · simp at hu; subst hu; exact h6.one.1
theorem YU {μ : Mu} {h : H} {w : World} {j o m sz : Nat} {rw : Bool} {c : C} {cv : Value} (hr : Rel μ h w) (hb : h[j]? = some (.at rw c)) (hlen : o + m * sz ≤ c.len) (hv : kK μ (.sl j o m) cv) :
    ∃ (ad : Addr) (cc : Nat) (vs : List Value), cv = .slice (some ad) m cc ∧ vs.length = m * sz ∧ (∀ p u, vs[p]? = some u → w.cell? (ad.add p) = some u) ∧
      (∀ p y, (c.part o (m * sz)).get? p = some y → ∃ u, vs[p]? = some u ∧ oQ μ y u) ∧ ∀ u ∈ vs, u.oneCell' = true := by
  obtain ⟨mm, ad, cc, hm, rfl, _, _, had, _⟩ := hv
  rcases Nat.eq_zero_or_pos m with h0 | h0
  · subst h0
    refine ⟨ad, cc, [], rfl, by simp, fun p u hp => by simp at hp, fun p y hp => ?_, fun u hu => by cases hu⟩
    have := (C.part_get hp).1
    omega
  · have := had (.inl h0)
    subst this
    obtain ⟨vs, h1, h2, h3, h4⟩ := adG hr hm hb o (m * sz) hlen
    exact ⟨_, cc, vs, rfl, h1, h2, fun p y hp => h3 p y (C.part_get hp).1 (C.part_get hp).2, h4⟩
theorem anT {w : World} (t ty e e' : TypeId) (i : TypeInfo) (ht : P.underlying t = some (.slice e)) (hi : P.info? e = some i)
    (g sLen sCap : Nat) (cur : Array Value) (hg : w.heap[g]? = some (.cells cur e' (0, 0)))
    (a : Addr) (m c : Nat) (news : List Value) (hl : news.length = m * i.size) (hnews : ∀ j u, news[j]? = some u → w.cell? (a.add j) = some u) (h1 : ∀ u ∈ news, u.oneCell' = true)
    (hroom : sLen + m ≤ sCap) (hfit : sLen * i.size + news.length ≤ cur.size) :
    (Builtin.append_ #[t, t] ty #[.slice (some ⟨g, 0, none⟩) sLen sCap, .slice (some a) m c]).run P w =
      .ok (.slice (some ⟨g, 0, none⟩) (sLen + m) sCap) (w.setRow g (cur.toList.take (sLen * i.size) ++ news ++ cur.toList.drop (sLen * i.size + news.length)).toArray) := by
  have hf := run_firstCells_some (P := P) w i.size m a m c news hl hnews
  have hst := run_storeCells_at P g (sLen * i.size) e' news 0 cur w hg (by simpa using hfit) h1
  simp only [Nat.add_zero] at hst
  simp [Builtin.append_, run_underlying ht, sizeOf, typeInfo, hi, Builtin.lenOf, hroom, hf, Addr.add_lit, hst]
theorem rW {w : World} (t ty e : TypeId) (i : TypeInfo) (ht : P.underlying t = some (.slice e)) (hi : P.info? e = some i) (b : Option Addr) (n c : Nat) (hn : n ≤ c) (x : Option Addr) :
    (Builtin.append_ #[t, t] ty #[.slice b n c, .slice x 0 0]).run P w = .ok (.slice b n c) w := by
  cases b <;> cases x <;> simp [Builtin.append_, run_underlying ht, sizeOf, typeInfo, hi, Builtin.lenOf, hn, Builtin.firstCells, loadCells, loadCellsFrom, storeCells]
theorem aaB {μ : Mu} {c d c' : C} (hc : c.app d = some c') {olds news : List Value} {n sz : Nat} (ho : olds.length = n * sz) (hcl : c.len = n * sz)
    (h1 : ∀ p y, p < n * sz → c.get? p = some y → ∃ u, olds[p]? = some u ∧ oQ μ y u) (h2 : ∀ p y, d.get? p = some y → ∃ u, news[p]? = some u ∧ oQ μ y u) (rest : List Value) :
    ∀ j x, c'.get? j = some x → ∃ cv, (olds ++ news ++ rest)[j]? = some cv ∧ oQ μ x cv := by
  obtain ⟨a1, a2, a3⟩ := C.app_spec hc
  intro j x hx
  rcases a3 j x hx with ⟨b1, b2⟩ | ⟨b1, b2⟩
  · obtain ⟨u, h3, h4⟩ := h1 j x (by omega) b2
    refine ⟨u, ?_, h4⟩
    rw [List.append_assoc, List.getElem?_append_left (by omega)]
    exact h3
  · obtain ⟨u, h3, h4⟩ := h2 _ x b2
    refine ⟨u, ?_, h4⟩
    have := fD h3
    rw [List.append_assoc, List.getElem?_append_right (by omega), List.getElem?_append_left (by omega)]
    rw [show j - olds.length = j - c.len by omega]
    exact h3
theorem az5 {ty : Ty} (hty : tJ P ty) {t : List V} {h : H} {o : Oper} {s x : Operand} {st xt : TypeId} {K : V → H → Option R}
    (ho : o.op = .call ⟨.builtin .append, ⟨[s, x]⟩, ⟨[st, xt]⟩⟩) (e : ai4 ty h st xt (ev t s) (ev t x) K = some r) : ∃ v h', K v h' = some r ∧ tK P o t h v h' := by
  unfold ai4 at e
  split at e
  rotate_left
  · cases e
  rename_i hst
  subst hst
  split at e
  rotate_left
  · cases e
  rename_i el hst
  obtain ⟨_, _, dJ, rJ⟩ := row hty hst
  have := lY rJ.desc rfl
  subst this
  split at e
  rotate_left
  · cases e
  rename_i I hI
  obtain ⟨i, z, d, rI⟩ := row hty hI
  split at e
  · cases e
  rename_i hsz
  simp only [decide_eq_true_eq] at hsz
  obtain ⟨hs1, hs2⟩ := hsz
  have wrap : ∀ {v : V} {h' : H}, (∀ (μ : Mu) (a b : Value) (w : World), kK μ (ev t s) a → kK μ (ev t x) b → Rel μ h w →
      ∃ cv w', (Builtin.append_ #[st, st] o.type #[a, b]).run P w = .ok cv w' ∧ Goes μ h w v h' cv w') → tK P o t h v h' := by
    intro v h' hh
    refine tK.of_value fun μ ρ w hρ hr => ?_
    obtain ⟨cv, w', h1, h2⟩ := hh μ (ρ s) (ρ x) w (hρ s (by rw [ho]; simp [Op.operands, Call.operands])) (hρ x (by rw [ho]; simp [Op.operands, Call.operands])) hr
    refine ⟨cv, w', ?_, h2⟩
    have : execOp ρ o = execOp ρ { o with op := .call ⟨.builtin .append, ⟨[s, x]⟩, ⟨[st, st]⟩⟩ } := by rw [← ho]
    rw [this]
    simp only [BigFrame.execOp_builtin, BigFrame.builtin_append, List.map_toArray, List.map_cons, List.map_nil, Sem.run_bind, h1, Result.andThen]
    rfl
  have hzl : z.cells.size = I.size := by
    have := (rI.rep ⟨noZ, []⟩).len
    rw [hs2] at this
    simpa using this
  unfold aYD at e
  split at e
  · -- a slice is appended
    rename_i j oo m hx
    have e2 := yF e
    clear e
    obtain ⟨rwx, c, hb, e⟩ := e2
    split at e
    rotate_left
    · cases e
    rename_i hfit
    simp only [decide_eq_true_eq] at hfit
    dsimp only at e
    split at e
    · rename_i heq; cases heq
    · rename_i heq; cases heq
    · rename_i heq; cases heq
    · -- onto a slice
      rename_i ii n dd hs heq
      cases heq
      obtain ⟨rws, cs, hbs, e⟩ := yF e
      split at e
      · cases e
      rename_i hchk
      simp only [Bool.and_eq_true, decide_eq_true_eq, xY] at hchk
      obtain ⟨⟨hrw, hfull, hesz⟩, hb1, hb2⟩ := hchk
      subst hrw
      split at e
      rotate_left
      · cases e
      rename_i jj oo' mm' hx'
      rw [hx] at hx'
      cases hx'
      split at e
      · cases e
      rename_i hne
      simp only [decide_eq_false_iff_not] at hne
      split at e
      rotate_left
      · cases e
      rename_i c' hc'
      refine ⟨_, _, e, wrap fun μ a b w ha hb' hr => ?_⟩
      rw [hs] at ha
      rw [hx] at hb'
      obtain ⟨M0, ad0, cap, hM0, rfl, hncap, hcapm, had0, hown⟩ := ha
      have := had0 (.inr rfl)
      subst this
      obtain ⟨ho1, ho2, ho3, cur, hcur, hcsz⟩ := hr.own ii M0 cs hM0 hbs
      have hcapsz : cap * I.size = cur.size := by rw [hcsz, ← hown rfl ho1, ho3, hesz]
      obtain ⟨ad, cc, news, rfl, hn1, hn2, hn3, hn4⟩ := YU hr hb hfit hb'
      obtain ⟨olds, hol1, hol2, hol3, hol4⟩ := adG hr hM0 hbs 0 (n * I.size) (by omega)
      have happ := C.app_spec hc'
      by_cases hroom : n + m ≤ cap
      · -- in place
        have hfit2 : n * I.size + news.length ≤ cur.size := by rw [hn1, ← hcapsz, ← Nat.add_mul]; exact Nat.mul_le_mul_right _ hroom
        have hrun := anT (P := P) (w := w) st o.type el M0.el i rJ.under rI.info M0.blk n cap cur hcur ad m cc news (by rw [rI.size]; exact hn1) hn2 hn4 hroom (by rw [rI.size]; exact hfit2)
        rw [rI.size] at hrun
        refine ⟨_, _, by rw [ho2]; exact hrun, ?_⟩
        have hset : Ev μ h w μ (h.set ii (.at true c')) (w.setRow M0.blk (cur.toList.take (n * I.size) ++ news ++ cur.toList.drop (n * I.size + news.length)).toArray) := by
          refine Ev.set hr hM0 hbs (by rw [happ.2.1]) ⟨rfl, rfl, rfl, by simp, fun k _ hk => setRow_other w M0.blk k _ hk⟩ (setRow_heap w M0.blk cur _ M0.el _ hcur) (by simp; omega) ?_
          have hcur0 : cur.toList.take (n * I.size) = olds := by
            apply List.ext_getElem?
            intro p
            by_cases hp : p < n * I.size
            · obtain ⟨u, hu⟩ : ∃ u, olds[p]? = some u := ⟨_, List.getElem?_eq_getElem (by omega)⟩
              have h5 := hol2 p u hu
              rw [addr_add, ho2] at h5
              simp only [World.cell?, hcur, Nat.zero_add] at h5
              rw [hu, List.getElem?_take, if_pos hp]
              simpa using h5
            · rw [List.getElem?_eq_none (by simp; omega), List.getElem?_eq_none (by omega)]
          intro p y hy
          have := aaB hc' hol1 hfull.symm (fun p y hp hy => hol3 p y hp (by rw [Nat.zero_add]; exact hy)) hn3 (cur.toList.drop (n * I.size + news.length)) p y hy
          rw [hcur0]
          simpa using this
        have hii : ii < h.length := fD hbs
        have hmv := hset.rel.move hM0 (List.getElem?_set_self hii)
        have hhh : (h.set ii (.at true c')).set ii .gone = h.set ii .gone := by simp
        rw [hhh] at hmv
        refine ⟨μ.app [M0], ⟨hmv, .app μ _, hset.fr, fun j rw d hj hd => ?_, fun j n' rw d hj hn' hd => ?_, fun _ _ h => .inl h⟩, ?_⟩
        · rw [List.getElem?_append_left (by rw [List.length_set, ← hr.len]; exact hj)] at hd
          by_cases e1 : ii = j
          · subst e1; rw [List.getElem?_set_self hii] at hd; cases hd
          · rw [List.getElem?_set_ne e1] at hd; exact ⟨d, hd, id⟩
        · have hlt := fD hn'
          simp at hlt
          have e1 : j = μ.l.length := by omega
          subst e1
          simp at hn'
          subst hn'
          rw [hr.len, List.getElem?_append_right (by simp)] at hd
          simp at hd
          exact ⟨hd.1, .inl ⟨ii, _, cs, hM0, hbs, rfl⟩⟩
        · refine ⟨M0, _, cap, arI hr.len, rfl, hroom, hcapm, fun _ => by rw [ho2], fun _ _ => ?_⟩
          exact hown rfl ho1
      · -- in a new block
        have hrun := run_append_grow (P := P) w st o.type el i z rJ.under rI.info rI.zero ⟨M0.blk, M0.off + 0, none⟩ n cap olds (by rw [rI.size]; exact hol1) hol2 ad m cc news (by rw [rI.size]; exact hn1) hn2 (by omega) (by omega) (growslice_fits (by omega) (by rw [rI.bytes]; exact hb2))
        have hge := grownCap_ge w (n + m) cap el
        have hgm := grownCap_le_maxLen w (n + m) cap el (by unfold maxLen; omega)
        have hg1 : Goes μ (h.set ii .gone) w.drew (.sl (h.set ii .gone).length 0 (n + m)) (h.set ii .gone ++ [.at true c']) (.slice (some ⟨w.drew.heap.size, 0, none⟩) (n + m) (grownCap w (n + m) cap el))
            (w.drew.alloc (.cells (olds.toArray ++ news.toArray ++ Builtin.zeroCells z.cells (grownCap w (n + m) cap el - (n + m))) el)) := by
          refine L8 ((hr.goneAt ii).drewN 1) c' el _ (fun p y hy => ?_) (n + m) _ hge hgm ?_
          · have := aaB hc' hol1 hfull.symm (fun p y hp hy => hol3 p y hp (by rw [Nat.zero_add]; exact hy)) hn3 (Builtin.zeroCells z.cells (grownCap w (n + m) cap el - (n + m))).toList p y hy
            simpa [← Array.getElem?_toList] using this
          · rw [happ.2.1, hesz]
            simp only [Array.size_append, List.size_toArray, size_zeroCells, hzl, hol1, hn1, ← Nat.add_mul]
            congr 1
            omega
        have hlen : (h.set ii .gone).length = h.length := by simp
        rw [hlen] at hg1
        refine ⟨_, _, hrun, ?_⟩
        obtain ⟨μ', he, hv⟩ := hg1
        refine ⟨μ', ⟨he.rel, he.pre, ⟨he.fr.os, he.fr.tape, he.fr.output, he.fr.size, fun k hk hn => he.fr.block k hk fun hw => hn ?_⟩, fun j rw d hj hd => ?_, fun j n' rw d hj hn' hd => ?_, fun j n' rw => ?_⟩, hv⟩
        · obtain ⟨q, M1, c1, q1, q2, q3⟩ := hw
          by_cases e1 : ii = q
          · subst e1; rw [List.getElem?_set_self (fD hbs)] at q2; cases q2
          · rw [List.getElem?_set_ne e1] at q2; exact ⟨q, M1, c1, q1, q2, q3⟩
        · obtain ⟨d', hd', hdl⟩ := he.old j rw d hj hd
          by_cases e1 : ii = j
          · subst e1; rw [List.getElem?_set_self (fD hbs)] at hd'; cases hd'
          · rw [List.getElem?_set_ne e1] at hd'; exact ⟨d', hd', hdl⟩
        · obtain ⟨q1, q2⟩ := he.new j n' rw d hj hn' hd
          refine ⟨q1, ?_⟩
          rcases q2 with ⟨q, M1, c1, q3, q4, q5⟩ | q2
          · left
            by_cases e1 : ii = q
            · subst e1; rw [List.getElem?_set_self (fD hbs)] at q4; cases q4
            · rw [List.getElem?_set_ne e1] at q4; exact ⟨q, M1, c1, q3, q4, q5⟩
          · exact .inr q2
        · rcases he.zn j n' rw with q | ⟨q, M1, c1, q3, q4, q5⟩ | q
          · exact .inl q
          · refine .inr (.inl ?_)
            by_cases e1 : ii = q
            · subst e1; rw [List.getElem?_set_self (fD hbs)] at q4; cases q4
            · rw [List.getElem?_set_ne e1] at q4; exact ⟨q, M1, c1, q3, q4, q5⟩
          · exact .inr (.inr q)
    · -- onto nil
      rename_i dd hs heq
      cases heq
      split at e
      rotate_left
      · cases e
      rename_i hbd
      simp only [Bool.and_eq_true, xY, decide_eq_true_eq] at hbd
      obtain ⟨⟨hb1, hb2⟩, hes⟩ := hbd
      split at e
      · rename_i hm
        simp only [decide_eq_true_eq] at hm
        subst hm
        refine ⟨_, _, e, wrap fun μ a b w ha hb' hr => ?_⟩
        rw [hs] at ha
        rw [hx] at hb'
        cases ha
        obtain ⟨mm, ad, cc, hmm, rfl, _⟩ := hb'
        refine ⟨.slice none 0 0, w, ?_, μ, Ev.refl hr, rfl⟩
        simp [Builtin.append_, run_underlying rJ.under, sizeOf, typeInfo, rI.info, Builtin.lenOf, Builtin.firstCells, loadCells, loadCellsFrom]
      · rename_i hm
        simp only [decide_eq_false_iff_not] at hm
        refine ⟨_, _, e, wrap fun μ a b w ha hb' hr => ?_⟩
        rw [hs] at ha
        rw [hx] at hb'
        cases ha
        obtain ⟨ad, cc, news, rfl, hn1, hn2, hn3, hn4⟩ := YU hr hb hfit hb'
        have hrun := run_append_nil (P := P) w st o.type el i z rJ.under rI.info rI.zero ad m cc news (by rw [rI.size]; exact hn1) hn2 (by omega) (by omega) (by rw [rI.bytes]; omega)
        have hge := grownCap_ge w m 0 el
        have hgm := grownCap_le_maxLen w m 0 el (by unfold maxLen; omega)
        refine ⟨_, _, hrun, YT (n := 1) hr (L8 (hr.drewN 1) _ el _ (fun p y hy => ?_) m _ hge hgm ?_)⟩
        · obtain ⟨u, h3, h4⟩ := hn3 p y hy
          refine ⟨u, ?_, h4⟩
          have := fD h3
          rw [Array.getElem?_append_left (by simpa using this)]
          simpa using h3
        · rw [hes]
          simp only [Array.size_append, List.size_toArray, size_zeroCells, hzl, hn1, ← Nat.add_mul]
          congr 1
          omega
    · -- onto an empty slice without room
      rename_i dd hs heq
      cases heq
      split at e
      rotate_left
      · cases e
      rename_i hbd
      simp only [Bool.and_eq_true, xY, decide_eq_true_eq] at hbd
      obtain ⟨⟨hb1, hb2⟩, hes⟩ := hbd
      split at e
      · rename_i hm
        simp only [decide_eq_true_eq] at hm
        subst hm
        refine ⟨_, _, e, wrap fun μ a b w ha hb' hr => ?_⟩
        rw [hs] at ha
        rw [hx] at hb'
        obtain ⟨ad0, rfl⟩ := ha
        obtain ⟨mm, ad, cc, hmm, rfl, _⟩ := hb'
        refine ⟨.slice (some ad0) 0 0, w, ?_, μ, Ev.refl hr, ⟨ad0, rfl⟩⟩
        simp [Builtin.append_, run_underlying rJ.under, sizeOf, typeInfo, rI.info, Builtin.lenOf, Builtin.firstCells, loadCells, loadCellsFrom, storeCells]
      · rename_i hm
        simp only [decide_eq_false_iff_not] at hm
        refine ⟨_, _, e, wrap fun μ a b w ha hb' hr => ?_⟩
        rw [hs] at ha
        rw [hx] at hb'
        obtain ⟨ad0, rfl⟩ := ha
        obtain ⟨ad, cc, news, rfl, hn1, hn2, hn3, hn4⟩ := YU hr hb hfit hb'
        have hrun := run_append_grow (P := P) w st o.type el i z rJ.under rI.info rI.zero ad0 0 0 [] (by simp) (fun j v hj => by simp at hj) ad m cc news (by rw [rI.size]; exact hn1) hn2 (by omega) (by omega) (growslice_fits (by omega) (by rw [rI.bytes, Nat.zero_add]; exact hb2))
        have hge := grownCap_ge w (0 + m) 0 el
        have hgm := grownCap_le_maxLen w (0 + m) 0 el (by unfold maxLen; omega)
        refine ⟨_, _, hrun, YT (n := 1) hr ?_⟩
        rw [Nat.zero_add] at *
        refine L8 (hr.drewN 1) _ el _ (fun p y hy => ?_) m _ hge hgm ?_
        · obtain ⟨u, h3, h4⟩ := hn3 p y hy
          refine ⟨u, ?_, h4⟩
          have := fD h3
          rw [show ([] : List Value).toArray = #[] from rfl, Array.empty_append, Array.getElem?_append_left (by simpa using this)]
          simpa using h3
        · rw [hes]
          simp only [Array.size_append, List.size_toArray, List.length_nil, Nat.zero_add, size_zeroCells, hzl, hn1, ← Nat.add_mul]
          congr 1
          omega
    · cases e
  · -- nil is appended
    rename_i hx
    have hnone : ∀ {μ : Mu} {b : Value}, kK μ (ev t x) b → b = .slice none 0 0 := fun h => by rw [hx] at h; exact h
    dsimp only at e
    split at e
    · rename_i hs heq
      refine ⟨_, _, e, wrap fun μ a b w ha hb' hr => ?_⟩
      cases hnone hb'
      rw [hs] at ha
      obtain ⟨M0, ad0, cap, hM0, rfl, hncap, rest⟩ := ha
      exact ⟨_, w, rW st o.type el i rJ.under rI.info _ _ _ hncap _, μ, Ev.refl hr, ⟨M0, ad0, cap, hM0, rfl, hncap, rest⟩⟩
    · rename_i hs heq
      refine ⟨_, _, e, wrap fun μ a b w ha hb' hr => ?_⟩
      cases hnone hb'
      rw [hs] at ha
      cases ha
      exact ⟨_, w, rW st o.type el i rJ.under rI.info _ _ _ (Nat.le_refl _) _, μ, Ev.refl hr, rfl⟩
    · rename_i hs heq
      refine ⟨_, _, e, wrap fun μ a b w ha hb' hr => ?_⟩
      cases hnone hb'
      rw [hs] at ha
      obtain ⟨ad0, rfl⟩ := ha
      exact ⟨_, w, rW st o.type el i rJ.under rI.info _ _ _ (Nat.le_refl _) _, μ, Ev.refl hr, ⟨ad0, rfl⟩⟩
    · rename_i heq; cases heq
    · rename_i heq; cases heq
    · rename_i heq; cases heq
    · cases e
  · rename_i hx
    have hnone : ∀ {μ : Mu} {b : Value}, kK μ (ev t x) b → ∃ ad, b = .slice (some ad) 0 0 := fun h => by rw [hx] at h; exact h
    dsimp only at e
    split at e
    · rename_i hs heq
      refine ⟨_, _, e, wrap fun μ a b w ha hb' hr => ?_⟩
      obtain ⟨adx, rfl⟩ := hnone hb'
      rw [hs] at ha
      obtain ⟨M0, ad0, cap, hM0, rfl, hncap, rest⟩ := ha
      exact ⟨_, w, rW st o.type el i rJ.under rI.info _ _ _ hncap _, μ, Ev.refl hr, ⟨M0, ad0, cap, hM0, rfl, hncap, rest⟩⟩
    · rename_i hs heq
      refine ⟨_, _, e, wrap fun μ a b w ha hb' hr => ?_⟩
      obtain ⟨adx, rfl⟩ := hnone hb'
      rw [hs] at ha
      cases ha
      exact ⟨_, w, rW st o.type el i rJ.under rI.info _ _ _ (Nat.le_refl _) _, μ, Ev.refl hr, rfl⟩
    · rename_i hs heq
      refine ⟨_, _, e, wrap fun μ a b w ha hb' hr => ?_⟩
      obtain ⟨adx, rfl⟩ := hnone hb'
      rw [hs] at ha
      obtain ⟨ad0, rfl⟩ := ha
      exact ⟨_, w, rW st o.type el i rJ.under rI.info _ _ _ (Nat.le_refl _) _, μ, Ev.refl hr, ⟨ad0, rfl⟩⟩
    · rename_i heq; cases heq
    · rename_i heq; cases heq
    · rename_i heq; cases heq
    · cases e
  · cases e
end
def yR (P : Program) (f : FuncId) (cvs : List Value) (w : World) (R : Value → World → Prop) : Prop :=
  ((callFunc f ⟨cvs⟩).run P w = .ok (.enter f ⟨cvs⟩) w ∧ Calls P f ⟨cvs⟩ w fun e w' => ∃ cv, e = .returned cv ∧ R cv w') ∨
  ∃ cv w', (callFunc f ⟨cvs⟩).run P w = .ok (.value cv) w' ∧ R cv w'
theorem yR.mono {P : Program} {f : FuncId} {cvs : List Value} {w : World} {R R' : Value → World → Prop} (h : yR P f cvs w R) (k : ∀ cv w', R cv w' → R' cv w') : yR P f cvs w R' := by
  rcases h with ⟨h1, h2⟩ | ⟨cv, w', h1, h2⟩
  · exact .inl ⟨h1, h2.mono fun e w' ⟨cv, h3, h4⟩ => ⟨cv, h3, k cv w' h4⟩⟩
  · exact .inr ⟨cv, w', h1, k cv w' h2⟩
def FnT (P : Program) (f : FuncId) (g : List V → H → T) : Prop :=
  ∀ vs h v h', (g vs h).run = some (v, h') → ∀ (μ : Mu) (w : World) (cvs : List Value), Rel μ h w → uX μ vs cvs → yR P f cvs w fun cv w' => Goes μ h w v h' cv w'
section
variable {P : Program} {R : Type} {r : R}
theorem O0 {fns : Fns} (hfn : ∀ f, FnT P f (fns f)) {f : FuncId} {vs : List V} {h : H} {K : V → H → Option R} (e : anF fns f vs h K = some r) :
    ∃ v h', K v h' = some r ∧ ∀ (μ : Mu) (w : World) (cvs : List Value), Rel μ h w → uX μ vs cvs → yR P f cvs w fun cv w' => Goes μ h w v h' cv w' := by
  unfold anF at e
  dsimp only at e
  generalize hids : close h 3 ((vs.flatMap V.ids).foldl o9 []) = ids at e
  have hn : ids.Nodup := by rw [← hids]; exact yQ h 3 (rD _ List.nodup_nil)
  split at e
  · cases e
  · rename_i ws hws
    split at e
    · cases e
    · rename_i g hg
      rw [T.k_run] at e
      split at e
      case h_2 => cases e
      case h_1 =>
        rename_i v g' hf
        refine ⟨_, _, e, fun μ w cvs hr hv => ?_⟩
        have hsub := yC μ ids
        have hr' := hr.sub hn hg
        have hpl : (pick μ ids).l.length = ids.length := by simp [pick]
        refine (hfn f ws g v g' hf (pick μ ids) w cvs hr' (hv.ren hsub hws)).mono fun cv w' hgo => ?_
        obtain ⟨μ', he, hcv⟩ := hgo
        obtain ⟨z', l'⟩ := μ'
        obtain ⟨hzl, ν, hν⟩ := he.pre
        dsimp only at hzl hν
        subst hν
        obtain ⟨h1, h2⟩ := hr.laid hn hg he.rel.len he.rel he.fr (fun i m rw c hi hm hb => he.new i m rw c (by rw [hpl]; exact hi) hm hb) (fun j rw c hj hb => he.old j rw c (by rw [hpl]; exact hj) hb) hzl he.zn
        have hwr : ∀ k, Wr (pick μ ids) g k → Wr μ h k := by
          intro k hk
          obtain ⟨j, i, m, c, _, q1, q2, q3⟩ := Wr.sub hr hg hk
          exact ⟨i, m, c, q1, q2, q3⟩
        have hidlt : ∀ i ∈ ids, i < h.length := by
          intro i hi
          obtain ⟨j, hj⟩ := List.getElem?_of_mem hi
          obtain ⟨y, hy, _⟩ := AQ hg j i hj
          exact anI hy
        have hlen' : ids.length ≤ g'.length := by have := he.rel.len; simp [hpl] at this; omega
        obtain ⟨L1, L2, L3⟩ := I8 (back ids h.length) ids h g' hn hlen' hidlt
        refine ⟨⟨z', μ.l ++ ν⟩, ⟨h1, ⟨hzl, ν, rfl⟩, he.fr.mono hwr, fun j rw c hj hb => ?_, fun i m rw c hi hm hb => ?_, fun k cur hk => ?_⟩, hcv.up h2⟩
        · rw [hr.len] at hj
          by_cases hm : j ∈ ids
          · obtain ⟨p, hp⟩ := List.getElem?_of_mem hm
            rw [L2 p j hp] at hb
            simp only [Option.map_eq_some_iff] at hb
            obtain ⟨b, hb1, hb2⟩ := hb
            obtain ⟨d, rfl, _, hdg⟩ := B.up_at hb2
            obtain ⟨d', hd', hdl⟩ := he.old p rw d (by rw [hpl]; exact fD hp) hb1
            obtain ⟨i', hi', hren⟩ := rP hg p _ hd'
            rw [hp] at hi'
            cases hi'
            obtain ⟨c2, hc2, _, hc2g⟩ := zQ hren
            have hc2l : d'.live rw → c2.live rw := fun h => h.imp id fun ⟨p, x, hx⟩ => (hc2g p x hx).elim fun y hy => ⟨p, y, hy.1⟩
            exact ⟨c2, hc2, fun h => hc2l (hdl (h.imp id fun ⟨p, x, hx⟩ => (hdg p x hx).elim fun y hy => ⟨p, y, hy.1⟩))⟩
          · rw [L1 j hj hm] at hb
            exact ⟨c, hb, id⟩
        · obtain ⟨q, rfl⟩ : ∃ q, i = h.length + q := ⟨i - h.length, by rw [← hr.len]; omega⟩
          rw [L3 q] at hb
          simp only [Option.map_eq_some_iff] at hb
          obtain ⟨b, hb1, hb2⟩ := hb
          obtain ⟨d, rfl, _⟩ := B.up_at hb2
          rw [← hr.len, List.getElem?_append_right (by omega), Nat.add_sub_cancel_left] at hm
          obtain ⟨q1, q2⟩ := he.new (ids.length + q) m rw d (by rw [hpl]; omega) (by rw [List.getElem?_append_right (by omega), hpl, Nat.add_sub_cancel_left]; exact hm) hb1
          exact ⟨q1, q2.imp (hwr _) id⟩
        · exact (he.zn k cur hk).imp id (Or.imp (hwr _) id)
theorem oQ.of_flat {μ μ' : Mu} {x : A} {cv : Value} (hx : x.flat = true) (r : oQ μ x cv) : oQ μ' x cv := by
  cases x <;> first | exact r | cases hx
theorem kK.of_flat {μ μ' : Mu} {v : V} {cv : Value} (hv : v.flat = true) (r : kK μ v cv) : kK μ' v cv := by
  have as : ∀ {l : List A} {cs : List Value}, l.all A.flat = true → jQ μ l cs → jQ μ' l cs := by
    intro l
    induction l with
    | nil => intro cs _ h; cases cs with | nil => trivial | cons _ _ => exact h.elim
    | cons x l ih =>
      intro cs hl h
      simp only [List.all_cons, Bool.and_eq_true] at hl
      cases cs with
      | nil => exact h.elim
      | cons c cs => exact ⟨h.1.of_flat hl.1, ih hl.2 h.2⟩
  have us : ∀ {x : U} {cv : Value}, x.flat = true → YO μ x cv → YO μ' x cv := by
    intro x cv hx h
    cases x with
    | a x => exact oQ.of_flat hx h
    | g l => obtain ⟨cs, rfl, h⟩ := h; exact ⟨cs, rfl, as hx h⟩
  cases v with
  | any => trivial
  | u x => exact us hv r
  | tup l =>
    obtain ⟨cs, rfl, h⟩ := r
    refine ⟨cs, rfl, ?_⟩
    have hv' : l.all U.flat = true := hv
    clear hv
    induction l generalizing cs with
    | nil => cases cs with | nil => trivial | cons _ _ => exact h.elim
    | cons x l ih =>
      simp only [List.all_cons, Bool.and_eq_true] at hv'
      cases cs with
      | nil => exact h.elim
      | cons c cs => exact ⟨us hv'.1 h.1, ih cs h.2 hv'.2⟩
theorem xK {h : H} {i : Nat} {rw : Bool} {c : C} (e : (h.map B.still)[i]? = some (.at rw c)) : rw = false ∧ ∃ rw', h[i]? = some (.at rw' c) := by
  simp only [List.getElem?_map, Option.map_eq_some_iff] at e
  obtain ⟨b, hb, hb'⟩ := e
  cases b with
  | gone => cases hb'
  | «at» rw' c' => simp only [B.still] at hb'; cases hb'; exact ⟨rfl, rw', hb⟩
theorem Rel.still {μ : Mu} {h : H} {w : World} (r : Rel μ h w) : Rel μ (h.map B.still) w := by
  refine ⟨by simp [r.len], fun i m rw c hm hb => ?_, fun i m c hm hb => ?_, fun i m rw c hm hb hl => ?_, fun i j m n c rw d hne hm hn hb hd hl => ?_, fun k cur hk => ⟨(r.fz k cur hk).1, fun i m c hm hb => ?_⟩⟩
  · obtain ⟨_, rw', hb'⟩ := xK hb
    exact r.cell i m rw' c hm hb'
  · have := (xK hb).1; cases this
  · obtain ⟨e, rw', hb'⟩ := xK hb
    exact r.lt i m rw' c hm hb' (hl.elim (fun h => by rw [e] at h; cases h) .inr)
  · have := (xK hb).1; cases this
  · have := (xK hb).1; cases this
theorem mV {μ : Mu} {h : H} {k : Nat} : ¬ Wr μ (h.map B.still) k := by
  rintro ⟨i, m, c, _, hb, _⟩
  have := (xK hb).1; cases this
theorem arJ {fns : Fns} (hfn : ∀ f, FnT P f (fns f)) {f : FuncId} {vs : List V} {h : H} {K : V → Option R} (e : aE8 fns f vs h K = some r) :
    ∃ v, K v = some r ∧ ∀ (μ : Mu) (w : World) (cvs : List Value), Rel μ h w → uX μ vs cvs → yR P f cvs w fun cv w' => Goes μ h w v h cv w' := by
  unfold aE8 at e
  obtain ⟨v, h', h1, h2⟩ := O0 hfn e
  split at h1
  · rename_i hfl
    refine ⟨v, h1, fun μ w cvs hr hv => (h2 μ w cvs hr.still hv).mono fun cv w' hg => ?_⟩
    obtain ⟨μ', he, hcv⟩ := hg
    have hf : Fr (Wr μ h) w w' := he.fr.mono fun k hk => absurd hk mV
    exact ⟨μ, ⟨hr.fr he.fr (fun i m rw c _ _ => mV) (fun _ _ _ => mV), .refl μ, hf, fun j rw c _ hb => ⟨c, hb, id⟩, fun i m rw c hi hm _ => absurd (fD hm) (by omega), fun _ _ h => .inl h⟩, hcv.of_flat hfl⟩
  · cases h1
theorem arK {fns : Fns} (hfn : ∀ f, FnT P f (fns f)) {f : FuncId} {vs : List V} {h : H} {K : V → H → Option R} (e : aE9 fns f vs h K = some r) :
    ∃ v g, K v (h ++ g) = some r ∧ ∀ (μ : Mu) (w : World) (cvs : List Value), Rel μ h w → uX μ vs cvs → yR P f cvs w fun cv w' => Goes μ h w v (h ++ g) cv w' := by
  unfold aE9 at e
  obtain ⟨v, h', h1, h2⟩ := O0 hfn e
  refine ⟨v, _, h1, fun μ w cvs hr hv => (h2 μ w cvs hr.still hv).mono fun cv w' hg => ?_⟩
  obtain ⟨μ', he, hcv⟩ := hg
  have hold := hr.fr (w' := w') he.fr (fun i m rw c _ _ => mV) (fun _ _ _ => mV)
  have hlen : h.length ≤ h'.length := by have := he.pre.len; rw [he.rel.len, hr.len] at this; exact this
  have hμ : μ'.l.length = (h ++ h'.drop h.length).length := by rw [he.rel.len]; simp; omega
  have cases2 : ∀ (i : Nat) (m : M) (rw : Bool) (c : C), μ'.l[i]? = some m → (h ++ h'.drop h.length)[i]? = some (.at rw c) →
      (i < h.length ∧ μ.l[i]? = some m ∧ h[i]? = some (.at rw c)) ∨ (h.length ≤ i ∧ h'[i]? = some (.at rw c) ∧ rw = true ∧ w.heap.size ≤ m.blk) := by
    intro i m rw c hm hb
    by_cases hi : i < h.length
    · rw [List.getElem?_append_left hi] at hb
      exact .inl ⟨hi, he.pre.back (by rw [hr.len]; exact hi) hm, hb⟩
    · rw [List.getElem?_append_right (by omega), List.getElem?_drop] at hb
      rw [show h.length + (i - h.length) = i by omega] at hb
      obtain ⟨q1, q2⟩ := he.new i m rw c (by rw [hr.len]; omega) hm hb
      exact .inr ⟨by omega, hb, q1, q2.resolve_left mV⟩
  refine ⟨μ', ⟨⟨hμ, ?_, ?_, ?_, ?_, ?_⟩, he.pre, he.fr.mono fun k hk => absurd hk mV, fun j rw c hj hb => ?_, fun i m rw c hi hm hb => ?_, fun k cur hk => (he.zn k cur hk).imp id (Or.imp (fun hk => absurd hk mV) id)⟩, hcv⟩
  · intro i m rw c hm hb p x hx
    rcases cases2 i m rw c hm hb with ⟨_, q1, q2⟩ | ⟨_, q2, _, _⟩
    · obtain ⟨u, q3, q4⟩ := hold.cell i m rw c q1 q2 p x hx
      exact ⟨u, q3, q4.pre he.pre⟩
    · exact he.rel.cell i m rw c hm q2 p x hx
  · intro i m c hm hb
    rcases cases2 i m true c hm hb with ⟨_, q1, q2⟩ | ⟨_, q2, _, _⟩
    · exact hold.own i m c q1 q2
    · exact he.rel.own i m c hm q2
  · intro i m rw c hm hb hl
    rcases cases2 i m rw c hm hb with ⟨_, q1, q2⟩ | ⟨_, q2, _, _⟩
    · exact hold.lt i m rw c q1 q2 hl
    · exact he.rel.lt i m rw c hm q2 hl
  · intro i j m n c rw d hne hm hn hb hd hl
    rcases cases2 i m true c hm hb with ⟨_, q1, q2⟩ | ⟨_, q2, _, q3⟩ <;> rcases cases2 j n rw d hn hd with ⟨_, s1, s2⟩ | ⟨_, s2, s3, s4⟩
    · exact hold.sep i j m n c rw d hne q1 s1 q2 s2 hl
    · have := hr.lt i m _ c q1 q2 (.inl rfl); omega
    · have := hr.lt j n _ d s1 s2 hl; omega
    · exact he.rel.sep i j m n c rw d hne hm hn q2 s2 hl
  · intro k cur hk
    refine ⟨(he.rel.fz k cur hk).1, fun i m c hm hb => ?_⟩
    rcases cases2 i m true c hm hb with ⟨_, q1, q2⟩ | ⟨_, q2, _, _⟩
    · rcases he.zn k cur hk with h5 | h5 | h5
      · exact (hr.fz k cur h5).2 i m c q1 q2
      · exact absurd h5 mV
      · have := hr.lt i m _ c q1 q2 (.inl rfl); omega
    · exact (he.rel.fz k cur hk).2 i m c hm q2
  · rw [List.getElem?_append_left (by rw [← hr.len]; exact hj)] at hb
    exact ⟨c, hb, id⟩
  · rcases cases2 i m rw c hm hb with ⟨q0, q1, q2⟩ | ⟨_, q2, q3, q4⟩
    · rw [hr.len] at hi; omega
    · exact ⟨q3, .inr q4⟩
theorem ajD {o : Oper} {t : List V} {h h' : H} {v : V} {f : Operand} {args : Array Operand} {ts : Array TypeId} {fid : FuncId} (ho : o.op = .call ⟨.value f, args, ts⟩) (hf : ev t f = .fn fid)
    (hc : ∀ (μ : Mu) (w : World) (cvs : List Value), Rel μ h w → uX μ (args.toList.map (ev t)) cvs → yR P fid cvs w fun cv w' => Goes μ h w v h' cv w') : tK P o t h v h' := by
  intro μ a w hρ hr K Q hK
  have hfv := hρ f (by rw [ho]; simp [Op.operands, Call.operands])
  rw [hf] at hfv
  have hfv' : a.eval f = .func (.func fid) #[] #[] := hfv
  have hargs := JB (xs := args.toList) (t := t) (ρ := a.eval) (μ := μ) (fun x hx => hρ x (by rw [ho]; simp [Op.operands, Call.operands]; right; simpa using hx))
  have hex : (execOp a.eval o).run P w = (callFunc fid ⟨args.toList.map a.eval⟩).run P w := by
    unfold execOp
    rw [ho]
    simp only [resolve, hfv', Deferred.ofValue, Sem.run_bind, Sem.run_pure, Result.andThen, invoke]
    congr 2
    apply Array.toList_inj.1
    simp
  unfold Oper.wp
  rw [hex]
  rcases hc μ w _ hr hargs with ⟨h1, h2⟩ | ⟨cv, w', h1, h2⟩
  · rw [h1]
    refine Calls.mono h2 fun e w' ⟨cv, h3, h4⟩ => ?_
    subst h3
    exact hK cv w' h4
  · rw [h1]
    exact hK cv w' h2
end
def YV (P : Program) (kd : Kd) (o : Oper) (t : List V) (h : H) (v : V) (h' : H) : Prop :=
  match kd with
  | .s => h' = h ∧ ∀ h2, tK P o t h2 v h2
  | .q => h' = h ∧ ∀ h2, Agree h h2 → tK P o t h2 v h2
  | .n => h' = h
  | .g => ∃ g, h' = h ++ g
  | .l => True
section
variable {P : Program} {R : Type} {r : R}
theorem step_ok {ty : Ty} (hty : tJ P ty) {fns : Fns} (hfn : ∀ f, FnT P f (fns f)) {cls : Cls} {t : List V} {h : H} {o : Oper} {op : Op} (ho : o.op = op) {K : V → H → Option R} (e : ZY ty fns cls t h op K = some r) :
    ∃ v h', K v h' = some r ∧ tK P o t h v h' ∧ YV P (kindOf cls op) o t h v h' := by
  have quiet : ∀ {op : Op}, o.op = op → kindOf cls op = .q → uB ty t h op (fun v => K v h) = some r → ∃ v h', K v h' = some r ∧ tK P o t h v h' ∧ YV P (kindOf cls op) o t h v h' := by
    intro op ho hk e
    subst ho
    obtain ⟨v, h1, h2⟩ := adE hty e
    exact ⟨v, h, h1, h2 h (.refl h), by rw [hk]; exact ⟨rfl, h2⟩⟩
  unfold ZY at e
  split at e
  · -- alloc
    split at e
    · rename_i I hI
      exact ⟨_, _, e, aFI hty ho hI, ⟨_, rfl⟩⟩
    · cases e
  · -- box
    split at e
    · rename_i I l hI hl
      split at e
      · exact ⟨_, _, e, aUX ho hl, ⟨_, rfl⟩⟩
      · cases e
    · cases e
  · -- buildSlice
    split at e
    · rename_i hJ
      split at e
      · rename_i I hI
        split at e
        · cases e
        · rename_i hd
          simp only [decide_eq_true_eq] at hd
          split at e
          · rename_i l hl
            split at e
            · rename_i c hc
              exact ⟨_, _, e, agH hty ho hJ rfl hI hd hl hc, ⟨_, rfl⟩⟩
            · cases e
          · cases e
      · cases e
    · cases e
  · -- makeSlice
    split at e
    · rename_i hJ hx hy
      split at e
      · rename_i I hI
        split at e
        · rename_i hd
          simp only [decide_eq_true_eq] at hd
          split at e
          · rename_i c hc
            exact ⟨_, _, e, ajC hty ho hJ rfl hI hx hy hd hc, ⟨_, rfl⟩⟩
          · cases e
        · cases e
      · cases e
    · cases e
  · -- store
    obtain ⟨h', h1, h2⟩ := aFK hty ho e
    exact ⟨_, h', h1, h2, trivial⟩
  · -- append
    obtain ⟨v, h', h1, h2⟩ := az5 hty ho e
    exact ⟨v, h', h1, h2, trivial⟩
  · -- a call
    split at e
    · rename_i hf
      split at e
      · obtain ⟨v, h1, h2⟩ := arJ hfn e
        exact ⟨v, h, h1, ajD ho hf h2, rfl⟩
      · obtain ⟨v, g, h1, h2⟩ := arK hfn e
        exact ⟨v, _, h1, ajD ho hf h2, ⟨g, rfl⟩⟩
      · obtain ⟨v, h', h1, h2⟩ := O0 hfn e
        exact ⟨v, h', h1, ajD ho hf h2, trivial⟩
    · cases e
  · -- the quiet ones
    have hk : kindOf cls op = .q ∨ (∃ x, op = .move x) ∨ ∃ x i, op = .extract x i := by
      unfold uB at e
      split at e <;> first | exact .inl rfl | exact .inr (.inl ⟨_, rfl⟩) | exact .inr (.inr ⟨_, _, rfl⟩) | (cases e; done)
    rcases hk with hk | ⟨x, rfl⟩ | ⟨x, i, rfl⟩
    · exact quiet ho hk e
    · have hm : ∀ h2, tK P o t h2 (ev t x) h2 := fun h2 => by
        have e2 : uB ty t h2 o.op (fun v => some v) = some (ev t x) := by rw [ho]; rfl
        obtain ⟨v, h1, h3⟩ := adE hty e2
        cases h1
        exact h3 h2 (.refl h2)
      exact ⟨ev t x, h, e, hm h, rfl, hm⟩
    · have hx : ∃ v, uB ty t h (.extract x i) (fun v => some v) = some v ∧ K v h = some r := by
        simp only [uB] at e ⊢
        split at e
        · split at e
          · exact ⟨_, rfl, e⟩
          · cases e
        · cases e
      obtain ⟨v, hv, he⟩ := hx
      have hm : ∀ h2, tK P o t h2 v h2 := fun h2 => by
        have e2 : uB ty t h2 o.op (fun v => some v) = some v := by rw [ho]; exact hv
        obtain ⟨v', h1, h3⟩ := adE hty e2
        cases h1
        exact h3 h2 (.refl h2)
      exact ⟨v, h, he, hm h, rfl, hm⟩
theorem awU {t : List V} {d i : Nat} {v : V} : nth (t.set d v) i = if i = d ∧ d < t.length then v else nth t i := by
  induction t generalizing d i with
  | nil => simp [nth]
  | cons x t ih =>
    cases d with
    | zero => cases i <;> simp [nth]
    | succ d =>
      cases i with
      | zero => simp [nth]
      | succ i => simp [nth, ih]
theorem QW {t : List V} {d : Nat} {v : V} {K : List V → Option R} : setK t d v K = K (t.set d v) := by
  induction t generalizing d K with
  | nil => simp [setK]
  | cons x t ih =>
    cases d with
    | zero => simp [setK]
    | succ d => simp only [setK, ih]; rfl
def AU (t : List V) (d : Option Tmp) (v : V) : List V := match d with | some d => t.set d v | none => t
theorem anU {x : A} {K : A → Option R} : aE2 x K = K x := by cases x <;> rfl
theorem ag1 : ∀ {l : List A} {K : List A → Option R}, ai0 l K = K l
  | [], _ => rfl
  | x :: l, K => by simp only [ai0, anU, ag1 (l := l)]
theorem anV {x : U} {K : U → Option R} : anB x K = K x := by
  cases x with
  | a x => simp only [anB, anU]
  | g l => simp only [anB, ag1]
theorem ag2 : ∀ {l : List U} {K : List U → Option R}, ai1 l K = K l
  | [], _ => rfl
  | x :: l, K => by simp only [ai1, anV, ag2 (l := l)]
theorem aNL {v : V} {K : V → Option R} : aM6 v K = K v := by
  cases v with
  | any => rfl
  | u x => simp only [aM6, anV]
  | tup l => simp only [aM6, ag2]
theorem L9 {t : List V} {d : Option Tmp} {v : V} {K : List V → Option R} : anC t d v K = K (AU t d v) := by
  cases d with
  | none => rfl
  | some d => simp only [anC, aNL]; exact QW
theorem ab7 {t : List V} {d : Nat} {v : V} (h : nth t d = v) : t.set d v = t := by
  induction t generalizing d with
  | nil => simp
  | cons x t ih =>
    cases d with
    | zero => simp [nth] at h; simp [h]
    | succ d => simp [nth] at h; simp [ih h]
theorem OI.put {μ : Mu} {t : List V} {a : Act} {d : Option Tmp} {v : V} {cv : Value} (h : OI μ t a) (hv : kK μ v cv) : OI μ (AU t d v) (a.put d cv) := by
  cases d with
  | none => exact h
  | some d =>
    refine ⟨by simp [AU, Act.put, h.1], fun i => ?_⟩
    simp only [AU, Act.put, awU]
    split
    · rename_i he
      obtain ⟨rfl, hlt⟩ := he
      rw [Array.getD_eq_getD_getElem?, Array.getElem?_setIfInBounds]
      simp [h.1, hlt, hv]
    · rename_i he
      have := h.2 i
      rw [Array.getD_eq_getD_getElem?] at this ⊢
      rw [Array.getElem?_setIfInBounds]
      split
      · rename_i e
        subst e
        split
        · rename_i hlt; exact absurd ⟨rfl, by rw [← h.1]; exact hlt⟩ he
        · rename_i hlt
          rw [Array.getElem?_eq_none (by omega)] at this
          exact this
      · exact this
theorem OI.pre {μ μ' : Mu} (hp : Pre μ μ') {t : List V} {a : Act} (h : OI μ t a) : OI μ' t a := ⟨h.1, fun i => (h.2 i).pre hp⟩
inductive Lex (P : Program) (cl : Nat → Cls) (ops : Array Oper) : Nat → List Oper → List V → H → List V → H → Prop
  | nil (n : Nat) (t : List V) (h : H) : Lex P cl ops n [] t h t h
  | run (n : Nat) (o : Oper) (rest : List Oper) (t : List V) (h : H) (v : V) (h' : H) (t' : List V) (h2 : H)
      (hg : ∀ g want, o.guard = some (g, want) → ∃ d, xZ ops g = some d ∧ nth t d = .bool want)
      (ho : tK P o t h v h') (hk : YV P (kindOf (cl n) o.op) o t h v h') (hr : Lex P cl ops (n + 1) rest (AU t o.dst v) h' t' h2) : Lex P cl ops n (o :: rest) t h t' h2
  | skip (n : Nat) (o : Oper) (rest : List Oper) (t : List V) (h : H) (t' : List V) (h2 : H) (g : Nat) (want : Bool) (d : Nat) (hg : o.guard = some (g, want)) (hd : xZ ops g = some d)
      (hn : nth t d = .bool (!want) ∨ nth t d = V.no) (hr : Lex P cl ops (n + 1) rest (AU t o.dst V.no) h t' h2) : Lex P cl ops n (o :: rest) t h t' h2
theorem rE {ty : Ty} (hty : tJ P ty) {fns : Fns} (hfn : ∀ f, FnT P f (fns f)) {cl : Nat → Cls} {ops : Array Oper} : ∀ {l : List Oper} {n : Nat} {t : List V} {h : H} {K : List V → H → Option R},
    abU ty fns cl ops n l t h K = some r → ∃ t' h', K t' h' = some r ∧ Lex P cl ops n l t h t' h'
  | [], n, t, h, K, e => ⟨t, h, e, .nil n t h⟩
  | o :: rest, n, t, h, K, e => by
    unfold abU at e
    split at e
    · rename_i hg
      obtain ⟨v, h', h1, h2, h3⟩ := step_ok hty hfn rfl e
      rw [L9] at h1
      obtain ⟨t', h2', h4, h5⟩ := rE hty hfn h1
      exact ⟨t', h2', h4, .run n o rest t h v h' t' h2' (fun g want hh => by rw [hg] at hh; cases hh) h2 h3 h5⟩
    · rename_i j want hg
      split at e
      · cases e
      · rename_i d hd
        split at e
        · rename_i p hb
          split at e
          · split at e
            · rw [QW, ab7 hb] at e
              obtain ⟨v, h', h1, h2, h3⟩ := step_ok hty hfn rfl e
              rw [L9] at h1
              obtain ⟨t', h2', h4, h5⟩ := rE hty hfn h1
              exact ⟨t', h2', h4, .run n o rest t h v h' t' h2' (fun g want hh => by rw [hg] at hh; cases hh; exact ⟨d, hd, hb⟩) h2 h3 h5⟩
            · rw [QW, ab7 hb, L9] at e
              obtain ⟨t', h2', h4, h5⟩ := rE hty hfn e
              exact ⟨t', h2', h4, .skip n o rest t h t' h2' j false d hg hd (.inl hb) h5⟩
          · split at e
            · rw [QW, ab7 hb] at e
              obtain ⟨v, h', h1, h2, h3⟩ := step_ok hty hfn rfl e
              rw [L9] at h1
              obtain ⟨t', h2', h4, h5⟩ := rE hty hfn h1
              exact ⟨t', h2', h4, .run n o rest t h v h' t' h2' (fun g want hh => by rw [hg] at hh; cases hh; exact ⟨d, hd, hb⟩) h2 h3 h5⟩
            · rw [QW, ab7 hb, L9] at e
              obtain ⟨t', h2', h4, h5⟩ := rE hty hfn e
              exact ⟨t', h2', h4, .skip n o rest t h t' h2' j true d hg hd (.inl hb) h5⟩
        · rename_i hb
          rw [L9] at e
          obtain ⟨t', h2', h4, h5⟩ := rE hty hfn e
          exact ⟨t', h2', h4, .skip n o rest t h t' h2' j want d hg hd (.inr hb) h5⟩
        · cases e
structure Inv (μ0 : Mu) (h0 : H) (w0 : World) (μ : Mu) (st : St) (a : Act) (w : World) : Prop where
  slots : OI μ st.t a
  defers : a.defers = []
  ev : Ev μ0 h0 w0 μ st.h w
theorem MB {μ : Mu} {t : List V} {a : Act} (hs : OI μ t a) {ops : Array Oper} {o : Oper} {g : Nat} {want : Bool} {d : Nat} (hg : o.guard = some (g, want)) (hd : xZ ops g = some d) :
    (nth t d = .bool want → Region.wanted o (yielded ops a.tmps) = true) ∧ (nth t d = .bool (!want) ∨ nth t d = V.no → Region.wanted o (yielded ops a.tmps) = false) := by
  have hv := hs.2 d
  have hy : yielded ops a.tmps g = match a.tmps[d]? with | some (.bool b) => some b | _ => none := by
    unfold xZ at hd
    simp only [yielded, hd, Option.bind_some]
    cases a.tmps[d]? with
    | none => rfl
    | some u => cases u <;> rfl
  rw [Array.getD_eq_getD_getElem?] at hv
  unfold Region.wanted
  simp only [hg, hy]
  refine ⟨fun h => ?_, fun h => ?_⟩
  · rw [h] at hv
    have := oH hv
    cases hh : a.tmps[d]? with
    | none => rw [hh] at this; cases this
    | some u => rw [hh] at this; simp at this; subst this; simp
  · rcases h with h | h
    · rw [h] at hv
      have := oH hv
      cases hh : a.tmps[d]? with
      | none => rw [hh] at this; cases this
      | some u => rw [hh] at this; simp at this; subst this; cases want <;> simp
    · rw [h] at hv
      obtain ⟨cs, hcs, _⟩ := hv
      cases hh : a.tmps[d]? with
      | none => simp
      | some u => rw [hh] at hcs; simp at hcs; subst hcs; simp
theorem aFL {cl : Nat → Cls} {ops : Array Oper} {Q : Exit → Act → World → Prop} {μ0 : Mu} {h0 : H} {w0 : World} {t' : List V} {h' : H} (hQ : ∀ μ a w, Inv μ0 h0 w0 μ ⟨t', h'⟩ a w → Q .normal a w) :
    ∀ {l : List Oper} {n : Nat} {t : List V} {h : H}, Lex P cl ops n l t h t' h' → ∀ {μ : Mu} {a : Act} {w : World}, Inv μ0 h0 w0 μ ⟨t, h⟩ a w → wpList P ops Q l a w := by
  intro l n t h hl
  induction hl with
  | nil n t h => intro μ a w hi; exact hQ μ a w hi
  | run n o rest t h v h1 t' h2 hg ho hk hr ih =>
    intro μ a w hi
    have hw : Region.wanted o (yielded ops a.tmps) = true := by
      cases hgd : o.guard with
      | none => unfold Region.wanted; rw [hgd]
      | some p =>
        obtain ⟨g, want⟩ := p
        obtain ⟨d, hd, hn⟩ := hg g want hgd
        exact (MB hi.slots hgd hd).1 hn
    refine wpList_step fun K hK => ?_
    rw [if_pos hw]
    refine ho μ a w (fun x _ => ajB hi.slots x) hi.ev.rel K Q fun cv w' hgo => hK _ _ ?_
    obtain ⟨μ', he, hcv⟩ := hgo
    exact ih hQ ⟨(hi.slots.pre he.pre).put hcv, by cases o.dst <;> exact hi.defers, hi.ev.trans he⟩
  | skip n o rest t h t' h2 g want d hg hd hn hr ih =>
    intro μ a w hi
    have hw := (MB hi.slots hg hd).2 hn
    refine wpList_step fun K hK => ?_
    rw [if_neg (by rw [hw]; simp)]
    exact hK _ _ (ih hQ ⟨hi.slots.put (kK.no μ), by cases o.dst <;> exact hi.defers, hi.ev⟩)
end
def mG {α : Type} (wr : Nat → Bool) (val : Nat → α) (x : α) (L : Nat → Bool) : Nat → α
  | 0 => x
  | j + 1 => if wr j && L j then val j else mG wr val x L j
section
variable {α : Type} {wr : Nat → Bool} {val : Nat → α} {x : α} {L L' : Nat → Bool}
theorem uG : ∀ {n : Nat}, (∀ i, i < n → wr i = true → L i = L' i) → mG wr val x L n = mG wr val x L' n
  | 0, _ => rfl
  | n + 1, h => by
    simp only [mG]
    rw [uG (n := n) fun i hi => h i (by omega)]
    cases hw : wr n
    · simp
    · rw [h n (by omega) hw]
theorem YW {j : Nat} (hL' : ∀ i, i ≠ j → L' i = L i) (hj : L j = false) (hj' : L' j = true) : ∀ {n : Nat}, j < n → (∀ i, j < i → i < n → L i = true → wr i = true → wr j = false) →
    mG wr val x L' n = if wr j then val j else mG wr val x L n
  | 0, h, _ => by omega
  | n + 1, h, hc => by
    simp only [mG]
    by_cases e : n = j
    · subst e
      rw [hj, hj']
      have : mG wr val x L' n = mG wr val x L n := uG fun i hi _ => hL' i (by omega)
      rw [this]
      cases wr n <;> simp
    · have ih := YW hL' hj hj' (n := n) (by omega) (fun i h1 h2 => hc i h1 (by omega))
      rw [hL' n e, ih]
      cases hw : wr n
      · simp
      · cases hl : L n
        · simp
        · have := hc n (by omega) (by omega) hl hw
          simp [this]
theorem YX {j : Nat} : ∀ {n : Nat}, j ≤ n → (∀ i, i < j → wr i = true → L i = true) → (∀ i, j ≤ i → i < n → wr i = true → L i = false) → mG wr val x L n = mG wr val x (fun _ => true) j
  | 0, h, h1, _ => by
    have : j = 0 := by omega
    subst this; rfl
  | n + 1, h, h1, h2 => by
    by_cases e : j = n + 1
    · subst e
      exact uG fun i hi hw => h1 i hi hw
    · simp only [mG]
      have ih := YX (n := n) (by omega) h1 (fun i h3 h4 => h2 i h3 (by omega))
      cases hw : wr n
      · simpa using ih
      · rw [h2 n (by omega) (by omega) hw]; simpa using ih
theorem O1 (h : ∀ i, L i = false) : ∀ {n : Nat}, mG wr val x L n = x
  | 0 => rfl
  | n + 1 => by simp only [mG, h n, Bool.and_false, Bool.false_eq_true, if_false]; exact O1 h
theorem anW : ∀ (n : Nat), ∃ s, s ≤ n ∧ (∀ i, s ≤ i → i < n → wr i = true → L i = false) ∧ ((s = 0 ∧ mG wr val x L n = x) ∨ ∃ q, s = q + 1 ∧ wr q = true ∧ L q = true ∧ mG wr val x L n = val q)
  | 0 => ⟨0, Nat.le_refl _, fun i h1 h2 => by omega, .inl ⟨rfl, rfl⟩⟩
  | n + 1 => by
    cases hw : wr n && L n
    · obtain ⟨s, h1, h2, h3⟩ := anW n
      refine ⟨s, by omega, fun i h4 h5 h6 => ?_, ?_⟩
      · by_cases e : i = n
        · subst e; rw [h6] at hw; simpa using hw
        · exact h2 i h4 (by omega) h6
      · simp only [mG, hw]; exact h3
    · simp only [Bool.and_eq_true] at hw
      exact ⟨n + 1, Nat.le_refl _, fun i h4 h5 => by omega, .inr ⟨n, rfl, hw.1, hw.2, by simp [mG, hw.1, hw.2]⟩⟩
end
structure Places (P : Program) (cl : Nat → Cls) (ops : Array Oper) (n : Nat) (T : Nat → List V) (Hh : Nat → H) (vv : Nat → V) (j : Nat) (o : Oper) : Prop where
  at_ : ops[j]? = some o
  next : T (j + 1) = AU (T j) o.dst (vv j)
  step : ((∀ g want, o.guard = some (g, want) → ∃ d, xZ ops g = some d ∧ nth (T j) d = .bool want) ∧ tK P o (T j) (Hh j) (vv j) (Hh (j + 1)) ∧ YV P (kindOf (cl j) o.op) o (T j) (Hh j) (vv j) (Hh (j + 1))) ∨
    (∃ g want d, o.guard = some (g, want) ∧ xZ ops g = some d ∧ (nth (T j) d = .bool (!want) ∨ nth (T j) d = V.no) ∧ vv j = V.no ∧ Hh (j + 1) = Hh j)
theorem places {P : Program} {cl : Nat → Cls} {ops : Array Oper} {t' : List V} {h' : H} : ∀ {n : Nat} {l : List Oper} {t : List V} {h : H}, Lex P cl ops n l t h t' h' → (∀ i o, l[i]? = some o → ops[n + i]? = some o) →
    ∃ T Hh vv, T n = t ∧ Hh n = h ∧ T (n + l.length) = t' ∧ Hh (n + l.length) = h' ∧ ∀ j, n ≤ j → j < n + l.length → ∃ o, Places P cl ops n T Hh vv j o := by
  intro n l t h hl
  induction hl with
  | nil n t h => exact fun _ => ⟨fun _ => t, fun _ => h, fun _ => V.no, rfl, rfl, rfl, rfl, fun j h1 h2 => by simp at h2; omega⟩
  | run n o rest t h v h1 t' h2 hg ho hk hr ih =>
    intro hops
    obtain ⟨T, Hh, vv, e1, e2, e3, e4, e5⟩ := ih (fun i o hi => by have := hops (i + 1) o (by simpa using hi); rwa [show n + (i + 1) = n + 1 + i by omega] at this)
    refine ⟨fun j => if j = n then t else T j, fun j => if j = n then h else Hh j, fun j => if j = n then v else vv j, by simp, by simp, ?_, ?_, fun j h3 h4 => ?_⟩
    · simp only [List.length_cons]
      rw [if_neg (by omega), ← e3]; congr 1; omega
    · simp only [List.length_cons]
      rw [if_neg (by omega), ← e4]; congr 1; omega
    · by_cases e : j = n
      · subst e
        refine ⟨o, ⟨hops 0 o rfl, ?_, .inl ?_⟩⟩
        · simp only [if_true]; rw [if_neg (by omega), e1]
        · simp only [if_true]; rw [if_neg (by omega), e2]; exact ⟨hg, ho, hk⟩
      · obtain ⟨o', q1, q2, q3⟩ := e5 j (by omega) (by simp only [List.length_cons] at h4; omega)
        refine ⟨o', ⟨q1, ?_, ?_⟩⟩
        · simp only [if_neg e]; rw [if_neg (by omega)]; exact q2
        · simp only [if_neg e]; rw [if_neg (by omega : ¬ j + 1 = n)]; exact q3
  | skip n o rest t h t' h2 g want d hg hd hn hr ih =>
    intro hops
    obtain ⟨T, Hh, vv, e1, e2, e3, e4, e5⟩ := ih (fun i o hi => by have := hops (i + 1) o (by simpa using hi); rwa [show n + (i + 1) = n + 1 + i by omega] at this)
    refine ⟨fun j => if j = n then t else T j, fun j => if j = n then h else Hh j, fun j => if j = n then V.no else vv j, by simp, by simp, ?_, ?_, fun j h3 h4 => ?_⟩
    · simp only [List.length_cons]
      rw [if_neg (by omega), ← e3]; congr 1; omega
    · simp only [List.length_cons]
      rw [if_neg (by omega), ← e4]; congr 1; omega
    · by_cases e : j = n
      · subst e
        refine ⟨o, ⟨hops 0 o rfl, ?_, .inr ?_⟩⟩
        · simp only [if_true]; rw [if_neg (by omega), e1]
        · simp only [if_true]; rw [if_neg (by omega), e2]; exact ⟨g, want, d, hg, hd, hn, by first | rfl | trivial, rfl⟩
      · obtain ⟨o', q1, q2, q3⟩ := e5 j (by omega) (by simp only [List.length_cons] at h4; omega)
        refine ⟨o', ⟨q1, ?_, ?_⟩⟩
        · simp only [if_neg e]; rw [if_neg (by omega)]; exact q2
        · simp only [if_neg e]; rw [if_neg (by omega : ¬ j + 1 = n)]; exact q3
def pY (listed : Array Bool) : Nat → Nat
  | 0 => 0
  | n + 1 => (if listed.getD n false then 0 else 1) + pY listed n
theorem JD {listed : Array Bool} : ∀ {n : Nat}, pY listed n = 0 → ∀ i, i < n → listed.getD i false = true
  | 0, _, i, hi => by omega
  | n + 1, h, i, hi => by
    simp only [pY] at h
    by_cases e : i = n
    · subst e
      cases hl : listed.getD i false
      · rw [hl] at h; simp at h
      · rfl
    · exact JD (n := n) (by split at h <;> omega) i (by omega)
theorem adH {listed : Array Bool} : ∀ {n : Nat}, 0 < pY listed n → ∃ i, i < n ∧ listed.getD i false = false ∧ ∀ k, k < i → listed.getD k false = true
  | 0, h => by simp [pY] at h
  | n + 1, h => by
    by_cases hn : 0 < pY listed n
    · obtain ⟨i, h1, h2, h3⟩ := adH hn
      exact ⟨i, by omega, h2, h3⟩
    · have h0 : pY listed n = 0 := by omega
      simp only [pY, h0] at h
      cases hl : listed.getD n false
      · exact ⟨n, by omega, hl, fun k hk => JD h0 k hk⟩
      · rw [hl] at h; simp at h
theorem JE {listed : Array Bool} {i j : Nat} (hi : i < listed.size) : (listed.setIfInBounds i true).getD j false = if j = i then true else listed.getD j false := by
  rw [Array.getD_eq_getD_getElem?, Array.getD_eq_getD_getElem?, Array.getElem?_setIfInBounds]
  by_cases e : i = j
  · subst e; simp [hi]
  · rw [if_neg e, if_neg (fun h => e h.symm)]
theorem adI {listed : Array Bool} {i : Nat} (hi : i < listed.size) (h : listed.getD i false = false) : ∀ {n : Nat}, i < n → pY listed n = pY (listed.setIfInBounds i true) n + 1
  | 0, hn => by omega
  | n + 1, hn => by
    simp only [pY, JE hi]
    by_cases e : n = i
    · subst e
      have : ∀ {m : Nat}, m ≤ n → pY listed m = pY (listed.setIfInBounds n true) m := by
        intro m
        induction m with
        | zero => intro _; rfl
        | succ m ih => intro hm; simp only [pY, JE hi]; rw [if_neg (show ¬ m = n by omega), ih (by omega)]
      rw [← this (Nat.le_refl n), h]; simp; omega
    · rw [if_neg e, adI hi h (by omega)]; omega
def Closed (ops : Array Oper) (L : Nat → Bool) : Prop := ∀ i o, L i = true → ops[i]? = some o → ∀ e ∈ o.after, Region.binds .any e = true → L e.on = true
theorem ajE {ops : Array Oper} {L : Nat → Bool} {j : Nat} (hc : Closed ops L) (hj : ∀ o, ops[j]? = some o → ∀ e ∈ o.after, Region.binds .any e = true → L e.on = true) :
    ∀ {n : Nat} {l : List Nat}, (∀ i ∈ l, i = j ∨ L i = true) → ∀ i ∈ anc ops n l, i = j ∨ L i = true
  | 0, l, h, i, hi => h i hi
  | n + 1, l, h, i, hi => by
    refine ajE hc hj (n := n) (fun k hk => ?_) i hi
    have mem : ∀ {m l : List Nat} {k : Nat}, k ∈ m.foldl o9 l → k ∈ l ∨ k ∈ m := by
      intro m
      induction m with
      | nil => intro l k h; exact .inl h
      | cons x m ih =>
        intro l k h
        rcases ih h with h | h
        · unfold o9 at h
          split at h
          · exact .inl h
          · rcases List.mem_append.1 h with h | h
            · exact .inl h
            · simp at h; subst h; exact .inr (List.mem_cons_self ..)
        · exact .inr (List.mem_cons_of_mem _ h)
    rcases mem hk with hk | hk
    · exact h k hk
    · simp only [List.mem_flatMap] at hk
      obtain ⟨q, hq, hk⟩ := hk
      split at hk
      · rename_i o ho
        simp only [List.mem_map, List.mem_filter] at hk
        obtain ⟨e, ⟨he, hb⟩, rfl⟩ := hk
        right
        rcases h q hq with h1 | h1
        · subst h1; exact hj o ho e (by simpa using he) hb
        · exact hc q o h1 ho e (by simpa using he) hb
      · cases hk
section
variable {P : Program}
theorem ag3 {μ : Mu} {a : Act} {ops : Array Oper} {o : Oper} {g : Nat} {want : Bool} {d : Nat} {u : V} (hv : kK μ u (a.tmps.getD d undef)) (hg : o.guard = some (g, want)) (hd : xZ ops g = some d) :
    (u = .bool want → Region.wanted o (yielded ops a.tmps) = true) ∧ (u = .bool (!want) ∨ u = V.no → Region.wanted o (yielded ops a.tmps) = false) := by
  have hy : yielded ops a.tmps g = match a.tmps[d]? with | some (.bool b) => some b | _ => none := by
    unfold xZ at hd
    simp only [yielded, hd, Option.bind_some]
    cases a.tmps[d]? with
    | none => rfl
    | some u => cases u <;> rfl
  rw [Array.getD_eq_getD_getElem?] at hv
  unfold Region.wanted
  simp only [hg, hy]
  refine ⟨fun h => ?_, fun h => ?_⟩
  · rw [h] at hv
    have := oH hv
    cases hh : a.tmps[d]? with
    | none => rw [hh] at this; cases this
    | some u => rw [hh] at this; simp at this; subst this; simp
  · rcases h with h | h
    · rw [h] at hv
      have := oH hv
      cases hh : a.tmps[d]? with
      | none => rw [hh] at this; cases this
      | some u => rw [hh] at this; simp at this; subst this; cases want <;> simp
    · rw [h] at hv
      obtain ⟨cs, hcs, _⟩ := hv
      cases hh : a.tmps[d]? with
      | none => simp
      | some u => rw [hh] at hcs; simp at hcs; subst hcs; simp
theorem aNM {t : List V} {d : Option Tmp} {v : V} {i : Nat} : nth (AU t d v) i = if d = some i ∧ i < t.length then v else nth t i := by
  cases d with
  | none => simp [AU]
  | some d =>
    simp only [AU, awU, Option.some.injEq]
    by_cases e : i = d
    · subst e; simp
    · rw [if_neg (fun h => e h.1), if_neg (fun h => e h.1.symm)]
theorem aNN {t : List V} {d : Option Tmp} {v : V} : (AU t d v).length = t.length := by cases d <;> simp [AU]
def wrS (ops : Array Oper) (len d j : Nat) : Bool := match ops[j]? with | some o => decide (o.dst = some d ∧ d < len) | none => false
def wrH (cl : Nat → Cls) (ops : Array Oper) (j : Nat) : Bool := match ops[j]? with | some o => (match kindOf (cl j) o.op with | .g => true | .l => true | _ => false) | none => false
def Ext (a b : H) : Prop := a.length ≤ b.length ∧ ∀ i, i < a.length → b[i]? = a[i]?
theorem Ext.refl (a : H) : Ext a a := ⟨Nat.le_refl _, fun _ _ => rfl⟩
theorem Ext.trans {a b c : H} (h : Ext a b) (k : Ext b c) : Ext a c := ⟨Nat.le_trans h.1 k.1, fun i hi => (k.2 i (Nat.lt_of_lt_of_le hi h.1)).trans (h.2 i hi)⟩
theorem Ext.app (a g : H) : Ext a (a ++ g) := ⟨by simp, fun i hi => List.getElem?_append_left hi⟩
theorem Ext.agree {a b : H} (h : Ext a b) : Agree a b := fun i hi _ => (h.2 i hi).symm
theorem Ext.agree' {a b : H} (h : Ext a b) : Agree b a := fun i _ hi => h.2 i hi
theorem az6 {ops : Array Oper} {o : Oper} {n : Nat} (h : Operand.tmp n ∈ o.op.operands.toList) : n ∈ o.looksAt ops := by
  unfold Oper.looksAt
  exact List.mem_append_left _ (List.mem_filterMap.2 ⟨.tmp n, h, rfl⟩)
theorem aaC {ops : Array Oper} {o : Oper} {g : Nat} {want : Bool} {d : Nat} (h : o.guard = some (g, want)) (hd : xZ ops g = some d) : d ∈ o.looksAt ops := by
  unfold Oper.looksAt
  refine List.mem_append_right _ ?_
  unfold xZ at hd
  simp [h, hd]
set_option maxHeartbeats 1000000 in
theorem awV {cl : Nat → Cls} {ops : Array Oper} {Q : Exit → Act → World → Prop} {μ0 : Mu} {h0 : H} {w0 : World} {t t' : List V} {h h' : H} (hQ : ∀ μ a w, Inv μ0 h0 w0 μ ⟨t', h'⟩ a w → Q .normal a w)
    (hok : ai5 cl ops = true) (hl : Lex P cl ops 0 ops.toList t h t' h') {μ : Mu} {a : Act} {w : World} (hi : Inv μ0 h0 w0 μ ⟨t, h⟩ a w) :
    wpAny P .any ops Q ops.size (Array.replicate ops.size false) a w := by
  obtain ⟨T, Hh, vv, e1, e2, e3, e4, e5⟩ := places hl (fun i o ho => by simpa using ho)
  have hN : ops.toList.length = ops.size := by simp
  rw [hN, Nat.zero_add] at e3 e4
  simp only [hN, Nat.zero_add, Nat.zero_le, true_implies] at e5
  have hchk : ∀ j, j < ops.size → ∃ o, ops[j]? = some o ∧ (∀ e ∈ o.after, Region.binds .any e = true → e.on < j) ∧ ∀ i, i < j → arF cl ops j i = true := by
    intro j hj
    unfold ai5 at hok
    rw [List.all_eq_true] at hok
    have := hok j (by simpa using hj)
    simp only [Bool.and_eq_true, List.all_eq_true] at this
    obtain ⟨h1, h2⟩ := this
    obtain ⟨o, hp⟩ := e5 j hj
    refine ⟨o, hp.at_, ?_⟩
    rw [hp.at_] at h1
    simp only [Bool.and_eq_true, List.all_eq_true, Bool.or_eq_true, decide_eq_true_eq] at h1
    exact ⟨fun e he hb => (h1.1 e (by simpa using he)).resolve_left (by rw [hb]; decide), fun i hi => h2 i (by simpa using hi)⟩
  have hpair : ∀ i j oi oj, i < j → j < ops.size → ops[i]? = some oi → ops[j]? = some oj → (waits ops j i = true ∨ oi.apart ops oj = true) ∧ ((kindOf (cl i) oi.op).free (kindOf (cl j) oj.op) = true ∨ i ∈ anc ops ops.size [j]) := by
    intro i j oi oj hij hj hoi hoj
    obtain ⟨o, _, _, hp⟩ := hchk j hj
    have := hp i hij
    unfold arF at this
    rw [hoi, hoj] at this
    simpa using this
  have hTlen : ∀ j, j ≤ ops.size → (T j).length = t.length := by
    intro j
    induction j with
    | zero => intro _; rw [e1]
    | succ j ih => intro hj; obtain ⟨o, hp⟩ := e5 j (by omega); rw [hp.next, aNN]; exact ih (by omega)
  have hT : ∀ d j, j ≤ ops.size → mG (wrS ops t.length d) vv (nth t d) (fun _ => true) j = nth (T j) d := by
    intro d j
    induction j with
    | zero => intro _; simp only [mG, e1]
    | succ j ih =>
      intro hj
      obtain ⟨o, hp⟩ := e5 j (by omega)
      rw [hp.next, aNM, hTlen j (by omega)]
      simp only [mG, Bool.and_true, ih (by omega), wrS, hp.at_]
      by_cases hc : o.dst = some d ∧ d < t.length
      · simp [hc]
      · simp [hc]
  have hsame : ∀ j o, ops[j]? = some o → j < ops.size → wrH cl ops j = false → Hh (j + 1) = Hh j := by
    intro j o ho hj hw
    obtain ⟨o', hp⟩ := e5 j hj
    rw [hp.at_] at ho
    cases ho
    rcases hp.step with ⟨_, _, hk⟩ | ⟨_, _, _, _, _, _, _, hk⟩
    · unfold wrH at hw
      rw [hp.at_] at hw
      simp only at hw
      unfold YV at hk
      split at hk
      · exact hk.1
      · exact hk.1
      · exact hk
      · rename_i he; rw [he] at hw; cases hw
      · rename_i he; rw [he] at hw; cases hw
    · exact hk
  have hHh : ∀ j, j ≤ ops.size → mG (wrH cl ops) (fun j => Hh (j + 1)) h (fun _ => true) j = Hh j := by
    intro j
    induction j with
    | zero => intro _; simp only [mG, e2]
    | succ j ih =>
      intro hj
      obtain ⟨o, hp⟩ := e5 j (by omega)
      simp only [mG, Bool.and_true, ih (by omega)]
      cases hw : wrH cl ops j
      · simp only [Bool.false_eq_true, if_false]; exact (hsame j o hp.at_ (by omega) hw).symm
      · simp
  have hext : ∀ a b, a ≤ b → b ≤ ops.size → (∀ i o, a ≤ i → i < b → ops[i]? = some o → kindOf (cl i) o.op ≠ .l) → Ext (Hh a) (Hh b) := by
    intro a b hab
    induction b with
    | zero =>
      intro _ _
      obtain rfl : a = 0 := by omega
      exact .refl _
    | succ b ih =>
      intro hb hno
      by_cases e : a = b + 1
      · subst e; exact .refl _
      · refine (ih (by omega) (by omega) (fun i o h1 h2 => hno i o h1 (by omega))).trans ?_
        obtain ⟨o, hp⟩ := e5 b (by omega)
        have hne := hno b o (by omega) (by omega) hp.at_
        rcases hp.step with ⟨_, _, hk⟩ | ⟨_, _, _, _, _, _, _, hk⟩
        · unfold YV at hk
          split at hk
          · rw [hk.1]; exact .refl _
          · rw [hk.1]; exact .refl _
          · rw [hk]; exact .refl _
          · obtain ⟨g, hg⟩ := hk; rw [hg]; exact .app _ g
          · rename_i he; exact absurd he hne
        · rw [hk]; exact .refl _
  have main : ∀ (fuel : Nat) (listed : Array Bool) (a : Act) (w : World), listed.size = ops.size → pY listed ops.size = fuel → Closed ops (fun i => listed.getD i false) →
      (∃ μ, a.tmps.size = t.length ∧ (∀ d, kK μ (mG (wrS ops t.length d) vv (nth t d) (fun i => listed.getD i false) ops.size) (a.tmps.getD d undef)) ∧ a.defers = [] ∧
        Ev μ0 h0 w0 μ (mG (wrH cl ops) (fun j => Hh (j + 1)) h (fun i => listed.getD i false) ops.size) w) → wpAny P .any ops Q fuel listed a w := by
    intro fuel
    induction fuel with
    | zero =>
      intro listed a w hsz hcnt hcl ⟨μ, s1, s2, s3, s4⟩
      have hall := JD hcnt
      refine ⟨?_, ?_⟩
      · rw [List.eq_nil_iff_forall_not_mem]
        intro i hi
        obtain ⟨h1, o, ho, _⟩ := mem_ready.1 hi
        have hlt : i < ops.size := (Array.getElem?_eq_some_iff.1 ho).1
        have := hall i hlt
        rw [getD_both h1] at this
        cases this
      · refine hQ μ a w ⟨⟨by rw [s1, ← e3, hTlen _ (Nat.le_refl _)], fun d => ?_⟩, s3, ?_⟩
        · have := s2 d
          rw [uG (L' := fun _ => true) fun i hi _ => hall i hi, hT d _ (Nat.le_refl _), e3] at this
          exact this
        · rw [uG (L' := fun _ => true) fun i hi _ => hall i hi, hHh _ (Nat.le_refl _), e4] at s4
          exact s4
    | succ fuel ih =>
      intro listed a w hsz hcnt hcl ⟨μ, s1, s2, s3, s4⟩
      refine ⟨fun h0 => ?_, fun j hj => ?_⟩
      · obtain ⟨i, h1, h2, h3⟩ := adH (listed := listed) (n := ops.size) (by omega)
        obtain ⟨o, ho, he, _⟩ := hchk i h1
        have : i ∈ Region.ready .any ops listed := mem_ready.2 ⟨by rw [Array.getD_eq_getD_getElem?] at h2 ⊢; rw [Array.getElem?_eq_getElem (by omega)] at h2 ⊢; simpa using h2, o, ho, fun e hm hb => h3 e.on (he e hm hb)⟩
        rw [h0] at this
        cases this
      · obtain ⟨hun, o, ho, hall⟩ := mem_ready.1 hj
        have hun' : listed.getD j false = false := getD_both hun
        have hjN : j < ops.size := (Array.getElem?_eq_some_iff.1 ho).1
        obtain ⟨o', hp⟩ := e5 j hjN
        have hoo : o' = o := by have := hp.at_; rw [ho] at this; exact (Option.some.inj this).symm
        subst hoo
        have hready : ∀ o, ops[j]? = some o → ∀ e ∈ o.after, Region.binds .any e = true → listed.getD e.on false = true := fun o1 ho1 => by
          rw [ho] at ho1; cases ho1; exact hall
        have hwait : ∀ i, waits ops j i = true → listed.getD i false = true := by
          intro i hw
          unfold waits at hw
          rw [ho] at hw
          simp only [List.any_eq_true, Bool.and_eq_true, beq_iff_eq] at hw
          obtain ⟨e, he, hb, rfl⟩ := hw
          exact hall e (by simpa using he) hb
        have hback : ∀ i oi, ops[i]? = some oi → listed.getD i false = true → waits ops i j = false := by
          intro i oi hoi hli
          cases hw : waits ops i j
          · rfl
          · unfold waits at hw
            rw [hoi] at hw
            simp only [List.any_eq_true, Bool.and_eq_true, beq_iff_eq] at hw
            obtain ⟨e, he, hb, he2⟩ := hw
            have := hcl i oi hli hoi e (by simpa using he) hb
            rw [he2] at this
            simp only [hun'] at this
            cases this
        have hancj : ∀ i, i ∈ anc ops ops.size [j] → i ≠ j → listed.getD i false = true := fun i hm hne =>
          (ajE hcl hready (fun k hk => by simp at hk; exact .inl hk) i hm).resolve_left hne
        have hanci : ∀ i, listed.getD i false = true → j ∉ anc ops ops.size [i] := by
          intro i hli hm
          have := ajE (j := i) hcl (fun o1 ho1 => hcl i o1 hli ho1) (fun k hk => by simp at hk; exact .inl hk) j hm
          rcases this with h1 | h1
          · subst h1; rw [hun'] at hli; cases hli
          · simp only [hun'] at h1; cases h1
        have hslot : ∀ d, d ∈ o'.looksAt ops → mG (wrS ops t.length d) vv (nth t d) (fun i => listed.getD i false) ops.size = nth (T j) d := by
          intro d hd
          rw [← hT d j (by omega)]
          refine YX (by omega) (fun i hij hw => ?_) (fun i hij hiN hw => ?_)
          · obtain ⟨oi, hpi⟩ := e5 i (by omega)
            simp only [wrS, hpi.at_, decide_eq_true_eq] at hw
            rcases (hpair i j oi o' hij hjN hpi.at_ ho).1 with h1 | h1
            · exact hwait i h1
            · exact absurd hd ((Oper.apart_spec h1).1 d hw.1)
          · by_cases e : i = j
            · subst e; exact hun'
            · obtain ⟨oi, hpi⟩ := e5 i hiN
              simp only [wrS, hpi.at_, decide_eq_true_eq] at hw
              cases hli : listed.getD i false
              · rfl
              · rcases (hpair j i o' oi (by omega) hiN ho hpi.at_).1 with h1 | h1
                · rw [hback i oi hpi.at_ hli] at h1; cases h1
                · exact absurd hd ((Oper.apart_spec h1).2.2 d hw.1)
        have hL' : ∀ i, i ≠ j → (listed.setIfInBounds j true).getD i false = listed.getD i false := fun i hne => by rw [JE (by omega), if_neg hne]
        have hLj : (listed.setIfInBounds j true).getD j false = true := by rw [JE (by omega), if_pos rfl]
        have hcl' : Closed ops (fun i => (listed.setIfInBounds j true).getD i false) := by
          intro i oi hli hoi e he hb
          have key : listed.getD e.on false = true := by
            by_cases e1 : i = j
            · subst e1; exact hready oi hoi e he hb
            · rw [show (fun i => (listed.setIfInBounds j true).getD i false) i = listed.getD i false from hL' i e1] at hli
              exact hcl i oi hli hoi e he hb
          show (listed.setIfInBounds j true).getD e.on false = true
          rw [JE (by omega)]
          split
          · rfl
          · exact key
        have hslot' : ∀ (v : V) d, v = vv j → mG (wrS ops t.length d) vv (nth t d) (fun i => (listed.setIfInBounds j true).getD i false) ops.size =
            if o'.dst = some d ∧ d < t.length then v else mG (wrS ops t.length d) vv (nth t d) (fun i => listed.getD i false) ops.size := by
          intro v d hv
          rw [YW (L := fun i => listed.getD i false) hL' hun' hLj hjN (fun i hij hiN hli hw => ?_)]
          · subst hv
            simp only [wrS, ho]
            by_cases hc : o'.dst = some d ∧ d < t.length
            · simp [hc]
            · simp [hc]
          · obtain ⟨oi, hpi⟩ := e5 i hiN
            simp only [wrS, hpi.at_, decide_eq_true_eq] at hw
            simp only [wrS, ho, decide_eq_false_iff_not]
            intro hc
            rcases (hpair j i o' oi hij hiN ho hpi.at_).1 with h1 | h1
            · rw [hback i oi hpi.at_ hli] at h1; cases h1
            · exact (Oper.apart_spec h1).2.1 d hc.1 hw.1
        have hcnt' : pY (listed.setIfInBounds j true) ops.size = fuel := by
          have := adI (listed := listed) (i := j) (by omega) hun' (n := ops.size) hjN
          omega
        have hheap' : ∀ (b : Bool), wrH cl ops j = b → mG (wrH cl ops) (fun j => Hh (j + 1)) h (fun i => (listed.setIfInBounds j true).getD i false) ops.size =
            if b then Hh (j + 1) else mG (wrH cl ops) (fun j => Hh (j + 1)) h (fun i => listed.getD i false) ops.size := by
          intro b hb
          rw [YW (L := fun i => listed.getD i false) hL' hun' hLj hjN (fun i hij hiN hli hw => ?_), hb]
          obtain ⟨oi, hpi⟩ := e5 i hiN
          cases hwj : wrH cl ops j
          · rfl
          · exfalso
            rcases (hpair j i o' oi hij hiN ho hpi.at_).2 with h1 | h1
            · simp only [wrH, ho, hpi.at_] at hw hwj
              revert h1 hw hwj
              cases kindOf (cl j) o'.op <;> cases kindOf (cl i) oi.op <;> simp [Kd.free]
            · exact hanci i hli h1
        have hexact : kindOf (cl j) o'.op ≠ .q → kindOf (cl j) o'.op ≠ .s → mG (wrH cl ops) (fun j => Hh (j + 1)) h (fun i => listed.getD i false) ops.size = Hh j := by
          intro hk hks
          rw [← hHh j (by omega)]
          refine YX (by omega) (fun i hij hw => ?_) (fun i hij hiN hw => ?_)
          · obtain ⟨oi, hpi⟩ := e5 i (by omega)
            rcases (hpair i j oi o' hij hjN hpi.at_ ho).2 with h1 | h1
            · exfalso
              simp only [wrH, hpi.at_] at hw
              revert h1 hw hk hks
              cases kindOf (cl j) o'.op <;> cases kindOf (cl i) oi.op <;> simp [Kd.free]
            · exact hancj i h1 (by omega)
          · by_cases e : i = j
            · subst e; exact hun'
            · obtain ⟨oi, hpi⟩ := e5 i hiN
              cases hli : listed.getD i false
              · rfl
              · exfalso
                rcases (hpair j i o' oi (by omega) hiN ho hpi.at_).2 with h1 | h1
                · simp only [wrH, hpi.at_] at hw
                  revert h1 hw hk hks
                  cases kindOf (cl j) o'.op <;> cases kindOf (cl i) oi.op <;> simp [Kd.free]
                · exact hanci i hli h1
        have hagree : kindOf (cl j) o'.op = .q → Agree (Hh j) (mG (wrH cl ops) (fun j => Hh (j + 1)) h (fun i => listed.getD i false) ops.size) := by
          intro hk
          obtain ⟨s, hs1, hs2, hs3⟩ := anW (wr := wrH cl ops) (val := fun j => Hh (j + 1)) (x := h) (L := fun i => listed.getD i false) ops.size
          have hval : mG (wrH cl ops) (fun j => Hh (j + 1)) h (fun i => listed.getD i false) ops.size = Hh s := by
            rcases hs3 with ⟨q1, q2⟩ | ⟨q, q1, q2, q3, q4⟩
            · rw [q2, q1, e2]
            · rw [q4, q1]
          rw [hval]
          rcases Nat.le_total s j with hle | hle
          · refine (hext s j hle (by omega) fun i oi h1 h2 hoi hkl => ?_).agree'
            have hw : wrH cl ops i = true := by simp only [wrH, hoi, hkl]
            have hun2 := hs2 i h1 (by omega) hw
            rcases (hpair i j oi o' h2 hjN hoi ho).2 with h3 | h3
            · rw [hkl, hk] at h3; cases h3
            · have := hancj i h3 (by omega)
              rw [hun2] at this; cases this
          · refine (hext j s hle hs1 fun i oi h1 h2 hoi hkl => ?_).agree
            by_cases e : i = j
            · subst e; rw [ho] at hoi; cases hoi; rw [hk] at hkl; cases hkl
            · have hw : wrH cl ops i = true := by simp only [wrH, hoi, hkl]
              have hunl : listed.getD i false = false := by
                cases hli : listed.getD i false
                · rfl
                · exfalso
                  rcases (hpair j i o' oi (by omega) (by omega) ho hoi).2 with h3 | h3
                  · rw [hkl, hk] at h3; cases h3
                  · exact hanci i hli h3
              rcases hs3 with ⟨q1, q2⟩ | ⟨q, q1, q2, q3, q4⟩
              · omega
              · by_cases e2 : i = q
                · subst e2; simp only [hunl] at q3; cases q3
                · obtain ⟨oq, hpq⟩ := e5 q (by omega)
                  rcases (hpair i q oi oq (by omega) (by omega) hoi hpq.at_).2 with h3 | h3
                  · simp only [wrH, hpq.at_] at q2
                    rw [hkl] at h3
                    revert h3 q2
                    cases kindOf (cl q) oq.op <;> simp [Kd.free]
                  · have := ajE (j := q) hcl (fun o1 ho1 => hcl q o1 q3 ho1) (fun k hk => by simp at hk; exact .inl hk) i h3
                    rcases this with h4 | h4
                    · exact e2 h4
                    · simp only [hunl] at h4; cases h4
        unfold wpOp
        simp only [ho]
        rcases hp.step with ⟨hg, hop, hk⟩ | ⟨g, want, d, hg, hd, hn, hv, hh⟩
        · -- carried out
          have hw : Region.wanted o' (yielded ops a.tmps) = true := by
            cases hgd : o'.guard with
            | none => unfold Region.wanted; rw [hgd]
            | some p =>
              obtain ⟨g, want⟩ := p
              obtain ⟨d, hd, hn⟩ := hg g want hgd
              have hs := s2 d
              rw [hslot d (aaC hgd hd)] at hs
              exact (ag3 hs hgd hd).1 hn
          rw [if_pos hw]
          left
          have hev : ∀ x ∈ o'.op.operands.toList, kK μ (ev (T j) x) (a.eval x) := by
            intro x hx
            cases x with
            | tmp n =>
              have hs := s2 n
              rw [hslot n (az6 hx)] at hs
              exact hs
            | const v => exact anR μ v
            | global g => trivial
            | func f => exact rfl
          have close : ∀ (h1 h2 : H), tK P o' (T j) h1 (vv j) h2 → mG (wrH cl ops) (fun j => Hh (j + 1)) h (fun i => listed.getD i false) ops.size = h1 →
              mG (wrH cl ops) (fun j => Hh (j + 1)) h (fun i => (listed.setIfInBounds j true).getD i false) ops.size = h2 → o'.wp P a w (wpAny P .any ops Q fuel (listed.setIfInBounds j true)) Q := by
            intro h1 h2 hop e6 e7
            rw [e6] at s4
            refine hop μ a w hev s4.rel _ Q fun cv w' hgo => ?_
            obtain ⟨μ', he, hcv⟩ := hgo
            refine ih _ _ w' (by simp [hsz]) hcnt' hcl' ⟨μ', ?_, fun d => ?_, ?_, ?_⟩
            · cases o'.dst <;> simp [Act.put, s1]
            · rw [hslot' _ d rfl]
              split
              · rename_i hc
                rw [hc.1]
                simp only [Act.put]
                rw [Array.getD_eq_getD_getElem?, Array.getElem?_setIfInBounds]
                simp [s1, hc.2, hcv]
              · rename_i hc
                have hs := (s2 d).pre he.pre
                cases hd : o'.dst with
                | none => simp only [Act.put]; exact hs
                | some d' =>
                  simp only [Act.put]
                  rw [Array.getD_eq_getD_getElem?] at hs ⊢
                  rw [Array.getElem?_setIfInBounds]
                  split
                  · rename_i e8
                    subst e8
                    split
                    · rename_i hlt; exact absurd ⟨hd, by rw [← s1]; exact hlt⟩ hc
                    · rename_i hlt
                      rw [Array.getElem?_eq_none (by omega)] at hs
                      exact hs
                  · exact hs
            · cases o'.dst <;> exact s3
            · rw [e7]; exact s4.trans he
          cases hkd : kindOf (cl j) o'.op with
          | s =>
            rw [hkd] at hk
            have hwj : wrH cl ops j = false := by simp only [wrH, ho, hkd]
            refine close _ _ (hk.2 _) rfl ?_
            rw [hheap' false hwj]; rfl
          | q =>
            rw [hkd] at hk
            have hwj : wrH cl ops j = false := by simp only [wrH, ho, hkd]
            refine close _ _ (hk.2 _ (hagree hkd)) rfl ?_
            rw [hheap' false hwj]; rfl
          | n =>
            rw [hkd] at hk
            have hwj : wrH cl ops j = false := by simp only [wrH, ho, hkd]
            have hx := hexact (by rw [hkd]; simp) (by rw [hkd]; simp)
            refine close _ _ hop hx ?_
            rw [hheap' false hwj, hx]; exact hk.symm
          | g =>
            have hwj : wrH cl ops j = true := by simp only [wrH, ho, hkd]
            refine close _ _ hop (hexact (by rw [hkd]; simp) (by rw [hkd]; simp)) ?_
            rw [hheap' true hwj]; rfl
          | l =>
            have hwj : wrH cl ops j = true := by simp only [wrH, ho, hkd]
            refine close _ _ hop (hexact (by rw [hkd]; simp) (by rw [hkd]; simp)) ?_
            rw [hheap' true hwj]; rfl
        · -- passed over
          have hs := s2 d
          rw [hslot d (aaC hg hd)] at hs
          have hw := (ag3 hs hg hd).2 hn
          rw [if_neg (by rw [hw]; simp)]
          refine ih _ _ w (by simp [hsz]) hcnt' hcl' ⟨μ, ?_, fun d => ?_, ?_, ?_⟩
          · cases o'.dst <;> simp [Act.put, s1]
          · rw [hslot' _ d rfl]
            split
            · rename_i hc
              rw [hc.1, hv]
              simp only [Act.put]
              rw [Array.getD_eq_getD_getElem?, Array.getElem?_setIfInBounds]
              simp [s1, hc.2, kK.no]
            · rename_i hc
              have hs := s2 d
              cases hd : o'.dst with
              | none => simp only [Act.put]; exact hs
              | some d' =>
                simp only [Act.put]
                rw [Array.getD_eq_getD_getElem?] at hs ⊢
                rw [Array.getElem?_setIfInBounds]
                split
                · rename_i e8
                  subst e8
                  split
                  · rename_i hlt; exact absurd ⟨hd, by rw [← s1]; exact hlt⟩ hc
                  · rename_i hlt
                    rw [Array.getElem?_eq_none (by omega)] at hs
                    exact hs
                · exact hs
          · cases o'.dst <;> exact s3
          · cases hwj : wrH cl ops j
            · rw [hheap' false hwj]; exact s4
            · rw [hheap' true hwj]
              simp only [if_true, hh]
              have hkq : kindOf (cl j) o'.op ≠ .q := by
                intro hk
                simp only [wrH, ho, hk] at hwj
                cases hwj
              have hks : kindOf (cl j) o'.op ≠ .s := by
                intro hk
                simp only [wrH, ho, hk] at hwj
                cases hwj
              rw [← hexact hkq hks]
              exact s4
  refine main ops.size _ a w (by simp) ?_ ?_ ⟨μ, hi.slots.1, fun d => ?_, hi.defers, ?_⟩
  · have : ∀ n, n ≤ ops.size → pY (Array.replicate ops.size false) n = n := by
      intro n
      induction n with
      | zero => intro _; rfl
      | succ n ih => intro hn; simp only [pY, ih (by omega), getD_replicate_false]; simp; omega
    exact this _ (Nat.le_refl _)
  · intro i o hli; simp only [getD_replicate_false] at hli; cases hli
  · rw [O1 fun i => getD_replicate_false _ i]
    exact hi.slots.2 d
  · rw [O1 fun i => getD_replicate_false _ i]
    exact hi.ev
end
end Go.Proofs.Ytpjoapgfdjfbdaa.Ab
