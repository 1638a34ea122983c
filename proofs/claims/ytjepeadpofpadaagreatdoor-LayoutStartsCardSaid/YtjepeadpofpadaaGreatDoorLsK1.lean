/- An evaluator of Go functions over abstract values: lists in the place of slices, no addresses, no order that is left open. Definitions alone. -/
import Derived.Calls
import GoSem.ClaimChange
import Derived.Laws.World
import Derived.Laws.Sem
import Derived.Laws.Cells
import Derived.Laws.StructEq
import Derived.Laws.CopyRow
set_option linter.unusedSimpArgs false
set_option linter.unusedVariables false
set_option linter.unusedSectionVars false
namespace Go.Ev
open Go
structure GIns where
  op : Int
  cond : Int
  rd : Int
  rn : Int
  rm : Int
  imm : Int
  mode : Int
  list : Int
  s : Bool
deriving Inhabited, DecidableEq
structure GTok where
  kind : Int
  n : Int
  text : ByteArray
deriving Inhabited
inductive GExpr where
  | mk (op n : Int) (name : ByteArray) (args : List GExpr)
instance : Inhabited GExpr := ⟨.mk 0 0 ⟨#[]⟩ []⟩
def GExpr.op : GExpr → Int | .mk a _ _ _ => a
def GExpr.n : GExpr → Int | .mk _ a _ _ => a
def GExpr.name : GExpr → ByteArray | .mk _ _ a _ => a
def GExpr.args : GExpr → List GExpr | .mk _ _ _ a => a
structure GLine where
  label : ByteArray
  kind : Int
  ins : GIns
  cond : Int
  ref : ByteArray
  wide : Bool
  size : Int
  expr : GExpr
deriving Inhabited
structure GForm where
  h : Int
  is : Bool
deriving Inhabited
inductive Ty where
  | b | i (k : IntKind) | s | ins | tok | expr | line | form
  | sl (t : Ty)
deriving DecidableEq
def T : Ty → Type
  | .b => Bool
  | .i _ => Int
  | .s => ByteArray
  | .ins => GIns
  | .tok => GTok
  | .expr => GExpr
  | .line => GLine
  | .form => GForm
  | .sl t => List (T t)
def dflt : (t : Ty) → T t
  | .b => false
  | .i _ => (0 : Int)
  | .s => (⟨#[]⟩ : ByteArray)
  | .ins => (⟨0, 0, 0, 0, 0, 0, 0, 0, false⟩ : GIns)
  | .tok => (⟨0, 0, ⟨#[]⟩⟩ : GTok)
  | .expr => GExpr.mk 0 0 ⟨#[]⟩ []
  | .line => (⟨⟨#[]⟩, 0, ⟨0, 0, 0, 0, 0, 0, 0, 0, false⟩, 0, ⟨#[]⟩, false, 0, GExpr.mk 0 0 ⟨#[]⟩ []⟩ : GLine)
  | .form => (⟨0, false⟩ : GForm)
  | .sl t => ([] : List (T t))
def Ty.sz : Ty → Nat
  | .ins => 9
  | .tok => 3
  | .expr => 4
  | .line => 19
  | .form => 2
  | _ => 1
def Ty.isAgg : Ty → Bool
  | .ins | .tok | .expr | .line | .form => true
  | _ => false
inductive V where
  | u
  | b (x : Bool)
  | i (k : IntKind) (n : Int)
  | s (x : ByteArray)
  | agg (cs : List V)
  | tup (vs : List V)
  | sl (t : Ty) (xs : List (T t)) (own : Bool)
  | nils
  | nilp
  | ptr (n off : Nat)
  | ept (n j off : Nat)
  | ms (n : Nat)
  | rp (cs : List V)
  | fn (f : Nat) (caps : List V)
  | nilf
  | ifc (t : Nat) (v : V)
  | nili
def V.dis : V → V
  | .sl t xs _ => .sl t xs false
  | v => v
def V.cells : V → List V
  | .agg cs => cs
  | v => [v]
def V.cellsD : V → List V
  | .agg cs => cs.map V.dis
  | v => [v]
def V.one : V → Bool
  | .u => false
  | .agg _ => false
  | .tup _ => false
  | _ => true
def insCells (x : GIns) : List V := [.i .i64 x.op, .i .i64 x.cond, .i .i64 x.rd, .i .i64 x.rn, .i .i64 x.rm, .i .i64 x.imm, .i .i64 x.mode, .i .i64 x.list, .b x.s]
def exprCells (x : GExpr) : List V := [.i .i64 x.op, .i .i64 x.n, .s x.name, .sl .expr x.args false]
def enc : (t : Ty) → T t → V
  | .b, x => .b x
  | .i k, x => .i k x
  | .s, x => .s x
  | .ins, x => .agg (insCells x)
  | .tok, x => .agg [.i .i64 (GTok.kind x), .i .i64 (GTok.n x), .s (GTok.text x)]
  | .expr, x => .agg (exprCells x)
  | .line, x => .agg ([.s (GLine.label x), .i .i64 (GLine.kind x)] ++ insCells (GLine.ins x) ++ [.i .i64 (GLine.cond x), .s (GLine.ref x), .b (GLine.wide x), .i .i64 (GLine.size x)] ++ exprCells (GLine.expr x))
  | .form, x => .agg [.i .i64 (GForm.h x), .b (GForm.is x)]
  | .sl t, xs => .sl t xs false
def decInt (k : IntKind) : V → Option Int
  | .i k' n => if k = k' then some n else none
  | _ => none
def decSl (t : Ty) : V → Option (List (T t))
  | .sl t' xs _ => if h : t' = t then some (h ▸ xs) else none
  | .nils => some []
  | _ => none
def decIns : List V → Option GIns
  | [.i .i64 a, .i .i64 c, .i .i64 d, .i .i64 n, .i .i64 m, .i .i64 im, .i .i64 mo, .i .i64 l, .b s] => some ⟨a, c, d, n, m, im, mo, l, s⟩
  | _ => none
def decExpr : List V → Option GExpr
  | [.i .i64 a, .i .i64 n, .s nm, .sl .expr xs _] => some (.mk a n nm xs)
  | [.i .i64 a, .i .i64 n, .s nm, .nils] => some (.mk a n nm [])
  | _ => none
def decLine : List V → Option GLine
  | .s lb :: .i .i64 k :: r =>
    match decIns (r.take 9), r.drop 9 with
    | some x, .i .i64 c :: .s rf :: .b wd :: .i .i64 sz :: e =>
      match decExpr e with
      | some e => some ⟨lb, k, x, c, rf, wd, sz, e⟩
      | none => none
    | _, _ => none
  | _ => none
def decB : V → Option Bool
  | .b x => some x
  | _ => none
def decS : V → Option ByteArray
  | .s x => some x
  | _ => none
def decInsV : V → Option GIns
  | .agg cs => decIns cs
  | _ => none
def decTok : V → Option GTok
  | .agg [.i .i64 k, .i .i64 n, .s x] => some ⟨k, n, x⟩
  | _ => none
def decExprV : V → Option GExpr
  | .agg cs => decExpr cs
  | _ => none
def decLineV : V → Option GLine
  | .agg cs => decLine cs
  | _ => none
def decForm : V → Option GForm
  | .agg [.i .i64 h, .b x] => some ⟨h, x⟩
  | _ => none
def dec : (t : Ty) → V → Option (T t)
  | .b, v => decB v
  | .i k, v => decInt k v
  | .s, v => decS v
  | .ins, v => decInsV v
  | .tok, v => decTok v
  | .expr, v => decExprV v
  | .line, v => decLineV v
  | .form, v => decForm v
  | .sl t, v => decSl t v
def decAll (t : Ty) : List V → Option (List (T t))
  | [] => some []
  | v :: r => match dec t v, decAll t r with
    | some x, some xs => some (x :: xs)
    | _, _ => none
inductive Ob where
  | box (cs : List V)
  | arr (t : Ty) (xs : List (T t))
inductive Shp where
  | ty (t : Ty)
  | own (t : Ty)
  | ptr (n off : Nat)
  | ms (n : Nat)
  | fn (f : Nat) (caps : List Shp)
  | agg (cs : List Shp)
  | tup (cs : List Shp)
  | rp (cs : List Shp)
mutual
def ShT : Shp → Type
  | .ty t => T t
  | .own t => List (T t)
  | .ptr _ _ => Unit
  | .ms _ => Unit
  | .fn _ caps => ShTs caps
  | .agg cs => ShTs cs
  | .tup cs => ShTs cs
  | .rp cs => ShTs cs
def ShTs : List Shp → Type
  | [] => Unit
  | a :: r => ShT a × ShTs r
end
mutual
def pk : (a : Shp) → ShT a → V
  | .ty t, x => enc t x
  | .own t, x => .sl t x true
  | .ptr n off, _ => .ptr n off
  | .ms n, _ => .ms n
  | .fn f caps, x => .fn f (pks caps x)
  | .agg cs, x => .agg (pks cs x)
  | .tup cs, x => .tup (pks cs x)
  | .rp cs, x => .rp (pks cs x)
def pks : (l : List Shp) → ShTs l → List V
  | [], _ => []
  | a :: r, x => pk a x.1 :: pks r x.2
end
mutual
def dfS : (a : Shp) → ShT a
  | .ty t => dflt t
  | .own t => ([] : List (T t))
  | .ptr _ _ => ()
  | .ms _ => ()
  | .fn _ caps => dfSs caps
  | .agg cs => dfSs cs
  | .tup cs => dfSs cs
  | .rp cs => dfSs cs
def dfSs : (l : List Shp) → ShTs l
  | [] => ()
  | a :: r => (dfS a, dfSs r)
end
mutual
def upk : (a : Shp) → V → Option (ShT a)
  | .ty t, v => dec t v
  | .own t, v => match v with
    | .sl t' xs true => if h : t' = t then some (h ▸ xs) else none
    | _ => none
  | .ptr n off, v => match v with
    | .ptr n' off' => bif Nat.beq n n' then (bif Nat.beq off off' then some () else none) else none
    | _ => none
  | .ms n, v => match v with
    | .ms n' => bif Nat.beq n n' then some () else none
    | _ => none
  | .fn f caps, v => match v with
    | .fn f' vs => bif Nat.beq f f' then upks caps vs else none
    | _ => none
  | .agg cs, v => match v with
    | .agg vs => upks cs vs
    | _ => none
  | .tup cs, v => match v with
    | .tup vs => upks cs vs
    | _ => none
  | .rp cs, v => match v with
    | .rp vs => upks cs vs
    | _ => none
def upks : (l : List Shp) → List V → Option (ShTs l)
  | [], [] => some ()
  | a :: r, v :: vs => match upk a v, upks r vs with
    | some x, some xs => some (x, xs)
    | _, _ => none
  | _, _ => none
end
inductive ObS where
  | box (cs : List Shp)
  | arr (t : Ty)
def ObT : ObS → Type
  | .box cs => ShTs cs
  | .arr t => List (T t)
def ObTs : List ObS → Type
  | [] => Unit
  | a :: r => ObT a × ObTs r
def pkOb : (a : ObS) → ObT a → Ob
  | .box cs, x => .box (pks cs x)
  | .arr t, x => .arr t x
def pkObs : (l : List ObS) → ObTs l → List Ob
  | [], _ => []
  | a :: r, x => pkOb a x.1 :: pkObs r x.2
def dfOb : (a : ObS) → ObT a
  | .box cs => dfSs cs
  | .arr t => ([] : List (T t))
def dfObs : (l : List ObS) → ObTs l
  | [] => ()
  | a :: r => (dfOb a, dfObs r)
def upkOb : (a : ObS) → Ob → Option (ObT a)
  | .box cs, .box vs => upks cs vs
  | .arr t, .arr t' xs => if h : t' = t then some (h ▸ xs) else none
  | _, _ => none
def upkObs : (l : List ObS) → List Ob → Option (ObTs l)
  | [], [] => some ()
  | a :: r, o :: os => match upkOb a o, upkObs r os with
    | some x, some xs => some (x, xs)
    | _, _ => none
  | _, _ => none
def bAnd (a b : Bool) : Bool := a && b
def bNot (a : Bool) : Bool := !a
def bEq (a b : Bool) : Bool := a == b
def ilt (a b : Int) : Bool := decide (a < b)
def ile (a b : Int) : Bool := decide (a ≤ b)
def ieq (a b : Int) : Bool := a == b
def iadd (a b : Int) : Int := a + b
def isub (a b : Int) : Int := a - b
def imul (a b : Int) : Int := a * b
def iof (n : Nat) : Int := (n : Int)
def xlen {t : Ty} (xs : List (T t)) : Nat := xs.length
def xget {t : Ty} (xs : List (T t)) (i : Nat) : T t := xs.getD i (dflt t)
def xapp {t : Ty} (xs ys : List (T t)) : List (T t) := xs ++ ys
def xset {t : Ty} (xs : List (T t)) (i : Nat) (x : T t) : List (T t) := xs.set i x
def xrep (t : Ty) (n : Nat) : List (T t) := List.replicate n (dflt t)
def xcut {t : Ty} (xs : List (T t)) (l h : Nat) : List (T t) := (xs.take h).drop l
def xdrop {t : Ty} (xs : List (T t)) (l : Nat) : List (T t) := xs.drop l
def xcopy {t : Ty} (xs ys : List (T t)) : List (T t) := ys.take xs.length ++ xs.drop (Nat.min ys.length xs.length)
def slen (s : ByteArray) : Int := (s.size : Int)
def scat (a b : ByteArray) : ByteArray := a ++ b
def scut (s : ByteArray) (l h : Int) : ByteArray := s.extract l.toNat h.toNat
def sget (s : ByteArray) (i : Int) : Int := ((s.data.toList.getD i.toNat 0).toNat : Int)
def sroom (a b : ByteArray) : Bool := Nat.ble (a.size + b.size) 9223372036854775807
def wr (k : IntKind) (n : Int) : Int := k.wrap n
def wshl (k : IntKind) (a n : Int) : Int := k.wrap (a * 2 ^ (min n.toNat k.bits))
def wshr (k : IntKind) (a n : Int) : Int := a.fdiv (2 ^ (min n.toNat k.bits))
def wand (k : IntKind) (a c : Int) : Int := k.wrap (BitVec.ofInt k.bits a &&& BitVec.ofInt k.bits c).toNat
def wor (k : IntKind) (a c : Int) : Int := k.wrap (BitVec.ofInt k.bits a ||| BitVec.ofInt k.bits c).toNat
def wxor (k : IntKind) (a c : Int) : Int := k.wrap (BitVec.ofInt k.bits a ^^^ BitVec.ofInt k.bits c).toNat
def wandn (k : IntKind) (a c : Int) : Int := k.wrap (BitVec.ofInt k.bits a &&& ~~~ BitVec.ofInt k.bits c).toNat
def wquo (k : IntKind) (a c : Int) : Int := k.wrap (a.tdiv c)
def wrem (a c : Int) : Int := a.tmod c
def imax (a c : Int) : Int := if c > a then c else a
def imin (a c : Int) : Int := if c < a then c else a
def strEq (a b : ByteArray) : Bool := a.data.toList == b.data.toList
def inside (i n : Int) : Bool := decide (0 ≤ i) && decide (i < n)
def bounds (lo hi n : Int) : Bool := decide (0 ≤ lo) && decide (lo ≤ hi) && decide (hi ≤ n)
def up0 (b : Bool) : Bool := b
def up1 (b : Bool) : Bool := up0 b
def up2 (b : Bool) : Bool := up1 b
def up3 (b : Bool) : Bool := up2 b
def up4 (b : Bool) : Bool := up3 b
def up5 (b : Bool) : Bool := up4 b
def up6 (b : Bool) : Bool := up5 b
def up7 (b : Bool) : Bool := up6 b
def up8 (b : Bool) : Bool := up7 b
def chk {α : Type} (ok : Bool) (x : Option α) : Option α := match up8 ok with | true => x | false => none
def roomMax : Nat := 70368744177664
def room (n bytes : Nat) : Bool := Nat.ble (n * bytes) roomMax
def kEq : IntKind → IntKind → Bool
  | .i8, .i8 | .i16, .i16 | .i32, .i32 | .i64, .i64 | .u8, .u8 | .u16, .u16 | .u32, .u32 | .u64, .u64 => true
  | _, _ => false
inductive TK where
  | other | bool | int (k : IntKind) | str | ptr (e : Nat) | slice (e : Nat) | array (n e : Nat) | struct (fs : List (Nat × Nat)) | iface | func | map (k e : Nat)
deriving DecidableEq
structure TI where
  k : TK
  sz : Nat
  bytes : Nat
deriving DecidableEq
def TI.none : TI := ⟨.other, 0, 0⟩
def TI.ok (x : TI) : Bool := match x.k with | .other => false | _ => true
def TI.agg (x : TI) : Bool := match x.k with | .struct _ | .array _ _ => true | _ => false
structure FM where
  ash : List Shp
  os : List ObS
  r : Shp
  ro : Bool
  tot : Option (ShTs ash → ObTs os → ShT r)
  run : ShTs ash → ObTs os → Option (ShT r × ObTs os)
inductive Ex where
  | normal | exit (id : Nat) | goto (l : Nat) | ret
abbrev K (ρ : Type) := Ex → List V → List Ob → Option ρ
def FrT : List (Nat × Shp) → Type
  | [] => Unit
  | (_, a) :: r => ShT a × FrT r
def pkFr (n : Nat) : (l : List (Nat × Shp)) → FrT l → List V
  | [], _ => List.replicate n .u
  | (s, a) :: r, x => (pkFr n r x.2).set s (pk a x.1)
def upkFr (fr : List V) : (l : List (Nat × Shp)) → Option (FrT l)
  | [] => some ()
  | (s, a) :: r => match upk a (fr.getD s .u), upkFr fr r with
    | some x, some xs => some (x, xs)
    | _, _ => none
structure LM where
  n : Nat
  fs : List (Nat × Shp)
  os : List ObS
  exs : List Ex
  run : FrT fs → ObTs os → Option (Nat × FrT fs × ObTs os)
structure Cx where
  ti : Nat → TI
  ty : Nat → Option Ty
  gl : Nat → Option (List V)
  cm : Nat → List FM
  lm : Nat → Option LM
  res : List ResultVar
  fz : Bool
  ow : Bool
def constV : Value → V
  | .bool x => .b x
  | .int k n => .i k n
  | .string x => .s x
  | .pointer none => .nilp
  | .nilIface => .nili
  | .nilFunc => .nilf
  | .slice none 0 0 => .nils
  | _ => .u
def ov (cx : Cx) (fr : List V) : Operand → V
  | .tmp t => fr.getD t .u
  | .const v => constV v
  | .global g => match cx.gl g with | some cs => .rp cs | none => .u
  | .func f => .fn f []
def nrm (cx : Cx) (t : Nat) : V → V
  | .nils => match (cx.ti t).k with
    | .slice e => match cx.ty e with | some c => .sl c [] true | none => .nils
    | _ => .nils
  | v => v
def find {α : Type} (d : α) (n : Nat) : List (Nat × α) → α
  | [] => d
  | (m, x) :: r => bif Nat.beq m n then x else find d n r
inductive Del where
  | no
  | new (o : Ob)
  | set (n : Nat) (o : Ob)
def Del.app (O : List Ob) : Del → List Ob
  | .no => O
  | .new o => O ++ [o]
  | .set n o => O.set n o
inductive St where
  | no
  | pure (ok : Bool) (v : V)
  | eff (ok : Bool) (v : V) (ds : List Nat) (d : Del)
  | tot (v : V) (O : List Ob)
  | call (r : Shp) (os : List ObS) (ro : Bool) (o : Option (ShT r × ObTs os)) (ids : List Nat) (O : List Ob)
def ofOpt (o : Option V) : St := match o with | some v => .pure true v | none => .no
def flatFs (cx : Cx) : Nat → List (Nat × Nat) → Bool
  | _, [] => true
  | i, f :: r => Nat.beq f.1 i && (match (cx.ti f.2).k with | .bool => true | .int _ => true | .str => true | _ => false) && flatFs cx (i + 1) r
def flatK (cx : Cx) (t : Nat) : Bool :=
  match (cx.ti t).k with
  | .struct fs => flatFs cx 0 fs
  | _ => false
def eqLeaf (k : TK) : V → V → Option Bool
  | .b x, .b y => match k with | .bool => some (bEq x y) | _ => none
  | .i k1 x, .i k2 y => match k with | .int _ => (match kEq k1 k2 with | true => some (ieq x y) | false => none) | _ => none
  | .s x, .s y => match k with | .str => some (strEq x y) | _ => none
  | _, _ => none
def eqFs (cx : Cx) : List (Nat × Nat) → List V → List V → Option Bool
  | [], [], [] => some true
  | f :: r, x :: xs, y :: ys => match eqLeaf (cx.ti f.2).k x y, eqFs cx r xs ys with
    | some a, some b => some (bAnd a b)
    | _, _ => none
  | _, _, _ => none
def eqAny (cx : Cx) (t : Nat) : V → V → Option Bool
  | .agg xs, .agg ys => match flatK cx t, (cx.ti t).k with | true, .struct fs => eqFs cx fs xs ys | _, _ => none
  | .s x, .s y => some (strEq x y)
  | .b x, .b y => match (cx.ti t).k with | .bool => some (bEq x y) | _ => none
  | .nilp, .nilp => match (cx.ti t).k with | .ptr _ => some true | _ => none
  | .nilp, .ptr _ _ => match (cx.ti t).k with | .ptr _ => some false | _ => none
  | .nilp, .rp _ => match (cx.ti t).k with | .ptr _ => some false | _ => none
  | .ptr _ _, .nilp => match (cx.ti t).k with | .ptr _ => some false | _ => none
  | .rp _, .nilp => match (cx.ti t).k with | .ptr _ => some false | _ => none
  | _, _ => none
def bin (cx : Cx) (t : Nat) (op : BinOp) (x y : V) : St :=
  match op, x, y with
  | .shl, .i k a, .i _ n => .pure (ile 0 n) (.i k (wshl k a n))
  | .shr, .i k a, .i _ n => .pure (ile 0 n) (.i k (wshr k a n))
  | _, .i k a, .i k' c =>
    if kEq k k' then
      match op with
      | .add => .pure true (.i k (wr k (iadd a c)))
      | .sub => .pure true (.i k (wr k (isub a c)))
      | .mul => .pure true (.i k (wr k (imul a c)))
      | .quo => .pure (bNot (ieq c 0)) (.i k (wquo k a c))
      | .rem => .pure (bNot (ieq c 0)) (.i k (wrem a c))
      | .and => .pure true (.i k (wand k a c))
      | .or => .pure true (.i k (wor k a c))
      | .xor => .pure true (.i k (wxor k a c))
      | .andNot => .pure true (.i k (wandn k a c))
      | .eql => .pure true (.b (ieq a c))
      | .neq => .pure true (.b (bNot (ieq a c)))
      | .lss => .pure true (.b (ilt a c))
      | .leq => .pure true (.b (ile a c))
      | .gtr => .pure true (.b (ilt c a))
      | .geq => .pure true (.b (ile c a))
      | _ => .no
    else .no
  | .add, .s a, .s c => .pure (sroom a c) (.s (scat a c))
  | .eql, x, y => match eqAny cx t x y with | some r => .pure true (.b r) | none => .no
  | .neq, x, y => match eqAny cx t x y with | some r => .pure true (.b (bNot r)) | none => .no
  | _, _, _ => .no
def un (op : UnOp) (x : V) : St :=
  match op, x with
  | .neg, .i k n => .pure true (.i k (wr k (isub 0 n)))
  | .xor, .i k n => .pure true (.i k (wxor k (if k.signed then -1 else k.max) n))
  | .not, .b x => .pure true (.b (bNot x))
  | _, _ => .no
def mergeV (c : Bool) : V → V → Option V
  | .b x, .b y => some (.b (bif c then x else y))
  | .i k x, .i k' y => if kEq k k' then some (.i k (bif c then x else y)) else none
  | .s x, .s y => some (.s (bif c then x else y))
  | _, _ => none
def obAt (O : List Ob) (n : Nat) : Option Ob := O[n]?
def takeT (x : TI) (cs : List V) (off : Nat) : Option V :=
  match x.ok with
  | false => none
  | true => if x.agg then (if off + x.sz ≤ cs.length then some (.agg (((cs.drop off).take x.sz).map V.dis)) else none)
  else (cs[off]?).map V.dis
def loadV (cx : Cx) (t : Nat) (O : List Ob) : V → Option V
  | .rp cs => takeT (cx.ti t) cs 0
  | .ptr n off => match obAt O n with
    | some (.box cs) => takeT (cx.ti t) cs off
    | _ => none
  | .ept n j off => match obAt O n with
    | some (.arr e xs) => takeT (cx.ti t) (enc e (xget xs j)).cells off
    | _ => none
  | _ => none
def over : List V → Nat → List V → List V
  | cs, _, [] => cs
  | cs, off, v :: r => over (cs.set off v) (off + 1) r
def storeV (cx : Cx) (t : Nat) (O : List Ob) (p v : V) : Option Del :=
  match p with
  | .ptr n off => match obAt O n with
    | some (.box cs) => if (cx.ti t).ok = true ∧ v.cells.all V.one = true ∧ v.cells.length = (cx.ti t).sz ∧ off + v.cells.length ≤ cs.length then some (.set n (.box (over cs off v.cellsD))) else none
    | _ => none
  | .ept n j off => match obAt O n with
    | some (.arr e xs) =>
      let old := (enc e (xget xs j)).cells
      if (cx.ti t).ok = true ∧ v.cells.all V.one = true ∧ v.cells.length = (cx.ti t).sz ∧ off + v.cells.length ≤ old.length then
        match dec e (match old with | [_] => v.dis | _ => .agg (over old off (v.cells.map V.dis))) with
        | some x => some (.set n (.arr e (xset xs j x)))
        | none => none
      else none
    | _ => none
  | _ => none
def slotOf : Operand → List Nat
  | .tmp t => [t]
  | _ => []
def disAll (fr : List V) : List Nat → List V
  | [] => fr
  | s :: r => disAll (fr.set s (fr.getD s .u).dis) r
def refs1 : V → List Nat
  | .ptr n _ => [n]
  | .ept n _ _ => [n]
  | .ms n => [n]
  | .fn _ caps => caps.flatMap fun | .ptr n _ => [n] | .ept n _ _ => [n] | .ms n => [n] | _ => []
  | _ => []
def addNew (l : List Nat) : List Nat → List Nat
  | [] => l
  | n :: r => addNew (if l.contains n then l else l ++ [n]) r
def refsAll : List V → List Nat
  | [] => []
  | v :: r => addNew (addNew [] (refs1 v)) (refsAll r)
def ren1 (f : Nat → Nat) : V → V
  | .ptr n o => .ptr (f n) o
  | .ept n j o => .ept (f n) j o
  | .ms n => .ms (f n)
  | v => v
def ren (f : Nat → Nat) : V → V
  | .fn g caps => .fn g (caps.map (ren1 f))
  | v => ren1 f v
mutual
def noref : V → Bool
  | .ptr _ _ => false
  | .ept _ _ _ => false
  | .ms _ => false
  | .agg cs => norefs cs
  | .tup cs => norefs cs
  | .rp cs => norefs cs
  | .fn _ cs => norefs cs
  | .ifc _ v => noref v
  | _ => true
def norefs : List V → Bool
  | [] => true
  | v :: r => match noref v with | true => norefs r | false => false
end
def ref1 : V → Bool
  | .ptr _ _ | .ept _ _ _ | .ms _ => true
  | _ => false
def argOK : V → Bool
  | .fn _ caps => caps.all fun c => ref1 c || noref c
  | v => ref1 v || noref v
def closedOb : Ob → Bool
  | .box cs => norefs cs
  | .arr _ _ => true
def getObs (O : List Ob) : List Nat → Option (List Ob)
  | [] => some []
  | n :: r => match O[n]?, getObs O r with
    | some o, some os => match closedOb o with | true => some (o :: os) | false => none
    | _, _ => none
def setObs (O : List Ob) : List Nat → List Ob → List Ob
  | n :: r, o :: os => setObs (O.set n o) r os
  | _, _ => O
def idxOf (l : List Nat) (n : Nat) : Nat := l.findIdx (fun m => m == n)
def pickFM (vs : List V) (os : List Ob) (ids : List Nat) (O : List Ob) : List FM → St
  | [] => .no
  | m :: r => match upks m.ash vs, upkObs m.os os with
    | some a, some o => match m.tot with
      | some f => .tot (pk m.r (f a o)) (setObs O ids (pkObs m.os o))
      | none => .call m.r m.os m.ro (m.run a o) ids (setObs O ids (pkObs m.os o))
    | _, _ => pickFM vs os ids O r
def callG (cx : Cx) (g : Nat) (vs : List V) (O : List Ob) : St :=
  let ids := refsAll vs
  match vs.all argOK, getObs O ids with
  | true, some os => pickFM ((vs.map V.dis).map (ren (idxOf ids))) os ids O (cx.cm g)
  | _, _ => .no
def fields (cx : Cx) (t : Nat) : List (Nat × Nat) := match (cx.ti t).k with | .struct fs => fs | _ => []
def fieldOff (cx : Cx) (t f : Nat) : Option (Nat × Nat) :=
  match (cx.ti t).k with
  | .struct fs => fs[f]?
  | _ => none
def buildV (cx : Cx) (fs : List (Nat × Nat)) (zero : List V) : List (Nat × V) → Option (List V)
  | [] => some zero
  | (i, v) :: r => match fs[i]? with
    | none => none
    | some (off, ft) =>
      let v := (nrm cx ft v).dis
      if (cx.ti ft).ok = true ∧ v.cells.all V.one = true ∧ v.cells.length = (cx.ti ft).sz ∧ off + v.cells.length ≤ zero.length then buildV cx fs (over zero off v.cells) r else none
def arrV (cx : Cx) (e n : Nat) (zero : List V) : List (Nat × V) → Option (List V)
  | [] => match (cx.ti e).ok with | true => some zero | false => none
  | (i, v) :: r =>
    let v := (nrm cx e v).dis
    if (cx.ti e).ok = true ∧ v.cells.all V.one = true ∧ v.cells.length = (cx.ti e).sz ∧ i * (cx.ti e).sz + v.cells.length ≤ zero.length then arrV cx e n (over zero (i * (cx.ti e).sz) v.cells) r else none
def zeroV (cx : Cx) : Nat → Nat → List V
  | 0, _ => []
  | d + 1, t => match (cx.ti t).k with
    | .bool => [.b false]
    | .int k => [.i k 0]
    | .str => [.s ⟨#[]⟩]
    | .ptr _ => [.nilp]
    | .slice e => match cx.ty e with | some c => [.sl c [] true] | none => [.nils]
    | .iface => [.nili]
    | .func => [.nilf]
    | .array n e => (List.replicate n (zeroV cx d e)).flatten
    | .struct fs => fs.flatMap fun f => zeroV cx d f.2
    | _ => [.u]
def setAll (t : Ty) (xs : List (T t)) : List (Nat × V) → Option (List (T t))
  | [] => some xs
  | (i, v) :: r => match dec t v with
    | some x => setAll t (xs.set i x) r
    | none => none
def tyOK (cx : Cx) (e : Nat) (c : Ty) : Bool := match (cx.ti e).ok with | true => Nat.beq (cx.ti e).sz c.sz | false => false
def loV (cx : Cx) (fr : List V) : Option Operand → V
  | some o => ov cx fr o
  | none => .i .i64 0
def hiV (cx : Cx) (fr : List V) : Option Operand → Option V
  | some o => some (ov cx fr o)
  | none => none
def sliceLH (cx : Cx) (t : Nat) (x l : V) (h : Option V) : St :=
  match (cx.ti t).k, x, l, h with
  | .str, .s s, .i _ l, some (.i _ h) => .pure (bounds l h (slen s)) (.s (scut s l h))
  | .str, .s s, .i _ l, none => .pure (bounds l (slen s) (slen s)) (.s (scut s l (slen s)))
  | .slice e, .sl c xs _, .i _ l, some (.i _ h) => match tyOK cx e c with
    | true => .pure (bounds l h (iof (xlen xs))) (.sl c (xcut xs l.toNat h.toNat) false)
    | false => .no
  | .slice e, .sl c xs _, .i _ l, none => match tyOK cx e c with
    | true => .pure (bounds l (iof (xlen xs)) (iof (xlen xs))) (.sl c (xdrop xs l.toNat) false)
    | false => .no
  | _, _, _, _ => .no
def groups (sz : Nat) : Nat → List V → List V
  | 0, _ => []
  | n + 1, cs => (if Nat.beq sz 1 then cs.headD .u else .agg (cs.take sz)) :: groups sz n (cs.drop sz)
def idxV (cx : Cx) (t : Nat) (O : List Ob) (x ix : V) : St :=
  match (cx.ti t).k, x, ix with
  | .slice e, .sl c xs _, .i _ i => match tyOK cx e c with
    | true => .pure (inside i (iof (xlen xs))) (.rp (enc c (xget xs i.toNat)).cells)
    | false => .no
  | .slice e, .ms n, .i _ i => match O[n]? with
    | some (.arr c xs) => match tyOK cx e c with
      | true => .pure (inside i (iof (xlen xs))) (.ept n i.toNat 0)
      | false => .no
    | _ => .no
  | .array n e, .rp cs, .i _ i =>
    match cx.ty e with
    | some c => match Nat.beq cs.length (n * c.sz), decAll c (groups c.sz n cs) with
      | true, some xs => .pure (inside i (iof n)) (.rp (enc c (xget xs i.toNat)).cells)
      | _, _ => .no
    | none => .no
  | _, _, _ => .no
def indexV (cx : Cx) (t : Nat) (x ix : V) : St :=
  match (cx.ti t).k, x, ix with
  | .array n e, .agg cs, .i _ i =>
    match cx.ty e with
    | some c => match Nat.beq cs.length (n * c.sz), decAll c (groups c.sz n cs) with
      | true, some xs => .pure (inside i (iof n)) (enc c (xget xs i.toNat))
      | _, _ => .no
    | none => .no
  | .str, .s s, .i _ i => .pure (inside i (slen s)) (.i .u8 (sget s i))
  | _, _, _ => .no
def maxL (k : IntKind) (a : Int) : List V → Option V
  | [] => some (.i k a)
  | .i k' c :: r => if k = k' then maxL k (imax a c) r else none
  | _ => none
def minL (k : IntKind) (a : Int) : List V → Option V
  | [] => some (.i k a)
  | .i k' c :: r => if k = k' then minL k (imin a c) r else none
  | _ => none
def decTy (c t : Ty) : Bool := decide (c = t)
def castT (t t' : Ty) (xs : List (T t)) : Option (List (T t')) := if h : t = t' then some (h ▸ xs) else none
def lenV (cx : Cx) (t : Nat) (O : List Ob) (v : V) : Option Int :=
  match (cx.ti t).k, v with
  | .slice _, .sl _ xs _ => some (iof (xlen xs))
  | .str, .s x => some (slen x)
  | .slice _, .ms n => match O[n]? with
    | some (.arr _ xs) => some (iof (xlen xs))
    | _ => none
  | .array n _, .agg _ => some (iof n)
  | _, _ => none
def argsV (cx : Cx) (fr : List V) : List Operand → List Nat → Option (List V)
  | [], [] => some []
  | x :: r, t :: ts => match argsV cx fr r ts with
    | some vs => some (nrm cx t (ov cx fr x) :: vs)
    | none => none
  | _, _ => none
def appendV (cx : Cx) (t : Nat) (x y : V) (s : List Nat) : St :=
  match x, y, (cx.ti t).k with
  | .sl c xs true, .sl c' ys _, .slice e => match castT c' c ys, tyOK cx e c with
    | some ys, true => .eff (room (xlen xs + xlen ys) (cx.ti e).bytes) (.sl c (xapp xs ys) true) s .no
    | _, _ => .no
  | _, _, _ => .no
def clearV (cx : Cx) (t : Nat) (O : List Ob) (x : V) : St :=
  match x, (cx.ti t).k with
  | .ms n, .slice e => match O[n]?, cx.ty e with
    | some (.arr c xs), some c' => match decTy c' c with
      | true => .eff true (.tup []) [] (.set n (.arr c (xrep c (xlen xs))))
      | false => .no
    | _, _ => .no
  | _, _ => .no
def copyV (cx : Cx) (t : Nat) (O : List Ob) (x y : V) : St :=
  match x, y, (cx.ti t).k with
  | .ms n, .sl c ys _, .slice e => match O[n]? with
    | some (.arr c' xs) => match castT c c' ys, tyOK cx e c' with
      | some ys, true => .eff true (.i .i64 (imin (iof (xlen xs)) (iof (xlen ys)))) [] (.set n (.arr c' (xcopy xs ys)))
      | _, _ => .no
    | _ => .no
  | _, _, _ => .no
def builtinV (cx : Cx) (bt : Builtin) (ops : List Operand) (tys : List Nat) (fr : List V) (O : List Ob) : St :=
  match bt, ops, tys, argsV cx fr ops tys with
  | .len, _, [t], some [v] => match lenV cx t O v with | some n => .pure true (.i .i64 n) | none => .no
  | .max, _, _, some (.i k a :: r) => ofOpt (maxL k a r)
  | .min, _, _, some (.i k a :: r) => ofOpt (minL k a r)
  | .append, [x, _], [t, t'], some [a, b] => match Nat.beq t t' with | true => appendV cx t a b (slotOf x) | false => .no
  | .clear, _, [t], some [a] => clearV cx t O a
  | .copy, _, [t, t'], some [a, b] => match Nat.beq t t' with | true => copyV cx t O a b | false => .no
  | _, _, _, _ => .no
def isTmp : Operand → Bool
  | .tmp _ => true
  | _ => false
def isResult (rs : List ResultVar) (r : Nat) : Bool := rs.any fun x => match x with | .tmp q => Nat.beq q r | .cell _ _ => false
def growsAt (d : Nat) (o : Oper) (rs : List ResultVar) : Bool :=
  match o.op with
  | .call c => match c.callee, c.args.toList with
    | .builtin .append, .tmp t :: _ => Nat.beq t d
    | _, _ => false
  | .assign (.tmp t) => Nat.beq t d && (match o.dst with | some r => isResult rs r | none => false)
  | _ => false
def steals (cx : Cx) (ops : List Oper) (d : Nat) : Bool := ops.any fun o => growsAt d o cx.res
def stepOp (cx : Cx) (ops : List Oper) (o : Oper) (rd : Operand → Bool) (fr : List V) (O : List Ob) : St :=
  if o.op.operands.toList.all rd then
  match o.op with
  | .move x =>
    if (match o.dst with | some d => steals cx ops d | none => false) then .eff true (nrm cx o.type (ov cx fr x)) (slotOf x) .no
    else .pure true (nrm cx o.type (ov cx fr x)).dis
  | .assign x => .eff true (nrm cx o.type (ov cx fr x)) (slotOf x) .no
  | .alloc e => match (cx.ti e).ok with | true => .eff true (.ptr O.length 0) [] (.new (.box (zeroV cx 8 e))) | false => .no
  | .box e x => let v := nrm cx e (ov cx fr x)
    if (cx.ti e).ok = true ∧ v.cells.all V.one = true ∧ v.cells.length = (cx.ti e).sz then .eff true (.ptr O.length 0) (slotOf x) (.new (.box v.cellsD)) else .no
  | .build t parts => match (cx.ti t).k with
    | .struct fs => match buildV cx fs ((zeroV cx 8 t).map V.dis) (parts.toList.map fun p => (p.1, ov cx fr p.2)) with
      | some cs => .pure true (.agg cs)
      | none => .no
    | .array n e => match arrV cx e n ((zeroV cx 8 t).map V.dis) (parts.toList.map fun p => (p.1, ov cx fr p.2)) with
      | some cs => .pure true (.agg cs)
      | none => .no
    | _ => .no
  | .buildSlice t len parts => match (cx.ti t).k with
    | .slice e => match cx.ty e with
      | some c => match setAll c (List.replicate len (dflt c)) (parts.toList.map fun p => (p.1, nrm cx e (ov cx fr p.2))) with
        | some xs => if parts.toList.all (fun p => Nat.blt p.1 len) && Nat.ble (len * c.sz) 16777216 then .pure true (.sl c xs true) else .no
        | none => .no
      | none => .no
    | _ => .no
  | .load t a => ofOpt (loadV cx t O (ov cx fr a))
  | .store t a x => match storeV cx t O (ov cx fr a) (nrm cx t (ov cx fr x)) with
    | some d => .eff true .u (slotOf x) d
    | none => .no
  | .nilCheck x => match ov cx fr x with
    | .ptr n off => .pure true (.ptr n off)
    | .rp cs => .pure true (.rp cs)
    | .ept n j off => .pure true (.ept n j off)
    | _ => .no
  | .binOp op t x y _ => bin cx t op (ov cx fr x) (ov cx fr y)
  | .unOp op _ x => un op (ov cx fr x)
  | .convert s d x => match (cx.ti s).k, (cx.ti d).k, ov cx fr x with
    | .int _, .int k, .i _ n => .pure true (.i k (wr k n))
    | .str, .str, .s x => .pure true (.s x)
    | _, _, _ => .no
  | .makeSlice t l c => match (cx.ti t).k, ov cx fr l, ov cx fr c with
    | .slice e, .i .i64 n, .i .i64 m => match cx.ty e with
      | some k => match tyOK cx e k with | false => .no | true => .eff (bAnd (ieq n m) (bAnd (ile 0 n) (room n.toNat (cx.ti e).bytes))) (.ms O.length) [] (.new (.arr k (xrep k n.toNat)))
      | none => .no
    | _, _, _ => .no
  | .makeFunc f first caps => match f, first.toList with
    | .func g, [] => .pure true (.fn g (caps.toList.map (ov cx fr)))
    | _, _ => .no
  | .slice t x lo hi none => sliceLH cx t (ov cx fr x) (loV cx fr lo) (hiV cx fr hi)
  | .fieldAddr s x f => match fieldOff cx s f, ov cx fr x with
    | some (off, _), .ptr n o => .pure true (.ptr n (o + off))
    | some (off, _), .ept n j o => .pure true (.ept n j (o + off))
    | some (off, ft), .rp cs => .pure true (.rp ((cs.drop off).take (cx.ti ft).sz))
    | _, _ => .no
  | .field s x f => match fieldOff cx s f, ov cx fr x with
    | some (off, ft), .agg cs => ofOpt (takeT (cx.ti ft) cs off)
    | _, _ => .no
  | .indexAddr t x ix => idxV cx t O (nrm cx t (ov cx fr x)) (ov cx fr ix)
  | .index t x ix => indexV cx t (ov cx fr x) (ov cx fr ix)
  | .extract x i => match ov cx fr x with
    | .tup vs => ofOpt ((vs[i]?).map V.dis)
    | _ => .no
  | .call c => match c.callee with
    | .builtin bt => builtinV cx bt c.args.toList c.argTypes.toList fr O
    | .value f => match ov cx fr f with
      | .fn g caps => match argsV cx fr c.args.toList c.argTypes.toList with
        | some vs => callG cx g (vs ++ caps) O
        | none => .no
      | _ => .no
    | .invoke _ _ => .no
  | _ => .no
  else .no
abbrev Path := List (Nat × Bool)
def look (s : Nat) : List (Nat × Path) → Option Path
  | [] => none
  | (t, p) :: r => if Nat.beq t s then some p else look s r
def pathOf (ops : List Oper) (G : List (Nat × Path)) (o : Oper) : Option Path :=
  match o.guard with
  | none => some []
  | some (j, w) => match ops[j]? with
    | some q => match q.dst with
      | some s => some ((look s G).getD [] ++ [(s, w)])
      | none => none
    | none => none
def guarded (ops : List Oper) : List Oper → List (Nat × Path) → List (Nat × Path)
  | [], G => G
  | o :: r, G => match pathOf ops G o, o.dst with
    | some (x :: p), some d => guarded ops r (G ++ [(d, x :: p)])
    | _, _ => guarded ops r G
def singles (G : List (Nat × Path)) : List Nat := G.flatMap fun x => x.1 :: x.2.map (·.1)
def hasN (l : List Nat) (n : Nat) : Bool := l.any fun m => Nat.beq m n
def onceOK (S : List Nat) : List Oper → Bool
  | [] => true
  | o :: r => match o.dst with
    | some d => (match hasN S d with | true => r.all (fun q => match q.dst with | some e => !Nat.beq e d | none => true) | false => true) && onceOK S r
    | none => onceOK S r
def eqPath : Path → Path → Bool
  | [], [] => true
  | (s, w) :: p, (t, z) :: q => Nat.beq s t && (w == z) && eqPath p q
  | _, _ => false
def gOK (ops : List Oper) (G : List (Nat × Path)) : List Oper → Bool
  | [] => true
  | o :: r => (match o.dst, pathOf ops G o with
    | some d, some p => (match look d G, p with
      | none, [] => true
      | some q, x :: p => eqPath q (x :: p)
      | _, _ => false)
    | none, some _ => true
    | _, none => false) && gOK ops G r
def bAt (fr : List V) (s : Nat) (w : Bool) : Bool := match fr.getD s .u with | .b c => (bif w then c else bNot c) | _ => false
def isB (fr : List V) (s : Nat) : Bool := match fr.getD s .u with | .b _ => true | _ => false
def pcOf (fr : List V) : Path → Bool
  | [] => true
  | [(s, w)] => bAt fr s w
  | (s, w) :: r => bAnd (bAt fr s w) (pcOf fr r)
def ready (fr : List V) (p : Path) : Bool := p.all fun x => isB fr x.1
def prefixOf : Path → Path → Bool
  | [], _ => true
  | (s, w) :: p, (t, z) :: q => Nat.beq s t && (w == z) && prefixOf p q
  | _, _ => false
def readable (G : List (Nat × Path)) (p : Path) : Operand → Bool
  | .tmp t => match look t G with | none => true | some q => prefixOf q p
  | _ => true
def put (fr : List V) (d : Option Nat) (v : V) : List V :=
  match d with | some d => fr.set d v | none => fr
def clean (S : List Nat) (fr : List V) : List V := S.foldl (fun fr x => fr.set x .u) fr
structure Touch where
  rs : List Nat
  ws : List Nat
  al : Bool
def Touch.none : Touch := ⟨[], [], false⟩
def touchOf (cx : Cx) (o : Oper) (fr : List V) (O : List Ob) : Touch :=
  match o.op with
  | .load _ a => ⟨refs1 (ov cx fr a), [], false⟩
  | .indexAddr _ x _ => ⟨refs1 (ov cx fr x), [], false⟩
  | .store _ a _ => ⟨[], refs1 (ov cx fr a), false⟩
  | .alloc _ => ⟨[], [O.length], true⟩
  | .box _ _ => ⟨[], [O.length], true⟩
  | .makeSlice _ _ _ => ⟨[], [O.length], true⟩
  | .call c => match c.callee with
    | .builtin .len => ⟨(c.args.toList.flatMap fun x => refs1 (ov cx fr x)), [], false⟩
    | .builtin _ => ⟨[], (c.args.toList.flatMap fun x => refs1 (ov cx fr x)), false⟩
    | .value f => match ov cx fr f with | .fn _ caps => ⟨[], refsAll (c.args.toList.map (ov cx fr) ++ caps), false⟩ | _ => Touch.none
    | _ => Touch.none
  | _ => Touch.none
def bindsE (e : Edge) : Bool := match e.ground with | .textOnly _ => false | .gcOnly _ => false | _ => true
def edgesOK : Nat → List Oper → Bool
  | _, [] => true
  | i, o :: r => match o.after.toList.all (fun e => match bindsE e with | true => Nat.blt e.on i | false => true) with | true => edgesOK (i + 1) r | false => false
def befores : List Oper → List (List Nat) → List (List Nat)
  | [], acc => acc
  | o :: r, acc => befores r ((o.after.toList.flatMap fun e => match bindsE e with | true => e.on :: (acc.reverse.getD e.on []) | false => []) :: acc)
def readsOf (ops : List Oper) (G : List (Nat × Path)) (o : Oper) : List Nat :=
  (o.op.operands.toList.flatMap slotOf) ++ (match pathOf ops G o with | some p => p.map (·.1) | none => [])
def writesOf (cx : Cx) (ops : List Oper) (o : Oper) : List Nat :=
  o.dst.toList ++ (match o.op with
    | .move x => (match (match o.dst with | some d => steals cx ops d | none => false) with | true => slotOf x | false => [])
    | .assign x => slotOf x
    | .box _ x => slotOf x
    | .store _ _ x => slotOf x
    | .call c => (match c.callee with | .builtin .append => slotOf (c.args.toList.headD (.tmp 0)) | _ => [])
    | _ => [])
def apartN (a b : List Nat) : Bool := a.all fun x => !hasN b x
def touchOK (a b : Touch) : Bool := apartN a.ws (b.rs ++ b.ws) && apartN b.ws a.rs && !(a.al && b.al)
def swapOK (cx : Cx) (ops : List Oper) (G : List (Nat × Path)) (a b : Oper) (ta tb : Touch) : Bool :=
  apartN (writesOf cx ops a) (readsOf ops G b ++ writesOf cx ops b) && apartN (writesOf cx ops b) (readsOf ops G a) && touchOK ta tb
def drawRow (cx : Cx) (ops : List Oper) (G : List (Nat × Path)) (o : Oper) (t : Touch) (bef : List Nat) : Nat → List Oper → List Touch → Bool
  | i, q :: qs, u :: us => (match hasN bef i with | true => true | false => swapOK cx ops G q o u t) && drawRow cx ops G o t bef (i + 1) qs us
  | _, _, _ => true
def drawOK (cx : Cx) (ops : List Oper) (G : List (Nat × Path)) (tc : List Touch) : List Oper → List Touch → List (List Nat) → Bool
  | o :: r, t :: ts, b :: bs => drawRow cx ops G o t b 0 (ops.take (ops.length - (r.length + 1))) tc && drawOK cx ops G tc r ts bs
  | _, _, _ => true
def pickOp (cx : Cx) (G : List (Nat × Path)) (p : Path) (fr : List V) (c a b : Operand) : St :=
  match c with
  | .tmp s =>
    if readable G p c && readable G (p ++ [(s, true)]) a && readable G (p ++ [(s, false)]) b then
      match ov cx fr c with
      | .b x => ofOpt (mergeV x (ov cx fr a) (ov cx fr b))
      | _ => .no
    else .no
  | _ => .no
def stepAt (cx : Cx) (ops : List Oper) (G : List (Nat × Path)) (o : Oper) (p : Path) (fr : List V) (O : List Ob) : St :=
  match o.op with
  | .pick c a b => pickOp cx G p fr c a b
  | _ => stepOp cx ops o (readable G p) fr O
def regionK {ρ : Type} (cx : Cx) (ops : List Oper) (draw : Bool) (G : List (Nat × Path)) (S : List Nat) : List Oper → List V → List Ob → List Touch → (List V → List Ob → Option ρ) → Option ρ
  | [], fr, O, tc, k => match (match draw with | true => (match edgesOK 0 ops with | true => drawOK cx ops G tc.reverse ops tc.reverse (befores ops []).reverse | false => false) | false => true) with
    | true => k (clean S fr) O
    | false => none
  | o :: rest, fr, O, tc, k =>
    match pathOf ops G o with
    | none => none
    | some [] => match stepAt cx ops G o [] fr O with
      | .no => none
      | .pure ok v => chk ok (regionK cx ops draw G S rest (put fr o.dst v) O (touchOf cx o fr O :: tc) k)
      | .tot v O' => regionK cx ops draw G S rest (put fr o.dst v) O' (touchOf cx o fr O :: tc) k
      | .eff ok v ds d => chk ok (regionK cx ops draw G S rest (put (disAll fr ds) o.dst v) (d.app O) (touchOf cx o fr O :: tc) k)
      | .call r os ro x ids O' => x.bind fun y => regionK cx ops draw G S rest (put fr o.dst (pk r y.1)) (match ro with | true => O' | false => setObs O ids (pkObs os y.2)) (touchOf cx o fr O :: tc) k
    | some p => match ready fr p, stepAt cx ops G o p fr O with
      | true, .tot v O' => regionK cx ops draw G S rest (put fr o.dst v) O' (touchOf cx o fr O :: tc) k
      | true, .pure ok v => chk (bNot (bAnd (bNot ok) (pcOf fr p))) (regionK cx ops draw G S rest (put fr o.dst v) O (touchOf cx o fr O :: tc) k)
      | true, .eff ok v ds d => bif pcOf fr p then chk ok (regionK cx ops draw G S rest (put (disAll fr ds) o.dst v) (d.app O) (touchOf cx o fr O :: tc) k) else regionK cx ops draw G S rest (put fr o.dst .u) O (touchOf cx o fr O :: tc) k
      | true, .call r os ro x ids O' => match ro with
        | true => (bif pcOf fr p then x else some (dfS r, dfObs os)).bind fun y => regionK cx ops draw G S rest (put fr o.dst (pk r y.1)) O' (touchOf cx o fr O :: tc) k
        | false => bif pcOf fr p then (x.bind fun y => regionK cx ops draw G S rest (put fr o.dst (pk r y.1)) (setObs O ids (pkObs os y.2)) (touchOf cx o fr O :: tc) k) else regionK cx ops draw G S rest (put fr o.dst .u) O (touchOf cx o fr O :: tc) k
      | _, _ => none
def firstRegion : Code → Nat
  | .region id _ _ => id
  | .seq a _ => firstRegion a
  | .block _ c => firstRegion c
  | .scope c => firstRegion c
  | .loop c => firstRegion c
  | _ => 0
def leave {ρ : Type} (exs : List Ex) (j : Nat) (k : Ex → Option ρ) : Option ρ :=
  match exs with
  | [] => none
  | [e] => k e
  | e :: r => bif Nat.beq j 0 then k e else leave r (j - 1) k
def runLoop {ρ : Type} (m : LM) (fr : List V) (O : List Ob) (k : K ρ) : Option ρ :=
  match Nat.beq fr.length m.n, upkFr fr m.fs, upkObs m.os O with
  | true, some x, some o => (m.run x o).bind fun y => leave m.exs y.1 fun e => k e (pkFr m.n m.fs y.2.1) (pkObs m.os y.2.2)
  | _, _, _ => none
def exec {ρ : Type} (cx : Cx) : Code → List V → List Ob → K ρ → Option ρ
  | .skip, fr, O, k => k .normal fr O
  | .label _, fr, O, k => k .normal fr O
  | .ret, fr, O, k => k .ret fr O
  | .exit id, fr, O, k => k (.exit id) fr O
  | .seq a b, fr, O, k => exec cx a fr O fun e fr O => match e with | .normal => exec cx b fr O k | e => k e fr O
  | .cond c a b, fr, O, k => match ov cx fr c with
    | .b x => bif x then exec cx a fr O k else exec cx b fr O k
    | _ => none
  | .block id c, fr, O, k => exec cx c fr O fun e fr O => match e with | .exit id' => bif Nat.beq id' id then k .normal fr O else k (.exit id') fr O | e => k e fr O
  | .region _ ops draw, fr, O, k =>
    let l := ops.toList
    let G := guarded l l []
    let S := singles G
    match onceOK S l && gOK l G l with
    | true => regionK cx l draw G S l (clean S fr) O [] (k .normal)
    | false => none
  | .scope c, fr, O, k => exec cx c fr O fun e fr O => match e with | .goto _ => none | e => k e fr O
  | .loop c, fr, O, k => match cx.lm (firstRegion c) with
    | some m => runLoop m fr O k
    | none => none
  | _, _, _, _ => none
def freeze (cx : Cx) (O : List Ob) (m : Nat) : V → Option V
  | .ms n => match O[n]? with
    | some (.arr t xs) => if Nat.ble m n then some (.sl t xs true) else none
    | _ => none
  | .ptr n off => match O[n]? with
    | some (.box cs) => if cx.fz && Nat.ble m n && Nat.beq off 0 && norefs cs then some (.rp (cs.map V.dis)) else none
    | _ => none
  | v => if noref v then some v else none
def freezeAll (cx : Cx) (O : List Ob) (m : Nat) : List V → Option (List V)
  | [] => some []
  | v :: r => match freeze cx O m v, freezeAll cx O m r with
    | some v, some r => some (v.dis :: r)
    | _, _ => none
def resultV (cx : Cx) (fr : List V) (O : List Ob) : ResultVar → Option V
  | .tmp t => some (fr.getD t .u)
  | .cell a t => loadV cx t O (fr.getD a .u)
def resultsV (cx : Cx) (fr : List V) (O : List Ob) : List ResultVar → Option (List V)
  | [] => some []
  | x :: r => match resultV cx fr O x, resultsV cx fr O r with
    | some v, some r => some (v :: r)
    | _, _ => none
def finish (cx : Cx) (m : Nat) (fr : List V) (O : List Ob) : Option (V × List Ob) :=
  if (O.take m).all closedOb then
    match resultsV cx fr O cx.res with
    | some [v] => match freeze cx O m v with
      | some v => some (bif cx.ow then v else v.dis, O.take m)
      | none => none
    | some vs => match freezeAll cx O m vs with
      | some vs => some (.tup vs, O.take m)
      | none => none
    | none => none
  else none
def last (cx : Cx) (m : Nat) (r : Shp) (os : List ObS) : K (ShT r × ObTs os) := fun e fr O =>
  match (match e with | .normal => finish cx m fr O | .ret => finish cx m fr O | _ => none) with
  | some (v, O') => match upk r v, upkObs os O' with
    | some x, some o => some (x, o)
    | _, _ => none
  | none => none
def evalF (cx : Cx) (fn : Func) (m : FM) (a : ShTs m.ash) (o : ObTs m.os) : Option (ShT m.r × ObTs m.os) :=
  match fn.body with
  | some c => exec { cx with res := fn.results.toList } c (pks m.ash a ++ List.replicate (fn.ntmps - m.ash.length) .u) (pkObs m.os o) (last { cx with res := fn.results.toList } m.os.length m.r m.os)
  | none => none
def exNo (e : Ex) : List Ex → Option Nat
  | [] => none
  | x :: r => match x, e with
    | .ret, .ret => some 0
    | .exit a, .exit b => bif Nat.beq a b then some 0 else (exNo e r).map (· + 1)
    | .goto a, .goto b => bif Nat.beq a b then some 0 else (exNo e r).map (· + 1)
    | _, _ => (exNo e r).map (· + 1)
def roundEnd (m : LM) : K (Option Nat × FrT m.fs × ObTs m.os) := fun e fr O =>
  match Nat.beq fr.length m.n, upkFr fr m.fs, upkObs m.os (O.take m.os.length) with
  | true, some x, some o => match e with
    | .normal => some (none, x, o)
    | e => match exNo e m.exs with
      | some j => some (some j, x, o)
      | none => none
  | _, _, _ => none
def roundF (cx : Cx) (c : Code) (m : LM) (x : FrT m.fs) (o : ObTs m.os) : Option (Option Nat × FrT m.fs × ObTs m.os) :=
  exec cx c (pkFr m.n m.fs x) (pkObs m.os o) (roundEnd m)
def iter {S : Type} (body : S → Option (Option Nat × S)) : Nat → S → Option (Nat × S)
  | 0, _ => none
  | n + 1, s => (body s).bind fun y => match y.1 with
    | none => iter body n y.2
    | some j => some (j, y.2)
def loopAt (id : Nat) : Code → Option Code
  | .seq a b => match loopAt id a with | some c => some c | none => loopAt id b
  | .cond _ a b => match loopAt id a with | some c => some c | none => loopAt id b
  | .block _ c => loopAt id c
  | .scope c => loopAt id c
  | .loop c => bif Nat.beq (firstRegion c) id then some c else loopAt id c
  | _ => none
def loopOf (fn : Func) (id : Nat) : Code := ((fn.body).bind (loopAt id)).getD .skip
theorem ex_chk {α β : Type} {c : Bool} {x : Option (α × β)} {p : β} (hc : c = true) (hx : ∃ r, x = some (r, p)) : ∃ r, chk c x = some (r, p) := by
  rw [hc]; exact hx
theorem ex_bif {α β : Type} {c : Bool} {x y : Option (α × β)} {p : β} (hx : ∃ r, x = some (r, p)) (hy : ∃ r, y = some (r, p)) : ∃ r, (bif c then x else y) = some (r, p) := by
  cases c
  · exact hy
  · exact hx
end Go.Ev
namespace Go.Ev
open Go
def inK (k : IntKind) (n : Int) : Prop := k.min ≤ n ∧ n ≤ k.max
inductive WfE : GExpr → Prop where
  | mk (op n : Int) (name : ByteArray) (args : List GExpr) (h1 : inK .i64 op) (h2 : inK .i64 n) (h3 : name.size ≤ maxLen) (h4 : args.length ≤ maxLen) (h5 : ∀ e ∈ args, WfE e) : WfE (.mk op n name args)
structure WfIns (x : GIns) : Prop where
  op : inK .i64 x.op
  cond : inK .i64 x.cond
  rd : inK .i64 x.rd
  rn : inK .i64 x.rn
  rm : inK .i64 x.rm
  imm : inK .i64 x.imm
  mode : inK .i64 x.mode
  list : inK .i64 x.list
structure WfLine (x : GLine) : Prop where
  label : x.label.size ≤ maxLen
  kind : inK .i64 x.kind
  ins : WfIns x.ins
  cond : inK .i64 x.cond
  ref : x.ref.size ≤ maxLen
  size : inK .i64 x.size
  expr : WfE x.expr
def WfTok (x : GTok) : Prop := inK .i64 x.kind ∧ inK .i64 x.n ∧ x.text.size ≤ maxLen
def WfT : (t : Ty) → T t → Prop
  | .b, _ => True
  | .i k, n => inK k n
  | .s, x => ByteArray.size x ≤ maxLen
  | .ins, x => WfIns x
  | .tok, x => WfTok x
  | .expr, x => WfE x
  | .line, x => WfLine x
  | .form, x => inK .i64 (GForm.h x)
  | .sl t, xs => List.length (α := T t) xs ≤ maxLen ∧ ∀ x : T t, List.Mem x xs → WfT t x
end Go.Ev
namespace Go.Ev
open Go
abbrev HM := Nat → Nat → Option Value
structure MO where
  blk : Nat
  esz : Nat
  len : Nat
abbrev MU := List MO
def HM.le (H H' : HM) : Prop := ∀ b o v, H b o = some v → H' b o = some v
def MU.le (μ μ' : MU) : Prop := ∀ (n : Nat) e, μ[n]? = some e → μ'[n]? = some e
inductive VR (H : HM) (μ : MU) : V → Value → Prop where
  | u (x : Value) : VR H μ .u x
  | b (x : Bool) : VR H μ (.b x) (.bool x)
  | i (k : IntKind) (n : Int) : VR H μ (.i k n) (.int k n)
  | s (x : ByteArray) : VR H μ (.s x) (.string x)
  | agg (vs : List V) (xs : Array Value) (hl : vs.length = xs.size) (h : ∀ (j : Nat) v x, vs[j]? = some v → xs[j]? = some x → VR H μ v x) : VR H μ (.agg vs) (.agg xs)
  | tup (vs : List V) (xs : Array Value) (hl : vs.length = xs.size) (h : ∀ (j : Nat) v x, vs[j]? = some v → xs[j]? = some x → VR H μ v x) : VR H μ (.tup vs) (.tuple xs)
  | sl0 (t : Ty) (own : Bool) (a : Option Addr) (cap : Nat) : VR H μ (.sl t [] own) (.slice a 0 cap)
  | sl (t : Ty) (xs : List (T t)) (own : Bool) (a : Addr) (cap : Nat) (f : Nat → Nat → Value) (ha : a.spot = none) (hl : xs.length ≤ cap)
      (h1 : ∀ (i : Nat) x (j : Nat) v, xs[i]? = some x → (enc t x).cells[j]? = some v → H a.block (a.off + i * t.sz + j) = some (f i j))
      (h2 : ∀ (i : Nat) x (j : Nat) v, xs[i]? = some x → (enc t x).cells[j]? = some v → VR H μ v (f i j)) : VR H μ (.sl t xs own) (.slice (some a) xs.length cap)
  | nils : VR H μ .nils (.slice none 0 0)
  | nilp : VR H μ .nilp (.pointer none)
  | ptr (n off : Nat) (e : MO) (h : μ[n]? = some e) : VR H μ (.ptr n off) (.pointer (some ⟨e.blk, off, none⟩))
  | ept (n j off : Nat) (e : MO) (h : μ[n]? = some e) (hj : j < e.len) : VR H μ (.ept n j off) (.pointer (some ⟨e.blk, j * e.esz + off, none⟩))
  | ms (n : Nat) (e : MO) (h : μ[n]? = some e) : VR H μ (.ms n) (.slice (some ⟨e.blk, 0, none⟩) e.len e.len)
  | rp (cs : List V) (a : Addr) (f : Nat → Value) (ha : a.spot = none) (h1 : ∀ (j : Nat) v, cs[j]? = some v → H a.block (a.off + j) = some (f j))
      (h2 : ∀ (j : Nat) v, cs[j]? = some v → VR H μ v (f j)) : VR H μ (.rp cs) (.pointer (some a))
  | fn (g : Nat) (caps : List V) (xs : Array Value) (hl : caps.length = xs.size) (h : ∀ (j : Nat) v x, caps[j]? = some v → xs[j]? = some x → VR H μ v x) : VR H μ (.fn g caps) (.func (.func g) #[] xs)
  | nilf : VR H μ .nilf .nilFunc
  | ifc (t : Nat) (v : V) (x : Value) (h : VR H μ v x) : VR H μ (.ifc t v) (.iface t x)
  | nili : VR H μ .nili .nilIface
theorem VR.mono {H H' : HM} {μ μ' : MU} (hH : H.le H') (hμ : μ.le μ') {v : V} {x : Value} (h : VR H μ v x) : VR H' μ' v x := by
  induction h with
  | u x => exact .u x
  | b x => exact .b x
  | i k n => exact .i k n
  | s x => exact .s x
  | agg vs xs hl _ ih => exact .agg vs xs hl ih
  | tup vs xs hl _ ih => exact .tup vs xs hl ih
  | sl0 t own a cap => exact .sl0 t own a cap
  | sl t xs own a cap f ha hl h1 _ ih => exact .sl t xs own a cap f ha hl (fun i x j v hx hv => hH _ _ _ (h1 i x j v hx hv)) ih
  | nils => exact .nils
  | nilp => exact .nilp
  | ptr n off e h => exact .ptr n off e (hμ _ _ h)
  | ept n j off e h hj => exact .ept n j off e (hμ _ _ h) hj
  | ms n e h => exact .ms n e (hμ _ _ h)
  | rp cs a f ha h1 _ ih => exact .rp cs a f ha (fun j v hv => hH _ _ _ (h1 j v hv)) ih
  | fn g caps xs hl _ ih => exact .fn g caps xs hl ih
  | nilf => exact .nilf
  | ifc t v x _ ih => exact .ifc t v x ih
  | nili => exact .nili
theorem HM.le.refl (H : HM) : H.le H := fun _ _ _ h => h
theorem MU.le.refl (μ : MU) : μ.le μ := fun _ _ h => h
theorem MU.le.app (μ : MU) (e : MO) : μ.le (μ ++ [e]) := fun n x h => by
  have hn : n < μ.length := by
    rcases Nat.lt_or_ge n μ.length with h' | h'
    · exact h'
    · rw [List.getElem?_eq_none h'] at h; cases h
  rw [List.getElem?_append_left hn]; exact h
theorem norefs_get {vs : List V} (h : norefs vs = true) {j : Nat} {v : V} (hv : vs[j]? = some v) : noref v = true := by
  induction vs generalizing j with
  | nil => simp at hv
  | cons a r ih =>
    simp only [norefs] at h
    cases ha : noref a with
    | false => simp [ha] at h
    | true =>
      simp only [ha] at h
      cases j with
      | zero => simp at hv; rw [← hv]; exact ha
      | succ j => exact ih h (by simpa using hv)
theorem norefs_of {vs : List V} (h : ∀ v ∈ vs, noref v = true) : norefs vs = true := by
  induction vs with
  | nil => rfl
  | cons a r ih =>
    simp only [norefs]
    rw [h a (by simp)]
    exact ih fun v hv => h v (by simp [hv])
theorem mem_of_get {α : Type} {l : List α} {j : Nat} {x : α} (h : l[j]? = some x) : x ∈ l := List.mem_of_getElem? h
def Plain : V → Prop
  | .b _ => True
  | .i _ _ => True
  | .s _ => True
  | .sl _ _ own => own = false
  | _ => False
theorem enc_plain (t : Ty) (x : T t) : ∀ v ∈ (enc t x).cells, Plain v := by
  cases t <;> simp [enc, V.cells, insCells, exprCells, Plain]
theorem enc_len (t : Ty) (x : T t) : (enc t x).cells.length = t.sz := by
  cases t <;> simp [enc, V.cells, insCells, exprCells, Ty.sz]
theorem enc_one (t : Ty) (x : T t) : ∀ v ∈ (enc t x).cells, v.one = true := by
  cases t <;> simp [enc, V.cells, insCells, exprCells, V.one]
theorem Plain.noref {v : V} (h : Plain v) : noref v = true := by
  cases v <;> simp_all [Plain, Ev.noref]
theorem enc_noref {t : Ty} {x : T t} {j : Nat} {v : V} (h : (enc t x).cells[j]? = some v) : noref v = true :=
  (enc_plain t x v (mem_of_get h)).noref
theorem VR.noref {H : HM} {μ μ' : MU} {v : V} {x : Value} (h : VR H μ v x) (hn : noref v = true) : VR H μ' v x := by
  induction h with
  | u x => exact .u x
  | b x => exact .b x
  | i k n => exact .i k n
  | s x => exact .s x
  | agg vs xs hl _ ih => exact .agg vs xs hl fun j v x hv hx => ih j v x hv hx (norefs_get (by simpa [Ev.noref] using hn) hv)
  | tup vs xs hl _ ih => exact .tup vs xs hl fun j v x hv hx => ih j v x hv hx (norefs_get (by simpa [Ev.noref] using hn) hv)
  | sl0 t own a cap => exact .sl0 t own a cap
  | sl t xs own a cap f ha hl h1 _ ih => exact .sl t xs own a cap f ha hl h1 fun i x j v hx hv => ih i x j v hx hv (enc_noref hv)
  | nils => exact .nils
  | nilp => exact .nilp
  | ptr n off e h => simp [Ev.noref] at hn
  | ept n j off e h hj => simp [Ev.noref] at hn
  | ms n e h => simp [Ev.noref] at hn
  | rp cs a f ha h1 _ ih => exact .rp cs a f ha h1 fun j v hv => ih j v hv (norefs_get (by simpa [Ev.noref] using hn) hv)
  | fn g caps xs hl _ ih => exact .fn g caps xs hl fun j v x hv hx => ih j v x hv hx (norefs_get (by simpa [Ev.noref] using hn) hv)
  | nilf => exact .nilf
  | ifc t v x _ ih => exact .ifc t v x (ih (by simpa [Ev.noref] using hn))
  | nili => exact .nili
theorem V.dis_dis (v : V) : v.dis.dis = v.dis := by cases v <;> rfl
theorem VR.dis {H : HM} {μ : MU} {v : V} {x : Value} (h : VR H μ v x) : VR H μ v.dis x := by
  cases h <;> first | (constructor; done) | skip
  case sl t xs own a cap f ha hl h1 h2 => exact .sl t xs false a cap f ha hl h1 h2
  all_goals (constructor <;> assumption)
theorem VR.undis {H : HM} {μ : MU} {v : V} {x : Value} (h : VR H μ v.dis x) : VR H μ v x := by
  cases v <;> try exact h
  case sl t xs own =>
    simp only [V.dis] at h
    cases h with
    | sl0 _ _ a cap => exact .sl0 t own a cap
    | sl _ _ _ a cap f ha hl h1 h2 => exact .sl t xs own a cap f ha hl h1 h2
theorem VR.reown {H : HM} {μ : MU} {t : Ty} {xs : List (T t)} {o o' : Bool} {x : Value} (h : VR H μ (.sl t xs o) x) : VR H μ (.sl t xs o') x := by
  cases h with
  | sl0 _ _ a cap => exact .sl0 t o' a cap
  | sl _ _ _ a cap f ha hl h1 h2 => exact .sl t xs o' a cap f ha hl h1 h2
theorem VR.cells {H : HM} {μ : MU} {v : V} {x : Value} (h : VR H μ v x) (ho : v.cells.all V.one = true) :
    v.cells.length = x.cells.size ∧ ∀ (j : Nat) c d, v.cells[j]? = some c → x.cells[j]? = some d → VR H μ c d := by
  have single : ∀ (v : V) (x : Value), VR H μ v x → v.cells = [v] → x.cells = #[x] → v.cells.length = x.cells.size ∧ ∀ (j : Nat) c d, v.cells[j]? = some c → x.cells[j]? = some d → VR H μ c d := by
    intro v x h hv hx
    rw [hv, hx]
    refine ⟨rfl, fun j c d hc hd => ?_⟩
    cases j with
    | zero => simp at hc hd; rw [← hc, ← hd]; exact h
    | succ j => simp at hc
  cases h with
  | u x => simp [V.cells, V.one] at ho
  | agg vs xs hl h => exact ⟨by simpa [V.cells, Value.cells] using hl, fun j c d hc hd => h j c d hc (by simpa [Value.cells] using hd)⟩
  | tup vs xs hl h => simp [V.cells, V.one] at ho
  | sl t xs own a cap f ha hl h1 h2 => exact single _ _ (.sl t xs own a cap f ha hl h1 h2) rfl rfl
  | rp cs a f ha h1 h2 => exact single _ _ (.rp cs a f ha h1 h2) rfl rfl
  | fn g caps xs hl h => exact single _ _ (.fn g caps xs hl h) rfl rfl
  | ifc t v x h => exact single _ _ (.ifc t v x h) rfl rfl
  | b x => exact single _ _ (.b x) rfl rfl
  | i k n => exact single _ _ (.i k n) rfl rfl
  | s x => exact single _ _ (.s x) rfl rfl
  | sl0 t own a cap => exact single _ _ (.sl0 t own a cap) rfl rfl
  | nils => exact single _ _ .nils rfl rfl
  | nilp => exact single _ _ .nilp rfl rfl
  | ptr n off e h => exact single _ _ (.ptr n off e h) rfl rfl
  | ept n j off e h hj => exact single _ _ (.ept n j off e h hj) rfl rfl
  | ms n e h => exact single _ _ (.ms n e h) rfl rfl
  | nilf => exact single _ _ .nilf rfl rfl
  | nili => exact single _ _ .nili rfl rfl
theorem VR.oneCell {H : HM} {μ : MU} {v : V} {x : Value} (h : VR H μ v x) (ho : v.one = true) : x.oneCell' = true := by
  cases h <;> first | rfl | simp [V.one] at ho
end Go.Ev
namespace Go.Ev
open Go
def Wk (v v' : V) : Prop := (∀ H μ z, VR H μ v z → VR H μ v' z) ∧ (∀ t xs, v' = .sl t xs true → v = .sl t xs true)
theorem Wk.refl (v : V) : Wk v v := ⟨fun _ _ _ h => h, fun _ _ h => h⟩
theorem Wk.u (v : V) : Wk v .u := ⟨fun _ _ _ _ => .u _, fun _ _ h => by cases h⟩
def Wks (vs vs' : List V) : Prop := vs.length = vs'.length ∧ ∀ (j : Nat) v v', vs[j]? = some v → vs'[j]? = some v' → Wk v v'
theorem Wks.refl (vs : List V) : Wks vs vs := ⟨rfl, fun j v v' h h' => by rw [h] at h'; cases h'; exact Wk.refl v⟩
theorem Wks.nil : Wks [] [] := Wks.refl []
theorem Wks.cons {v v' : V} {r r' : List V} (h : Wk v v') (hr : Wks r r') : Wks (v :: r) (v' :: r') := by
  refine ⟨by simp [hr.1], fun j a a' h1 h2 => ?_⟩
  cases j with
  | zero => simp at h1 h2; rw [← h1, ← h2]; exact h
  | succ j => exact hr.2 j a a' (by simpa using h1) (by simpa using h2)
theorem Wks.append {a a' b b' : List V} (h : Wks a a') (h' : Wks b b') : Wks (a ++ b) (a' ++ b') := by
  induction a generalizing a' with
  | nil =>
    have : a' = [] := List.eq_nil_of_length_eq_zero h.1.symm
    subst this; exact h'
  | cons x r ih =>
    cases a' with
    | nil => have := h.1; simp at this
    | cons x' r' => exact Wks.cons (h.2 0 x x' rfl rfl) (ih ⟨by have := h.1; simpa using this, fun j v v' h1 h2 => h.2 (j + 1) v v' (by simpa using h1) (by simpa using h2)⟩)
theorem Wks.agg {vs vs' : List V} (h : Wks vs vs') : Wk (.agg vs) (.agg vs') := by
  refine ⟨fun H μ z hz => ?_, fun _ _ h => by cases h⟩
  cases hz with
  | agg _ xs hl hv =>
    refine .agg vs' xs (by rw [← h.1]; exact hl) fun j v x hj hx => ?_
    have hlt : j < vs.length := by
      rw [h.1]
      rcases Nat.lt_or_ge j vs'.length with h' | h'
      · exact h'
      · rw [List.getElem?_eq_none h'] at hj; cases hj
    exact (h.2 j _ v (List.getElem?_eq_getElem hlt) hj).1 H μ x (hv j _ x (List.getElem?_eq_getElem hlt) hx)
theorem Wks.tup {vs vs' : List V} (h : Wks vs vs') : Wk (.tup vs) (.tup vs') := by
  refine ⟨fun H μ z hz => ?_, fun _ _ h => by cases h⟩
  cases hz with
  | tup _ xs hl hv =>
    refine .tup vs' xs (by rw [← h.1]; exact hl) fun j v x hj hx => ?_
    have hlt : j < vs.length := by
      rw [h.1]
      rcases Nat.lt_or_ge j vs'.length with h' | h'
      · exact h'
      · rw [List.getElem?_eq_none h'] at hj; cases hj
    exact (h.2 j _ v (List.getElem?_eq_getElem hlt) hj).1 H μ x (hv j _ x (List.getElem?_eq_getElem hlt) hx)
theorem Wks.rp {vs vs' : List V} (h : Wks vs vs') : Wk (.rp vs) (.rp vs') := by
  refine ⟨fun H μ z hz => ?_, fun _ _ h => by cases h⟩
  cases hz with
  | rp _ a f ha h1 h2 =>
    have key : ∀ (j : Nat) v, vs'[j]? = some v → ∃ z, vs[j]? = some z := fun j v hj => by
      have hlt : j < vs.length := by
        rw [h.1]
        rcases Nat.lt_or_ge j vs'.length with h' | h'
        · exact h'
        · rw [List.getElem?_eq_none h'] at hj; cases hj
      exact ⟨_, List.getElem?_eq_getElem hlt⟩
    refine .rp vs' a f ha (fun j v hj => ?_) (fun j v hj => ?_)
    · obtain ⟨z, hz⟩ := key j v hj; exact h1 j z hz
    · obtain ⟨z, hz⟩ := key j v hj; exact (h.2 j z v hz hj).1 H μ _ (h2 j z hz)
theorem Wks.fn {g : Nat} {vs vs' : List V} (h : Wks vs vs') : Wk (.fn g vs) (.fn g vs') := by
  refine ⟨fun H μ z hz => ?_, fun _ _ h => by cases h⟩
  cases hz with
  | fn _ _ xs hl hv =>
    refine .fn g vs' xs (by rw [← h.1]; exact hl) fun j v x hj hx => ?_
    have hlt : j < vs.length := by
      rw [h.1]
      rcases Nat.lt_or_ge j vs'.length with h' | h'
      · exact h'
      · rw [List.getElem?_eq_none h'] at hj; cases hj
    exact (h.2 j _ v (List.getElem?_eq_getElem hlt) hj).1 H μ x (hv j _ x (List.getElem?_eq_getElem hlt) hx)
theorem Wk.trans {a b c : V} (h : Wk a b) (k : Wk b c) : Wk a c := ⟨fun H μ z hz => k.1 H μ z (h.1 H μ z hz), fun t xs e => h.2 t xs (k.2 t xs e)⟩
theorem Wk.dis (v : V) : Wk v v.dis := ⟨fun _ _ _ h => h.dis, fun t xs e => by cases v <;> simp [V.dis] at e⟩
theorem Wk.unown {t : Ty} {xs : List (T t)} {o : Bool} : Wk (.sl t xs o) (.sl t xs false) := ⟨fun _ _ _ h => h.reown, fun _ _ e => by cases e⟩
theorem Wk.ofNil (t : Ty) : Wk .nils (.sl t [] false) := ⟨fun _ _ z h => by cases h; exact .sl0 t false none 0, fun _ _ e => by cases e⟩
theorem decIns_eq {cs : List V} {x : GIns} (h : decIns cs = some x) : cs = insCells x := by
  unfold decIns at h
  split at h
  · cases h; rfl
  · cases h
theorem decExpr_wk {cs : List V} {x : GExpr} (h : decExpr cs = some x) : Wks cs (exprCells x) := by
  unfold decExpr at h
  split at h
  · cases h
    exact .cons (Wk.refl _) (.cons (Wk.refl _) (.cons (Wk.refl _) (.cons Wk.unown .nil)))
  · cases h
    exact .cons (Wk.refl _) (.cons (Wk.refl _) (.cons (Wk.refl _) (.cons (Wk.ofNil _) .nil)))
  · cases h
theorem decLine_wk {cs : List V} {x : GLine} (h : decLine cs = some x) :
    Wks cs ([.s x.label, .i .i64 x.kind] ++ insCells x.ins ++ [.i .i64 x.cond, .s x.ref, .b x.wide, .i .i64 x.size] ++ exprCells x.expr) := by
  unfold decLine at h
  split at h
  · rename_i lb k r
    split at h
    · rename_i ins c rf wd sz e hi hd
      split at h
      · rename_i ex he
        cases h
        have hr : r = insCells ins ++ (.i .i64 c :: .s rf :: .b wd :: .i .i64 sz :: e) := by
          rw [← decIns_eq hi, ← hd, List.take_append_drop]
        rw [hr]
        simp only [List.cons_append, List.nil_append, List.append_assoc]
        refine .cons (Wk.refl _) (.cons (Wk.refl _) (.append (Wks.refl _) ?_))
        exact .cons (Wk.refl _) (.cons (Wk.refl _) (.cons (Wk.refl _) (.cons (Wk.refl _) (decExpr_wk he))))
      · cases h
    · cases h
  · cases h
theorem decSl_wk {t : Ty} {v : V} {xs : List (T t)} (h : decSl t v = some xs) : Wk v (.sl t xs false) := by
  unfold decSl at h
  split at h
  · split at h
    · rename_i he
      subst he
      cases h
      exact Wk.unown
    · cases h
  · cases h; exact Wk.ofNil t
  · cases h
theorem decB_wk {v : V} {x : Bool} (h : decB v = some x) : Wk v (.b x) := by
  unfold decB at h; split at h
  · cases h; exact Wk.refl _
  · cases h
theorem decInt_wk {k : IntKind} {v : V} {x : Int} (h : decInt k v = some x) : Wk v (.i k x) := by
  unfold decInt at h; split at h
  · split at h
    · rename_i e; subst e; cases h; exact Wk.refl _
    · cases h
  · cases h
theorem decS_wk {v : V} {x : ByteArray} (h : decS v = some x) : Wk v (.s x) := by
  unfold decS at h; split at h
  · cases h; exact Wk.refl _
  · cases h
theorem decInsV_wk {v : V} {x : GIns} (h : decInsV v = some x) : Wk v (.agg (insCells x)) := by
  unfold decInsV at h; split at h
  · rw [decIns_eq h]; exact Wk.refl _
  · cases h
theorem decTok_wk {v : V} {x : GTok} (h : decTok v = some x) : Wk v (.agg [.i .i64 x.kind, .i .i64 x.n, .s x.text]) := by
  unfold decTok at h; split at h
  · cases h; exact Wk.refl _
  · cases h
theorem decExprV_wk {v : V} {x : GExpr} (h : decExprV v = some x) : Wk v (.agg (exprCells x)) := by
  unfold decExprV at h; split at h
  · exact (decExpr_wk h).agg
  · cases h
theorem decLineV_wk {v : V} {x : GLine} (h : decLineV v = some x) : Wk v (enc .line x) := by
  unfold decLineV at h; split at h
  · exact (decLine_wk h).agg
  · cases h
theorem decForm_wk {v : V} {x : GForm} (h : decForm v = some x) : Wk v (.agg [.i .i64 x.h, .b x.is]) := by
  unfold decForm at h; split at h
  · cases h; exact Wk.refl _
  · cases h
theorem dec_wk : (t : Ty) → (v : V) → (x : T t) → dec t v = some x → Wk v (enc t x)
  | .b, _, _, h => decB_wk h
  | .i _, _, _, h => decInt_wk h
  | .s, _, _, h => decS_wk h
  | .ins, _, _, h => decInsV_wk h
  | .tok, _, _, h => decTok_wk h
  | .expr, _, _, h => decExprV_wk h
  | .line, _, _, h => decLineV_wk h
  | .form, _, _, h => decForm_wk h
  | .sl _, _, _, h => decSl_wk h
theorem upk_own_wk {t : Ty} {v : V} {x : List (T t)} (h : (match v with | .sl t' xs true => if h : t' = t then some (h ▸ xs) else none | _ => none) = some x) : Wk v (.sl t x true) := by
  split at h
  · split at h
    · rename_i he; subst he; cases h; exact Wk.refl _
    · cases h
  · cases h
theorem upk_ptr_wk {n off : Nat} {v : V} {x : Unit} (h : (match v with | .ptr n' off' => bif Nat.beq n n' then (bif Nat.beq off off' then some () else none) else none | _ => none) = some x) : Wk v (.ptr n off) := by
  split at h
  · rename_i n' off'
    cases hn : Nat.beq n n' <;> simp only [hn, cond_true, cond_false] at h
    · cases h
    · cases ho : Nat.beq off off' <;> simp only [ho, cond_true, cond_false] at h
      · cases h
      · have e1 := Nat.eq_of_beq_eq_true hn; have e2 := Nat.eq_of_beq_eq_true ho
        subst e1; subst e2; exact Wk.refl _
  · cases h
theorem upk_ms_wk {n : Nat} {v : V} {x : Unit} (h : (match v with | .ms n' => bif Nat.beq n n' then some () else none | _ => none) = some x) : Wk v (.ms n) := by
  split at h
  · rename_i n'
    cases hn : Nat.beq n n' <;> simp only [hn, cond_true, cond_false] at h
    · cases h
    · have e1 := Nat.eq_of_beq_eq_true hn
      subst e1; exact Wk.refl _
  · cases h
theorem upk_fn_eq {α : Type} {f : Nat} {v : V} {x : α} {g : List V → Option α} (h : (match v with | .fn f' vs => bif Nat.beq f f' then g vs else none | _ => none) = some x) : ∃ vs, v = .fn f vs ∧ g vs = some x := by
  split at h
  · rename_i f' vs
    cases hn : Nat.beq f f' <;> simp only [hn, cond_true, cond_false] at h
    · cases h
    · have e1 := Nat.eq_of_beq_eq_true hn
      subst e1; exact ⟨vs, rfl, h⟩
  · cases h
theorem upk_agg_eq {α : Type} {v : V} {x : α} {g : List V → Option α} (h : (match v with | .agg vs => g vs | _ => none) = some x) : ∃ vs, v = .agg vs ∧ g vs = some x := by
  split at h
  · exact ⟨_, rfl, h⟩
  · cases h
theorem upk_tup_eq {α : Type} {v : V} {x : α} {g : List V → Option α} (h : (match v with | .tup vs => g vs | _ => none) = some x) : ∃ vs, v = .tup vs ∧ g vs = some x := by
  split at h
  · exact ⟨_, rfl, h⟩
  · cases h
theorem upk_rp_eq {α : Type} {v : V} {x : α} {g : List V → Option α} (h : (match v with | .rp vs => g vs | _ => none) = some x) : ∃ vs, v = .rp vs ∧ g vs = some x := by
  split at h
  · exact ⟨_, rfl, h⟩
  · cases h
theorem upks_cons_eq {a : Shp} {r : List Shp} {v : V} {vs : List V} {x : ShTs (a :: r)} (h : upks (a :: r) (v :: vs) = some x) : ∃ y ys, upk a v = some y ∧ upks r vs = some ys ∧ x = (y, ys) := by
  unfold upks at h
  split at h
  · rename_i y ys h1 h2
    exact ⟨y, ys, h1, h2, (Option.some.inj h).symm⟩
  · cases h
mutual
theorem upk_wk : (a : Shp) → (v : V) → (x : ShT a) → upk a v = some x → Wk v (pk a x)
  | .ty t, v, x, h => dec_wk t v x h
  | .own t, v, x, h => upk_own_wk h
  | .ptr n off, v, x, h => upk_ptr_wk h
  | .ms n, v, x, h => upk_ms_wk h
  | .fn f caps, v, x, h => by
    obtain ⟨vs, rfl, h'⟩ := upk_fn_eq (g := upks caps) h
    exact Wks.fn (upks_wk caps vs x h')
  | .agg cs, v, x, h => by
    obtain ⟨vs, rfl, h'⟩ := upk_agg_eq (g := upks cs) h
    exact Wks.agg (upks_wk cs vs x h')
  | .tup cs, v, x, h => by
    obtain ⟨vs, rfl, h'⟩ := upk_tup_eq (g := upks cs) h
    exact Wks.tup (upks_wk cs vs x h')
  | .rp cs, v, x, h => by
    obtain ⟨vs, rfl, h'⟩ := upk_rp_eq (g := upks cs) h
    exact Wks.rp (upks_wk cs vs x h')
theorem upks_wk : (l : List Shp) → (vs : List V) → (x : ShTs l) → upks l vs = some x → Wks vs (pks l x)
  | [], [], x, _ => Wks.nil
  | [], _ :: _, x, h => by unfold upks at h; cases h
  | _ :: _, [], x, h => by unfold upks at h; cases h
  | a :: r, v :: vs, x, h => by
    obtain ⟨y, ys, h1, h2, rfl⟩ := upks_cons_eq h
    exact Wks.cons (upk_wk a v y h1) (upks_wk r vs ys h2)
end
end Go.Ev
namespace Go.Ev
open Go
structure Gh where
  B : Nat
  w0 : World
  fp : List Nat
  H0 : HM
  m0 : MU
inductive Own where
  | obj (n : Nat)
  | slot (s : Nat)
  | cell (n j : Nat)
deriving DecidableEq
def blkOf : V → Value → Option Nat
  | .sl _ _ true, .slice (some a) _ _ => some a.block
  | _, _ => none
theorem blkOf_dis (v : V) (x : Value) : blkOf v.dis x = none := by
  cases v <;> simp [V.dis, blkOf]
theorem blkOf_of_dis {v : V} {x : Value} (h : v.dis = v) : blkOf v x = none := by rw [← h]; exact blkOf_dis v x
def OwnOK (H : HM) (w : World) (v : V) (x : Value) : Prop :=
  ∀ (t : Ty) (xs : List (T t)), v = .sl t xs true →
    (x = .slice none 0 0 ∧ xs = []) ∨
    ∃ (g cap : Nat) (cur : Array Value) (e : TypeId), x = .slice (some ⟨g, 0, none⟩) xs.length cap ∧ w.heap[g]? = some (.cells cur e (0, 0)) ∧
      xs.length ≤ cap ∧ cur.size = cap * t.sz ∧ ∀ o, xs.length * t.sz ≤ o → H g o = none
def Val (H : HM) (μ : MU) (w : World) (v : V) (x : Value) : Prop := VR H μ v x ∧ OwnOK H w v x
theorem OwnOK.of_dis {H : HM} {w : World} {v : V} {x : Value} (h : v.dis = v) : OwnOK H w v x := fun t xs e => by
  subst e; simp [V.dis] at h
theorem Val.of_dis {H : HM} {μ : MU} {w : World} {v : V} {x : Value} (h : VR H μ v x) (hd : v.dis = v) : Val H μ w v x := ⟨h, OwnOK.of_dis hd⟩
theorem Val.dis {H : HM} {μ : MU} {w : World} {v : V} {x : Value} (h : Val H μ w v x) : Val H μ w v.dis x := .of_dis h.1.dis (V.dis_dis v)
def ObR (H : HM) (μ : MU) (w : World) (e : MO) (o : Ob) : Prop :=
  ∃ (cur : Array Value) (el : TypeId), w.heap[e.blk]? = some (.cells cur el (0, 0)) ∧
    match o with
    | .box cs => cur.size = cs.length ∧ ∀ (j : Nat) v x, cs[j]? = some v → cur[j]? = some x → Val H μ w v x
    | .arr t xs => e.esz = t.sz ∧ e.len = xs.length ∧ cur.size = xs.length * t.sz ∧
        ∀ (i : Nat) x (j : Nat) v y, xs[i]? = some x → (enc t x).cells[j]? = some v → cur[i * t.sz + j]? = some y → VR H μ v y
def plc (fr : List V) (O : List Ob) (μ : MU) (tmps : Array Value) (w : World) : Own → V → Value → Prop
  | .obj _, _, _ => False
  | .slot s, v, x => fr[s]? = some v ∧ tmps[s]? = some x
  | .cell n j, v, x => ∃ e cs, μ[n]? = some e ∧ O[n]? = some (.box cs) ∧ cs[j]? = some v ∧ w.cell? ⟨e.blk, j, none⟩ = some x
def owns (fr : List V) (O : List Ob) (μ : MU) (tmps : Array Value) (w : World) (p : Own) (b : Nat) : Prop :=
  (∃ n e, p = .obj n ∧ μ[n]? = some e ∧ e.blk = b) ∨ ∃ v x, plc fr O μ tmps w p v x ∧ blkOf v x = some b
def slotsOf (q : Path) : List Nat := q.map (·.1)
def SlotR (G : List (Nat × Path)) (fr : List V) (H : HM) (μ : MU) (w : World) (s : Nat) (v : V) (x : Value) : Prop :=
  match look s G with
  | none => Val H μ w v x
  | some q => v = .u ∨ (ready fr q = true ∧ (pcOf fr q = true → Val H μ w v x) ∧ (pcOf fr q = false → x = undef))
structure Inv (g : Gh) (G : List (Nat × Path)) (H : HM) (μ : MU) (fr : List V) (O : List Ob) (tmps : Array Value) (w : World) : Prop where
  len : fr.length = tmps.size
  slots : ∀ (s : Nat) v x, fr[s]? = some v → tmps[s]? = some x → SlotR G fr H μ w s v x
  olen : O.length = μ.length
  obs : ∀ (n : Nat) o e, O[n]? = some o → μ[n]? = some e → ObR H μ w e o
  hob : ∀ (n : Nat) e, μ[n]? = some e → ∀ o, H e.blk o = none
  agree : ∀ b o v, H b o = some v → w.cell? ⟨b, o, none⟩ = some v
  uniq : ∀ p q b, owns fr O μ tmps w p b → owns fr O μ tmps w q b → p = q
  rng : ∀ p b, owns fr O μ tmps w p b → (g.B ≤ b ∨ b ∈ g.fp) ∧ b < w.heap.size
  frame : ∀ b, b < g.B → b ∉ g.fp → w.heap[b]? = g.w0.heap[b]?
  hle : g.H0.le H
  hnew : ∀ b o, H b o ≠ g.H0 b o → g.B ≤ b ∨ b ∈ g.fp
  os : w.os = g.w0.os
  tape : w.tape = g.w0.tape
  output : w.output = g.w0.output
  size : g.B ≤ w.heap.size
  mle : g.m0.le μ
structure Goes (H H' : HM) (w w' : World) (ch : List Nat) : Prop where
  hle : H.le H'
  heap : ∀ b, b < w.heap.size → b ∉ ch → w'.heap[b]? = w.heap[b]?
  size : w.heap.size ≤ w'.heap.size
  hsame : ∀ b o, b < w.heap.size → b ∉ ch → H' b o = H b o
  os : w'.os = w.os
  tape : w'.tape = w.tape
  output : w'.output = w.output
theorem lt_of_heap {w : World} {b : Nat} {o : Obj} (h : w.heap[b]? = some o) : b < w.heap.size := by
  rcases Nat.lt_or_ge b w.heap.size with h' | h'
  · exact h'
  · rw [Array.getElem?_eq_none h'] at h; cases h
theorem OwnOK.goes {H H' : HM} {w w' : World} {ch : List Nat} {v : V} {x : Value} (k : Goes H H' w w' ch) (h : OwnOK H w v x) (hn : ∀ b, blkOf v x = some b → b ∉ ch) : OwnOK H' w' v x := by
  intro t xs e
  rcases h t xs e with hl | ⟨g, cap, cur, el, hx, hh, hl, hs, ht⟩
  · exact .inl hl
  · have hg : g ∉ ch := hn g (by rw [e, hx]; rfl)
    exact .inr ⟨g, cap, cur, el, hx, by rw [k.heap g (lt_of_heap hh) hg]; exact hh, hl, hs, fun o ho => by rw [k.hsame g o (lt_of_heap hh) hg]; exact ht o ho⟩
theorem Val.goes {H H' : HM} {μ μ' : MU} {w w' : World} {ch : List Nat} {v : V} {x : Value} (k : Goes H H' w w' ch) (hμ : μ.le μ') (h : Val H μ w v x) (hn : ∀ b, blkOf v x = some b → b ∉ ch) : Val H' μ' w' v x :=
  ⟨h.1.mono k.hle hμ, h.2.goes k hn⟩
theorem cell_of_heap {w : World} {b j : Nat} {cur : Array Value} {el : TypeId} {fz : Nat × Nat} (h : w.heap[b]? = some (.cells cur el fz)) : w.cell? ⟨b, j, none⟩ = cur[j]? := by
  simp [World.cell?, h]
theorem Goes.cell {H H' : HM} {w w' : World} {ch : List Nat} (k : Goes H H' w w' ch) {b : Nat} (j : Nat) (hb : b < w.heap.size) (hn : b ∉ ch) : w'.cell? ⟨b, j, none⟩ = w.cell? ⟨b, j, none⟩ := by
  simp [World.cell?, k.heap b hb hn]
theorem ObR.goes {H H' : HM} {μ μ' : MU} {w w' : World} {ch : List Nat} {e : MO} {o : Ob} (k : Goes H H' w w' ch) (hμ : μ.le μ') (h : ObR H μ w e o) (hb : e.blk ∉ ch)
    (hn : ∀ cs, o = .box cs → ∀ (j : Nat) v x b, cs[j]? = some v → w.cell? ⟨e.blk, j, none⟩ = some x → blkOf v x = some b → b ∉ ch) : ObR H' μ' w' e o := by
  obtain ⟨cur, el, hh, hr⟩ := h
  refine ⟨cur, el, by rw [k.heap _ (lt_of_heap hh) hb]; exact hh, ?_⟩
  cases o with
  | box cs => exact ⟨hr.1, fun j v x hv hx => (hr.2 j v x hv hx).goes k hμ fun b hbb => hn cs rfl j v x b hv (by rw [cell_of_heap hh]; exact hx) hbb⟩
  | arr t xs => exact ⟨hr.1, hr.2.1, hr.2.2.1, fun i x j v y hx hv hy => (hr.2.2.2 i x j v y hx hv hy).mono k.hle hμ⟩
theorem Goes.refl (H : HM) (w : World) : Goes H H w w [] := ⟨HM.le.refl H, fun _ _ _ => rfl, Nat.le_refl _, fun _ _ _ _ => rfl, rfl, rfl, rfl⟩
theorem getD_set {fr : List V} {d : Nat} {v : V} (s : Nat) : (fr.set d v).getD s .u = if s = d ∧ d < fr.length then v else fr.getD s .u := by
  by_cases h : s = d
  · subst h
    by_cases hl : s < fr.length
    · simp [List.getD, hl]
    · simp [List.getD, hl]
  · have h' : d ≠ s := fun e => h e.symm
    simp [List.getD, List.getElem?_set_ne h', h]
theorem bAt_congr {fr fr' : List V} {s : Nat} {w : Bool} (hs : ∀ c, fr.getD s .u = .b c ↔ fr'.getD s .u = .b c) : bAt fr s w = bAt fr' s w := by
  unfold bAt
  cases h : fr.getD s .u with
  | b c => rw [(hs c).1 h]
  | _ =>
    cases h' : fr'.getD s .u with
    | b c => rw [(hs c).2 h'] at h; cases h
    | _ => rfl
theorem isB_congr {fr fr' : List V} {s : Nat} (hs : ∀ c, fr.getD s .u = .b c ↔ fr'.getD s .u = .b c) : isB fr s = isB fr' s := by
  unfold isB
  cases h : fr.getD s .u with
  | b c => rw [(hs c).1 h]
  | _ =>
    cases h' : fr'.getD s .u with
    | b c => rw [(hs c).2 h'] at h; cases h
    | _ => rfl
theorem isB_iff {fr : List V} {s : Nat} : isB fr s = true ↔ ∃ c, fr.getD s .u = .b c := by
  unfold isB
  cases h : fr.getD s .u <;> simp
theorem bAt_iff {fr : List V} {s : Nat} {w : Bool} : bAt fr s w = true ↔ fr.getD s .u = .b w := by
  unfold bAt
  cases h : fr.getD s .u <;> simp
  rename_i c
  cases w <;> cases c <;> simp [bNot]
theorem pcOf_cons {fr : List V} {s : Nat} {w : Bool} {r : Path} : pcOf fr ((s, w) :: r) = (bAt fr s w && pcOf fr r) := by
  cases r with
  | nil => simp [pcOf]
  | cons b r' => rfl
theorem pcOf_append {fr : List V} (p q : Path) : pcOf fr (p ++ q) = (pcOf fr p && pcOf fr q) := by
  induction p with
  | nil => simp [pcOf]
  | cons a r ih =>
    obtain ⟨s, w⟩ := a
    rw [List.cons_append, pcOf_cons, pcOf_cons, ih, Bool.and_assoc]
theorem pcOf_congr {fr fr' : List V} {q : Path} (h : ∀ s ∈ slotsOf q, (∀ c, fr.getD s .u = .b c ↔ fr'.getD s .u = .b c)) : pcOf fr q = pcOf fr' q := by
  induction q with
  | nil => rfl
  | cons a r ih =>
    obtain ⟨s, w⟩ := a
    rw [pcOf_cons, pcOf_cons, bAt_congr (h s (by simp [slotsOf])), ih fun s hs => h s (by simp [slotsOf] at hs ⊢; exact .inr hs)]
theorem ready_congr {fr fr' : List V} {q : Path} (h : ∀ s ∈ slotsOf q, (∀ c, fr.getD s .u = .b c ↔ fr'.getD s .u = .b c)) : ready fr q = ready fr' q := by
  induction q with
  | nil => rfl
  | cons a r ih =>
    obtain ⟨s, w⟩ := a
    have h1 : isB fr s = isB fr' s := isB_congr (h s (by simp [slotsOf]))
    have h2 := ih fun s hs => h s (by simp [slotsOf] at hs ⊢; exact .inr hs)
    simp only [ready, List.all_cons] at h2 ⊢
    rw [h1, h2]
theorem ready_b {fr : List V} {q : Path} (h : ready fr q = true) {s : Nat} (hs : s ∈ slotsOf q) : ∃ c, fr.getD s .u = .b c := by
  simp only [slotsOf, List.mem_map] at hs
  obtain ⟨⟨s', w⟩, hm, rfl⟩ := hs
  simp only [ready, List.all_eq_true] at h
  exact isB_iff.1 (h _ hm)
theorem set_b_iff {fr : List V} {d : Nat} {v : V} {s : Nat} (h : s ≠ d) : ∀ c, fr.getD s .u = .b c ↔ (fr.set d v).getD s .u = .b c := by
  intro c; rw [getD_set]; simp [h]
theorem dis_b_iff {v : V} : ∀ c, v = .b c ↔ v.dis = .b c := by
  intro c; cases v <;> simp [V.dis]
theorem setDis_b_iff {fr : List V} {d : Nat} {s : Nat} : ∀ c, fr.getD s .u = .b c ↔ (fr.set d (fr.getD d .u).dis).getD s .u = .b c := by
  intro c; rw [getD_set]
  split
  · rename_i h; rw [h.1]; exact dis_b_iff c
  · exact Iff.rfl
end Go.Ev
namespace Go.Ev
open Go
theorem Inv.next {g : Gh} {G : List (Nat × Path)} {H H' : HM} {μ μ' : MU} {fr fr' : List V} {O O' : List Ob} {tmps tmps' : Array Value} {w w' : World} {ch : List Nat}
    (h : Inv g G H μ fr O tmps w) (k : Goes H H' w w' ch) (hmu : μ.le μ')
    (len' : fr'.length = tmps'.size) (slots' : ∀ (s : Nat) v x, fr'[s]? = some v → tmps'[s]? = some x → SlotR G fr' H' μ' w' s v x)
    (olen' : O'.length = μ'.length) (obs' : ∀ (n : Nat) o e, O'[n]? = some o → μ'[n]? = some e → ObR H' μ' w' e o)
    (hob' : ∀ (n : Nat) e, μ'[n]? = some e → ∀ o, H' e.blk o = none)
    (agree' : ∀ b o v, H' b o = some v → w'.cell? ⟨b, o, none⟩ = some v)
    (hch : ∀ b ∈ ch, g.B ≤ b ∨ b ∈ g.fp) (f : Own → Option Own)
    (hf : ∀ p b, owns fr' O' μ' tmps' w' p b → (∃ q, f p = some q ∧ owns fr O μ tmps w q b) ∨ (f p = none ∧ w.heap.size ≤ b ∧ b < w'.heap.size))
    (finj : ∀ p p' q b b', owns fr' O' μ' tmps' w' p b → owns fr' O' μ' tmps' w' p' b' → f p = some q → f p' = some q → p = p')
    (fnone : ∀ p p' b b', owns fr' O' μ' tmps' w' p b → owns fr' O' μ' tmps' w' p' b' → f p = none → f p' = none → p = p') :
    Inv g G H' μ' fr' O' tmps' w' where
  len := len'
  slots := slots'
  olen := olen'
  obs := obs'
  hob := hob'
  agree := agree'
  uniq := by
    intro p q b hp hq
    rcases hf p b hp with ⟨p0, e1, h1⟩ | ⟨e1, h1⟩ <;> rcases hf q b hq with ⟨q0, e2, h2⟩ | ⟨e2, h2⟩
    · have := h.uniq p0 q0 b h1 h2
      subst this
      exact finj p q p0 b b hp hq e1 e2
    · have := (h.rng p0 b h1).2; omega
    · have := (h.rng q0 b h2).2; omega
    · exact fnone p q b b hp hq e1 e2
  rng := by
    intro p b hp
    rcases hf p b hp with ⟨p0, _, h1⟩ | ⟨_, h1, h2⟩
    · exact ⟨(h.rng p0 b h1).1, Nat.lt_of_lt_of_le (h.rng p0 b h1).2 k.size⟩
    · exact ⟨.inl (Nat.le_trans h.size h1), h2⟩
  frame := by
    intro b hb hn
    have hc : b ∉ ch := fun hm => by
      rcases hch b hm with h1 | h1
      · omega
      · exact hn h1
    rw [k.heap b (Nat.lt_of_lt_of_le hb h.size) hc]; exact h.frame b hb hn
  hle := fun b o v hv => k.hle b o v (h.hle b o v hv)
  hnew := by
    intro b o hne
    by_cases hb : b < w.heap.size
    · by_cases hc : b ∈ ch
      · exact hch b hc
      · rw [k.hsame b o hb hc] at hne; exact h.hnew b o hne
    · exact .inl (by have := h.size; omega)
  os := k.os.trans h.os
  tape := k.tape.trans h.tape
  output := k.output.trans h.output
  size := Nat.le_trans h.size k.size
  mle := fun n e he => hmu n e (h.mle n e he)
theorem len_disAll (ds : List Nat) : ∀ fr : List V, (disAll fr ds).length = fr.length := by
  induction ds with
  | nil => intro fr; rfl
  | cons s r ih => intro fr; simp only [disAll]; rw [ih]; simp
theorem get_disAll (ds : List Nat) : ∀ (fr : List V) (s : Nat) v, (disAll fr ds)[s]? = some v → ∃ v0, fr[s]? = some v0 ∧ (v = v0 ∨ v = v0.dis) ∧ (s ∈ ds → v = v.dis) := by
  induction ds with
  | nil => intro fr s v h; exact ⟨v, h, .inl rfl, fun hm => by cases hm⟩
  | cons a r ih =>
    intro fr s v h
    simp only [disAll] at h
    obtain ⟨z, hz, hv, hd⟩ := ih _ s v h
    by_cases e : s = a
    · subst e
      have hlt : s < fr.length := by
        rcases Nat.lt_or_ge s fr.length with h' | h'
        · exact h'
        · rw [List.getElem?_eq_none (by simpa using h')] at hz; cases hz
      rw [List.getElem?_set_self hlt] at hz
      have hg : fr[s]? = some (fr.getD s .u) := by simp [List.getD, List.getElem?_eq_getElem hlt]
      cases hz
      refine ⟨_, hg, ?_, fun _ => ?_⟩
      · rcases hv with rfl | rfl
        · exact .inr rfl
        · exact .inr (V.dis_dis _)
      · rcases hv with rfl | rfl
        · exact (V.dis_dis _).symm
        · rw [V.dis_dis, V.dis_dis]
    · rw [List.getElem?_set_ne (fun e' => e e'.symm)] at hz
      exact ⟨z, hz, hv, fun hm => hd (by cases hm with | head => exact absurd rfl e | tail _ h' => exact h')⟩
theorem disAll_b_iff (ds : List Nat) : ∀ (fr : List V) (s : Nat) c, fr.getD s .u = .b c ↔ (disAll fr ds).getD s .u = .b c := by
  induction ds with
  | nil => intro fr s c; exact Iff.rfl
  | cons a r ih => intro fr s c; exact (setDis_b_iff (d := a) (s := s) c).trans (ih _ s c)
theorem disAll_u (ds : List Nat) : ∀ (fr : List V) (s : Nat), fr.getD s .u = .u → (disAll fr ds).getD s .u = .u := by
  induction ds with
  | nil => intro fr s h; exact h
  | cons a r ih =>
    intro fr s h
    refine ih _ s ?_
    rw [getD_set]
    split
    · rename_i e; rw [← e.1, h]; rfl
    · exact h
theorem SlotR.goes {G : List (Nat × Path)} {fr fr' : List V} {H H' : HM} {μ μ' : MU} {w w' : World} {ch : List Nat} {s : Nat} {v v' : V} {x : Value}
    (k : Goes H H' w w' ch) (hμ : μ.le μ') (h : SlotR G fr H μ w s v x) (hv : v' = v ∨ v' = v.dis)
    (hpc : ∀ q, look s G = some q → v ≠ .u → ready fr q = true → ready fr' q = ready fr q ∧ pcOf fr' q = pcOf fr q)
    (hn : ∀ b, blkOf v' x = some b → b ∉ ch) : SlotR G fr' H' μ' w' s v' x := by
  have go : Val H μ w v x → Val H' μ' w' v' x := by
    intro hx
    rcases hv with rfl | rfl
    · exact hx.goes k hμ hn
    · exact (hx.dis).goes k hμ hn
  unfold SlotR at h ⊢
  cases hl : look s G with
  | none => simp only [hl] at h ⊢; exact go h
  | some q =>
    simp only [hl] at h ⊢
    by_cases hu : v = .u
    · left; rcases hv with rfl | rfl
      · exact hu
      · rw [hu]; rfl
    · rcases h with h | ⟨hr, ht, hf⟩
      · exact absurd h hu
      · obtain ⟨e1, e2⟩ := hpc q hl hu hr
        exact .inr ⟨by rw [e1]; exact hr, fun e => go (ht (by rw [← e2]; exact e)), fun e => hf (by rw [← e2]; exact e)⟩
theorem put_none (fr : List V) (v : V) : put fr none v = fr := rfl
theorem put_some (fr : List V) (d : Nat) (v : V) : put fr (some d) v = fr.set d v := rfl
def putT (tmps : Array Value) (d : Option Nat) (x : Value) : Array Value := match d with | some d => tmps.setIfInBounds d x | none => tmps
theorem Act.put_tmps (a : Act) (d : Option Nat) (x : Value) : a.put d x = ⟨putT a.tmps d x, a.defers⟩ := by cases d <;> rfl
theorem Inv.step {g : Gh} {G : List (Nat × Path)} {H H' : HM} {μ : MU} {fr : List V} {O : List Ob} {tmps : Array Value} {w w' : World} {ch : List Nat}
    (h : Inv g G H μ fr O tmps w) (k : Goes H H' w w' ch) (agree' : ∀ b o v, H' b o = some v → w'.cell? ⟨b, o, none⟩ = some v)
    (d : Option Nat) (ds : List Nat) (v : V) (x : Value)
    (hch : ∀ b ∈ ch, ∃ s ∈ ds, owns fr O μ tmps w (.slot s) b)
    (hslot : ∀ d', d = some d' → d' < fr.length → SlotR G (put (disAll fr ds) d v) H' μ w' d' v x)
    (hown : ∀ b, blkOf v x = some b → (w.heap.size ≤ b ∧ b < w'.heap.size) ∨ ∃ s ∈ ds, owns fr O μ tmps w (.slot s) b)
    (hS : ∀ d' s q, d = some d' → look s G = some q → d' ∈ slotsOf q → fr.getD d' .u = .u) :
    Inv g G H' μ (put (disAll fr ds) d v) O (putT tmps d x) w' := by
  have hlen : (put (disAll fr ds) d v).length = fr.length := by cases d <;> simp [put, len_disAll]
  have hbiff : ∀ s, d ≠ some s → ∀ c, fr.getD s .u = .b c ↔ (put (disAll fr ds) d v).getD s .u = .b c := by
    intro s hs c
    cases d with
    | none => exact disAll_b_iff ds fr s c
    | some d' => exact (disAll_b_iff ds fr s c).trans (set_b_iff (fun e => hs (by rw [e])) c)
  have old : ∀ (s : Nat) v' x', (put (disAll fr ds) d v)[s]? = some v' → (putT tmps d x)[s]? = some x' → d ≠ some s → ∃ v0, fr[s]? = some v0 ∧ tmps[s]? = some x' ∧ (v' = v0 ∨ v' = v0.dis) ∧ (s ∈ ds → v' = v'.dis) := by
    intro s v' x' h1 h2 hs
    have h1' : (disAll fr ds)[s]? = some v' := by
      cases d with
      | none => exact h1
      | some d' => rw [put_some, List.getElem?_set_ne (fun e => hs (by rw [e]))] at h1; exact h1
    have h2' : tmps[s]? = some x' := by
      cases d with
      | none => exact h2
      | some d' =>
        simp only [putT] at h2
        rw [Array.getElem?_setIfInBounds_ne (fun e => hs (by rw [e]))] at h2; exact h2
    obtain ⟨u0, hu, hv, hd⟩ := get_disAll ds fr s v' h1'
    exact ⟨u0, hu, h2', hv, hd⟩
  have new : ∀ v' x' d', d = some d' → (put (disAll fr ds) d v)[d']? = some v' → (putT tmps d x)[d']? = some x' → v' = v ∧ x' = x ∧ d' < fr.length := by
    intro v' x' d' hd h1 h2
    subst hd
    have hlt : d' < fr.length := by
      rcases Nat.lt_or_ge d' fr.length with h' | h'
      · exact h'
      · rw [List.getElem?_eq_none (by rw [hlen]; exact h')] at h1; cases h1
    rw [put_some, List.getElem?_set_self (by rw [len_disAll]; exact hlt)] at h1
    simp only [putT] at h2
    rw [Array.getElem?_setIfInBounds_self_of_lt (by rw [← h.len]; exact hlt)] at h2
    cases h1; cases h2; exact ⟨rfl, rfl, hlt⟩
  have notch : ∀ p b, owns fr O μ tmps w p b → (∀ s ∈ ds, p ≠ .slot s) → b ∉ ch := by
    intro p b hp hs hm
    obtain ⟨s, hs', ho⟩ := hch b hm
    exact hs s hs' (h.uniq p _ b hp ho)
  have cellch : ∀ (n : Nat) e, μ[n]? = some e → e.blk ∉ ch := fun n e he =>
    notch (.obj n) e.blk (.inl ⟨n, e, rfl, he, rfl⟩) (fun s _ e' => by cases e')
  have objlt : ∀ (n : Nat) e, μ[n]? = some e → e.blk < w.heap.size := fun n e he => (h.rng (.obj n) e.blk (.inl ⟨n, e, rfl, he, rfl⟩)).2
  have ownOld : ∀ p b, owns (put (disAll fr ds) d v) O μ (putT tmps d x) w' p b → (∀ d', d = some d' → p ≠ .slot d') → owns fr O μ tmps w p b ∧ ∀ s ∈ ds, p ≠ .slot s := by
    intro p b hp hd
    rcases hp with ⟨n, e, rfl, he, rfl⟩ | ⟨v', x', hp, hb⟩
    · exact ⟨.inl ⟨n, e, rfl, he, rfl⟩, fun s _ e' => by cases e'⟩
    · cases p with
      | obj n => cases hp
      | slot s =>
        obtain ⟨v0, h1, h2, h3, h4⟩ := old s v' x' hp.1 hp.2 (fun e => hd s e rfl)
        rcases h3 with rfl | rfl
        · refine ⟨.inr ⟨v', x', ⟨h1, h2⟩, hb⟩, fun s' hs' e => ?_⟩
          injection e with e; subst e
          rw [h4 hs', blkOf_dis] at hb; cases hb
        · rw [blkOf_dis] at hb; cases hb
      | cell n j =>
        obtain ⟨e, cs, h1, h2, h3, h4⟩ := hp
        rw [k.cell j (objlt n e h1) (cellch n e h1)] at h4
        exact ⟨.inr ⟨v', x', ⟨e, cs, h1, h2, h3, h4⟩, hb⟩, fun s _ e' => by cases e'⟩
  have ownNew : ∀ d' b, d = some d' → owns (put (disAll fr ds) d v) O μ (putT tmps d x) w' (.slot d') b → blkOf v x = some b := by
    intro d' b hd hp
    rcases hp with ⟨n, e, h1, _⟩ | ⟨v', x', hp, hb⟩
    · cases h1
    · obtain ⟨e1, e2, _⟩ := new v' x' d' hd hp.1 hp.2
      subst e1; subst e2; exact hb
  have slots' : ∀ (s : Nat) v' x', (put (disAll fr ds) d v)[s]? = some v' → (putT tmps d x)[s]? = some x' → SlotR G (put (disAll fr ds) d v) H' μ w' s v' x' := by
    intro s v' x' h1 h2
    by_cases hd : d = some s
    · obtain ⟨e1, e2, hlt⟩ := new v' x' s hd h1 h2
      subst e1; subst e2
      exact hslot s hd hlt
    · obtain ⟨v0, h3, h4, h5, h6⟩ := old s v' x' h1 h2 hd
      refine SlotR.goes k (MU.le.refl μ) (h.slots s v0 x' h3 h4) h5 (fun q hq hu hr => ?_) (fun b hb => ?_)
      · have hh : ∀ t ∈ slotsOf q, ∀ c, fr.getD t .u = .b c ↔ (put (disAll fr ds) d v).getD t .u = .b c := by
          intro t ht
          refine hbiff t fun e => ?_
          obtain ⟨c, hc⟩ := ready_b hr ht
          rw [hS t s q e hq ht] at hc; cases hc
        exact ⟨(ready_congr hh).symm, (pcOf_congr hh).symm⟩
      · have ho : owns (put (disAll fr ds) d v) O μ (putT tmps d x) w' (.slot s) b := .inr ⟨v', x', ⟨h1, h2⟩, hb⟩
        obtain ⟨ho', hs'⟩ := ownOld (.slot s) b ho (fun d' e e' => by injection e' with e'; exact hd (by rw [e, e']))
        exact notch _ b ho' hs'
  have obs' : ∀ (n : Nat) o e, O[n]? = some o → μ[n]? = some e → ObR H' μ w' e o := by
    intro n o e ho he
    refine (h.obs n o e ho he).goes k (MU.le.refl μ) (cellch n e he) fun cs hcs j v' x' b hj hc hb => ?_
    subst hcs
    exact notch (.cell n j) b (.inr ⟨v', x', ⟨e, cs, he, ho, hj, hc⟩, hb⟩) (fun s _ e' => by cases e')
  have hob' : ∀ (n : Nat) e, μ[n]? = some e → ∀ o, H' e.blk o = none := fun n e he o => by
    rw [k.hsame e.blk o (objlt n e he) (cellch n e he)]; exact h.hob n e he o
  have hch' : ∀ b ∈ ch, g.B ≤ b ∨ b ∈ g.fp := fun b hb => by
    obtain ⟨s, _, ho⟩ := hch b hb; exact (h.rng _ b ho).1
  have len' : (put (disAll fr ds) d v).length = (putT tmps d x).size := by
    rw [hlen, h.len]; cases d <;> simp [putT]
  cases hd : d with
  | none =>
    subst hd
    refine h.next k (MU.le.refl μ) len' slots' h.olen obs' hob' agree' hch' some (fun p b hp => .inl ⟨p, rfl, (ownOld p b hp (fun d' e => by cases e)).1⟩) (fun p p' q b b' _ _ e e' => ?_) (fun p p' b b' _ _ e => by cases e)
    cases e; cases e'; rfl
  | some d' =>
    subst hd
    cases hb : blkOf v x with
    | none =>
      refine h.next k (MU.le.refl μ) len' slots' h.olen obs' hob' agree' hch' some (fun p b hp => .inl ⟨p, rfl, (ownOld p b hp (fun d'' e e' => ?_)).1⟩) (fun p p' q b b' _ _ e e' => ?_) (fun p p' b b' _ _ e => by cases e)
      · subst e'; cases e
        have := ownNew d' b rfl hp; rw [hb] at this; cases this
      · cases e; cases e'; rfl
    | some b0 =>
      rcases hown b0 hb with hfresh | ⟨s0, hs0, hos⟩
      · refine h.next k (MU.le.refl μ) len' slots' h.olen obs' hob' agree' hch' (fun p => if p = .slot d' then none else some p) (fun p b hp => ?_) (fun p p' q b b' _ _ e e' => ?_) (fun p p' b b' _ _ e e' => ?_)
        · by_cases e : p = .slot d'
          · subst e
            have e2 := ownNew d' b rfl hp
            rw [hb] at e2; cases e2
            exact .inr ⟨by simp, hfresh⟩
          · exact .inl ⟨p, by simp [e], (ownOld p b hp (fun d'' e' e'' => by cases e'; exact e e'')).1⟩
        · split at e
          · cases e
          · split at e'
            · cases e'
            · cases e; cases e'; rfl
        · split at e
          · split at e'
            · rename_i a c; rw [a, c]
            · cases e'
          · cases e
      · refine h.next k (MU.le.refl μ) len' slots' h.olen obs' hob' agree' hch' (fun p => if p = .slot d' then some (.slot s0) else some p) (fun p b hp => ?_) (fun p p' q b b' hp hp' e e' => ?_) (fun p p' b b' _ _ e => ?_)
        · by_cases e : p = .slot d'
          · subst e
            have e2 := ownNew d' b rfl hp
            rw [hb] at e2; cases e2
            exact .inl ⟨.slot s0, by simp, hos⟩
          · exact .inl ⟨p, by simp [e], (ownOld p b hp (fun d'' e' e'' => by cases e'; exact e e'')).1⟩
        · by_cases c : p = .slot d' <;> by_cases c' : p' = .slot d'
          · rw [c, c']
          · simp only [c, c', if_true, if_false] at e e'
            cases e; cases e'
            exact absurd rfl ((ownOld _ b' hp' (fun d'' e1 e2 => by cases e1; exact c' e2)).2 s0 hs0)
          · simp only [c, c', if_true, if_false] at e e'
            cases e; cases e'
            exact absurd rfl ((ownOld _ b hp (fun d'' e1 e2 => by cases e1; exact c e2)).2 s0 hs0)
          · simp only [c, c', if_false] at e e'
            cases e; cases e'; rfl
        · split at e <;> cases e
end Go.Ev
namespace Go.Ev
open Go
def tkOf : TypeDesc → TK
  | .bool => .bool
  | .int k => .int k
  | .string => .str
  | .pointer e => .ptr e
  | .slice e => .slice e
  | .array n e => .array n e
  | .struct fs => .struct (fs.toList.map fun f => (f.offset, f.type))
  | .interface _ => .iface
  | .func _ _ _ => .func
  | .map k e => .map k e
  | _ => .other
def ZR (v : V) (y : Value) : Prop := ∀ H μ w, Val H μ w v y
def ZRs (vs : List V) (ys : Array Value) : Prop := ys.size = vs.length ∧ ∀ (j : Nat) v y, vs[j]? = some v → ys[j]? = some y → ZR v y
structure TabOK (P : Program) (cx : Cx) : Prop where
  ti : ∀ t, (cx.ti t).ok = true → (P.underlying t).map tkOf = some (cx.ti t).k ∧ ∃ i, P.info? t = some i ∧ i.size = (cx.ti t).sz ∧ i.bytes = (cx.ti t).bytes
  ty : ∀ t c, cx.ty t = some c → (cx.ti t).ok = true ∧ (cx.ti t).agg = c.isAgg ∧ ∃ i z, P.info? t = some i ∧ i.size = c.sz ∧ i.zero = some z ∧ ZRs (enc c (dflt c)).cells z.cells
  zero : ∀ t, (cx.ti t).ok = true → ∃ i z, P.info? t = some i ∧ i.zero = some z ∧ ZRs (zeroV cx 8 t) z.cells
  zsz : ∀ t i z, (cx.ti t).ok = true → P.info? t = some i → i.zero = some z → z.cells.size = i.size
  byt : ∀ t, (cx.ti t).ok = true → (cx.ti t).sz ≤ (cx.ti t).bytes
  flat : ∀ t, flatK cx t = true → P.stoodInHeld t = false ∧ P.eqGuardType P.depth t = false ∧ ∀ fs, P.underlying t = some (.struct fs) → ∀ f ∈ fs.toList, (f.name == "_") = false ∧ (cx.ti f.type).ok = true
  fld : ∀ t fs, P.underlying t = some (.struct fs) → (cx.ti t).ok = true → ∀ f ∈ fs.toList, ∃ i, P.info? f.type = some i ∧ i.size ≠ 0
section
variable {P : Program} {cx : Cx} (T0 : TabOK P cx)
include T0
theorem TabOK.und {t : Nat} (h : (cx.ti t).ok = true) : ∃ d, P.underlying t = some d ∧ tkOf d = (cx.ti t).k := by
  have := (T0.ti t h).1
  cases hd : P.underlying t with
  | none => rw [hd] at this; cases this
  | some d => rw [hd] at this; exact ⟨d, rfl, by simpa using this⟩
theorem TabOK.run_isAgg {t : Nat} (h : (cx.ti t).ok = true) (w : World) : (isAgg t).run P w = .ok (cx.ti t).agg w := by
  obtain ⟨d, hd, hk⟩ := T0.und h
  unfold isAgg
  simp only [Sem.run_bind, run_underlying hd, Result.andThen_ok, TI.agg, ← hk]
  cases d <;> simp [tkOf]
theorem TabOK.run_sizeOf {t : Nat} (h : (cx.ti t).ok = true) (w : World) : (sizeOf t).run P w = .ok (cx.ti t).sz w := by
  obtain ⟨_, i, hi, hs, _⟩ := T0.ti t h
  simp [sizeOf, typeInfo, hi, hs]
theorem TabOK.ty_sz {t : Nat} {c : Ty} (h : cx.ty t = some c) : (cx.ti t).sz = c.sz := by
  obtain ⟨ho, _, i, z, hi, hs, _⟩ := T0.ty t c h
  obtain ⟨_, i', hi', hs', _⟩ := T0.ti t ho
  rw [hi] at hi'; cases hi'; rw [← hs', hs]
end
theorem TI.ok_of {x : TI} {k : TK} (h : x.k = k) (hk : k ≠ .other) : x.ok = true := by
  unfold TI.ok
  rw [h]
  cases k <;> first | rfl | exact absurd rfl hk
theorem tk_slice {d : TypeDesc} {e : Nat} (h : tkOf d = .slice e) : d = .slice e := by cases d <;> simp [tkOf] at h; rw [h]
theorem tk_array {d : TypeDesc} {n e : Nat} (h : tkOf d = .array n e) : d = .array n e := by cases d <;> simp [tkOf] at h; rw [h.1, h.2]
theorem tk_struct {d : TypeDesc} {l : List (Nat × Nat)} (h : tkOf d = .struct l) : ∃ fs, d = .struct fs ∧ fs.toList.map (fun f => (f.offset, f.type)) = l := by
  cases d <;> simp [tkOf] at h; exact ⟨_, rfl, by simpa using h⟩
theorem tk_int {d : TypeDesc} {k : IntKind} (h : tkOf d = .int k) : d = .int k := by cases d <;> simp [tkOf] at h; rw [h]
theorem tk_str {d : TypeDesc} (h : tkOf d = .str) : d = .string := by cases d <;> simp [tkOf] at h; rfl
theorem tk_bool {d : TypeDesc} (h : tkOf d = .bool) : d = .bool := by cases d <;> simp [tkOf] at h; rfl
def Mem (H : HM) (μ : MU) (w : World) (b o : Nat) (cs : List V) : Prop := ∀ (j : Nat) v, cs[j]? = some v → ∃ y, w.cell? ⟨b, o + j, none⟩ = some y ∧ VR H μ v y
theorem Mem.drop {H : HM} {μ : MU} {w : World} {b o : Nat} {cs : List V} (h : Mem H μ w b o cs) (n : Nat) : Mem H μ w b (o + n) (cs.drop n) := by
  intro j v hv
  rw [List.getElem?_drop] at hv
  obtain ⟨y, hy, hr⟩ := h (n + j) v hv
  exact ⟨y, by rw [Nat.add_assoc]; exact hy, hr⟩
theorem Mem.take {H : HM} {μ : MU} {w : World} {b o : Nat} {cs : List V} (h : Mem H μ w b o cs) (n : Nat) : Mem H μ w b o (cs.take n) := by
  intro j v hv
  rw [List.getElem?_take] at hv
  split at hv
  · exact h j v hv
  · cases hv
theorem addr_add {b o n : Nat} : Addr.add ⟨b, o, none⟩ n = ⟨b, o + n, none⟩ := by
  unfold Addr.add
  split
  · subst_vars; rfl
  · rfl
theorem addr_add' {a : Addr} (h : a.spot = none) (n : Nat) : a.add n = ⟨a.block, a.off + n, none⟩ := by
  obtain ⟨b, o, s⟩ := a
  simp only at h; subst h; exact addr_add
theorem addr_eta {a : Addr} (h : a.spot = none) : a = ⟨a.block, a.off, none⟩ := by
  obtain ⟨b, o, s⟩ := a
  simp only at h; subst h; rfl
theorem run_loadRow {P : Program} {H : HM} {μ : MU} {w : World} {b o : Nat} {cs : List V} (h : Mem H μ w b o cs) :
    ∃ ys : Array Value, (loadCells ⟨b, o, none⟩ cs.length).run P w = .ok ys w ∧ ys.size = cs.length ∧ ∀ (j : Nat) v y, cs[j]? = some v → ys[j]? = some y → VR H μ v y := by
  have hf : ∃ f : Nat → Value, ∀ j v, cs[j]? = some v → w.cell? ⟨b, o + j, none⟩ = some (f j) ∧ VR H μ v (f j) := by
    refine ⟨fun j => (w.cell? ⟨b, o + j, none⟩).getD undef, fun j v hv => ?_⟩
    obtain ⟨y, hy, hr⟩ := h j v hv
    dsimp only
    rw [hy]; exact ⟨rfl, hr⟩
  obtain ⟨f, hf⟩ := hf
  refine ⟨_, run_loadCells (P := P) w ⟨b, o, none⟩ cs.length f (fun j hj => ?_), by simp, fun j v y hv hy => ?_⟩
  · rw [addr_add]; exact (hf j _ (List.getElem?_eq_getElem hj)).1
  · have hj : j < cs.length := by
      rcases Nat.lt_or_ge j cs.length with h' | h'
      · exact h'
      · rw [List.getElem?_eq_none h'] at hv; cases hv
    simp [hj] at hy
    rw [← hy]; exact (hf j v hv).2
theorem run_loadT {P : Program} {cx : Cx} (T0 : TabOK P cx) {H : HM} {μ : MU} {w : World} {b o t off : Nat} {cs : List V} {v : V} (h : Mem H μ w b o cs)
    (ht : takeT (cx.ti t) cs off = some v) : ∃ y, (loadVar t ⟨b, o + off, none⟩).run P w = .ok y w ∧ VR H μ v y ∧ v.dis = v := by
  unfold takeT at ht
  split at ht
  · cases ht
  · rename_i hok
    unfold loadVar
    simp only [Sem.run_bind, T0.run_isAgg hok, Result.andThen_ok]
    cases ha : (cx.ti t).agg with
    | true =>
      simp only [ha, if_true] at ht ⊢
      split at ht
      · rename_i hl
        cases ht
        have hm := (h.drop off).take (cx.ti t).sz
        obtain ⟨ys, hy, hsz, hr⟩ := run_loadRow (P := P) hm
        have hlen : ((cs.drop off).take (cx.ti t).sz).length = (cx.ti t).sz := by simp; omega
        rw [hlen] at hy hsz
        refine ⟨.agg ys, ?_, ?_, rfl⟩
        · simp [T0.run_sizeOf hok, hy]
        · refine .agg _ ys (by simp only [List.length_map]; rw [hlen, hsz]) fun j v1 y hu hy' => ?_
          rw [List.getElem?_map] at hu
          cases hc : ((cs.drop off).take (cx.ti t).sz)[j]? with
          | none => rw [hc] at hu; cases hu
          | some c => rw [hc] at hu; cases hu; exact (hr j c y hc hy').dis
      · cases ht
    | false =>
      simp only [ha] at ht ⊢
      cases hc : cs[off]? with
      | none => rw [hc] at ht; cases ht
      | some c =>
        rw [hc] at ht; cases ht
        obtain ⟨y, hy, hr⟩ := h off c hc
        exact ⟨y, by simp [hy], hr.dis, V.dis_dis c⟩
end Go.Ev
namespace Go.Ev
open Go
def GlOK (gl : Nat → Option (List V)) (H : HM) : Prop := ∀ g cs, gl g = some cs → ∀ (j : Nat) v, cs[j]? = some v → ∃ y, H g j = some y ∧ ∀ H' μ, VR H' μ v y
theorem GlOK.le {gl : Nat → Option (List V)} {H H' : HM} (h : GlOK gl H) (hh : H.le H') : GlOK gl H' := fun g cs hg j v hv => by
  obtain ⟨y, hy, hr⟩ := h g cs hg j v hv
  exact ⟨y, hh _ _ _ hy, hr⟩
theorem look_getD {G : List (Nat × Path)} {s : Nat} {q : Path} (h : look s G = some q) : (look s G).getD [] = q := by rw [h]; rfl
theorem prefix_pc {fr : List V} : ∀ (q p : Path), prefixOf q p = true → pcOf fr p = true → pcOf fr q = true
  | [], _, _, _ => rfl
  | (s, w) :: q, [], h, _ => by simp [prefixOf] at h
  | (s, w) :: q, (t, z) :: p, h, hp => by
    simp only [prefixOf, Bool.and_eq_true] at h
    obtain ⟨⟨h1, h2⟩, h3⟩ := h
    have e1 := Nat.eq_of_beq_eq_true h1
    have e2 : w = z := by simpa using h2
    subst e1; subst e2
    rw [pcOf_cons, Bool.and_eq_true] at hp ⊢
    exact ⟨hp.1, prefix_pc q p h3 hp.2⟩
theorem constV_dis (v : Value) : (constV v).dis = constV v := by
  unfold constV; split <;> rfl
theorem constV_vr (H : HM) (μ : MU) (v : Value) : VR H μ (constV v) v := by
  unfold constV
  split <;> constructor
section
variable {P : Program} {cx : Cx} {g : Gh} {G : List (Nat × Path)} {H : HM} {μ : MU} {fr : List V} {O : List Ob} {a : Act} {w : World}
theorem ov_val (h : Inv g G H μ fr O a.tmps w) (hgl : GlOK cx.gl H) {p : Path} (hp : pcOf fr p = true) {x : Operand} (hr : readable G p x = true) : Val H μ w (ov cx fr x) (a.eval x) := by
  cases x with
  | tmp t =>
    simp only [ov, Act.eval]
    by_cases hlt : t < fr.length
    · have h1 : fr[t]? = some (fr.getD t .u) := by simp [List.getD, List.getElem?_eq_getElem hlt]
      have hlt' : t < a.tmps.size := by rw [← h.len]; exact hlt
      have h2 : a.tmps[t]? = some (a.tmps.getD t undef) := by simp [Array.getD, hlt']
      have hs := h.slots t _ _ h1 h2
      unfold SlotR at hs
      cases hl : look t G with
      | none => simp only [hl] at hs; exact hs
      | some q =>
        simp only [hl] at hs
        rcases hs with hs | ⟨_, hs, _⟩
        · rw [hs]; exact .of_dis (.u _) rfl
        · refine hs (prefix_pc q p ?_ hp)
          simp only [readable, hl] at hr; exact hr
    · have h1 : fr.getD t .u = .u := by simp [List.getD, List.getElem?_eq_none (Nat.le_of_not_lt hlt)]
      rw [h1]; exact .of_dis (.u _) rfl
  | const v => exact .of_dis (constV_vr H μ v) (constV_dis v)
  | global n =>
    simp only [ov, Act.eval]
    cases hg : cx.gl n with
    | none => exact .of_dis (.u _) rfl
    | some cs =>
      have hf : ∃ f : Nat → Value, ∀ (j : Nat) v, cs[j]? = some v → H n j = some (f j) ∧ VR H μ v (f j) := by
        refine ⟨fun j => (H n j).getD undef, fun j v hv => ?_⟩
        obtain ⟨y, hy, hr'⟩ := hgl n cs hg j v hv
        dsimp only
        rw [hy]; exact ⟨rfl, hr' H μ⟩
      obtain ⟨f, hf⟩ := hf
      exact .of_dis (.rp cs ⟨n, 0, none⟩ f rfl (fun j v hv => by simpa using (hf j v hv).1) (fun j v hv => (hf j v hv).2)) rfl
  | func f => exact .of_dis (.fn f [] #[] rfl (fun j v x hv => by simp at hv)) rfl
theorem nrm_val {v : V} {x : Value} (t : Nat) (h : Val H μ w v x) : Val H μ w (nrm cx t v) x := by
  unfold nrm
  split
  · split
    · split
      · obtain ⟨h1, _⟩ := h
        cases h1
        exact ⟨.sl0 _ true none 0, fun t xs e => .inl ⟨rfl, by cases e; rfl⟩⟩
      · exact h
    · exact h
  · exact h
def PureRes (P : Program) (H : HM) (μ : MU) (w : World) (r : Sem Next) (v : V) : Prop :=
  ∃ x w' H', r.run P w = .ok (.value x) w' ∧ Goes H H' w w' [] ∧ (∀ b o v, H' b o = some v → w'.cell? ⟨b, o, none⟩ = some v) ∧ VR H' μ v x ∧ OwnOK H' w' v x ∧
    ∀ b, blkOf v x = some b → w.heap.size ≤ b ∧ b < w'.heap.size
theorem PureRes.same (ha : ∀ b o v, H b o = some v → w.cell? ⟨b, o, none⟩ = some v) {r : Sem Next} {v : V} {x : Value} (hr : r.run P w = .ok (.value x) w) (hv : VR H μ v x) (hd : v.dis = v) : PureRes P H μ w r v :=
  ⟨x, w, H, hr, Goes.refl H w, ha, hv, OwnOK.of_dis hd, fun b hb => by rw [blkOf_of_dis hd] at hb; cases hb⟩
theorem run_v {s : Sem Value} {x : Value} {w' : World} (h : s.run P w = .ok x w') : (do pure (.value (← s)) : Sem Next).run P w = .ok (.value x) w' := by
  simp [h]
theorem Inv.box (h : Inv g G H μ fr O a.tmps w) {n : Nat} {cs : List V} {e : MO} (ho : O[n]? = some (.box cs)) (he : μ[n]? = some e) : Mem H μ w e.blk 0 cs := by
  obtain ⟨cur, el, hh, hs, hr⟩ := h.obs n _ e ho he
  intro j v hv
  have hj : j < cs.length := by
    rcases Nat.lt_or_ge j cs.length with h' | h'
    · exact h'
    · rw [List.getElem?_eq_none h'] at hv; cases hv
  have hj' : j < cur.size := by omega
  refine ⟨cur[j], ?_, (hr j v _ hv (Array.getElem?_eq_getElem hj')).1⟩
  rw [Nat.zero_add, cell_of_heap hh]
  exact Array.getElem?_eq_getElem hj'
theorem Inv.arr (h : Inv g G H μ fr O a.tmps w) {n : Nat} {t : Ty} {xs : List (T t)} {e : MO} (ho : O[n]? = some (.arr t xs)) (he : μ[n]? = some e) {i : Nat} {x : T t} (hx : xs[i]? = some x) :
    Mem H μ w e.blk (i * t.sz) (enc t x).cells := by
  obtain ⟨cur, el, hh, h1, h2, h3, h4⟩ := h.obs n _ e ho he
  intro j v hv
  have hj : j < t.sz := by
    rw [← enc_len t x]
    rcases Nat.lt_or_ge j (enc t x).cells.length with h' | h'
    · exact h'
    · rw [List.getElem?_eq_none h'] at hv; cases hv
  have hi : i < xs.length := by
    rcases Nat.lt_or_ge i xs.length with h' | h'
    · exact h'
    · rw [List.getElem?_eq_none h'] at hx; cases hx
  have hlt : i * t.sz + j < cur.size := by
    rw [h3]
    calc i * t.sz + j < i * t.sz + t.sz := by omega
      _ = (i + 1) * t.sz := by rw [Nat.add_mul, Nat.one_mul]
      _ ≤ xs.length * t.sz := Nat.mul_le_mul_right _ hi
  refine ⟨cur[i * t.sz + j], ?_, h4 i x j v _ hx hv (Array.getElem?_eq_getElem hlt)⟩
  rw [cell_of_heap hh]
  exact Array.getElem?_eq_getElem hlt
theorem xget_of {t : Ty} {xs : List (T t)} {i : Nat} (h : i < xs.length) : xs[i]? = some (xget xs i) := by
  simp [xget, List.getD, List.getElem?_eq_getElem h]
theorem rp_mem (ha : ∀ b o v, H b o = some v → w.cell? ⟨b, o, none⟩ = some v) {cs : List V} {x : Value} (h : VR H μ (.rp cs) x) : ∃ b o, x = .pointer (some ⟨b, o, none⟩) ∧ Mem H μ w b o cs := by
  cases h with
  | rp _ ad f hs h1 h2 => exact ⟨ad.block, ad.off, by rw [← addr_eta hs], fun j v hv => ⟨f j, ha _ _ _ (h1 j v hv), h2 j v hv⟩⟩
theorem load_sound (T0 : TabOK P cx) (h : Inv g G H μ fr O a.tmps w) {t : Nat} {p v : V} {x : Value} (hp : VR H μ p x) (hl : loadV cx t O p = some v) :
    ∃ y, (Instr.loadAt t x).run P w = .ok y w ∧ VR H μ v y ∧ v.dis = v := by
  unfold loadV at hl
  split at hl
  · rename_i cs
    obtain ⟨b, o, rfl, hm⟩ := rp_mem h.agree hp
    obtain ⟨y, hy, hr⟩ := run_loadT T0 hm hl
    exact ⟨y, by simpa [Instr.loadAt, Instr.sureAddr] using hy, hr⟩
  · rename_i n off
    cases hp with
    | ptr _ _ e he =>
      split at hl
      · rename_i cs ho
        obtain ⟨y, hy, hr⟩ := run_loadT T0 (h.box ho he) hl
        exact ⟨y, by simpa [Instr.loadAt, Instr.sureAddr] using hy, hr⟩
      · cases hl
  · rename_i n j off
    cases hp with
    | ept _ _ _ e he hj =>
      split at hl
      · rename_i t' xs ho
        obtain ⟨cur, el, hh, h1, h2, _⟩ := h.obs n _ e ho he
        have hx := xget_of (xs := xs) (i := j) (by rw [← h2]; exact hj)
        obtain ⟨y, hy, hr⟩ := run_loadT T0 (h.arr ho he hx) hl
        refine ⟨y, ?_, hr⟩
        rw [h1]
        simpa [Instr.loadAt, Instr.sureAddr] using hy
      · cases hl
  · cases hl
end
end Go.Ev
namespace Go.Ev
open Go
section
variable {P : Program} {cx : Cx} {g : Gh} {G : List (Nat × Path)} {H : HM} {μ : MU} {fr : List V} {O : List Ob} {a : Act} {w : World} {o : Oper} {p : Path}
theorem move_sound (h : Inv g G H μ fr O a.tmps w) (hgl : GlOK cx.gl H) (hp : pcOf fr p = true) {x : Operand} (ho : o.op = .move x) (hr : readable G p x = true) {t : Nat} :
    PureRes P H μ w (execOp a.eval o) (nrm cx t (ov cx fr x)).dis := by
  have hv := nrm_val (cx := cx) t (ov_val h hgl hp hr)
  exact PureRes.same h.agree (x := a.eval x) (by simp [execOp, ho]) hv.1.dis (V.dis_dis _)
theorem merge_vr {c : Bool} {x y v : V} {z : Value} (hm : mergeV c x y = some v) (hx : c = true → VR H μ x z) (hy : c = false → VR H μ y z) : VR H μ v z ∧ v.dis = v := by
  unfold mergeV at hm
  split at hm
  · cases hm
    refine ⟨?_, rfl⟩
    cases c
    · exact hy rfl
    · exact hx rfl
  · split at hm
    · rename_i k x k' y hk
      cases hm
      refine ⟨?_, rfl⟩
      cases c
      · have := hy rfl
        have hkk : k = k' := by cases k <;> cases k' <;> first | rfl | simp [kEq] at hk
        subst hkk; exact this
      · exact hx rfl
    · cases hm
  · cases hm
    refine ⟨?_, rfl⟩
    cases c
    · exact hy rfl
    · exact hx rfl
  · cases hm
theorem pick_sound (h : Inv g G H μ fr O a.tmps w) (hgl : GlOK cx.gl H) (hp : pcOf fr p = true) {c x y : Operand} (ho : o.op = .pick c x y) {ok : Bool} {v : V}
    (hs : pickOp cx G p fr c x y = .pure ok v) : PureRes P H μ w (execOp a.eval o) v := by
  unfold pickOp at hs
  split at hs
  · rename_i s
    split at hs
    · rename_i hr
      simp only [Bool.and_eq_true] at hr
      obtain ⟨⟨hrc, hrx⟩, hry⟩ := hr
      have hc := (ov_val h hgl hp hrc).1
      split at hs
      · rename_i cb hcb
        rw [hcb] at hc
        have hbool : a.eval (.tmp s) = .bool cb := by
          generalize a.eval (.tmp s) = z at hc
          cases hc; rfl
        unfold ofOpt at hs
        split at hs
        · rename_i v' hm
          cases hs
          have hfr : fr.getD s .u = .b cb := hcb
          have hpc : ∀ w', w' = cb → pcOf fr (p ++ [(s, w')]) = true := by
            intro w' e
            rw [pcOf_append, hp, pcOf_cons]
            simp only [pcOf, Bool.and_true, Bool.true_and]
            rw [e]; exact bAt_iff.2 hfr
          obtain ⟨h1, h2⟩ := merge_vr (H := H) (μ := μ) (z := if cb = true then a.eval x else a.eval y) hm
            (fun e => by subst e; simpa using (ov_val h hgl (hpc true rfl) hrx).1)
            (fun e => by subst e; simpa using (ov_val h hgl (hpc false rfl) hry).1)
          refine PureRes.same h.agree (x := if cb = true then a.eval x else a.eval y) ?_ h1 h2
          simp [execOp, ho, asBool, hbool]
        · cases hs
      · cases hs
    · cases hs
  · cases hs
theorem load_op_sound (T0 : TabOK P cx) (h : Inv g G H μ fr O a.tmps w) (hgl : GlOK cx.gl H) (hp : pcOf fr p = true) {t : Nat} {x : Operand} (ho : o.op = .load t x) (hr : readable G p x = true)
    {ok : Bool} {v : V} (hs : ofOpt (loadV cx t O (ov cx fr x)) = .pure ok v) : PureRes P H μ w (execOp a.eval o) v := by
  unfold ofOpt at hs
  split at hs
  · rename_i v' hl
    cases hs
    obtain ⟨y, hy, hv, hd⟩ := load_sound T0 h (ov_val h hgl hp hr).1 hl
    exact PureRes.same h.agree (x := y) (by simp [execOp, ho, hy]) hv hd
  · cases hs
theorem nilCheck_sound (h : Inv g G H μ fr O a.tmps w) (hgl : GlOK cx.gl H) (hp : pcOf fr p = true) {x : Operand} (ho : o.op = .nilCheck x) (hr : readable G p x = true) {ok : Bool} {v : V}
    (hs : (match ov cx fr x with | .ptr n off => St.pure true (.ptr n off) | .rp cs => .pure true (.rp cs) | .ept n j off => .pure true (.ept n j off) | _ => .no) = .pure ok v) : PureRes P H μ w (execOp a.eval o) v := by
  have hv := (ov_val h hgl hp hr).1
  have key : ∀ ad, a.eval x = .pointer (some ad) → (execOp a.eval o).run P w = .ok (.value (a.eval x)) w := by
    intro ad e
    simp [execOp, ho, e]
  split at hs
  · rename_i n off e
    cases hs
    rw [e] at hv
    have hx : ∃ ad, a.eval x = .pointer (some ad) := by generalize a.eval x = z at hv; cases hv; exact ⟨_, rfl⟩
    exact PureRes.same h.agree (key _ hx.choose_spec) hv rfl
  · rename_i cs e
    cases hs
    rw [e] at hv
    have hx : ∃ ad, a.eval x = .pointer (some ad) := by generalize a.eval x = z at hv; cases hv; exact ⟨_, rfl⟩
    exact PureRes.same h.agree (key _ hx.choose_spec) hv rfl
  · rename_i n j off e
    cases hs
    rw [e] at hv
    have hx : ∃ ad, a.eval x = .pointer (some ad) := by generalize a.eval x = z at hv; cases hv; exact ⟨_, rfl⟩
    exact PureRes.same h.agree (key _ hx.choose_spec) hv rfl
  · cases hs
theorem un_sound (h : Inv g G H μ fr O a.tmps w) (hgl : GlOK cx.gl H) (hp : pcOf fr p = true) {op : UnOp} {t : Nat} {x : Operand} (ho : o.op = .unOp op t x) (hr : readable G p x = true) {ok : Bool} {v : V}
    (hs : un op (ov cx fr x) = .pure ok v) : PureRes P H μ w (execOp a.eval o) v := by
  have hv := (ov_val h hgl hp hr).1
  unfold un at hs
  split at hs
  · rename_i k n e
    cases hs
    rw [e] at hv
    have hx : a.eval x = .int k n := by generalize a.eval x = z at hv; cases hv; rfl
    exact PureRes.same h.agree (x := .int k (k.wrap (0 - n))) (by simp [execOp, ho, hx, Op.unary, Op.intArith]) (.i k _) rfl
  · rename_i k n e
    cases hs
    rw [e] at hv
    have hx : a.eval x = .int k n := by generalize a.eval x = z at hv; cases hv; rfl
    exact PureRes.same h.agree (x := .int k (wxor k (if k.signed then -1 else k.max) n)) (by simp [execOp, ho, hx, Op.unary, Op.intBits, wxor]) (.i k _) rfl
  · rename_i b e
    cases hs
    rw [e] at hv
    have hx : a.eval x = .bool b := by generalize a.eval x = z at hv; cases hv; rfl
    exact PureRes.same h.agree (x := .bool (!b)) (by simp [execOp, ho, hx, Op.unary]) (.b _) rfl
  · cases hs
theorem convert_sound (T0 : TabOK P cx) (h : Inv g G H μ fr O a.tmps w) (hgl : GlOK cx.gl H) (hp : pcOf fr p = true) {s d : Nat} {x : Operand} (ho : o.op = .convert s d x) (hr : readable G p x = true) {ok : Bool} {v : V}
    (hs : (match (cx.ti s).k, (cx.ti d).k, ov cx fr x with
      | .int _, .int k, .i _ n => St.pure true (.i k (wr k n))
      | .str, .str, .s x => .pure true (.s x)
      | _, _, _ => .no) = .pure ok v) : PureRes P H μ w (execOp a.eval o) v := by
  have hv := (ov_val h hgl hp hr).1
  split at hs
  · rename_i k1 k k2 n e1 e2 e3
    cases hs
    obtain ⟨ds, hds, hks⟩ := T0.und (TI.ok_of e1 (by simp))
    obtain ⟨dd, hdd, hkd⟩ := T0.und (TI.ok_of e2 (by simp))
    rw [e1] at hks; rw [e2] at hkd
    rw [tk_int hks] at hds; rw [tk_int hkd] at hdd
    rw [e3] at hv
    have hx : a.eval x = .int k2 n := by generalize a.eval x = z at hv; cases hv; rfl
    exact PureRes.same h.agree (x := .int k (k.wrap n)) (by simp [execOp, ho, hx, convert, run_underlying hds, run_underlying hdd, Conv.intToInt]) (.i k _) rfl
  · rename_i s' e1 e2 e3
    cases hs
    obtain ⟨ds, hds, hks⟩ := T0.und (TI.ok_of e1 (by simp))
    obtain ⟨dd, hdd, hkd⟩ := T0.und (TI.ok_of e2 (by simp))
    rw [e1] at hks; rw [e2] at hkd
    rw [tk_str hks] at hds; rw [tk_str hkd] at hdd
    rw [e3] at hv
    have hx : a.eval x = .string s' := by generalize a.eval x = z at hv; cases hv; rfl
    exact PureRes.same h.agree (x := .string s') (by simp [execOp, ho, hx, convert, run_underlying hds, run_underlying hdd]) (.s _) rfl
  · cases hs
theorem makeFunc_sound (h : Inv g G H μ fr O a.tmps w) (hgl : GlOK cx.gl H) (hp : pcOf fr p = true) {f : Nat} {first caps : Array Operand} (ho : o.op = .makeFunc (.func f) first caps) (hfirst : first.toList = [])
    (hr : ∀ x ∈ caps.toList, readable G p x = true) : PureRes P H μ w (execOp a.eval o) (.fn f (caps.toList.map (ov cx fr))) := by
  have hf : first = #[] := by cases first; simpa using hfirst
  refine PureRes.same h.agree (x := .func (.func f) #[] (caps.map a.eval)) (by simp [execOp, ho, hf, Instr.makeFunc]) (.fn f _ _ (by simp) fun j v x hv hx => ?_) rfl
  rw [List.getElem?_map] at hv
  rw [Array.getElem?_map] at hx
  cases hc : caps[j]? with
  | none => rw [hc] at hx; cases hx
  | some c =>
    rw [hc] at hx
    have hc' : caps.toList[j]? = some c := by simpa using hc
    rw [hc'] at hv
    cases hx; cases hv
    exact (ov_val h hgl hp (hr c (List.mem_of_getElem? hc'))).1
theorem extract_sound (h : Inv g G H μ fr O a.tmps w) (hgl : GlOK cx.gl H) (hp : pcOf fr p = true) {x : Operand} {i : Nat} (ho : o.op = .extract x i) (hr : readable G p x = true) {ok : Bool} {v : V}
    (hs : (match ov cx fr x with | .tup vs => ofOpt ((vs[i]?).map V.dis) | _ => .no) = .pure ok v) : PureRes P H μ w (execOp a.eval o) v := by
  have hv := (ov_val h hgl hp hr).1
  split at hs
  · rename_i vs e
    rw [e] at hv
    have hx : ∃ xs : Array Value, a.eval x = .tuple xs ∧ vs.length = xs.size ∧ ∀ (j : Nat) v x, vs[j]? = some v → xs[j]? = some x → VR H μ v x := by
      generalize a.eval x = z at hv; cases hv; rename_i xs hl hh; exact ⟨xs, rfl, hl, hh⟩
    obtain ⟨xs, hx, hl, hh⟩ := hx
    cases hvi : vs[i]? with
    | none => rw [hvi] at hs; simp [ofOpt] at hs
    | some v0 =>
      rw [hvi] at hs
      simp only [Option.map_some, ofOpt] at hs
      cases hs
      have hi : i < xs.size := by
        rw [← hl]
        rcases Nat.lt_or_ge i vs.length with h' | h'
        · exact h'
        · rw [List.getElem?_eq_none h'] at hvi; cases hvi
      have hxi : xs[i]? = some xs[i] := Array.getElem?_eq_getElem hi
      exact PureRes.same h.agree (x := xs[i]) (by simp [execOp, ho, hx, Instr.extract, hxi]) (hh i _ _ hvi hxi).dis (V.dis_dis _)
  · cases hs
theorem field_place (T0 : TabOK P cx) {s f : Nat} {q : Nat × Nat} (hf : fieldOff cx s f = some q) :
    ∃ fs : Array Field, P.underlying s = some (.struct fs) ∧ ∃ fd, fs[f]? = some fd ∧ fd.offset = q.1 ∧ fd.type = q.2 ∧ ∃ i, P.info? fd.type = some i ∧ i.size ≠ 0 := by
  unfold fieldOff at hf
  split at hf
  · rename_i l hk
    have hok := TI.ok_of hk (by simp)
    obtain ⟨d, hd, hkd⟩ := T0.und hok
    rw [hk] at hkd
    obtain ⟨fs, rfl, hl⟩ := tk_struct hkd
    rw [← hl, List.getElem?_map] at hf
    cases hfd : fs.toList[f]? with
    | none => rw [hfd] at hf; cases hf
    | some fd =>
      rw [hfd] at hf
      cases hf
      exact ⟨fs, hd, fd, by simpa using hfd, rfl, rfl, T0.fld s fs hd hok fd (List.mem_of_getElem? hfd)⟩
  · cases hf
theorem run_fieldPlace {ad : Addr} {fd : Field} {i : TypeInfo} (hi : P.info? fd.type = some i) (hz : i.size ≠ 0) : (fieldPlace ad fd).run P w = .ok (ad.add fd.offset) w := by
  simp [fieldPlace, sizeOf, typeInfo, hi, hz]
theorem fieldAddr_sound (T0 : TabOK P cx) (h : Inv g G H μ fr O a.tmps w) (hgl : GlOK cx.gl H) (hp : pcOf fr p = true) {s f : Nat} {x : Operand} (ho : o.op = .fieldAddr s x f) (hr : readable G p x = true) {ok : Bool} {v : V}
    (hs : (match fieldOff cx s f, ov cx fr x with
      | some (off, _), .ptr n o => St.pure true (.ptr n (o + off))
      | some (off, _), .ept n j o => .pure true (.ept n j (o + off))
      | some (off, ft), .rp cs => .pure true (.rp ((cs.drop off).take (cx.ti ft).sz))
      | _, _ => .no) = .pure ok v) : PureRes P H μ w (execOp a.eval o) v := by
  have hv := (ov_val h hgl hp hr).1
  have key : ∀ q ad, fieldOff cx s f = some q → a.eval x = .pointer (some ad) → (execOp a.eval o).run P w = .ok (.value (.pointer (some (ad.add q.1)))) w := by
    intro q ad hq hx
    obtain ⟨fs, hu, fd, hfd, h1, h2, i, hi, hz⟩ := field_place T0 hq
    simp [execOp, ho, Instr.fieldAt, run_underlying hu, hfd, Instr.sureAddr, hx, run_fieldPlace hi hz, h1]
  split at hs
  · rename_i off _ n o' e1 e2
    cases hs
    rw [e2] at hv
    have hx : ∃ e, μ[n]? = some e ∧ a.eval x = .pointer (some ⟨e.blk, o', none⟩) := by generalize a.eval x = z at hv; cases hv; exact ⟨_, ‹_›, rfl⟩
    obtain ⟨e, he, hx⟩ := hx
    refine PureRes.same h.agree (x := .pointer (some ⟨e.blk, o' + off, none⟩)) ?_ (.ptr n _ e he) rfl
    have := key _ _ e1 hx
    rw [addr_add] at this; exact this
  · rename_i off _ n j o' e1 e2
    cases hs
    rw [e2] at hv
    have hx : ∃ e, μ[n]? = some e ∧ j < e.len ∧ a.eval x = .pointer (some ⟨e.blk, j * e.esz + o', none⟩) := by generalize a.eval x = z at hv; cases hv; exact ⟨_, ‹_›, ‹_›, rfl⟩
    obtain ⟨e, he, hj, hx⟩ := hx
    refine PureRes.same h.agree (x := .pointer (some ⟨e.blk, j * e.esz + (o' + off), none⟩)) ?_ (.ept n j _ e he hj) rfl
    have := key _ _ e1 hx
    rw [addr_add, Nat.add_assoc] at this; exact this
  · rename_i off ft cs e1 e2
    cases hs
    rw [e2] at hv
    have hx : ∃ (ad : Addr) (f : Nat → Value), ad.spot = none ∧ a.eval x = .pointer (some ad) ∧ (∀ (j : Nat) v, cs[j]? = some v → H ad.block (ad.off + j) = some (f j)) ∧ (∀ (j : Nat) v, cs[j]? = some v → VR H μ v (f j)) := by
      generalize a.eval x = z at hv; cases hv; rename_i ad f1 hsp h1 h2; exact ⟨ad, f1, hsp, rfl, h1, h2⟩
    obtain ⟨ad, f1, hsp, hx, h1, h2⟩ := hx
    have hk := key _ _ e1 hx
    rw [addr_add' hsp] at hk
    have hget : ∀ (j : Nat) v, ((cs.drop off).take (cx.ti ft).sz)[j]? = some v → cs[off + j]? = some v := by
      intro j v hv
      rw [List.getElem?_take] at hv
      split at hv
      · rwa [List.getElem?_drop] at hv
      · cases hv
    refine PureRes.same h.agree hk (.rp _ ⟨ad.block, ad.off + off, none⟩ (fun j => f1 (off + j)) rfl (fun j v hv => ?_) (fun j v hv => h2 _ v (hget j v hv))) rfl
    have := h1 _ v (hget j v hv)
    rw [Nat.add_assoc]; exact this
  · cases hs
theorem part_sound (T0 : TabOK P cx) {t off : Nat} {cs : List V} {xs : Array Value} {v : V} (hl : cs.length = xs.size) (hr : ∀ (j : Nat) v x, cs[j]? = some v → xs[j]? = some x → VR H μ v x)
    (ht : takeT (cx.ti t) cs off = some v) : ∃ y, (part t xs off).run P w = .ok y w ∧ VR H μ v y ∧ v.dis = v := by
  unfold takeT at ht
  split at ht
  · cases ht
  · rename_i hok
    unfold part
    simp only [Sem.run_bind, T0.run_isAgg hok, Result.andThen_ok]
    cases ha : (cx.ti t).agg with
    | true =>
      simp only [ha, if_true] at ht ⊢
      split at ht
      · rename_i hlt
        cases ht
        refine ⟨.agg (xs.extract off (off + (cx.ti t).sz)), by simp [T0.run_sizeOf hok], ?_, rfl⟩
        refine .agg _ _ (by simp; omega) fun j v y hv hy => ?_
        rw [List.getElem?_map] at hv
        cases hc : ((cs.drop off).take (cx.ti t).sz)[j]? with
        | none => rw [hc] at hv; cases hv
        | some c =>
          rw [hc] at hv; cases hv
          rw [List.getElem?_take] at hc
          split at hc
          · rw [List.getElem?_drop] at hc
            rw [Array.getElem?_extract] at hy
            split at hy
            · exact (hr _ c y hc hy).dis
            · cases hy
          · cases hc
      · cases ht
    | false =>
      simp only [ha] at ht ⊢
      cases hc : cs[off]? with
      | none => rw [hc] at ht; cases ht
      | some c =>
        rw [hc] at ht; cases ht
        have hlt : off < xs.size := by
          rw [← hl]
          rcases Nat.lt_or_ge off cs.length with h' | h'
          · exact h'
          · rw [List.getElem?_eq_none h'] at hc; cases hc
        have hx : xs[off]? = some xs[off] := Array.getElem?_eq_getElem hlt
        exact ⟨xs[off], by simp [hx], (hr _ c _ hc hx).dis, V.dis_dis c⟩
theorem agg_of {cs : List V} {x : Value} (h : VR H μ (.agg cs) x) : ∃ xs : Array Value, x = .agg xs ∧ cs.length = xs.size ∧ ∀ (j : Nat) v x, cs[j]? = some v → xs[j]? = some x → VR H μ v x := by
  cases h; rename_i xs hl hh; exact ⟨xs, rfl, hl, hh⟩
theorem int_of {k : IntKind} {n : Int} {x : Value} (h : VR H μ (.i k n) x) : x = .int k n := by cases h; rfl
theorem str_of {s : ByteArray} {x : Value} (h : VR H μ (.s s) x) : x = .string s := by cases h; rfl
theorem bool_of {b : Bool} {x : Value} (h : VR H μ (.b b) x) : x = .bool b := by cases h; rfl
theorem field_sound (T0 : TabOK P cx) (h : Inv g G H μ fr O a.tmps w) (hgl : GlOK cx.gl H) (hp : pcOf fr p = true) {s f : Nat} {x : Operand} (ho : o.op = .field s x f) (hr : readable G p x = true) {ok : Bool} {v : V}
    (hs : (match fieldOff cx s f, ov cx fr x with
      | some (off, ft), .agg cs => ofOpt (takeT (cx.ti ft) cs off)
      | _, _ => .no) = .pure ok v) : PureRes P H μ w (execOp a.eval o) v := by
  have hv := (ov_val h hgl hp hr).1
  split at hs
  · rename_i off ft cs e1 e2
    rw [e2] at hv
    obtain ⟨xs, hx, hl, hh⟩ := agg_of hv
    unfold ofOpt at hs
    split at hs
    · rename_i v' hv'
      cases hs
      obtain ⟨y, hy, h1, h2⟩ := part_sound (P := P) (w := w) T0 hl hh hv'
      obtain ⟨fs, hu, fd, hfd, e3, e4, _⟩ := field_place T0 e1
      simp only at e3 e4
      refine PureRes.same h.agree (x := y) ?_ h1 h2
      rw [← e3, ← e4] at hy
      simp [execOp, ho, Instr.field, run_underlying hu, hfd, hx, asAgg, hy]
    · cases hs
  · cases hs
end
end Go.Ev
namespace Go.Ev
open Go
theorem tk_ptr {d : TypeDesc} {e : Nat} (h : tkOf d = .ptr e) : d = .pointer e := by cases d <;> simp [tkOf] at h; rw [h]
theorem kEq_eq {k k' : IntKind} (h : kEq k k' = true) : k = k' := by cases k <;> cases k' <;> first | rfl | simp [kEq] at h
section
variable {P : Program} {cx : Cx} {g : Gh} {G : List (Nat × Path)} {H : HM} {μ : MU} {fr : List V} {O : List Ob} {a : Act} {w : World} {o : Oper} {p : Path}
theorem strEq_toList (x y : ByteArray) : (x.toList == y.toList) = strEq x y := by
  unfold strEq
  rw [ByteArray.toList_eq, ByteArray.toList_eq]
theorem run_eq_leaf (T0 : TabOK P cx) {t d : Nat} {v v' : V} {x y : Value} {r : Bool} (hx : VR H μ v x) (hy : VR H μ v' y) (he : eqLeaf (cx.ti t).k v v' = some r) :
    (Op.equalIn (d + 1) t x y).run P w = .ok r w := by
  unfold eqLeaf at he
  split at he
  · split at he
    · rename_i e
      cases he
      obtain ⟨D, hD, hk⟩ := T0.und (TI.ok_of e (by simp))
      rw [e] at hk; rw [tk_bool hk] at hD
      rw [bool_of hx, bool_of hy]
      exact run_equalIn_bool w d t _ _ hD
    · cases he
  · split at he
    · rename_i k1 x' k2 y' k0 e
      split at he
      · rename_i hkk
        cases he
        obtain ⟨D, hD, hk⟩ := T0.und (TI.ok_of e (by simp))
        rw [e] at hk; rw [tk_int hk] at hD
        rw [int_of hx, int_of hy, kEq_eq hkk]
        exact run_equalIn_int w d t _ _ _ _ hD
      · cases he
    · cases he
  · split at he
    · rename_i e
      cases he
      obtain ⟨D, hD, hk⟩ := T0.und (TI.ok_of e (by simp))
      rw [e] at hk; rw [tk_str hk] at hD
      rw [str_of hx, str_of hy, ← strEq_toList]
      exact run_equalIn_string w d t _ _ hD
    · cases he
  · cases he
theorem eqLeaf_ok {k : TK} {v v' : V} {r : Bool} (he : eqLeaf k v v' = some r) : (k = .bool ∨ (∃ i, k = .int i) ∨ k = .str) := by
  unfold eqLeaf at he
  split at he
  · split at he
    · exact .inl rfl
    · cases he
  · split at he
    · exact .inr (.inl ⟨_, rfl⟩)
    · cases he
  · split at he
    · exact .inr (.inr rfl)
    · cases he
  · cases he
theorem run_eqFields (T0 : TabOK P cx) {d : Nat} {xs ys : Array Value} {V1 V2 : List V} (h1l : V1.length = xs.size) (h1 : ∀ (j : Nat) v x, V1[j]? = some v → xs[j]? = some x → VR H μ v x)
    (h2l : V2.length = ys.size) (h2 : ∀ (j : Nat) v x, V2[j]? = some v → ys[j]? = some x → VR H μ v x) :
    ∀ (fs : List Field) (i : Nat) (r : Bool), flatFs cx i (fs.map fun f => (f.offset, f.type)) = true → (∀ f ∈ fs, (f.name == "_") = false) →
      eqFs cx (fs.map fun f => (f.offset, f.type)) (V1.drop i) (V2.drop i) = some r → (Op.eqFields (d + 1) xs ys fs).run P w = .ok r w
  | [], i, r, _, _, he => by
    simp only [List.map_nil] at he
    unfold eqFs at he
    split at he
    · cases he; simp [Op.eqFields]
    · simp_all
    · cases he
  | f :: fs, i, r, hf, hn, he => by
    simp only [List.map_cons, flatFs, Bool.and_eq_true] at hf
    obtain ⟨⟨hoff, _⟩, hrest⟩ := hf
    have hoff : f.offset = i := Nat.eq_of_beq_eq_true hoff
    simp only [List.map_cons] at he
    unfold eqFs at he
    split at he
    · simp_all
    · rename_i f' r' x X y Y hfe hxe hye
      cases hfe
      split at he
      · rename_i ra rb hea heb
        cases he
        have hx0 : V1[i]? = some x := by
          have : (V1.drop i)[0]? = some x := by rw [hxe]; rfl
          rwa [List.getElem?_drop, Nat.add_zero] at this
        have hy0 : V2[i]? = some y := by
          have : (V2.drop i)[0]? = some y := by rw [hye]; rfl
          rwa [List.getElem?_drop, Nat.add_zero] at this
        have hxi : i < xs.size := by
          rw [← h1l]
          rcases Nat.lt_or_ge i V1.length with h' | h'
          · exact h'
          · rw [List.getElem?_eq_none h'] at hx0; cases hx0
        have hyi : i < ys.size := by
          rw [← h2l]
          rcases Nat.lt_or_ge i V2.length with h' | h'
          · exact h'
          · rw [List.getElem?_eq_none h'] at hy0; cases hy0
        have hxx : xs[i]? = some xs[i] := Array.getElem?_eq_getElem hxi
        have hyy : ys[i]? = some ys[i] := Array.getElem?_eq_getElem hyi
        have hname := hn f (by simp)
        have hok : (cx.ti f.type).ok = true := by
          rcases eqLeaf_ok hea with e | ⟨k, e⟩ | e <;> exact TI.ok_of e (by simp)
        have hag : (cx.ti f.type).agg = false := by
          rcases eqLeaf_ok hea with e | ⟨k, e⟩ | e <;> simp only [TI.agg, e]
        have hp1 : (part f.type xs f.offset).run P w = .ok xs[i] w := by
          simp [part, T0.run_isAgg hok, hag, hoff, hxx]
        have hp2 : (part f.type ys f.offset).run P w = .ok ys[i] w := by
          simp [part, T0.run_isAgg hok, hag, hoff, hyy]
        have hleaf := run_eq_leaf (w := w) (d := d) T0 (h1 i x _ hx0 hxx) (h2 i y _ hy0 hyy) hea
        have hX : X = V1.drop (i + 1) := by
          have : (V1.drop i).drop 1 = X := by rw [hxe]; rfl
          rw [← this, List.drop_drop]
        have hY : Y = V2.drop (i + 1) := by
          have : (V2.drop i).drop 1 = Y := by rw [hye]; rfl
          rw [← this, List.drop_drop]
        have ih := run_eqFields T0 (d := d) h1l h1 h2l h2 fs (i + 1) rb hrest (fun f hf => hn f (by simp [hf])) (by rw [← hX, ← hY]; exact heb)
        have hne : f.name ≠ "_" := by simpa using hname
        simp only [Op.eqFields, hne, ne_eq, not_false_eq_true, if_true, Sem.run_bind, hp1, hp2, Result.andThen_ok, hleaf]
        cases ra
        · simp [bAnd]
        · simp [bAnd, ih]
      · cases he
    · cases he
end
end Go.Ev
namespace Go.Ev
open Go
section
variable {P : Program} {cx : Cx} {g : Gh} {G : List (Nat × Path)} {H : HM} {μ : MU} {fr : List V} {O : List Ob} {a : Act} {w : World} {o : Oper} {p : Path}
theorem run_eq_nilL {t e d : Nat} (hD : P.underlying t = some (.pointer e)) (b : Option Addr) : (Op.equalIn (d + 1) t (.pointer none) (.pointer b)).run P w = .ok b.isNone w := by
  simp only [Op.equalIn, Sem.run_bind, run_underlying hD, Result.andThen_ok, Sem.run_pure]
theorem run_eq_nilR {t e d : Nat} (hD : P.underlying t = some (.pointer e)) (b : Addr) : (Op.equalIn (d + 1) t (.pointer (some b)) (.pointer none)).run P w = .ok false w := by
  simp only [Op.equalIn, Sem.run_bind, run_underlying hD, Result.andThen_ok, Sem.run_pure]
theorem eqAny_sound (T0 : TabOK P cx) {t : Nat} {X Y : V} {x y : Value} (hx : VR H μ X x) (hy : VR H μ Y y) {r : Bool} (he : eqAny cx t X Y = some r) (xo yo : Operand) :
    (do eqGuard .eql t xo yo x y; binOp .eql t x y : Sem Value).run P w = .ok (.bool r) w ∧ (do eqGuard .neq t xo yo x y; binOp .neq t x y : Sem Value).run P w = .ok (.bool (!r)) w := by
  unfold eqAny at he
  split at he
  · rename_i vs vs'
    split at he
    · rename_i fs hflat hk
      obtain ⟨xs, rfl, hl1, hr1⟩ := agg_of hx
      obtain ⟨ys, rfl, hl2, hr2⟩ := agg_of hy
      obtain ⟨h1, h2, h3⟩ := T0.flat t hflat
      obtain ⟨D, hD, hkD⟩ := T0.und (TI.ok_of hk (by simp))
      rw [hk] at hkD
      obtain ⟨fs', rfl, hfs⟩ := tk_struct hkD
      have hfo : P.fieldsOf t = fs' := by simp [Program.fieldsOf, hD]
      have hff : flatFs cx 0 (fs'.toList.map fun f => (f.offset, f.type)) = true := by
        unfold flatK at hflat; rw [hk] at hflat; rw [hfs]; exact hflat
      have he' : eqFs cx (fs'.toList.map fun f => (f.offset, f.type)) (vs.drop 0) (vs'.drop 0) = some r := by rw [hfs]; simpa using he
      have hrun := run_eqFields (P := P) (w := w) T0 (d := 9998) hl1 hr1 hl2 hr2 fs'.toList 0 r hff (fun f hf => (h3 fs' hD f hf).1) he'
      have heq : (Op.equal t (.agg xs) (.agg ys)).run P w = .ok r w := by
        unfold Op.equal Op.maxDepth
        rw [show (10000 : Nat) = 9999 + 1 from rfl, run_equalIn_struct w 9999 t xs ys (by rw [hfo]; exact hD) h1, hfo]
        exact hrun
      refine ⟨?_, ?_⟩ <;> simp [eqGuard, h2, binOp, heq]
    · cases he
  · rename_i s1 s2
    cases he
    rw [str_of hx, str_of hy]
    refine ⟨?_, ?_⟩ <;> simp [eqGuard, binOp, Op.stringOp, strEq_toList]
  · rename_i b1 b2
    split at he
    · rename_i hk
      cases he
      obtain ⟨D, hD, hkD⟩ := T0.und (TI.ok_of hk (by simp))
      rw [hk] at hkD; rw [tk_bool hkD] at hD
      rw [bool_of hx, bool_of hy]
      have heq : (Op.equal t (.bool b1) (.bool b2)).run P w = .ok (b1 == b2) w := by
        unfold Op.equal Op.maxDepth
        exact run_equalIn_bool w 9999 t _ _ hD
      refine ⟨?_, ?_⟩ <;> simp [eqGuard, binOp, heq, bEq]
    · cases he
  all_goals first | (exfalso; cases he; done) | skip
  all_goals
    split at he
    · rename_i e0 hk
      cases he
      obtain ⟨D, hD, hkD⟩ := T0.und (TI.ok_of hk (by simp))
      rw [hk] at hkD; rw [tk_ptr hkD] at hD
      have hL : ∀ b, (Op.equal t (.pointer none) (.pointer b)).run P w = .ok b.isNone w := fun b => run_eq_nilL (d := 9999) hD b
      have hR : ∀ b, (Op.equal t (.pointer (some b)) (.pointer none)).run P w = .ok false w := fun b => run_eq_nilR (d := 9999) hD b
      cases hx <;> cases hy <;> refine ⟨?_, ?_⟩ <;> simp [eqGuard, binOp, hL, hR]
    · cases he
theorem bin_sound (T0 : TabOK P cx) (h : Inv g G H μ fr O a.tmps w) (hgl : GlOK cx.gl H) (hp : pcOf fr p = true) {op : BinOp} {t t' : Nat} {x y : Operand} (ho : o.op = .binOp op t x y t')
    (hrx : readable G p x = true) (hry : readable G p y = true) {ok : Bool} {v : V} (hs : bin cx t op (ov cx fr x) (ov cx fr y) = .pure ok v) (hok : ok = true) : PureRes P H μ w (execOp a.eval o) v := by
  have hvx := (ov_val h hgl hp hrx).1
  have hvy := (ov_val h hgl hp hry).1
  have mk : ∀ (z : Value), (do eqGuard op t x y (a.eval x) (a.eval y); binOp op t (a.eval x) (a.eval y) : Sem Value).run P w = .ok z w → VR H μ v z → v.dis = v → PureRes P H μ w (execOp a.eval o) v := by
    intro z hz hv hd
    refine PureRes.same h.agree (x := z) ?_ hv hd
    simp only [execOp, ho]
    simpa using run_v hz
  unfold bin at hs
  split at hs
  · rename_i k n k2 m e1 e2
    cases hs
    rw [e1] at hvx; rw [e2] at hvy
    rw [int_of hvx, int_of hvy] at mk
    have hm : ¬ (m < 0) := by simp only [ile, decide_eq_true_eq] at hok; omega
    exact mk (.int k (wshl k n m)) (by simp [eqGuard_at_int, binOp, Op.shift, hm, wshl]) (.i k _) rfl
  · rename_i k n k2 m e1 e2
    cases hs
    rw [e1] at hvx; rw [e2] at hvy
    rw [int_of hvx, int_of hvy] at mk
    have hm : ¬ (m < 0) := by simp only [ile, decide_eq_true_eq] at hok; omega
    exact mk (.int k (wshr k n m)) (by simp [eqGuard_at_int, binOp, Op.shift, hm, wshr]) (.i k _) rfl
  · rename_i k n k2 m hn1 hn2 e1 e2
    rw [e1] at hvx; rw [e2] at hvy
    split at hs
    · rename_i hkk
      have hkk := kEq_eq hkk
      subst hkk
      rw [int_of hvx, int_of hvy] at mk
      split at hs
      · cases hs; exact mk (.int k (k.wrap (n + m))) (by simp [eqGuard_at_int, binOp, Op.intArith]) (.i k _) rfl
      · cases hs; exact mk (.int k (k.wrap (n - m))) (by simp [eqGuard_at_int, binOp, Op.intArith]) (.i k _) rfl
      · cases hs; exact mk (.int k (k.wrap (n * m))) (by simp [eqGuard_at_int, binOp, Op.intArith]) (.i k _) rfl
      · cases hs
        have hm : m ≠ 0 := by simpa [bNot, ieq] using hok
        exact mk (.int k (wquo k n m)) (by simp [eqGuard_at_int, binOp, Op.intDiv, hm, wquo]) (.i k _) rfl
      · cases hs
        have hm : m ≠ 0 := by simpa [bNot, ieq] using hok
        exact mk (.int k (wrem n m)) (by simp [eqGuard_at_int, binOp, Op.intDiv, hm, wrem]) (.i k _) rfl
      · cases hs; exact mk (.int k (wand k n m)) (by simp [eqGuard_at_int, binOp, Op.intBits, wand]) (.i k _) rfl
      · cases hs; exact mk (.int k (wor k n m)) (by simp [eqGuard_at_int, binOp, Op.intBits, wor]) (.i k _) rfl
      · cases hs; exact mk (.int k (wxor k n m)) (by simp [eqGuard_at_int, binOp, Op.intBits, wxor]) (.i k _) rfl
      · cases hs; exact mk (.int k (wandn k n m)) (by simp [eqGuard_at_int, binOp, Op.intBits, wandn]) (.i k _) rfl
      · cases hs; exact mk (.bool (ieq n m)) (by simp [eqGuard_at_int, binOp, Op.intCmp, ieq]) (.b _) rfl
      · cases hs; exact mk (.bool (bNot (ieq n m))) (by simp [eqGuard_at_int, binOp, Op.intCmp, ieq, bNot, bne]) (.b _) rfl
      · cases hs; exact mk (.bool (ilt n m)) (by simp [eqGuard_at_int, binOp, Op.intCmp, ilt]) (.b _) rfl
      · cases hs; exact mk (.bool (ile n m)) (by simp [eqGuard_at_int, binOp, Op.intCmp, ile]) (.b _) rfl
      · cases hs; exact mk (.bool (ilt m n)) (by simp [eqGuard_at_int, binOp, Op.intCmp, ilt]) (.b _) rfl
      · cases hs; exact mk (.bool (ile m n)) (by simp [eqGuard_at_int, binOp, Op.intCmp, ile]) (.b _) rfl
      · cases hs
    · cases hs
  · rename_i s1 s2 e1 e2
    cases hs
    rw [e1] at hvx; rw [e2] at hvy
    rw [str_of hvx, str_of hvy] at mk
    have hsz : ¬ ((s1.size : Int) + (s2.size : Int) > 9223372036854775807) := by
      have := Nat.le_of_ble_eq_true hok; omega
    exact mk (.string (scat s1 s2)) (by simp [eqGuard_at_string, binOp, Op.stringOp, hsz, scat]) (.s _) rfl
  · split at hs
    · rename_i r he
      cases hs
      exact mk (.bool r) (eqAny_sound T0 hvx hvy he x y).1 (.b _) rfl
    · cases hs
  · split at hs
    · rename_i r he
      cases hs
      exact mk (.bool (!r)) (eqAny_sound T0 hvx hvy he x y).2 (.b _) rfl
    · cases hs
  · cases hs
end
end Go.Ev
namespace Go.Ev
open Go
section
variable {P : Program} {cx : Cx} {g : Gh} {G : List (Nat × Path)} {H : HM} {μ : MU} {fr : List V} {O : List Ob} {a : Act} {w : World} {o : Oper} {p : Path}
theorem inside_iff {i n : Int} : inside i n = true ↔ 0 ≤ i ∧ i < n := by simp [inside]
theorem bounds_iff {l h n : Int} : bounds l h n = true ↔ 0 ≤ l ∧ l ≤ h ∧ h ≤ n := by simp [bounds, and_assoc]
theorem sl_of {t : Ty} {xs : List (T t)} {own : Bool} {x : Value} (h : VR H μ (.sl t xs own) x) (hne : 0 < xs.length) : ∃ (ad : Addr) (cap : Nat) (f : Nat → Nat → Value), x = .slice (some ad) xs.length cap ∧ ad.spot = none ∧ xs.length ≤ cap ∧
    (∀ (i : Nat) x (j : Nat) v, xs[i]? = some x → (enc t x).cells[j]? = some v → H ad.block (ad.off + i * t.sz + j) = some (f i j)) ∧ (∀ (i : Nat) x (j : Nat) v, xs[i]? = some x → (enc t x).cells[j]? = some v → VR H μ v (f i j)) := by
  cases h with
  | sl0 => simp at hne
  | sl _ _ _ ad cap f ha hl h1 h2 => exact ⟨ad, cap, f, rfl, ha, hl, h1, h2⟩
theorem sl_len {t : Ty} {xs : List (T t)} {own : Bool} {x : Value} (h : VR H μ (.sl t xs own) x) : ∃ b cap, x = .slice b xs.length cap := by
  cases h with
  | sl0 _ _ b cap => exact ⟨b, cap, rfl⟩
  | sl _ _ _ ad cap f ha hl h1 h2 => exact ⟨some ad, cap, rfl⟩
def ElemOK (cx : Cx) (e : Nat) (c : Ty) : Prop := (cx.ti e).ok = true ∧ (cx.ti e).sz = c.sz
theorem decAll_get {c : Ty} : ∀ (vs : List V) (xs : List (T c)), decAll c vs = some xs → vs.length = xs.length ∧ ∀ (j : Nat) v x, vs[j]? = some v → xs[j]? = some x → Wk v (enc c x)
  | [], xs, h => by
    simp only [decAll] at h; cases h; exact ⟨rfl, fun j v x hv => by simp at hv⟩
  | v :: r, xs, h => by
    unfold decAll at h
    split at h
    · rename_i y ys h1 h2
      cases h
      obtain ⟨hl, hr⟩ := decAll_get r ys h2
      refine ⟨by simp [hl], fun j v' x' hv hx => ?_⟩
      cases j with
      | zero => simp at hv hx; subst hv; subst hx; exact dec_wk c _ _ h1
      | succ j => exact hr j v' x' (by simpa using hv) (by simpa using hx)
    · cases h
theorem decAll_dec {c : Ty} : ∀ (vs : List V) (xs : List (T c)), decAll c vs = some xs → ∀ (j : Nat) v x, vs[j]? = some v → xs[j]? = some x → dec c v = some x
  | [], xs, h, j, v, x, hv, _ => by simp at hv
  | v :: r, xs, h, j, v', x', hv, hx => by
    unfold decAll at h
    split at h
    · rename_i y ys h1 h2
      cases h
      cases j with
      | zero => simp at hv hx; subst hv; subst hx; exact h1
      | succ j => exact decAll_dec r ys h2 j v' x' (by simpa using hv) (by simpa using hx)
    · cases h
theorem dec_wks : (c : Ty) → (cs : List V) → (x : T c) → dec c (.agg cs) = some x → Wks cs (enc c x).cells
  | .b, _, _, h => by cases h
  | .i _, _, _, h => by cases h
  | .s, _, _, h => by cases h
  | .ins, cs, x, h => by rw [decIns_eq (x := x) h]; exact Wks.refl _
  | .tok, cs, x, h => by
    have h' : decTok (.agg cs) = some x := h
    unfold decTok at h'
    split at h'
    · rename_i e; cases e; cases h'; exact Wks.refl _
    · cases h'
  | .expr, cs, x, h => decExpr_wk (x := x) h
  | .line, cs, x, h => decLine_wk (x := x) h
  | .form, cs, x, h => by
    have h' : decForm (.agg cs) = some x := h
    unfold decForm at h'
    split at h'
    · rename_i e; cases e; cases h'; exact Wks.refl _
    · cases h'
  | .sl t, cs, x, h => by
    have h' : decSl t (.agg cs) = some x := h
    unfold decSl at h'; cases h'
theorem groups_len (sz : Nat) : ∀ (n : Nat) (cs : List V), (groups sz n cs).length = n
  | 0, _ => rfl
  | n + 1, cs => by simp [groups, groups_len sz n]
theorem groups_get (sz : Nat) : ∀ (n : Nat) (cs : List V) (i : Nat), i < n → (groups sz n cs)[i]? = some (if Nat.beq sz 1 then (cs.drop (i * sz)).headD .u else .agg ((cs.drop (i * sz)).take sz))
  | 0, _, _, h => by omega
  | n + 1, cs, 0, _ => by simp [groups]
  | n + 1, cs, i + 1, h => by
    simp only [groups, List.getElem?_cons_succ]
    rw [groups_get sz n _ i (by omega), List.drop_drop]
    congr 3
    all_goals (rw [Nat.add_mul, Nat.one_mul, Nat.add_comm])
theorem groups_cells {c : Ty} {n : Nat} {cs : List V} {xs : List (T c)} (hc : 0 < c.sz) (hlen : cs.length = n * c.sz) (hd : decAll c (groups c.sz n cs) = some xs) {i : Nat} (hi : i < n) :
    xs.length = n ∧ Wks ((cs.drop (i * c.sz)).take c.sz) (enc c (xget xs i)).cells := by
  obtain ⟨hl, hr⟩ := decAll_get _ _ hd
  rw [groups_len] at hl
  refine ⟨hl.symm, ?_⟩
  have hw := hr i _ _ (groups_get c.sz n cs i hi) (xget_of (xs := xs) (by omega))
  have hlt : i * c.sz < cs.length := by
    rw [hlen]
    exact Nat.mul_lt_mul_of_pos_right hi hc
  have hcnt : i * c.sz + c.sz ≤ cs.length := by
    rw [hlen]
    calc i * c.sz + c.sz = (i + 1) * c.sz := by rw [Nat.add_mul, Nat.one_mul]
      _ ≤ n * c.sz := Nat.mul_le_mul_right _ hi
  cases hb : Nat.beq c.sz 1 with
  | true =>
    have e1 := Nat.eq_of_beq_eq_true hb
    rw [hb] at hw
    simp only [if_true] at hw
    have hget : (cs.drop (i * c.sz)).take c.sz = [(cs.drop (i * c.sz)).headD .u] := by
      rw [e1]
      cases hq : cs.drop (i * 1) with
      | nil =>
        have : (cs.drop (i * 1)).length = 0 := by rw [hq]; rfl
        rw [List.length_drop] at this
        rw [e1] at hlt; omega
      | cons x r => rfl
    rw [hget]
    have hcell : (enc c (xget xs i)).cells = [enc c (xget xs i)] := by
      cases c <;> first | rfl | simp [Ty.sz] at e1
    rw [hcell]
    exact .cons hw .nil
  | false =>
    rw [hb] at hw
    simp only [Bool.false_eq_true, if_false] at hw
    have hd' := decAll_dec _ _ hd i _ _ (groups_get c.sz n cs i hi) (xget_of (xs := xs) (by omega))
    rw [hb] at hd'
    exact dec_wks c _ _ hd'
theorem Ty.sz_pos (c : Ty) : 0 < c.sz := by cases c <;> simp [Ty.sz]
theorem enc_dis (c : Ty) (x : T c) : (enc c x).dis = enc c x := by cases c <;> rfl
theorem enc_agg {c : Ty} (h : c.isAgg = true) (x : T c) : enc c x = .agg (enc c x).cells := by cases c <;> first | rfl | cases h
theorem enc_single {c : Ty} (h : c.isAgg = false) (x : T c) : (enc c x).cells = [enc c x] ∧ c.sz = 1 := by cases c <;> first | exact ⟨rfl, rfl⟩ | cases h
theorem tyOK_iff {e : Nat} {c : Ty} (h : tyOK cx e c = true) : (cx.ti e).ok = true ∧ (cx.ti e).sz = c.sz := by
  unfold tyOK at h
  split at h
  · rename_i ho; exact ⟨ho, Nat.eq_of_beq_eq_true h⟩
  · cases h
theorem Wks.get {vs vs' : List V} (h : Wks vs vs') {j : Nat} {v' : V} (hv : vs'[j]? = some v') : ∃ v, vs[j]? = some v ∧ Wk v v' := by
  have hlt : j < vs.length := by
    rw [h.1]
    rcases Nat.lt_or_ge j vs'.length with h' | h'
    · exact h'
    · rw [List.getElem?_eq_none h'] at hv; cases hv
  exact ⟨_, List.getElem?_eq_getElem hlt, h.2 j _ v' (List.getElem?_eq_getElem hlt) hv⟩
theorem indexAddr_sound (T0 : TabOK P cx) (h : Inv g G H μ fr O a.tmps w) (hgl : GlOK cx.gl H) (hp : pcOf fr p = true) {t : Nat} {x ix : Operand} (ho : o.op = .indexAddr t x ix)
    (hrx : readable G p x = true) (hry : readable G p ix = true) {ok : Bool} {v : V} (hs : idxV cx t O (nrm cx t (ov cx fr x)) (ov cx fr ix) = .pure ok v) (hok : ok = true) : PureRes P H μ w (execOp a.eval o) v := by
  have hvx := (nrm_val (cx := cx) t (ov_val h hgl hp hrx)).1
  have hvy := (ov_val h hgl hp hry).1
  generalize nrm cx t (ov cx fr x) = X at hs hvx
  unfold idxV at hs
  split at hs
  · rename_i e c xs own k i hk e2
    split at hs
    · rename_i hty
      cases hs
      rw [e2] at hvy
      have hiy := int_of hvy
      obtain ⟨hi0, hin⟩ := inside_iff.1 hok
      have hin' : i.toNat < xs.length := by simp only [iof, xlen] at hin; omega
      obtain ⟨D, hD, hkD⟩ := T0.und (TI.ok_of hk (by simp))
      rw [hk] at hkD; rw [tk_slice hkD] at hD
      obtain ⟨hoke, hsze⟩ := tyOK_iff hty
      obtain ⟨ad, cap, f, hxr, hsp, hl, h1, h2⟩ := sl_of hvx (by omega)
      have hx := xget_of hin'
      have hin2 : i < (xs.length : Int) := by simpa [iof, xlen] using hin
      refine PureRes.same h.agree (x := .pointer (some ⟨ad.block, ad.off + i.toNat * c.sz, none⟩)) ?_ (.rp _ ⟨ad.block, ad.off + i.toNat * c.sz, none⟩ (fun j => f i.toNat j) rfl (fun j v hv => h1 _ _ j v hx hv) (fun j v hv => h2 _ _ j v hx hv)) rfl
      simp [execOp, ho, Instr.indexAt, hiy, asIntOf, hxr, run_underlying hD, hi0, hin2, T0.run_sizeOf hoke, addr_add' hsp, hsze]
    · cases hs
  · rename_i e n k i hk e2
    split at hs
    · rename_i c xs hob
      split at hs
      · rename_i hty
        cases hs
        rw [e2] at hvy
        have hiy := int_of hvy
        obtain ⟨hi0, hin⟩ := inside_iff.1 hok
        have hin2 : i < (xs.length : Int) := by simpa [iof, xlen] using hin
        obtain ⟨D, hD, hkD⟩ := T0.und (TI.ok_of hk (by simp))
        rw [hk] at hkD; rw [tk_slice hkD] at hD
        obtain ⟨hoke, hsze⟩ := tyOK_iff hty
        have hx : ∃ eo, μ[n]? = some eo ∧ a.eval x = .slice (some ⟨eo.blk, 0, none⟩) eo.len eo.len := by
          generalize a.eval x = z at hvx; cases hvx; exact ⟨_, ‹_›, rfl⟩
        obtain ⟨eo, he, hx⟩ := hx
        obtain ⟨cur, el, hh, hes, hel, _⟩ := h.obs n _ eo hob he
        have hin3 : i < (eo.len : Int) := by rw [hel]; exact hin2
        refine PureRes.same h.agree (x := .pointer (some ⟨eo.blk, i.toNat * eo.esz + 0, none⟩)) ?_ (.ept n _ 0 eo he (by omega)) rfl
        simp [execOp, ho, Instr.indexAt, hiy, asIntOf, hx, run_underlying hD, hi0, hin3, T0.run_sizeOf hoke, addr_add, hsze, hes]
      · cases hs
    · cases hs
  · rename_i n e cs k i hk e2
    split at hs
    · rename_i c hc
      split at hs
      · rename_i xs hlen hdec
        cases hs
        rw [e2] at hvy
        have hiy := int_of hvy
        obtain ⟨hi0, hin⟩ := inside_iff.1 hok
        have hin2 : i < (n : Int) := by simpa [iof] using hin
        obtain ⟨D, hD, hkD⟩ := T0.und (TI.ok_of hk (by simp))
        rw [hk] at hkD; rw [tk_array hkD] at hD
        obtain ⟨hoke, hagg, _⟩ := T0.ty e c hc
        have hpos := Ty.sz_pos c
        have hsze := T0.ty_sz hc
        have hx : ∃ (ad : Addr) (f : Nat → Value), ad.spot = none ∧ a.eval x = .pointer (some ad) ∧ (∀ (j : Nat) v, cs[j]? = some v → H ad.block (ad.off + j) = some (f j)) ∧ (∀ (j : Nat) v, cs[j]? = some v → VR H μ v (f j)) := by
          generalize a.eval x = z at hvx; cases hvx; rename_i ad f1 hsp h1 h2; exact ⟨ad, f1, hsp, rfl, h1, h2⟩
        obtain ⟨ad, f1, hsp, hx, h1, h2⟩ := hx
        obtain ⟨hxl, hw⟩ := groups_cells hpos (Nat.eq_of_beq_eq_true hlen) hdec (i := i.toNat) (by omega)
        have hget : ∀ (j : Nat) v, (enc c (xget xs i.toNat)).cells[j]? = some v → ∃ v0, cs[i.toNat * c.sz + j]? = some v0 ∧ Wk v0 v := by
          intro j v hv
          obtain ⟨v0, h3, h4⟩ := hw.get hv
          rw [List.getElem?_take] at h3
          split at h3
          · rw [List.getElem?_drop] at h3; exact ⟨v0, h3, h4⟩
          · cases h3
        refine PureRes.same h.agree (x := .pointer (some ⟨ad.block, ad.off + i.toNat * c.sz, none⟩)) ?_
          (.rp _ ⟨ad.block, ad.off + i.toNat * c.sz, none⟩ (fun j => f1 (i.toNat * c.sz + j)) rfl (fun j v hv => ?_) (fun j v hv => ?_)) rfl
        · simp [execOp, ho, Instr.indexAt, hiy, asIntOf, hx, run_underlying hD, Instr.sureAddr, hi0, hin2, T0.run_sizeOf hoke, addr_add' hsp, hsze]
        · obtain ⟨v0, h3, _⟩ := hget j v hv
          have := h1 _ v0 h3
          rw [Nat.add_assoc]; exact this
        · obtain ⟨v0, h3, h4⟩ := hget j v hv
          exact h4.1 _ _ _ (h2 _ v0 h3)
      · cases hs
    · cases hs
  · cases hs
theorem index_sound (T0 : TabOK P cx) (h : Inv g G H μ fr O a.tmps w) (hgl : GlOK cx.gl H) (hp : pcOf fr p = true) {t : Nat} {x ix : Operand} (ho : o.op = .index t x ix)
    (hrx : readable G p x = true) (hry : readable G p ix = true) {ok : Bool} {v : V} (hs : indexV cx t (ov cx fr x) (ov cx fr ix) = .pure ok v) (hok : ok = true) : PureRes P H μ w (execOp a.eval o) v := by
  have hvx := (ov_val h hgl hp hrx).1
  have hvy := (ov_val h hgl hp hry).1
  generalize ov cx fr x = X at hs hvx
  unfold indexV at hs
  split at hs
  · rename_i n e cs k i hk e2
    split at hs
    · rename_i c hc
      split at hs
      · rename_i xs hlen hdec
        cases hs
        rw [e2] at hvy
        have hiy := int_of hvy
        obtain ⟨hi0, hin⟩ := inside_iff.1 hok
        have hin2 : i < (n : Int) := by simpa [iof] using hin
        obtain ⟨D, hD, hkD⟩ := T0.und (TI.ok_of hk (by simp))
        rw [hk] at hkD; rw [tk_array hkD] at hD
        obtain ⟨hoke, hagg, _⟩ := T0.ty e c hc
        have hpos := Ty.sz_pos c
        have hsze := T0.ty_sz hc
        obtain ⟨ys, hx, hl, hr⟩ := agg_of hvx
        have hlen' := Nat.eq_of_beq_eq_true hlen
        obtain ⟨hxl, hw⟩ := groups_cells hpos hlen' hdec (i := i.toNat) (by omega)
        have hcnt : i.toNat * c.sz + c.sz ≤ cs.length := by
          rw [hlen']
          calc i.toNat * c.sz + c.sz = (i.toNat + 1) * c.sz := by rw [Nat.add_mul, Nat.one_mul]
            _ ≤ n * c.sz := Nat.mul_le_mul_right _ (by omega)
        have hget : ∀ (j : Nat) v y, (enc c (xget xs i.toNat)).cells[j]? = some v → ys[i.toNat * c.sz + j]? = some y → VR H μ v y := by
          intro j v y hv hy
          obtain ⟨v0, h3, h4⟩ := hw.get hv
          rw [List.getElem?_take] at h3
          split at h3
          · rw [List.getElem?_drop] at h3; exact h4.1 _ _ _ (hr _ v0 y h3 hy)
          · cases h3
        have hrun : ∃ y, (part e ys (i.toNat * c.sz)).run P w = .ok y w ∧ VR H μ (enc c (xget xs i.toNat)) y := by
          unfold part
          simp only [Sem.run_bind, T0.run_isAgg hoke, Result.andThen_ok, hagg]
          cases hc' : c.isAgg with
          | true =>
            refine ⟨.agg (ys.extract (i.toNat * c.sz) (i.toNat * c.sz + c.sz)), by simp [T0.run_sizeOf hoke, hsze], ?_⟩
            rw [enc_agg hc']
            refine .agg _ _ (by rw [enc_len]; simp; omega) fun j v y hv hy => ?_
            rw [Array.getElem?_extract] at hy
            split at hy
            · exact hget j v y hv hy
            · cases hy
          | false =>
            obtain ⟨hcell, hs1⟩ := enc_single hc' (xget xs i.toNat)
            have hlt : i.toNat * c.sz < ys.size := by rw [← hl]; omega
            refine ⟨ys[i.toNat * c.sz], by simp [hlt], ?_⟩
            exact hget 0 _ _ (by rw [hcell]; rfl) (by rw [Nat.add_zero]; exact Array.getElem?_eq_getElem hlt)
        obtain ⟨y, hy, hv⟩ := hrun
        refine PureRes.same h.agree (x := y) ?_ hv (enc_dis _ _)
        rw [← hsze] at hy
        simp [execOp, ho, Instr.index, hiy, asIntOf, hx, run_underlying hD, hi0, hin2, T0.run_sizeOf hoke, hy]
      · cases hs
    · cases hs
  · rename_i s k i hk e2
    cases hs
    rw [e2] at hvy
    have hiy := int_of hvy
    have hx := str_of hvx
    obtain ⟨hi0, hin⟩ := inside_iff.1 hok
    obtain ⟨D, hD, hkD⟩ := T0.und (TI.ok_of hk (by simp))
    rw [hk] at hkD; rw [tk_str hkD] at hD
    have hlt : i.toNat < s.size := by simp only [slen] at hin; omega
    refine PureRes.same h.agree (x := .int .u8 (sget s i)) ?_ (.i .u8 _) rfl
    have hget : s[i.toNat]? = some s[i.toNat] := by simp [hlt]
    have hsg : sget s i = ((s[i.toNat]).toNat : Int) := by
      unfold sget
      congr 1
      have : s.data.toList[i.toNat]? = some s[i.toNat] := by
        rw [Array.getElem?_toList]
        exact Array.getElem?_eq_getElem hlt
      simp [List.getD, this]
    simp [execOp, ho, Instr.index, hiy, asIntOf, hx, run_underlying hD, hi0, hget, hsg]
  · cases hs
theorem run_bound {k : IntKind} {i : Int} {n : Nat} {c : BoundsCode} (h0 : 0 ≤ i) (h1 : i ≤ n) : (Instr.sliceBound (.int k i) n c).run P w = .ok i.toNat w := by
  simp [Instr.sliceBound, asIntOf, h0, h1]
theorem run_sliceBounds {LO HI : Option Value} {isS : Bool} {len cap l h : Nat} (hH : ∀ v, HI = some v → (Instr.sliceBound v cap (if isS then .sliceAcap else .sliceAlen)).run P w = .ok h w) (hH' : HI = none → h = len)
    (hL : ∀ v, LO = some v → (Instr.sliceBound v h .sliceB).run P w = .ok l w) (hL' : LO = none → l = 0) : (Instr.sliceBounds isS len cap LO HI none).run P w = .ok (l, h, cap) w := by
  cases LO with
  | none =>
    have e := hL' rfl
    subst e
    cases HI with
    | none => have e := hH' rfl; subst e; simp [Instr.sliceBounds]
    | some v => have e := hH v rfl; simp only [Instr.sliceBounds, Sem.run_bind, Sem.run_pure, Result.andThen_ok, e, Option.isSome_none, Bool.false_eq_true, if_false]
  | some v0 =>
    have e0 := hL v0 rfl
    cases HI with
    | none => have e := hH' rfl; subst e; simp only [Instr.sliceBounds, Sem.run_bind, Sem.run_pure, Result.andThen_ok, e0, Option.isSome_none, Bool.false_eq_true, if_false]
    | some v => have e := hH v rfl; simp only [Instr.sliceBounds, Sem.run_bind, Sem.run_pure, Result.andThen_ok, e, e0, Option.isSome_none, Bool.false_eq_true, if_false]
theorem cut_vr {c : Ty} {xs : List (T c)} {own : Bool} {b : Option Addr} {cap l h : Nat} (hv : VR H μ (.sl c xs own) (.slice b xs.length cap)) (h1 : l ≤ h) (h2 : h ≤ xs.length) :
    VR H μ (.sl c ((xs.take h).drop l) false) (.slice (if cap = l then b else b.map (·.add (l * c.sz))) (h - l) (cap - l)) := by
  have hlen : ((xs.take h).drop l).length = h - l := by simp; omega
  by_cases e : h - l = 0
  · have hn : (xs.take h).drop l = [] := List.eq_nil_of_length_eq_zero (by rw [hlen, e])
    rw [hn, e]; exact .sl0 c false _ _
  · obtain ⟨ad, cap', f, hx, hsp, hl, h3, h4⟩ := sl_of hv (by omega)
    cases hx
    have hne : ¬ (cap = l) := by omega
    rw [if_neg hne, Option.map_some, addr_add' hsp]
    have hget : ∀ (i : Nat) x, ((xs.take h).drop l)[i]? = some x → xs[l + i]? = some x := by
      intro i x hi
      rw [List.getElem?_drop, List.getElem?_take] at hi
      split at hi
      · exact hi
      · cases hi
    have := VR.sl (H := H) (μ := μ) c ((xs.take h).drop l) false ⟨ad.block, ad.off + l * c.sz, none⟩ (cap - l) (fun i j => f (l + i) j) rfl (by rw [hlen]; omega)
      (fun i x j v hi hv' => by
        have := h3 _ x j v (hget i x hi) hv'
        have e2 : ad.off + (l + i) * c.sz + j = ad.off + l * c.sz + i * c.sz + j := by rw [Nat.add_mul]; omega
        rw [← e2]; exact this)
      (fun i x j v hi hv' => h4 _ x j v (hget i x hi) hv')
    rw [hlen] at this
    exact this
theorem slice_sound (T0 : TabOK P cx) (h : Inv g G H μ fr O a.tmps w) (hgl : GlOK cx.gl H) (hp : pcOf fr p = true) {t : Nat} {x : Operand} {lo hi : Option Operand} (ho : o.op = .slice t x lo hi none)
    (hrx : readable G p x = true) (hrl : ∀ q, lo = some q → readable G p q = true) (hrh : ∀ q, hi = some q → readable G p q = true) {ok : Bool} {v : V} (hs : sliceLH cx t (ov cx fr x) (loV cx fr lo) (hiV cx fr hi) = .pure ok v) (hok : ok = true) :
    PureRes P H μ w (execOp a.eval o) v := by
  have hvx := (ov_val h hgl hp hrx).1
  have hlow : ∀ k l, loV cx fr lo = .i k l → (∀ v, lo.map a.eval = some v → v = .int k l) ∧ (lo.map a.eval = none → l = 0) := by
    intro k l hl
    cases lo with
    | none => simp [loV] at hl; obtain ⟨_, rfl⟩ := hl; exact ⟨fun v e => (by cases e), fun _ => rfl⟩
    | some q =>
      have := (ov_val h hgl hp (hrl q rfl)).1
      simp only [loV] at hl
      rw [hl] at this
      exact ⟨fun v e => by simp at e; rw [← e]; exact int_of this, fun e => by cases e⟩
  have hhigh : ∀ k l, hiV cx fr hi = some (.i k l) → hi.map a.eval = some (.int k l) := by
    intro k l hl
    cases hi with
    | none => cases hl
    | some q =>
      have := (ov_val h hgl hp (hrh q rfl)).1
      simp only [hiV, Option.some.injEq] at hl
      rw [hl] at this
      rw [Option.map_some, int_of this]
  have hnone : hiV cx fr hi = none → hi.map a.eval = none := by
    intro e; cases hi with
    | none => rfl
    | some q => cases e
  have hb : ∀ (isS : Bool) (len cap : Nat) k l h', loV cx fr lo = .i k l → 0 ≤ l → l ≤ h' → h' ≤ (len : Int) → len ≤ cap → ((∃ k2, hiV cx fr hi = some (.i k2 h')) ∨ (hiV cx fr hi = none ∧ h' = len)) →
      (Instr.sliceBounds isS len cap (lo.map a.eval) (hi.map a.eval) none).run P w = .ok (l.toNat, h'.toNat, cap) w := by
    intro isS len cap k l h' hl h0 h1 h2 h3 hh
    obtain ⟨hl1, hl2⟩ := hlow k l hl
    refine run_sliceBounds (fun v hv => ?_) (fun hv => ?_) (fun v hv => ?_) (fun hv => ?_)
    · rcases hh with ⟨k2, e⟩ | ⟨e, _⟩
      · rw [hhigh _ _ e] at hv; cases hv; exact run_bound (by omega) (by omega)
      · rw [hnone e] at hv; cases hv
    · rcases hh with ⟨k2, e⟩ | ⟨_, e⟩
      · rw [hhigh _ _ e] at hv; cases hv
      · omega
    · rw [hl1 v hv]; exact run_bound h0 (by omega)
    · have := hl2 hv; omega
  generalize ov cx fr x = X at hs hvx
  generalize hL : loV cx fr lo = L at hs
  generalize hHI : hiV cx fr hi = HI at hs
  unfold sliceLH at hs
  split at hs
  · rename_i s k l k2 hh hk
    cases hs
    obtain ⟨h0, h1, h2⟩ := bounds_iff.1 hok
    obtain ⟨D, hD, hkD⟩ := T0.und (TI.ok_of hk (by simp))
    rw [hk] at hkD; rw [tk_str hkD] at hD
    have hx := str_of hvx
    have hr := hb false s.size s.size k l hh hL h0 h1 h2 (Nat.le_refl _) (.inl ⟨_, hHI⟩)
    exact PureRes.same h.agree (x := .string (scut s l hh)) (by simp [execOp, ho, Instr.sliceAt, Instr.slice, run_underlying hD, hx, hr, scut]) (.s _) rfl
  · rename_i s k l hk
    cases hs
    obtain ⟨h0, h1, h2⟩ := bounds_iff.1 hok
    obtain ⟨D, hD, hkD⟩ := T0.und (TI.ok_of hk (by simp))
    rw [hk] at hkD; rw [tk_str hkD] at hD
    have hx := str_of hvx
    have hr := hb false s.size s.size k l (s.size : Int) hL h0 h1 (Int.le_refl _) (Nat.le_refl _) (.inr ⟨hHI, rfl⟩)
    exact PureRes.same h.agree (x := .string (scut s l (slen s))) (by simp [execOp, ho, Instr.sliceAt, Instr.slice, run_underlying hD, hx, hr, scut, slen]) (.s _) rfl
  · rename_i e c xs own k l k2 hh hk
    split at hs
    · rename_i hty
      cases hs
      obtain ⟨h0, h1, h2⟩ := bounds_iff.1 hok
      obtain ⟨D, hD, hkD⟩ := T0.und (TI.ok_of hk (by simp))
      rw [hk] at hkD; rw [tk_slice hkD] at hD
      obtain ⟨hoke, hsze⟩ := tyOK_iff hty
      have h2' : hh ≤ (xs.length : Int) := h2
      obtain ⟨b, cap, hx⟩ := sl_len hvx
      have hcap : xs.length ≤ cap ∨ xs.length = 0 := by
        by_cases e0 : 0 < xs.length
        · obtain ⟨ad, cap', f, hx', _, hl, _⟩ := sl_of hvx e0
          rw [hx] at hx'; cases hx'; exact .inl hl
        · exact .inr (by omega)
      have hr := hb true xs.length cap k l hh hL h0 h1 h2' (by omega) (.inl ⟨_, hHI⟩)
      refine PureRes.same h.agree (x := .slice (if cap = l.toNat then b else b.map (·.add (l.toNat * c.sz))) (hh.toNat - l.toNat) (cap - l.toNat)) ?_ ?_ rfl
      · simp [execOp, ho, Instr.sliceAt, Instr.slice, run_underlying hD, hx, hr, T0.run_sizeOf hoke, hsze]
      · exact cut_vr (by rw [← hx]; exact hvx) (by omega) (by omega)
    · cases hs
  · rename_i e c xs own k l hk
    split at hs
    · rename_i hty
      cases hs
      obtain ⟨h0, h1, h2⟩ := bounds_iff.1 hok
      obtain ⟨D, hD, hkD⟩ := T0.und (TI.ok_of hk (by simp))
      rw [hk] at hkD; rw [tk_slice hkD] at hD
      obtain ⟨hoke, hsze⟩ := tyOK_iff hty
      obtain ⟨b, cap, hx⟩ := sl_len hvx
      have hcap : xs.length ≤ cap ∨ xs.length = 0 := by
        by_cases e0 : 0 < xs.length
        · obtain ⟨ad, cap', f, hx', _, hl, _⟩ := sl_of hvx e0
          rw [hx] at hx'; cases hx'; exact .inl hl
        · exact .inr (by omega)
      have h1' : l ≤ (xs.length : Int) := h1
      have hr := hb true xs.length cap k l (xs.length : Int) hL h0 h1' (Int.le_refl _) (by omega) (.inr ⟨hHI, rfl⟩)
      refine PureRes.same h.agree (x := .slice (if cap = l.toNat then b else b.map (·.add (l.toNat * c.sz))) (xs.length - l.toNat) (cap - l.toNat)) ?_ ?_ rfl
      · simp [execOp, ho, Instr.sliceAt, Instr.slice, run_underlying hD, hx, hr, T0.run_sizeOf hoke, hsze]
      · have := cut_vr (l := l.toNat) (h := xs.length) (by rw [← hx]; exact hvx) (by omega) (Nat.le_refl _)
        rw [List.take_length] at this
        exact this
    · cases hs
  · cases hs
end
end Go.Ev
namespace Go.Ev
open Go
section
variable {P : Program} {cx : Cx} {g : Gh} {G : List (Nat × Path)} {H : HM} {μ : MU} {fr : List V} {O : List Ob} {a : Act} {w : World} {o : Oper} {p : Path}
theorem argsV_get (h : Inv g G H μ fr O a.tmps w) (hgl : GlOK cx.gl H) (hp : pcOf fr p = true) : ∀ (ops : List Operand) (tys : List Nat) (vs : List V), (∀ x ∈ ops, readable G p x = true) → argsV cx fr ops tys = some vs →
    ops.length = vs.length ∧ tys.length = vs.length ∧ ∀ (j : Nat) x v, ops[j]? = some x → vs[j]? = some v → Val H μ w v (a.eval x)
  | [], [], vs, _, e => by simp only [argsV] at e; cases e; exact ⟨rfl, rfl, fun j x v hx => by simp at hx⟩
  | x :: r, [], vs, _, e => by simp [argsV] at e
  | [], t :: ts, vs, _, e => by simp [argsV] at e
  | x :: r, t :: ts, vs, hr, e => by
    unfold argsV at e
    split at e
    · rename_i vs' e'
      cases e
      obtain ⟨h1, h2, h3⟩ := argsV_get h hgl hp r ts vs' (fun x hx => hr x (by simp [hx])) e'
      refine ⟨by simp [h1], by simp [h2], fun j x' v hx hv => ?_⟩
      cases j with
      | zero => simp at hx hv; subst hx; subst hv; exact nrm_val (cx := cx) t (ov_val h hgl hp (hr x (by simp)))
      | succ j => exact h3 j x' v (by simpa using hx) (by simpa using hv)
    · cases e
theorem run_builtin_call {bt : Builtin} {c : Call} (ho : o.op = .call c) (hc : c.callee = .builtin bt) {r : Result Next} (hr : ∀ cs, (builtin bt c.argTypes o.type cs (c.args.map a.eval)).run P w = r) :
    (execOp a.eval o).run P w = r := by
  simp only [execOp, ho, resolve, hc]
  simpa [invoke] using hr _
theorem len_sound (T0 : TabOK P cx) (h : Inv g G H μ fr O a.tmps w) (hgl : GlOK cx.gl H) (hp : pcOf fr p = true) {c : Call} (ho : o.op = .call c) (hc : c.callee = .builtin .len) (hr : ∀ x ∈ c.args.toList, readable G p x = true)
    {t : Nat} {v : V} {n : Int} (ht : c.argTypes.toList = [t]) (hv : argsV cx fr c.args.toList c.argTypes.toList = some [v]) (hn : lenV cx t O v = some n) : PureRes P H μ w (execOp a.eval o) (.i .i64 n) := by
  obtain ⟨hl1, hl2, hval⟩ := argsV_get h hgl hp _ _ _ hr hv
  obtain ⟨x, hx⟩ : ∃ x, c.args.toList = [x] := by
    cases e : c.args.toList with
    | nil => rw [e] at hl1; simp at hl1
    | cons x r =>
      rw [e] at hl1
      cases r with
      | nil => exact ⟨x, rfl⟩
      | cons y r => simp at hl1
  have hxv := (hval 0 x v (by rw [hx]; rfl) rfl).1
  have hargs : c.args = #[x] := by rw [← Array.toList_inj]; simpa using hx
  have htys : c.argTypes = #[t] := by rw [← Array.toList_inj]; simpa using ht
  refine PureRes.same h.agree (x := .int .i64 n) (run_builtin_call ho hc fun cs => ?_) (.i .i64 n) rfl
  simp only [builtin, hargs, htys]
  unfold lenV at hn
  split at hn
  · rename_i e c' xs own hk
    cases hn
    obtain ⟨D, hD, hkD⟩ := T0.und (TI.ok_of hk (by simp))
    rw [hk] at hkD; rw [tk_slice hkD] at hD
    obtain ⟨b, cap, hxe⟩ := sl_len hxv
    simp [Builtin.len_, run_underlying hD, hxe, goInt, iof, xlen]
  · rename_i s hk
    cases hn
    obtain ⟨D, hD, hkD⟩ := T0.und (TI.ok_of hk (by simp))
    rw [hk] at hkD; rw [tk_str hkD] at hD
    simp [Builtin.len_, run_underlying hD, str_of hxv, goInt, slen]
  · rename_i e m hk
    split at hn
    · rename_i c' xs hob
      cases hn
      obtain ⟨D, hD, hkD⟩ := T0.und (TI.ok_of hk (by simp))
      rw [hk] at hkD; rw [tk_slice hkD] at hD
      have hx' : ∃ eo, μ[m]? = some eo ∧ a.eval x = .slice (some ⟨eo.blk, 0, none⟩) eo.len eo.len := by
        generalize a.eval x = z at hxv; cases hxv; exact ⟨_, ‹_›, rfl⟩
      obtain ⟨eo, he, hx'⟩ := hx'
      obtain ⟨_, _, _, _, hel, _⟩ := h.obs m _ eo hob he
      simp [Builtin.len_, run_underlying hD, hx', goInt, iof, xlen, hel]
    · cases hn
  · rename_i n' e cs hk
    cases hn
    obtain ⟨D, hD, hkD⟩ := T0.und (TI.ok_of hk (by simp))
    rw [hk] at hkD; rw [tk_array hkD] at hD
    obtain ⟨xs, hx', _⟩ := agg_of hxv
    simp [Builtin.len_, run_underlying hD, hx', goInt, iof]
  · cases hn
theorem maxL_sound : ∀ (k : IntKind) (i : Int) (vs : List V) (xs : List Value) (v : V), vs.length = xs.length → (∀ (j : Nat) v x, vs[j]? = some v → xs[j]? = some x → VR H μ v x) → maxL k i vs = some v →
    (xs.foldlM Builtin.max2 (.int k i)).run P w = .ok (match v with | .i k n => .int k n | _ => undef) w ∧ ∃ n, v = .i k n
  | k, i, [], xs, v, hl, _, e => by
    have : xs = [] := List.eq_nil_of_length_eq_zero hl.symm
    subst this
    simp only [maxL] at e; cases e
    exact ⟨rfl, i, rfl⟩
  | k, i, u0 :: r, [], v, hl, _, e => by simp at hl
  | k, i, u0 :: r, y :: ys, v, hl, hv, e => by
    have h0 := hv 0 u0 y rfl rfl
    cases u0 <;> simp only [maxL] at e <;> try (cases e)
    rename_i k' n'
    split at e
    · rename_i hk
      subst hk
      obtain ⟨h1, h2⟩ := maxL_sound k (imax i n') r ys v (by simpa using hl) (fun j v x h3 h4 => hv (j + 1) v x (by simpa using h3) (by simpa using h4)) e
      refine ⟨?_, h2⟩
      rw [int_of h0]
      simp only [List.foldlM_cons, Builtin.max2, Sem.run_bind, Sem.run_pure, Result.andThen_ok]
      exact h1
    · cases e
theorem minL_sound : ∀ (k : IntKind) (i : Int) (vs : List V) (xs : List Value) (v : V), vs.length = xs.length → (∀ (j : Nat) v x, vs[j]? = some v → xs[j]? = some x → VR H μ v x) → minL k i vs = some v →
    (xs.foldlM Builtin.min2 (.int k i)).run P w = .ok (match v with | .i k n => .int k n | _ => undef) w ∧ ∃ n, v = .i k n
  | k, i, [], xs, v, hl, _, e => by
    have : xs = [] := List.eq_nil_of_length_eq_zero hl.symm
    subst this
    simp only [minL] at e; cases e
    exact ⟨rfl, i, rfl⟩
  | k, i, u0 :: r, [], v, hl, _, e => by simp at hl
  | k, i, u0 :: r, y :: ys, v, hl, hv, e => by
    have h0 := hv 0 u0 y rfl rfl
    cases u0 <;> simp only [minL] at e <;> try (cases e)
    rename_i k' n'
    split at e
    · rename_i hk
      subst hk
      obtain ⟨h1, h2⟩ := minL_sound k (imin i n') r ys v (by simpa using hl) (fun j v x h3 h4 => hv (j + 1) v x (by simpa using h3) (by simpa using h4)) e
      refine ⟨?_, h2⟩
      rw [int_of h0]
      simp only [List.foldlM_cons, Builtin.min2, Sem.run_bind, Sem.run_pure, Result.andThen_ok]
      exact h1
    · cases e
theorem maxmin_sound (h : Inv g G H μ fr O a.tmps w) (hgl : GlOK cx.gl H) (hp : pcOf fr p = true) {c : Call} (ho : o.op = .call c) (hr : ∀ x ∈ c.args.toList, readable G p x = true)
    {k : IntKind} {i : Int} {r : List V} {v : V} (hv : argsV cx fr c.args.toList c.argTypes.toList = some (.i k i :: r))
    (hm : (c.callee = .builtin .max ∧ maxL k i r = some v) ∨ (c.callee = .builtin .min ∧ minL k i r = some v)) : PureRes P H μ w (execOp a.eval o) v := by
  obtain ⟨hl1, hl2, hval⟩ := argsV_get h hgl hp _ _ _ hr hv
  obtain ⟨x, xr, hx⟩ : ∃ x xr, c.args.toList = x :: xr := by
    cases e : c.args.toList with
    | nil => rw [e] at hl1; simp at hl1
    | cons x r => exact ⟨x, r, rfl⟩
  have hx0 := int_of (hval 0 x _ (by rw [hx]; rfl) rfl).1
  have hrest : r.length = (xr.map a.eval).length := by rw [hx] at hl1; simp at hl1 ⊢; omega
  have hrv : ∀ (j : Nat) v y, r[j]? = some v → (xr.map a.eval)[j]? = some y → VR H μ v y := by
    intro j v y h1 h2
    rw [List.getElem?_map] at h2
    cases hq : xr[j]? with
    | none => rw [hq] at h2; cases h2
    | some q =>
      rw [hq] at h2; cases h2
      exact (hval (j + 1) q v (by rw [hx]; simpa using hq) (by simpa using h1)).1
  have hargs : (c.args.map a.eval).toList = .int k i :: xr.map a.eval := by rw [Array.toList_map, hx, List.map_cons, hx0]
  rcases hm with ⟨hc, hm⟩ | ⟨hc, hm⟩
  · obtain ⟨h1, n, rfl⟩ := maxL_sound (P := P) (w := w) k i r _ v hrest hrv hm
    refine PureRes.same h.agree (x := .int k n) (run_builtin_call ho hc fun cs => ?_) (.i k n) rfl
    simp only [builtin, Builtin.max_, hargs]
    simpa using run_v h1
  · obtain ⟨h1, n, rfl⟩ := minL_sound (P := P) (w := w) k i r _ v hrest hrv hm
    refine PureRes.same h.agree (x := .int k n) (run_builtin_call ho hc fun cs => ?_) (.i k n) rfl
    simp only [builtin, Builtin.min_, hargs]
    simpa using run_v h1
end
end Go.Ev
namespace Go.Ev
open Go
def RowR (H : HM) (μ : MU) (cs : List V) (ys : Array Value) : Prop := ys.size = cs.length ∧ ∀ (j : Nat) v y, cs[j]? = some v → ys[j]? = some y → VR H μ v y
def overA : Array Value → Nat → List Value → Array Value
  | ys, _, [] => ys
  | ys, o, v :: r => overA (ys.setIfInBounds o v) (o + 1) r
theorem foldl_overA (off : Nat) : ∀ (l : List Value) (k : Nat) (ys : Array Value), (l.zipIdx k).foldl (fun cs (x : Value × Nat) => cs.setIfInBounds (off + x.2) x.1) ys = overA ys (off + k) l
  | [], k, ys => rfl
  | v :: r, k, ys => by
    rw [List.zipIdx_cons, List.foldl_cons, foldl_overA off r (k + 1)]
    rfl
theorem fold_overA (off : Nat) (l ys : Array Value) : l.zipIdx.foldl (fun cs (x : Value × Nat) => cs.setIfInBounds (off + x.2) x.1) ys = overA ys off l.toList := by
  rw [← Array.foldl_toList, Array.toList_zipIdx, foldl_overA]
  rfl
theorem RowR.set {H : HM} {μ : MU} {cs : List V} {ys : Array Value} (h : RowR H μ cs ys) (o : Nat) {v : V} {y : Value} (hv : VR H μ v y) : RowR H μ (cs.set o v) (ys.setIfInBounds o y) := by
  refine ⟨by simpa using h.1, fun j v' y' h1 h2 => ?_⟩
  by_cases e : o = j
  · subst e
    have hlt : o < cs.length := by
      rcases Nat.lt_or_ge o cs.length with h' | h'
      · exact h'
      · rw [List.getElem?_eq_none (by simpa using h')] at h1; cases h1
    rw [List.getElem?_set_self hlt] at h1
    rw [Array.getElem?_setIfInBounds_self_of_lt (by rw [h.1]; exact hlt)] at h2
    cases h1; cases h2; exact hv
  · rw [List.getElem?_set_ne e] at h1
    rw [Array.getElem?_setIfInBounds_ne e] at h2
    exact h.2 j v' y' h1 h2
theorem RowR.over {H : HM} {μ : MU} : ∀ (vs : List V) (us : List Value) {cs : List V} {ys : Array Value} (o : Nat), vs.length = us.length → (∀ (j : Nat) v u, vs[j]? = some v → us[j]? = some u → VR H μ v u) → RowR H μ cs ys →
    RowR H μ (over cs o vs) (overA ys o us)
  | [], [], _, _, _, _, _, h => h
  | [], u :: us, _, _, _, e, _, _ => by simp at e
  | v :: vs, [], _, _, _, e, _, _ => by simp at e
  | v :: vs, u :: us, cs, ys, o, e, hv, h => RowR.over vs us (o + 1) (by simpa using e) (fun j v u h1 h2 => hv (j + 1) v u (by simpa using h1) (by simpa using h2)) (h.set o (hv 0 v u rfl rfl))
theorem len_over : ∀ (vs : List V) (cs : List V) (o : Nat), (over cs o vs).length = cs.length
  | [], _, _ => rfl
  | v :: vs, cs, o => by rw [over, len_over]; simp
theorem size_overA : ∀ (us : List Value) (ys : Array Value) (o : Nat), (overA ys o us).size = ys.size
  | [], _, _ => rfl
  | v :: vs, cs, o => by rw [overA, size_overA]; simp
theorem get_over : ∀ (vs cs : List V) (o j : Nat), (over cs o vs)[j]? = if o ≤ j ∧ j < o + vs.length ∧ j < cs.length then vs[j - o]? else cs[j]?
  | [], cs, o, j => by
    simp only [over, List.length_nil]
    rw [if_neg (by omega)]
  | v :: vs, cs, o, j => by
    rw [over, get_over vs (cs.set o v) (o + 1) j]
    simp only [List.length_set, List.length_cons]
    by_cases h : o + 1 ≤ j ∧ j < o + 1 + vs.length ∧ j < cs.length
    · rw [if_pos h, if_pos (by omega)]
      have : j - o = (j - (o + 1)) + 1 := by omega
      rw [this]; rfl
    · rw [if_neg h]
      by_cases e : o = j
      · subst e
        by_cases hl : o < cs.length
        · rw [if_pos (by omega), List.getElem?_set_self hl]; simp
        · rw [if_neg (by omega)]; simp [hl]
      · rw [List.getElem?_set_ne e, if_neg (by omega)]
section
variable {P : Program} {cx : Cx} {g : Gh} {G : List (Nat × Path)} {H : HM} {μ : MU} {fr : List V} {O : List Ob} {a : Act} {w : World} {o : Oper} {p : Path}
theorem fill_struct {fs : List (Nat × Nat)} {place : Nat → Option (Nat × Nat)} (hpl : ∀ i off ft, fs[i]? = some (off, ft) → (cx.ti ft).ok = true → place i = some (off, (cx.ti ft).sz)) (hgood : True) :
    ∀ (ps : List (Nat × V)) (qs : List (Nat × Value)) (cs : List V) (ys : Array Value) (r : List V), ps.length = qs.length → (∀ (j : Nat) x y, ps[j]? = some x → qs[j]? = some y → x.1 = y.1 ∧ Val H μ w x.2 y.2) →
      RowR H μ cs ys → buildV cx fs cs ps = some r → ∃ zs, Instr.fill place ys qs = some zs ∧ RowR H μ r zs
  | [], [], cs, ys, r, _, _, h, e => by simp only [buildV] at e; cases e; exact ⟨ys, rfl, h⟩
  | [], q :: qs, _, _, _, e, _, _, _ => by simp at e
  | x :: ps, [], _, _, _, e, _, _, _ => by simp at e
  | (i, v) :: ps, (i', y) :: qs, cs, ys, r, hl, hv, h, e => by
    obtain ⟨hi, hvy⟩ := hv 0 _ _ rfl rfl
    simp only at hi hvy
    subst hi
    unfold buildV at e
    split at e
    · cases e
    · rename_i off ft hf
      dsimp only at e
      split at e
      · rename_i hc
        obtain ⟨h1, h2, h3, h4⟩ := hc
        have hvr : VR H μ (nrm cx ft v).dis y := (nrm_val (cx := cx) ft hvy).1.dis
        obtain ⟨hlen, hcell⟩ := hvr.cells h2
        have hpl' := hpl i off ft hf h1
        have hrow : RowR H μ (over cs off (nrm cx ft v).dis.cells) (overA ys off y.cells.toList) :=
          RowR.over _ _ off (by simpa using hlen) (fun j v u h5 h6 => hcell j v u h5 (by simpa using h6)) h
        obtain ⟨zs, hz, hr⟩ := fill_struct hpl hgood ps qs _ _ r (by simpa using hl) (fun j x y h1 h2 => hv (j + 1) x y (by simpa using h1) (by simpa using h2)) hrow e
        refine ⟨zs, ?_, hr⟩
        rw [Instr.fill]
        simp only [hpl']
        rw [if_neg (by rw [← hlen, h3, h.1]; simp; omega), fold_overA]
        exact hz
      · cases e
theorem fill_array {e n : Nat} {place : Nat → Option (Nat × Nat)} (hpl : ∀ i, place i = some (i * (cx.ti e).sz, (cx.ti e).sz)) :
    ∀ (ps : List (Nat × V)) (qs : List (Nat × Value)) (cs : List V) (ys : Array Value) (r : List V), ps.length = qs.length → (∀ (j : Nat) x y, ps[j]? = some x → qs[j]? = some y → x.1 = y.1 ∧ Val H μ w x.2 y.2) →
      RowR H μ cs ys → arrV cx e n cs ps = some r → (cx.ti e).ok = true ∧ ∃ zs, Instr.fill place ys qs = some zs ∧ RowR H μ r zs
  | [], [], cs, ys, r, _, _, h, e => by
    simp only [arrV] at e
    split at e
    · rename_i ho; cases e; exact ⟨ho, ys, rfl, h⟩
    · cases e
  | [], q :: qs, _, _, _, e, _, _, _ => by simp at e
  | x :: ps, [], _, _, _, e, _, _, _ => by simp at e
  | (i, v) :: ps, (i', y) :: qs, cs, ys, r, hl, hv, h, eq => by
    obtain ⟨hi, hvy⟩ := hv 0 _ _ rfl rfl
    simp only at hi hvy
    subst hi
    unfold arrV at eq
    dsimp only at eq
    split at eq
    · rename_i hc
      obtain ⟨h1, h2, h3, h4⟩ := hc
      have hvr : VR H μ (nrm cx e v).dis y := (nrm_val (cx := cx) e hvy).1.dis
      obtain ⟨hlen, hcell⟩ := hvr.cells h2
      have hrow : RowR H μ (over cs (i * (cx.ti e).sz) (nrm cx e v).dis.cells) (overA ys (i * (cx.ti e).sz) y.cells.toList) :=
        RowR.over _ _ _ (by simpa using hlen) (fun j v u h5 h6 => hcell j v u h5 (by simpa using h6)) h
      obtain ⟨ho, zs, hz, hr⟩ := fill_array hpl ps qs _ _ r (by simpa using hl) (fun j x y h1 h2 => hv (j + 1) x y (by simpa using h1) (by simpa using h2)) hrow eq
      refine ⟨ho, zs, ?_, hr⟩
      rw [Instr.fill]
      simp only [hpl i]
      rw [if_neg (by rw [← hlen, h3, h.1]; simp; omega), fold_overA]
      exact hz
    · cases eq
theorem ZRs.row {vs : List V} {ys : Array Value} (h : ZRs vs ys) : RowR H μ vs ys := ⟨h.1, fun j v y h1 h2 => (h.2 j v y h1 h2 H μ default).1⟩
theorem RowR.dis {cs : List V} {ys : Array Value} (h : RowR H μ cs ys) : RowR H μ (cs.map V.dis) ys := by
  refine ⟨by simpa using h.1, fun j v y h1 h2 => ?_⟩
  rw [List.getElem?_map] at h1
  cases hc : cs[j]? with
  | none => rw [hc] at h1; cases h1
  | some c => rw [hc] at h1; cases h1; exact (h.2 j c y hc h2).dis
theorem parts_rel (h : Inv g G H μ fr O a.tmps w) (hgl : GlOK cx.gl H) (hp : pcOf fr p = true) (parts : Array (Nat × Operand)) (hr : ∀ x ∈ parts.toList, readable G p x.2 = true) :
    (parts.toList.map fun q => (q.1, ov cx fr q.2)).length = ((parts.map fun (i, x) => (i, a.eval x)).toList).length ∧
    ∀ (j : Nat) (x : Nat × V) (y : Nat × Value), (parts.toList.map fun q => (q.1, ov cx fr q.2))[j]? = some x → ((parts.map fun (i, x) => (i, a.eval x)).toList)[j]? = some y → x.1 = y.1 ∧ Val H μ w x.2 y.2 := by
  refine ⟨by simp, fun j x y h1 h2 => ?_⟩
  rw [Array.toList_map, List.getElem?_map] at h2
  rw [List.getElem?_map] at h1
  cases hc : parts.toList[j]? with
  | none => rw [hc] at h1; cases h1
  | some c =>
    rw [hc] at h1 h2; cases h1; cases h2
    exact ⟨rfl, ov_val h hgl hp (hr c (mem_of_get hc))⟩
theorem build_sound (T0 : TabOK P cx) (h : Inv g G H μ fr O a.tmps w) (hgl : GlOK cx.gl H) (hp : pcOf fr p = true) {t : Nat} {parts : Array (Nat × Operand)} (ho : o.op = .build t parts) (hr : ∀ x ∈ parts.toList, readable G p x.2 = true)
    {cs : List V} (hb : (∃ fs, (cx.ti t).k = .struct fs ∧ buildV cx fs ((zeroV cx 8 t).map V.dis) (parts.toList.map fun p => (p.1, ov cx fr p.2)) = some cs) ∨
      (∃ n e, (cx.ti t).k = .array n e ∧ arrV cx e n ((zeroV cx 8 t).map V.dis) (parts.toList.map fun p => (p.1, ov cx fr p.2)) = some cs)) : PureRes P H μ w (execOp a.eval o) (.agg cs) := by
  obtain ⟨hl, hv⟩ := parts_rel h hgl hp parts hr
  have key : ∃ zs, P.built t ((parts.map fun (i, x) => (i, a.eval x)).toList) = some zs ∧ RowR H μ cs zs := by
    rcases hb with ⟨fs, hk, hb⟩ | ⟨n, e, hk, hb⟩
    · have hok := TI.ok_of hk (by simp)
      obtain ⟨D, hD, hkD⟩ := T0.und hok
      rw [hk] at hkD
      obtain ⟨F, hF, hfs⟩ := tk_struct hkD
      subst hF
      obtain ⟨i, z, hi, hz, hzr⟩ := T0.zero t hok
      have hpl : ∃ places : List (Nat × Nat), F.toList.mapM (fun f => (P.info? f.type).map fun i => (f.offset, i.size)) = some places ∧ ∀ (i : Nat) off ft, fs[i]? = some (off, ft) → (cx.ti ft).ok = true → places[i]? = some (off, (cx.ti ft).sz) := by
        have hall : ∀ f ∈ F.toList, ∃ i, P.info? f.type = some i := fun f hf => by
          obtain ⟨i, hi, _⟩ := T0.fld t F hD hok f hf; exact ⟨i, hi⟩
        rw [← hfs]
        generalize F.toList = l at hall
        induction l with
        | nil => exact ⟨[], rfl, fun i off ft h => by simp at h⟩
        | cons f l ih =>
          obtain ⟨pl, h1, h2⟩ := ih fun f hf => hall f (by simp [hf])
          obtain ⟨i, hi⟩ := hall f (by simp)
          refine ⟨(f.offset, i.size) :: pl, by simp [List.mapM_cons, hi, h1], fun j off ft h3 h4 => ?_⟩
          cases j with
          | zero =>
            simp at h3
            obtain ⟨rfl, rfl⟩ := h3
            obtain ⟨_, i', hi', hs, _⟩ := T0.ti _ h4
            rw [hi] at hi'; cases hi'
            simp [hs]
          | succ j => simpa using h2 j off ft (by simpa using h3) h4
      obtain ⟨places, hm, hpl⟩ := hpl
      obtain ⟨zs, hf, hrow⟩ := fill_struct (place := (places.toArray[·]?)) (fun i off ft h1 h2 => by simpa using hpl i off ft h1 h2) trivial _ _ _ z.cells cs hl hv (ZRs.row hzr).dis hb
      exact ⟨zs, by simp [Program.built, hi, hD, hz, hm]; simpa using hf, hrow⟩
    · have hok := TI.ok_of hk (by simp)
      obtain ⟨D, hD, hkD⟩ := T0.und hok
      rw [hk] at hkD; rw [tk_array hkD] at hD
      obtain ⟨i, z, hi, hz, hzr⟩ := T0.zero t hok
      obtain ⟨hoe, zs, hf, hrow⟩ := fill_array (n := n) (place := fun i => some (i * (cx.ti e).sz, (cx.ti e).sz)) (fun i => rfl) _ _ _ z.cells cs hl hv (ZRs.row hzr).dis hb
      obtain ⟨_, ie, hie, hse, _⟩ := T0.ti e hoe
      refine ⟨zs, ?_, hrow⟩
      simp [Program.built, hi, hD, hz, hie, hse]; simpa using hf
  obtain ⟨zs, hb', hrow⟩ := key
  refine PureRes.same h.agree (x := .agg zs) ?_ (.agg cs zs hrow.1.symm hrow.2) rfl
  simp only [execOp, ho]
  exact run_v (run_build (P := P) w t _ zs hb')
end
end Go.Ev
