/- The abstract machine over the model, first part: its states, what they say of a frame and a world, and the operations that read. Conditions: none. -/
import Derived.Laws.AppendOwn
import Derived.Below
import Derived.Calls
import Derived.Orders
import Derived.Laws.Cells
import Derived.Laws.Strings
import Derived.Laws.StructEq
import Derived.Laws.IdiomStrings
set_option linter.unusedSimpArgs false
set_option linter.unusedVariables false

/- The abstract machine, its first part: values without addresses, tokens for the memory that a call owns, and what one operation does to them. Conditions: none; these are definitions. -/
namespace Go.Absw
open Go

/-- Data that nobody writes any more: no addresses. -/
inductive FV : Type where
  | int (k : IntKind) (n : Int)
  | bool (b : Bool)
  | str (s : List UInt8)
  | nilp | nili | nilf | nils
  | sl (sz : Nat) (xs : List (List FV))
  | ifs (t : TypeId) (x : FV)
  | ifa (t : TypeId) (xs : List FV)
  | fn (f : Fn)
  | err
  deriving Inhabited

/-- What a temporary holds. -/
inductive PV : Type where
  | f (x : FV)
  | ag (xs : List PV)
  | tup (xs : List PV)
  | ptr (t i o s : Nat)
  | fp (c : List FV) (o : Nat)
  | ts (t off len s : Nat)
  | fn (f : Fn) (first cap : List PV)
  | ifc (t : TypeId) (v : PV)
  | dead
  deriving Inhabited

/-- What a token holds: a variable in memory, or the row behind a slice of the call's own. -/
inductive TC : Type where
  | gone
  | box (ty : TypeId) (fz : Bool) (cs : List PV)
  | row (e : TypeId) (sz l u : Nat) (xs : List (List FV))
  deriving Inhabited

structure Tok where
  st : Nat
  c : TC
  deriving Inhabited

structure St where
  sl : Nat → PV
  tk : Nat → Tok

def lkS : List (Nat × PV) → Nat → PV
  | [], _ => .dead
  | (m, v) :: r, n => if n = m then v else lkS r n
def lkK : List (Nat × Tok) → Nat → Tok
  | [], _ => ⟨0, .gone⟩
  | (m, v) :: r, n => if n = m then v else lkK r n
def mkSt (a : List (Nat × PV)) (b : List (Nat × Tok)) : St := ⟨lkS a, lkK b⟩
def St.put (σ : St) (d : Option Nat) (v : PV) : St :=
  match d with
  | none => σ
  | some d => ⟨fun n => if n = d then v else σ.sl n, σ.tk⟩
def St.setT (σ : St) (t : Nat) (k : Tok) : St := ⟨σ.sl, fun n => if n = t then k else σ.tk n⟩

def PV.one : PV → Bool
  | .ag _ | .tup _ | .dead => false
  | _ => true
def PV.cells : PV → Option (List PV)
  | .ag xs => some xs
  | .tup _ | .dead => none
  | x => some [x]
def PV.fv? : PV → Option FV
  | .f x => some x
  | _ => none
def fvs? : List PV → Option (List FV)
  | [] => some []
  | .f x :: r => (fvs? r).map (x :: ·)
  | _ :: _ => none

/-- The token's content, if the view is not stale and the operation may look at it. -/
def look (σ : St) (foot : List Nat) (t s : Nat) : TC :=
  if foot.contains t then (if (σ.tk t).st = s then (σ.tk t).c else .gone) else .gone

/-- May the operation look at the token, and is the view not stale? -/
def cur (σ : St) (foot : List Nat) (t s : Nat) : Bool := foot.contains t && decide ((σ.tk t).st = s)

/-- A slice of the call's own, whose elements lie in protected cells, as data. -/
def frzC (σ : St) (foot : List Nat) : Option Nat → PV → PV
  | some sz, .f .nils => .f (.sl sz [])
  | some sz, .ts t off len s =>
    match look σ foot t s with
    | .row _ sz' l _ xs => if sz' = sz ∧ off + len ≤ l ∧ off + len ≤ xs.length then .f (.sl sz ((xs.drop off).take len)) else .ts t off len s
    | _ => .ts t off len s
  | _, p => p
def frzL (σ : St) (foot : List Nat) : List (Option Nat) → List PV → List PV
  | s :: r, p :: q => frzC σ foot s p :: frzL σ foot r q
  | _, q => q
def frzV (σ : St) (foot : List Nat) (sh : List (Option Nat)) (p : PV) : PV :=
  match sh with
  | [] => p
  | s :: r => match p with
    | .ag xs => .ag (frzL σ foot (s :: r) xs)
    | p => frzC σ foot s p

inductive PArg : Type where
  | s (n : Nat)
  | z (n : Nat) (sh : List (Option Nat))
  | c (x : FV)
  | g (n : Nat)
  | fn (f : FuncId)

/-- What is known of the program beside its text: what the package's variables hold. -/
structure Env where
  P : Program
  glob : Nat → List FV

def PArg.val (G : Env) (σ : St) (foot : List Nat) : PArg → PV
  | .s n => σ.sl n
  | .z n sh => frzV σ foot sh (σ.sl n)
  | .c x => .f x
  | .g n => .fp (G.glob n) 0
  | .fn f => .f (.fn (.func f))

/-- Operations that read alone. -/
inductive RK : Type where
  | mv | pick
  | build (z : List FV) (ps : List (Nat × Nat))
  | ld1 | ldn (n : Nat)
  | bin (op : BinOp) | beq (neg : Bool) | ieq (neg : Bool) | eqs (neg : Bool) (tags : List Nat) | un (op : UnOp)
  | cvi (k : IntKind) | b2s | s2s
  | mki (t : TypeId) | mkf (fn : Fn) (nf : Nat)
  | slc (sz : Nat) (lo hi : Bool) | sls (lo hi : Bool) | sla (n sz : Nat)
  | fad (off : Nat) | ixs (sz : Nat) | ixa (n sz : Nat)
  | fld1 (off : Nat) | fldn (off n : Nat) | ixv1 (n : Nat) | ixvn (n sz : Nat) | ixc
  | ext (i : Nat) | len | lens | lenc (n : Nat) | max | min | nck | nckm (t : TypeId) (m : String)

/-- Operations that make a new block. -/
inductive AK : Type where
  | alloc (ty : TypeId) (z : List FV)
  | box (ty : TypeId) (n : Nat)
  | bsl (e sz n : Nat) (z : List FV) (ps : List (Nat × Nat))
  | s2b (e : TypeId)
  | mks (e sz bytes : Nat) (z : List FV)

/-- A call of a function value, or of a method of an interface value whose dynamic type is t. -/
inductive CK : Type where
  | f | inv (m : String) (t : TypeId) (f : FuncId)

inductive PK : Type where
  | r (k : RK)
  | a (k : AK)
  | st (n : Nat)
  | app (e sz bytes : Nat)
  | appz (e sz bytes : Nat)
  | az (k : AK)
  | call (k : CK) (pass : List Nat) (news : List Nat)

structure POp where
  dst : Option Nat
  guard : Option (Nat × Bool)
  foot : List Nat
  nid : Nat
  k : PK
  args : List PArg

/-- A call's arguments and the tokens that go with it (named 0, 1, ..); its result, the tokens behind it, and new ones (named on). -/
structure Inp where
  args : List PV
  toks : List TC
structure Out where
  res : PV
  toks : List Tok
  news : List Tok
instance : Inhabited Out := ⟨⟨.dead, [], []⟩⟩

/-! ### names of tokens -/
mutual
/-- A value under other names: `m t` is the token's new name, its stamp as it stands, and the new one. -/
def dn (m : Nat → Option (Nat × Nat × Nat)) : PV → PV
  | .f x => .f x
  | .ag xs => .ag (dnL m xs)
  | .tup xs => .tup (dnL m xs)
  | .ptr t i o s => match m t with
    | some (n, c, d) => if s = c then .ptr n i o d else .dead
    | none => .dead
  | .fp c o => .fp c o
  | .ts t off len s => match m t with
    | some (n, c, d) => if s = c then .ts n off len d else .dead
    | none => .dead
  | .fn f a b => .fn f (dnL m a) (dnL m b)
  | .ifc t v => .ifc t (dn m v)
  | .dead => .dead
def dnL (m : Nat → Option (Nat × Nat × Nat)) : List PV → List PV
  | [] => []
  | x :: r => dn m x :: dnL m r
end
mutual
/-- A callee's value as the caller names it: `m t` is the caller's name of the token, and what is added to its stamps. -/
def up (m : Nat → Option (Nat × Nat)) : PV → PV
  | .f x => .f x
  | .ag xs => .ag (upL m xs)
  | .tup xs => .tup (upL m xs)
  | .ptr t i o s => match m t with
    | some (n, c) => .ptr n i o (s + c)
    | none => .dead
  | .fp c o => .fp c o
  | .ts t off len s => match m t with
    | some (n, c) => .ts n off len (s + c)
    | none => .dead
  | .fn f a b => .fn f (upL m a) (upL m b)
  | .ifc t v => .ifc t (up m v)
  | .dead => .dead
def upL (m : Nat → Option (Nat × Nat)) : List PV → List PV
  | [] => []
  | x :: r => up m x :: upL m r
end
def dnC (m : Nat → Option (Nat × Nat × Nat)) : TC → TC
  | .box ty fz cs => .box ty fz (dnL m cs)
  | .row e sz l u xs => .row e sz l u xs
  | .gone => .gone
def upC (m : Nat → Option (Nat × Nat)) : TC → TC
  | .box ty fz cs => .box ty fz (upL m cs)
  | .row e sz l u xs => .row e sz l u xs
  | .gone => .gone

/-- Where a name stands in a list. -/
def pos : List Nat → Nat → Option Nat
  | [], _ => none
  | a :: r, t => if t = a then some 0 else (pos r t).map (· + 1)
def mDn (σ : St) (A : List Nat) (t : Nat) : Option (Nat × Nat × Nat) := (pos A t).map fun n => (n, (σ.tk t).st, 0)
def callInp (σ : St) (A : List Nat) (as : List PV) : Inp := ⟨dnL (mDn σ A) as, A.map fun t => dnC (mDn σ A) (σ.tk t).c⟩
/-- The caller's name of the callee's token t, and its stamps' beginning. -/
def mUp (σ : St) (A N : List Nat) (t : Nat) : Option (Nat × Nat) :=
  match A[t]? with
  | some u => some (u, (σ.tk u).st)
  | none => (N[t - A.length]?).map fun u => (u, (σ.tk u).st + 1)
def newT (σ : St) (A N : List Nat) (toks : List Tok) (u : Nat) : Tok :=
  match pos (A ++ N) u with
  | none => σ.tk u
  | some n => match toks[n]?, mUp σ A N n with
    | some k, some (_, c) => ⟨k.st + c, upC (mUp σ A N) k.c⟩
    | _, _ => σ.tk u
/-- A call's effect on the caller's state. -/
def stepCall (σ : St) (A N : List Nat) (dst : Option Nat) (out : Out) : Option St :=
  if out.toks.length = A.length ∧ out.news.length = N.length then
    some ((⟨σ.sl, newT σ A N (out.toks ++ out.news)⟩ : St).put dst (up (mUp σ A N) out.res))
  else none
/-- Which function is called, and with what. -/
def callee : CK → List PV → Option (FuncId × List PV)
  | .f, .f (.fn (.func f)) :: as => some (f, as)
  | .f, .fn (.func f) first cap :: as => some (f, first ++ as ++ cap)
  | .inv m t f, .f (.ifa t' xs) :: as => if t = t' then some (f, .ag (xs.map .f) :: as) else none
  | .inv m t f, .f (.ifs t' x) :: as => if t = t' then some (f, .f x :: as) else none
  | _, _ => none

/-! ### whole numbers, strings -/
def i64max : Nat := 9223372036854775807
def binI (op : BinOp) (k : IntKind) (a b : Int) : Option FV :=
  match op with
  | .add => some (.int k (k.wrap (a + b)))
  | .sub => some (.int k (k.wrap (a - b)))
  | .mul => some (.int k (k.wrap (a * b)))
  | .quo => if b = 0 then none else some (.int k (k.wrap (a.tdiv b)))
  | .rem => if b = 0 then none else some (.int k (a.tmod b))
  | .and => some (.int k (k.wrap ((BitVec.ofInt k.bits a &&& BitVec.ofInt k.bits b).toNat)))
  | .or => some (.int k (k.wrap ((BitVec.ofInt k.bits a ||| BitVec.ofInt k.bits b).toNat)))
  | .xor => some (.int k (k.wrap ((BitVec.ofInt k.bits a ^^^ BitVec.ofInt k.bits b).toNat)))
  | .andNot => some (.int k (k.wrap ((BitVec.ofInt k.bits a &&& ~~~ BitVec.ofInt k.bits b).toNat)))
  | .eql => some (.bool (decide (a = b)))
  | .neq => some (.bool (decide (a ≠ b)))
  | .lss => some (.bool (decide (a < b)))
  | .leq => some (.bool (decide (a ≤ b)))
  | .gtr => some (.bool (decide (a > b)))
  | .geq => some (.bool (decide (a ≥ b)))
  | _ => none
def shiftI (op : BinOp) (k : IntKind) (a y : Int) : Option FV :=
  if y < 0 then none else
  match op with
  | .shl => some (.int k (k.wrap (a * 2 ^ (min y.toNat k.bits))))
  | .shr => some (.int k (a.fdiv (2 ^ (min y.toNat k.bits))))
  | _ => none
def binS (op : BinOp) (a b : List UInt8) : Option FV :=
  match op with
  | .add => if a.length + b.length ≤ i64max then some (.str (a ++ b)) else none
  | .eql => some (.bool (decide (a = b)))
  | .neq => some (.bool (decide (a ≠ b)))
  | .lss => some (.bool (Op.bytesLess a b))
  | .leq => some (.bool (Op.bytesLess a b || decide (a = b)))
  | .gtr => some (.bool !(Op.bytesLess a b || decide (a = b)))
  | .geq => some (.bool !(Op.bytesLess a b))
  | _ => none
def binF (op : BinOp) : FV → FV → Option FV
  | .int k a, .int k' b =>
    match op with
    | .shl | .shr => shiftI op k a b
    | _ => if k = k' then binI op k a b else none
  | .str a, .str b => binS op a b
  | _, _ => none
def unF (op : UnOp) : FV → Option FV
  | .int k n => match op with
    | .neg => some (.int k (k.wrap (0 - n)))
    | .xor => some (.int k (k.wrap ((BitVec.ofInt k.bits (if k.signed then -1 else k.max) ^^^ BitVec.ofInt k.bits n).toNat)))
    | _ => none
  | .bool b => match op with | .not => some (.bool !b) | _ => none
  | _ => none

/-! ### parts of lists of cells -/
def splice {α : Type} (cs : List α) (o : Nat) (xs : List α) : List α := cs.take o ++ xs ++ cs.drop (o + xs.length)
def fillP (cs : List PV) : List (Nat × Nat) → List PV → Option (List PV)
  | [], [] => some cs
  | (o, n) :: r, v :: q => match v.cells with
    | some xs => if xs.length = n ∧ o + n ≤ cs.length then fillP (splice cs o xs) r q else none
    | none => none
  | _, _ => none
/-- Elements of `sz` cells out of a list of cells. -/
def chunk (sz : Nat) : Nat → List FV → List (List FV)
  | 0, _ => []
  | n + 1, cs => cs.take sz :: chunk sz n (cs.drop sz)
def getN (cs : List PV) (o n : Nat) : Option PV := if o + n ≤ cs.length then some (.ag ((cs.drop o).take n)) else none
def nth {α : Type} (xs : List α) (i : Int) : Option α := if 0 ≤ i then xs[i.toNat]? else none
def bytesOf : List (List FV) → Option (List UInt8)
  | [] => some []
  | [.int .u8 n] :: r => (bytesOf r).map (n.toNat.toUInt8 :: ·)
  | _ :: _ => none
def ofBytes (s : List UInt8) : List (List FV) := s.map fun b => [.int .u8 b.toNat]

/-- The content of a slice: its cells' width and its elements. -/
def rowOf (σ : St) (foot : List Nat) : PV → Option (List (List FV))
  | .f .nils => some []
  | .f (.sl _ xs) => some xs
  | .f (.str s) => some (ofBytes s)
  | .ts t off len s => match look σ foot t s with
    | .row _ _ _ _ xs => if off + len ≤ xs.length then some ((xs.drop off).take len) else none
    | _ => none
  | _ => none

def sliceLen : PV → Option Nat
  | .f .nils => some 0
  | .f (.sl _ xs) => some xs.length
  | .ts _ _ len _ => some len
  | _ => none

/-- The bounds of x[lo:hi] at a length. -/
def bnds (n : Nat) (lo hi : Option Int) : Option (Nat × Nat) :=
  if 0 ≤ lo.getD 0 ∧ lo.getD 0 ≤ hi.getD (n : Int) ∧ hi.getD (n : Int) ≤ (n : Int) then some ((lo.getD 0).toNat, (hi.getD (n : Int)).toNat) else none
def intOf? : PV → Option Int
  | .f (.int _ n) => some n
  | _ => none
def loHi : Bool → Bool → List PV → Option (Option Int × Option Int)
  | false, false, [] => some (none, none)
  | true, false, [a] => (intOf? a).map fun x => (some x, none)
  | false, true, [a] => (intOf? a).map fun x => (none, some x)
  | true, true, [a, b] => (intOf? a).bind fun x => (intOf? b).map fun y => (some x, some y)
  | _, _, _ => none

def eqFs : List Nat → List FV → List FV → Option Bool
  | [], [], [] => some true
  | 0 :: t, .int k a :: r, .int k' b :: q => if k = k' then (eqFs t r q).map (decide (a = b) && ·) else none
  | 1 :: t, .str a :: r, .str b :: q => (eqFs t r q).map (decide (a = b) && ·)
  | 2 :: t, .bool a :: r, .bool b :: q => (eqFs t r q).map (decide (a = b) && ·)
  | _, _, _ => none

def PV.noStr : PV → Bool
  | .f (.str _) => false
  | _ => true
def okLen (σ : St) (foot : List Nat) : PV → Bool
  | .ts t _ _ s => cur σ foot t s
  | _ => true

def semR (σ : St) (foot : List Nat) : RK → List PV → Option PV
  | .mv, [x] => some x
  | .pick, [.f (.bool c), a, b] => some (if c then a else b)
  | .build z ps, as => (fillP (z.map .f) ps as).map .ag
  | .ld1, [.ptr t i o s] => match look σ foot t s with
    | .box _ _ cs => if i = 0 then cs[o]? else none
    | .row _ _ _ _ xs => ((xs[i]?).bind (·[o]?)).map .f
    | .gone => none
  | .ld1, [.fp c o] => (c[o]?).map .f
  | .ldn n, [.ptr t i o s] => match look σ foot t s with
    | .box _ _ cs => if i = 0 then getN cs o n else none
    | .row _ _ _ _ xs => (xs[i]?).bind fun c => getN (c.map .f) o n
    | .gone => none
  | .ldn n, [.fp c o] => getN (c.map .f) o n
  | .bin op, [.f a, .f b] => (binF op a b).map .f
  | .beq neg, [.f (.bool a), .f (.bool b)] => some (.f (.bool (if neg then decide (a ≠ b) else decide (a = b))))
  | .ieq neg, [.f a, .f .nili] => match a with
    | .nili => some (.f (.bool !neg))
    | .err | .ifs _ _ | .ifa _ _ => some (.f (.bool neg))
    | _ => none
  | .eqs neg tags, [.ag a, .ag b] => match fvs? a, fvs? b with
    | some x, some y => (eqFs tags x y).map fun r => .f (.bool (if neg then !r else r))
    | _, _ => none
  | .un op, [.f a] => (unF op a).map .f
  | .cvi k, [.f (.int _ n)] => some (.f (.int k (k.wrap n)))
  | .b2s, [x] => if x.noStr = true then ((rowOf σ foot x).bind bytesOf).map fun s => .f (.str s) else none
  | .s2s, [.f (.str s)] => some (.f (.str s))
  | .mki t, [.f x] => some (.f (.ifs t x))
  | .mki t, [.ag xs] => match fvs? xs with
    | some ys => some (.f (.ifa t ys))
    | none => some (.ifc t (.ag xs))
  | .mki t, [x] => if x.one then some (.ifc t x) else none
  | .mkf fn nf, as => match as with
    | [] => some (.f (.fn fn))
    | a :: r => some (.fn fn ((a :: r).take nf) ((a :: r).drop nf))
  | .slc sz lo hi, x :: r => match loHi lo hi r with
    | none => none
    | some (l, h) => match x with
      | .f .nils => (bnds 0 l h).map fun _ => .f .nils
      | .f (.sl sz' xs) => if sz = sz' then (bnds xs.length l h).map fun ab => .f (.sl sz ((xs.drop ab.1).take (ab.2 - ab.1))) else none
      | .ts t off len s => match look σ foot t s with
        | .row _ sz' _ _ _ => if sz = sz' then (bnds len l h).map fun ab => .ts t (off + ab.1) (ab.2 - ab.1) s else none
        | _ => none
      | _ => none
  | .sla n sz, [.ptr t i o s] => match look σ foot t s with
    | .box _ true cs => if i = 0 ∧ 0 < n ∧ o + n * sz ≤ cs.length then (fvs? ((cs.drop o).take (n * sz))).map fun ys => .f (.sl sz (chunk sz n ys)) else none
    | _ => none
  | .sls lo hi, .f (.str s) :: r => match loHi lo hi r with
    | some (l, h) => (bnds s.length l h).map fun ab => .f (.str ((s.drop ab.1).take (ab.2 - ab.1)))
    | none => none
  | .fad off, [.ptr t i o s] => if cur σ foot t s = true then some (.ptr t i (o + off) s) else none
  | .fad off, [.fp c o] => some (.fp c (o + off))
  | .ixs sz, [.f (.sl sz' xs), .f (.int _ i)] => if sz = sz' then (nth xs i).map fun c => .fp c 0 else none
  | .ixs sz, [.ts t off len s, .f (.int _ i)] => match look σ foot t s with
    | .row _ sz' _ _ _ => if sz = sz' ∧ 0 ≤ i ∧ i < len then some (.ptr t (off + i.toNat) 0 s) else none
    | _ => none
  | .ixa n sz, [.ptr t i o s, .f (.int _ j)] => if cur σ foot t s = true ∧ 0 ≤ j ∧ j < n then some (.ptr t i (o + j.toNat * sz) s) else none
  | .ixa n sz, [.fp c o, .f (.int _ j)] => if 0 ≤ j ∧ j < n then some (.fp c (o + j.toNat * sz)) else none
  | .fld1 off, [.ag xs] => xs[off]?
  | .fldn off n, [.ag xs] => getN xs off n
  | .ixv1 n, [.ag xs, .f (.int _ j)] => if 0 ≤ j ∧ j < n then xs[j.toNat]? else none
  | .ixvn n sz, [.ag xs, .f (.int _ j)] => if 0 ≤ j ∧ j < n then getN xs (j.toNat * sz) sz else none
  | .ixc, [.f (.str s), .f (.int _ i)] => (nth s i).map fun b => .f (.int .u8 b.toNat)
  | .ext i, [.tup xs] => xs[i]?
  | .len, [x] => if okLen σ foot x = true then (sliceLen x).map fun (n : Nat) => .f (.int .i64 n) else none
  | .lens, [.f (.str s)] => some (.f (.int .i64 s.length))
  | .lenc n, [_] => some (.f (.int .i64 n))
  | .max, [.f (.int k a), .f (.int _ b)] => some (.f (.int k (if b > a then b else a)))
  | .min, [.f (.int k a), .f (.int _ b)] => some (.f (.int k (if b < a then b else a)))
  | .nck, [.ptr t i o s] => if cur σ foot t s = true then some (.ptr t i o s) else none
  | .nck, [.fp c o] => some (.fp c o)
  | .nck, [.f (.fn (.func f))] => some (.f (.fn (.func f)))
  | .nck, [.fn (.func f) a b] => some (.fn (.func f) a b)
  | .nckm t m, [.fn (.method m') [.f (.ifa t' xs)] []] => if m = m' ∧ t = t' then some (.fn (.method m') [.f (.ifa t' xs)] []) else none
  | _, _ => none

/-- The new block's content, and how the result refers to it (the token's name, its stamp). -/
def semA (id s : Nat) : AK → List PV → Option (PV × TC)
  | .alloc ty z, [] => some (.ptr id 0 0 s, .box ty false (z.map .f))
  | .box ty n, [v] => match v.cells with
    | some cs => if cs.length = n then some (.ptr id 0 0 s, .box ty false cs) else none
    | none => none
  | .bsl e sz n z ps, as => match fillP ((List.replicate n z).flatten.map .f) ps as with
    | some cs => match fvs? cs with
      | some ys => if ys.length = n * sz then some (.ts id 0 n s, .row e sz 0 0 (chunk sz n ys)) else none
      | none => none
    | none => none
  | .s2b e, [.f (.str t)] => if t.length ≤ i64max then some (.ts id 0 t.length s, .row e 1 0 0 (ofBytes t)) else none
  | .mks e sz bytes z, [.f (.int _ n), .f (.int _ m)] =>
    if n = m ∧ 0 ≤ n ∧ n * bytes ≤ 140737488355328 ∧ n ≤ i64max then some (.ts id 0 n.toNat s, .row e sz 0 0 (List.replicate n.toNat z)) else none
  | _, _ => none

/-- The elements of what is appended, each of `sz` cells. -/
def srcOf (σ : St) (foot : List Nat) (sz : Nat) : PV → Option (List (List FV))
  | .f .nils => some []
  | .f (.sl sz' xs) => if sz = sz' then some xs else none
  | .f (.str s) => if sz = 1 then some (ofBytes s) else none
  | .ts t off len s => match look σ foot t s with
    | .row _ sz' _ _ xs => if sz = sz' ∧ off + len ≤ xs.length then some ((xs.drop off).take len) else none
    | _ => none
  | _ => none

/-- An append: the row's token, its content behind, the result. -/
def semApp (σ : St) (foot : List Nat) (nid e sz bytes : Nat) : List PV → Option (Nat × TC × PV)
  | [.f .nils, x] => match srcOf σ foot sz x with
    | some ys => if ys.length * bytes ≤ 140737488355328 ∧ ys.length ≤ i64max then some (nid, .row e sz 0 0 ys, .ts nid 0 ys.length ((σ.tk nid).st + 1)) else none
    | none => none
  | [.ts t 0 n s, x] => match look σ foot t s with
    | .row e' sz' _ u xs => match srcOf σ foot sz x with
      | some ys => if e = e' ∧ sz = sz' ∧ n ≤ xs.length ∧ u ≤ n ∧ (n + ys.length) * bytes ≤ 140737488355328 ∧ n + ys.length ≤ i64max then
          some (t, .row e sz 0 u (xs.take n ++ ys), .ts t 0 (n + ys.length) ((σ.tk t).st + 1)) else none
      | none => none
    | _ => none
  | _ => none

/-- An append whose result nobody writes any more: it is data from then on. -/
def apz (σ : St) (d : Option Nat) (x : Nat × TC × PV) : Option St :=
  match x.2.1, d with
  | .row _ sz _ _ xs, some d => some ((σ.setT x.1 ⟨(σ.tk x.1).st + 1, .gone⟩).put (some d) (.f (.sl sz xs)))
  | _, _ => none

/-- A new row that nobody writes: it is data from then on. -/
def azp (σ : St) (nid : Nat) (d : Option Nat) (x : PV × TC) : Option St :=
  match x.1, x.2, d with
  | .ts t off n s, .row _ sz l _ xs, some d => if t = nid ∧ off = 0 ∧ n = xs.length ∧ s = (σ.tk nid).st + 1 ∧ l = 0 then some ((σ.setT nid ⟨(σ.tk nid).st + 1, .gone⟩).put (some d) (.f (.sl sz xs))) else none
  | _, _, _ => none

/-- A store. -/
def semW (σ : St) (foot : List Nat) (t i o s : Nat) (xs : List PV) : Option TC :=
  match look σ foot t s with
  | .box ty false cs => if i = 0 ∧ o + xs.length ≤ cs.length then some (.box ty false (splice cs o xs)) else none
  | .row e sz l u ys => match fvs? xs, ys[i]? with
    | some zs, some c => if u ≤ i ∧ o + zs.length ≤ c.length then some (.row e sz l u (ys.set i (splice c o zs))) else none
    | _, _ => none
  | _ => none
end Go.Absw

/- The abstract machine, its second part: what an abstract state says of a frame and a world, and that it goes on saying so when the world grows. Conditions: none. -/
namespace Go.Absw
open Go

structure Blk where
  b : Nat
  cap : Nat
  sz : Nat
abbrev Tau := Nat → Option Blk
abbrev Cells := Nat → Nat → Prop

/-- The value `v` reads as `x` in cells that are protected. -/
inductive RF (C : Cells) (w : World) : Value → FV → Prop
  | int (k : IntKind) (n : Int) : RF C w (.int k n) (.int k n)
  | bool (b : Bool) : RF C w (.bool b) (.bool b)
  | str (s : List UInt8) : RF C w (.string ⟨s.toArray⟩) (.str s)
  | nilp : RF C w (.pointer none) .nilp
  | nili : RF C w .nilIface .nili
  | nilf : RF C w .nilFunc .nilf
  | nils : RF C w (.slice none 0 0) .nils
  | sl (a : Option Addr) (cap sz : Nat) (xs : List (List FV)) (us : Nat → Nat → Value)
      (hcap : xs.length ≤ cap) (hsz : ∀ c ∈ xs, c.length = sz)
      (hA : xs ≠ [] → ∃ b o, a = some ⟨b, o, none⟩ ∧ ∀ i j, i < xs.length → j < sz → C b (o + i * sz + j) ∧ w.cell? ⟨b, o + i * sz + j, none⟩ = some (us i j))
      (hr : ∀ (i j : Nat) c y, xs[i]? = some c → c[j]? = some y → RF C w (us i j) y) : RF C w (.slice a xs.length cap) (.sl sz xs)
  | ifs (t : TypeId) (v : Value) (x : FV) (h : RF C w v x) : RF C w (.iface t v) (.ifs t x)
  | ifa (t : TypeId) (vs : Array Value) (xs : List FV) (hs : vs.size = xs.length)
      (hr : ∀ (i : Nat) v x, vs[i]? = some v → xs[i]? = some x → RF C w v x) : RF C w (.iface t (.agg vs)) (.ifa t xs)
  | fn (f : Fn) : RF C w (.func f #[] #[]) (.fn f)
  | err (t : TypeId) (v : Value) : RF C w (.iface t v) .err

theorem RF.one {C : Cells} {w : World} {v : Value} {x : FV} (h : RF C w v x) : v.oneCell' = true := by cases h <;> rfl

theorem RF.mono {C C' : Cells} {w w' : World} (hC : ∀ b o, C b o → C' b o) (hw : ∀ b o, C b o → w'.cell? ⟨b, o, none⟩ = w.cell? ⟨b, o, none⟩)
    {v : Value} {x : FV} (h : RF C w v x) : RF C' w' v x := by
  induction h with
  | int k n => exact .int k n
  | bool b => exact .bool b
  | str s => exact .str s
  | nilp => exact .nilp
  | nili => exact .nili
  | nilf => exact .nilf
  | nils => exact .nils
  | sl a cap sz xs us hcap hsz hA hr ih =>
    refine .sl a cap sz xs us hcap hsz (fun hne => ?_) ih
    obtain ⟨b, o, ha, hc⟩ := hA hne
    exact ⟨b, o, ha, fun i j hi hj => ⟨hC _ _ (hc i j hi hj).1, (hw _ _ (hc i j hi hj).1).trans (hc i j hi hj).2⟩⟩
  | ifs t v x h ih => exact .ifs t v x ih
  | ifa t vs xs hs hr ih => exact .ifa t vs xs hs ih
  | fn f => exact .fn f
  | err t v => exact .err t v

/-- The value `v` is what the abstract state calls `p`. -/
inductive RP (C : Cells) (S : Nat → Nat) (τ : Tau) (w : World) : Value → PV → Prop
  | f (v : Value) (x : FV) (h : RF C w v x) : RP C S τ w v (.f x)
  | ag (vs : Array Value) (xs : List PV) (hs : vs.size = xs.length) (h1 : ∀ (i : Nat) v, vs[i]? = some v → v.oneCell' = true)
      (hr : ∀ (i : Nat) v x, vs[i]? = some v → xs[i]? = some x → RP C S τ w v x) : RP C S τ w (.agg vs) (.ag xs)
  | tup (vs : Array Value) (xs : List PV) (hs : vs.size = xs.length)
      (hr : ∀ (i : Nat) v x, vs[i]? = some v → xs[i]? = some x → RP C S τ w v x) : RP C S τ w (.tuple vs) (.tup xs)
  | ptr (v : Value) (t i o s : Nat) (h1 : v.oneCell' = true) (hle : s ≤ S t) (h : s = S t → ∃ k, τ t = some k ∧ v = .pointer (some ⟨k.b, i * k.sz + o, none⟩)) : RP C S τ w v (.ptr t i o s)
  | fp (b o p : Nat) (c : List FV) (us : Nat → Value)
      (hc : ∀ j, j < c.length → C b (o + j) ∧ w.cell? ⟨b, o + j, none⟩ = some (us j)) (hr : ∀ (j : Nat) y, c[j]? = some y → RF C w (us j) y) :
      RP C S τ w (.pointer (some ⟨b, o + p, none⟩)) (.fp c p)
  | ts (v : Value) (t off len s : Nat) (h1 : v.oneCell' = true) (hle : s ≤ S t)
      (h : s = S t → (τ t = none ∧ v = .slice none 0 0 ∧ off = 0 ∧ len = 0) ∨ ∃ k o, τ t = some k ∧ v = .slice (some ⟨k.b, o, none⟩) len (k.cap - off) ∧ off + len ≤ k.cap ∧ (off < k.cap → o = off * k.sz)) :
      RP C S τ w v (.ts t off len s)
  | fn (f : Fn) (vs us : Array Value) (xs ys : List PV) (hs : vs.size = xs.length) (hs' : us.size = ys.length)
      (hr : ∀ (i : Nat) v x, vs[i]? = some v → xs[i]? = some x → RP C S τ w v x) (hr' : ∀ (i : Nat) v x, us[i]? = some v → ys[i]? = some x → RP C S τ w v x) :
      RP C S τ w (.func f vs us) (.fn f xs ys)
  | ifc (t : TypeId) (v : Value) (x : PV) (h : RP C S τ w v x) : RP C S τ w (.iface t v) (.ifc t x)
  | dead (v : Value) : RP C S τ w v .dead

theorem RP.oneCell {C : Cells} {S : Nat → Nat} {τ : Tau} {w : World} {v : Value} {p : PV} (h : RP C S τ w v p) (hp : p.one = true) : v.oneCell' = true := by
  cases h <;> first | (simp [PV.one] at hp; done) | assumption | rfl | (rename_i h; exact h.one)

theorem RP.mono {C C' : Cells} {S S' : Nat → Nat} {τ τ' : Tau} {w w' : World} (hC : ∀ b o, C b o → C' b o) (hw : ∀ b o, C b o → w'.cell? ⟨b, o, none⟩ = w.cell? ⟨b, o, none⟩)
    (hS : ∀ t, S t ≤ S' t) (hτ : ∀ t, S' t = S t → τ' t = τ t) {v : Value} {p : PV} (h : RP C S τ w v p) : RP C' S' τ' w' v p := by
  have key : ∀ {s t : Nat}, s ≤ S t → s = S' t → s = S t ∧ τ' t = τ t := by
    intro s t h1 h2
    have := hS t
    have : S' t = S t := by omega
    exact ⟨by omega, hτ t this⟩
  induction h with
  | f v x h => exact .f v x (h.mono hC hw)
  | ag vs xs hs h1 hr ih => exact .ag vs xs hs h1 ih
  | tup vs xs hs hr ih => exact .tup vs xs hs ih
  | ptr v t i o s h1 hle h =>
    refine .ptr v t i o s h1 (Nat.le_trans hle (hS t)) (fun e => ?_)
    obtain ⟨e1, e2⟩ := key hle e
    rw [e2]; exact h e1
  | fp b o p c us hc hr => exact .fp b o p c us (fun j hj => ⟨hC _ _ (hc j hj).1, (hw _ _ (hc j hj).1).trans (hc j hj).2⟩) (fun j y hy => (hr j y hy).mono hC hw)
  | ts v t off len s h1 hle h =>
    refine .ts v t off len s h1 (Nat.le_trans hle (hS t)) (fun e => ?_)
    obtain ⟨e1, e2⟩ := key hle e
    rw [e2]; exact h e1
  | fn f vs us xs ys hs hs' hr hr' ih ih' => exact .fn f vs us xs ys hs hs' ih ih'
  | ifc t v x h ih => exact .ifc t v x ih
  | dead v => exact .dead v

def NoFr (n : Nat) (fr : Nat × Nat) : Prop := n ≤ fr.1 ∨ fr.2 ≤ fr.1

/-- What a token's content says of the world. -/
def TR (C : Cells) (S : Nat → Nat) (τ : Tau) (w : World) (t : Nat) : TC → Prop
  | .gone => True
  | .box ty fz cs => ∃ k vs fr, τ t = some k ∧ w.heap[k.b]? = some (.cells vs ty fr) ∧ NoFr vs.size fr ∧ vs.size = cs.length ∧
      (∀ (i : Nat) v, vs[i]? = some v → v.oneCell' = true) ∧ (∀ (i : Nat) v x, vs[i]? = some v → cs[i]? = some x → RP C S τ w v x) ∧
      (∀ o, C k.b o → fz = true) ∧ (fz = true → ∀ o, o < vs.size → C k.b o)
  | .row e sz l u xs => (τ t = none ∧ xs = []) ∨ ∃ k vs fr, τ t = some k ∧ k.sz = sz ∧ w.heap[k.b]? = some (.cells vs e fr) ∧ NoFr vs.size fr ∧
      vs.size = k.cap * sz ∧ xs.length ≤ k.cap ∧ k.cap ≤ maxLen ∧ (∀ c ∈ xs, c.length = sz) ∧
      (∀ (i : Nat) v, vs[i]? = some v → v.oneCell' = true) ∧
      (∀ (i j : Nat) c y, xs[i]? = some c → c[j]? = some y → ∃ v, vs[i * sz + j]? = some v ∧ RF C w v y) ∧
      (∀ o, C k.b o → o < u * sz) ∧ u ≤ xs.length ∧ (∀ o, o < l * sz → C k.b o)

def TC.live : TC → Bool
  | .gone => false
  | _ => true

/-- The blocks of some tokens. -/
def blksOf (τ : Tau) (tk : Nat → Tok) (A : List Nat) (b : Nat) : Prop := ∃ t ∈ A, (tk t).c.live = true ∧ ∃ k, τ t = some k ∧ k.b = b

/-- The world goes on: beside new blocks, only some blocks are written, and no protected cell. -/
structure Stp (W : Nat → Prop) (C : Cells) (w : World) (C' : Cells) (w' : World) : Prop where
  os : w'.os = w.os
  tape : w'.tape = w.tape
  output : w'.output = w.output
  size : w.heap.size ≤ w'.heap.size
  blk : ∀ b, b < w.heap.size → ¬ W b → w'.heap[b]? = w.heap[b]?
  sub : ∀ b o, C b o → C' b o
  new : ∀ b o, C' b o → C b o ∨ W b ∨ w.heap.size ≤ b
  cell : ∀ b o, C b o → w'.cell? ⟨b, o, none⟩ = w.cell? ⟨b, o, none⟩

theorem Stp.refl (W : Nat → Prop) (C : Cells) (w : World) : Stp W C w C w :=
  ⟨rfl, rfl, rfl, Nat.le_refl _, fun _ _ _ => rfl, fun _ _ h => h, fun _ _ h => .inl h, fun _ _ _ => rfl⟩
theorem Stp.wider {W W' : Nat → Prop} {C C' : Cells} {w w' : World} (h : Stp W C w C' w') (hW : ∀ b, W b → W' b) : Stp W' C w C' w' :=
  ⟨h.os, h.tape, h.output, h.size, fun b hb hn => h.blk b hb fun h' => hn (hW b h'), h.sub, fun b o ho => (h.new b o ho).imp id (Or.imp (hW b) id), h.cell⟩
theorem Stp.trans {W W' : Nat → Prop} {C C' C'' : Cells} {w w' w'' : World} (h : Stp W C w C' w') (h' : Stp W' C' w' C'' w'') (hW : ∀ b, W' b → W b ∨ w.heap.size ≤ b) : Stp W C w C'' w'' where
  os := h'.os.trans h.os
  tape := h'.tape.trans h.tape
  output := h'.output.trans h.output
  size := Nat.le_trans h.size h'.size
  blk := fun b hb hn => (h'.blk b (Nat.lt_of_lt_of_le hb h.size) fun hw => (hW b hw).elim hn fun hl => by omega).trans (h.blk b hb hn)
  sub := fun b o ho => h'.sub b o (h.sub b o ho)
  new := fun b o ho => by
    rcases h'.new b o ho with h1 | h1 | h1
    · exact h.new b o h1
    · exact .inr (hW b h1)
    · exact .inr (.inr (Nat.le_trans h.size h1))
  cell := fun b o ho => (h'.cell b o (h.sub b o ho)).trans (h.cell b o ho)

def St.S (σ : St) : Nat → Nat := fun t => (σ.tk t).st

/-- The package's variables read as the environment says, in protected cells; a variable of which it tells is no longer than told. -/
def GlobOK (G : Env) (C : Cells) (w : World) : Prop :=
  (∀ g, ∀ (j : Nat) y, (G.glob g)[j]? = some y → C g j ∧ ∃ v, w.cell? ⟨g, j, none⟩ = some v ∧ RF C w v y) ∧
  ∀ g, G.glob g ≠ [] → C g (G.glob g).length ∧ w.cell? ⟨g, (G.glob g).length, none⟩ = none
theorem GlobOK.mono {G : Env} {C C' : Cells} {w w' : World} (hC : ∀ b o, C b o → C' b o) (hw : ∀ b o, C b o → w'.cell? ⟨b, o, none⟩ = w.cell? ⟨b, o, none⟩) (h : GlobOK G C w) : GlobOK G C' w' :=
  ⟨fun g j y hy => by
    obtain ⟨hc, v, hv, hr⟩ := h.1 g j y hy
    exact ⟨hC _ _ hc, v, (hw _ _ hc).trans hv, hr.mono hC hw⟩,
   fun g hg => by
    obtain ⟨hc, hv⟩ := h.2 g hg
    exact ⟨hC _ _ hc, (hw _ _ hc).trans hv⟩⟩

/-- What the abstract state says of a frame's temporaries and the world. -/
structure Core (G : Env) (C : Cells) (τ : Tau) (σ : St) (tm : Array Value) (w : World) : Prop where
  slots : ∀ n, RP C σ.S τ w (tm.getD n undef) (σ.sl n)
  toks : ∀ t, TR C σ.S τ w t (σ.tk t).c
  dist : ∀ t t' k k', (σ.tk t).c.live = true → (σ.tk t').c.live = true → τ t = some k → τ t' = some k' → k.b = k'.b → t = t'
  lt : ∀ b o, C b o → b < w.heap.size
  glob : GlobOK G C w

theorem TR.lt {C : Cells} {S : Nat → Nat} {τ : Tau} {w : World} {t : Nat} {c : TC} (h : TR C S τ w t c) (hl : c.live = true) {k : Blk} (hk : τ t = some k) : k.b < w.heap.size := by
  cases c with
  | gone => simp [TC.live] at hl
  | box ty fz cs =>
    obtain ⟨k', vs, fr, h1, h2, _⟩ := h
    rw [h1] at hk; cases hk
    exact (Array.getElem?_eq_some_iff.1 h2).1
  | row e sz l u xs =>
    rcases h with ⟨h1, _⟩ | ⟨k', vs, fr, h1, _, h2, _⟩
    · rw [h1] at hk; cases hk
    · rw [h1] at hk; cases hk
      exact (Array.getElem?_eq_some_iff.1 h2).1

theorem TR.mono {C C' : Cells} {S S' : Nat → Nat} {τ τ' : Tau} {w w' : World} {t : Nat} {c : TC} (hC : ∀ b o, C b o → C' b o) (hw : ∀ b o, C b o → w'.cell? ⟨b, o, none⟩ = w.cell? ⟨b, o, none⟩)
    (hS : ∀ t, S t ≤ S' t) (hτ : ∀ t, S' t = S t → τ' t = τ t) (ht : τ' t = τ t)
    (hb : ∀ k, τ t = some k → w'.heap[k.b]? = w.heap[k.b]?) (hn : ∀ k o, τ t = some k → C' k.b o → C k.b o) (h : TR C S τ w t c) : TR C' S' τ' w' t c := by
  cases c with
  | gone => trivial
  | box ty fz cs =>
    obtain ⟨k, vs, fr, h1, h2, h3, h4, h5, h6, h7, h8⟩ := h
    exact ⟨k, vs, fr, ht.trans h1, (hb k h1).trans h2, h3, h4, h5, fun i v x hv hx => (h6 i v x hv hx).mono hC hw hS hτ, fun o ho => h7 o (hn k o h1 ho), fun hz o ho => hC _ _ (h8 hz o ho)⟩
  | row e sz l u xs =>
    rcases h with ⟨h1, h2⟩ | ⟨k, vs, fr, h1, h2, h3, h4, h5, h6, h7, h8, h9, h10, h11, h12, h13⟩
    · exact .inl ⟨ht.trans h1, h2⟩
    · refine .inr ⟨k, vs, fr, ht.trans h1, h2, (hb k h1).trans h3, h4, h5, h6, h7, h8, h9, fun i j c y hc hy => ?_, fun o ho => h11 o (hn k o h1 ho), h12, fun o ho => hC _ _ (h13 o ho)⟩
      obtain ⟨v, hv, hr⟩ := h10 i j c y hc hy
      exact ⟨v, hv, hr.mono hC hw⟩

/-- The frame's rule: what an operation did to the tokens in its sight, and to nothing else, keeps the whole state's relation. -/
theorem Core.step {G : Env} {C C' : Cells} {τ τ' : Tau} {σ σ' : St} {tm tm' : Array Value} {w w' : World} {A : List Nat}
    (h : Core G C τ σ tm w) (hs : Stp (blksOf τ σ.tk A) C w C' w')
    (hsame : ∀ t, t ∉ A → σ'.tk t = σ.tk t ∧ τ' t = τ t) (hS : ∀ t, σ.S t ≤ σ'.S t) (hτ : ∀ t, σ'.S t = σ.S t → τ' t = τ t)
    (hA : ∀ t ∈ A, TR C' σ'.S τ' w' t (σ'.tk t).c)
    (hpl : ∀ t ∈ A, (σ'.tk t).c.live = true → ∀ k', τ' t = some k' → ((σ.tk t).c.live = true ∧ ∃ k, τ t = some k ∧ k.b = k'.b) ∨ (w.heap.size ≤ k'.b ∧ ∀ t' ∈ A, (σ'.tk t').c.live = true → ∀ k'', τ' t' = some k'' → k'.b = k''.b → t = t'))
    (hlt : ∀ b o, C' b o → b < w'.heap.size)
    (hsl : ∀ n, RP C' σ'.S τ' w' (tm'.getD n undef) (σ'.sl n)) : Core G C' τ' σ' tm' w' := by
  have other : ∀ t, t ∉ A → (σ.tk t).c.live = true → ∀ k, τ t = some k → ¬ blksOf τ σ.tk A k.b := by
    rintro t ht hl k hk ⟨u, hu, hul, k', hk', hb⟩
    exact ht (h.dist u t k' k hul hl hk' hk hb ▸ hu)
  refine ⟨hsl, fun t => ?_, fun t t' k k' hl hl' hk hk' hb => ?_, hlt, h.glob.mono hs.sub hs.cell⟩
  · by_cases ht : t ∈ A
    · exact hA t ht
    · obtain ⟨e1, e2⟩ := hsame t ht
      rw [e1]
      have htr := h.toks t
      by_cases hl : (σ.tk t).c.live = true
      · refine htr.mono hs.sub hs.cell hS hτ e2 (fun k hk => hs.blk _ (htr.lt hl hk) (other t ht hl k hk)) (fun k o hk ho => ?_)
        rcases hs.new _ _ ho with h1 | h1 | h1
        · exact h1
        · exact absurd h1 (other t ht hl k hk)
        · exact absurd (htr.lt hl hk) (by omega)
      · cases hc : (σ.tk t).c with
        | gone => trivial
        | box _ _ _ => rw [hc] at hl; exact absurd rfl hl
        | row _ _ _ _ _ => rw [hc] at hl; exact absurd rfl hl
  · -- two tokens at one block
    have old : ∀ t, (σ'.tk t).c.live = true → ∀ k', τ' t = some k' → (((σ.tk t).c.live = true ∧ ∃ k, τ t = some k ∧ k.b = k'.b) ∧ k'.b < w.heap.size) ∨ (t ∈ A ∧ w.heap.size ≤ k'.b ∧ ∀ t' ∈ A, (σ'.tk t').c.live = true → ∀ k'', τ' t' = some k'' → k'.b = k''.b → t = t') := by
      intro t hl k' hk'
      by_cases ht : t ∈ A
      · rcases hpl t ht hl k' hk' with ⟨h1, k, h2, h3⟩ | h1
        · exact .inl ⟨⟨h1, k, h2, h3⟩, h3 ▸ (h.toks t).lt h1 h2⟩
        · exact .inr ⟨ht, h1⟩
      · obtain ⟨e1, e2⟩ := hsame t ht
        rw [e1] at hl
        rw [e2] at hk'
        exact .inl ⟨⟨hl, k', hk', rfl⟩, (h.toks t).lt hl hk'⟩
    rcases old t hl k hk with ⟨⟨a1, k1, a2, a3⟩, a4⟩ | ⟨a1, a2, a3⟩ <;> rcases old t' hl' k' hk' with ⟨⟨b1, k2, b2, b3⟩, b4⟩ | ⟨b1, b2, b3⟩
    · exact h.dist t t' k1 k2 a1 b1 a2 b2 (by omega)
    · omega
    · omega
    · exact a3 t' b1 hl' k' hk' hb
end Go.Absw

/- The abstract machine, its third part: operands, and rows that are handed on as data. Conditions: none. -/
namespace Go.Absw
open Go

def valOk : Value → FV → Bool
  | .int k n, .int k' n' => decide (k = k') && decide (n = n')
  | .bool a, .bool b => a == b
  | .string s, .str l => s.data.toList == l
  | .pointer none, .nilp => true
  | .nilIface, .nili => true
  | .nilFunc, .nilf => true
  | .slice none 0 0, .nils => true
  | _, _ => false
def valsOk : List Value → List FV → Bool
  | [], [] => true
  | v :: r, x :: q => valOk v x && valsOk r q
  | _, _ => false
def opdOk : Operand → PArg → Bool
  | .tmp t, .s n => t == n
  | .tmp t, .z n _ => t == n
  | .const v, .c x => valOk v x
  | .global g, .g n => g == n
  | .func f, .fn f' => f == f'
  | _, _ => false
def opdsOk : List Operand → List PArg → Bool
  | [], [] => true
  | v :: r, x :: q => opdOk v x && opdsOk r q
  | _, _ => false

theorem valOk_RF {C : Cells} {w : World} {v : Value} {x : FV} (h : valOk v x = true) : RF C w v x := by
  unfold valOk at h
  split at h
  · simp only [Bool.and_eq_true, decide_eq_true_eq] at h
    obtain ⟨rfl, rfl⟩ := h
    exact .int _ _
  · simp only [beq_iff_eq] at h
    subst h
    exact .bool _
  · rename_i s l
    simp only [beq_iff_eq] at h
    subst h
    exact .str _
  · exact .nilp
  · exact .nili
  · exact .nilf
  · exact .nils
  · cases h

theorem valsOk_RF {C : Cells} {w : World} : ∀ {vs : List Value} {xs : List FV}, valsOk vs xs = true → vs.length = xs.length ∧ ∀ (i : Nat) v x, vs[i]? = some v → xs[i]? = some x → RF C w v x
  | [], [], _ => ⟨rfl, fun i v x h => by simp at h⟩
  | v :: r, x :: q, h => by
    simp only [valsOk, Bool.and_eq_true] at h
    obtain ⟨h1, h2⟩ := valsOk_RF (C := C) (w := w) h.2
    refine ⟨by simp [h1], fun i v' x' hv hx => ?_⟩
    cases i with
    | zero => simp at hv hx; subst hv; subst hx; exact valOk_RF h.1
    | succ i => simp at hv hx; exact h2 i v' x' hv hx
  | [], _ :: _, h => by simp [valsOk] at h
  | _ :: _, [], h => by simp [valsOk] at h

theorem cell_of {w : World} {b o : Nat} {vs : Array Value} {e : TypeId} {fr : Nat × Nat} (h : w.heap[b]? = some (.cells vs e fr)) : w.cell? ⟨b, o, none⟩ = vs[o]? := by
  simp [World.cell?, h]

theorem idx_lt {i j n sz : Nat} (hi : i < n) (hj : j < sz) : i * sz + j < n * sz := by
  have h1 : (i + 1) * sz ≤ n * sz := Nat.mul_le_mul_right _ hi
  rw [Nat.add_mul] at h1
  omega

theorem frzC_RP {G : Env} {C : Cells} {τ : Tau} {σ : St} {tm : Array Value} {w : World} (h : Core G C τ σ tm w) (foot : List Nat) (s : Option Nat) {v : Value} {p : PV}
    (hp : RP C σ.S τ w v p) : RP C σ.S τ w v (frzC σ foot s p) := by
  unfold frzC
  split
  · rename_i sz
    cases hp with
    | f v x hx =>
      cases hx
      exact .f _ _ (.sl none 0 sz [] (fun _ _ => undef) (by simp) (by simp) (fun h => absurd rfl h) (by simp))
  · rename_i sz t off len st
    have ht := h.toks t
    split
    · rename_i e sz' l u xs hl
      split
      · rename_i hc
        obtain ⟨rfl, hc1, hc2⟩ := hc
        unfold look at hl
        split at hl
        · split at hl
          · rename_i hst
            rw [hl] at ht
            cases hp with
            | ts v t off len s h1 hle hv =>
              have hlen : ((xs.drop off).take len).length = len := by simp; omega
              rcases hv (by simpa [St.S] using hst.symm) with ⟨e1, e2, e3, e4⟩ | ⟨k, o, e1, e2, e3, e4⟩
              · subst e2; subst e4
                refine .f _ _ (?_ : RF C w (.slice none 0 0) _)
                simp only [List.take_zero]
                exact .sl none 0 _ [] (fun _ _ => undef) (by simp) (by simp) (fun h => absurd rfl h) (by simp)
              · subst e2
                rcases ht with ⟨q1, q2⟩ | ⟨k', vs, fr, q1, q2, q3, q4, q5, q6, q7, q8, q9, q10, q11, q12, q13⟩
                · rw [e1] at q1; cases q1
                · rw [e1] at q1; cases q1
                  refine .f _ _ ?_
                  have key := RF.sl (C := C) (w := w) (some ⟨k.b, o, none⟩) (k.cap - off) sz' ((xs.drop off).take len) (fun i j => vs.getD ((off + i) * sz' + j) undef) (by omega)
                    (fun c hc => q8 c (List.drop_subset _ _ (List.take_subset _ _ hc))) (fun hne => ?_) (fun i j c y hc hy => ?_)
                  · rwa [hlen] at key
                  · refine ⟨k.b, o, rfl, fun i j hi hj => ?_⟩
                    rw [hlen] at hi
                    have ho : o = off * k.sz := e4 (by omega)
                    have hij : o + i * sz' + j = (off + i) * sz' + j := by rw [ho, q2, Nat.add_mul]
                    rw [hij]
                    have hlt : (off + i) * sz' + j < l * sz' := idx_lt (by omega) hj
                    have hlt2 : (off + i) * sz' + j < vs.size := by rw [q5]; exact idx_lt (by omega) hj
                    exact ⟨q13 _ hlt, by rw [cell_of q3]; simp [Array.getD, hlt2]⟩
                  · rw [List.getElem?_take] at hc
                    split at hc
                    · rw [List.getElem?_drop] at hc
                      obtain ⟨v, hv', hr⟩ := q10 (off + i) j c y hc hy
                      have : vs.getD ((off + i) * sz' + j) undef = v := by simp [Array.getD_eq_getD_getElem?, hv']
                      rw [this]
                      exact hr
                    · cases hc
          · cases hl
        · cases hl
      · exact hp
    · exact hp
  · exact hp

theorem frzL_RP {G : Env} {C : Cells} {τ : Tau} {σ : St} {tm : Array Value} {w : World} (h : Core G C τ σ tm w) (foot : List Nat) : ∀ (s : List (Option Nat)) (xs : List PV),
    (frzL σ foot s xs).length = xs.length ∧ ∀ (i : Nat) v x, xs[i]? = some x → RP C σ.S τ w v x → ∀ y, (frzL σ foot s xs)[i]? = some y → RP C σ.S τ w v y
  | [], xs => by simp only [frzL]; exact ⟨trivial, fun i v x hx hr y hy => by rw [hx] at hy; cases hy; exact hr⟩
  | s :: r, [] => by simp [frzL]
  | s :: r, p :: q => by
    obtain ⟨h1, h2⟩ := frzL_RP h foot r q
    refine ⟨by simp [frzL, h1], fun i v x hx hr y hy => ?_⟩
    cases i with
    | zero => simp [frzL] at hx hy; subst hx; subst hy; exact frzC_RP h foot s hr
    | succ i => simp [frzL] at hx hy; exact h2 i v x hx hr y hy

theorem frzV_RP {G : Env} {C : Cells} {τ : Tau} {σ : St} {tm : Array Value} {w : World} (h : Core G C τ σ tm w) (foot : List Nat) (s : List (Option Nat)) {v : Value} {p : PV}
    (hp : RP C σ.S τ w v p) : RP C σ.S τ w v (frzV σ foot s p) := by
  unfold frzV
  split
  · exact hp
  · rename_i s r
    split
    · rename_i xs
      cases hp with
      | ag vs xs hs h1 hr =>
        obtain ⟨e1, e2⟩ := frzL_RP h foot (s :: r) xs
        refine .ag vs _ (by omega) h1 (fun i v x hv hx => ?_)
        have hi : i < xs.length := by rw [← e1]; exact (List.getElem?_eq_some_iff.1 hx).1
        exact e2 i v xs[i] (by simp [hi]) (hr i v xs[i] hv (by simp [hi])) x hx
    · exact frzC_RP h foot s hp

theorem opd_RP {G : Env} {C : Cells} {τ : Tau} {σ : St} {a : Act} {w : World} (h : Core G C τ σ a.tmps w) (foot : List Nat) {x : Operand} {q : PArg} (hx : opdOk x q = true) :
    RP C σ.S τ w (a.eval x) (q.val G σ foot) := by
  unfold opdOk at hx
  split at hx
  · simp only [beq_iff_eq] at hx; subst hx; exact h.slots _
  · simp only [beq_iff_eq] at hx; subst hx; exact frzV_RP h foot _ (h.slots _)
  · exact .f _ _ (valOk_RF hx)
  · simp only [beq_iff_eq] at hx; subst hx
    rename_i g
    have key := RP.fp (C := C) (S := σ.S) (τ := τ) (w := w) g 0 0 (G.glob g) (fun j => (w.cell? ⟨g, j, none⟩).getD undef) (fun j hj => ?_) (fun j y hy => ?_)
    · exact key
    · obtain ⟨h1, v, h2, h3⟩ := h.glob.1 g j _ (List.getElem?_eq_getElem hj)
      simp only [Nat.zero_add]
      exact ⟨h1, by rw [h2]; rfl⟩
    · obtain ⟨h1, v, h2, h3⟩ := h.glob.1 g j _ hy
      rw [h2]; exact h3
  · simp only [beq_iff_eq] at hx; subst hx; exact .f _ _ (.fn _)
  · cases hx

theorem opds_RP {G : Env} {C : Cells} {τ : Tau} {σ : St} {a : Act} {w : World} (h : Core G C τ σ a.tmps w) (foot : List Nat) : ∀ {xs : List Operand} {qs : List PArg}, opdsOk xs qs = true →
    xs.length = qs.length ∧ ∀ (i : Nat) x q, xs[i]? = some x → qs[i]? = some q → RP C σ.S τ w (a.eval x) (q.val G σ foot)
  | [], [], _ => ⟨rfl, fun i x q hx => by simp at hx⟩
  | x :: r, q :: s, hh => by
    simp only [opdsOk, Bool.and_eq_true] at hh
    obtain ⟨e1, e2⟩ := opds_RP h foot hh.2
    refine ⟨by simp [e1], fun i x' q' hx hq => ?_⟩
    cases i with
    | zero => simp at hx hq; subst hx; subst hq; exact opd_RP h foot hh.1
    | succ i => simp at hx hq; exact e2 i x' q' hx hq
  | [], _ :: _, hh => by simp [opdsOk] at hh
  | _ :: _, [], hh => by simp [opdsOk] at hh
end Go.Absw

/- The abstract machine, its fourth part: operations that read alone do in the model what the abstract machine says. Conditions: the link between an operation and its abstract form is checked by a closed computation. -/
namespace Go.Absw
open Go

def sizeIs (P : Program) (t : TypeId) (n : Nat) : Bool := match P.info? t with | some i => i.size == n | none => false
def aggIs (P : Program) (t : TypeId) (b : Bool) : Bool := match P.underlying t with
  | some (.struct _) => b
  | some (.array _ _) => b
  | some _ => !b
  | none => false
def elemSz (P : Program) (t : TypeId) (sz : Nat) : Bool := match P.underlying t with | some (.slice e) => sizeIs P e sz | _ => false

theorem run_sizeOf {P : Program} {t : TypeId} {n : Nat} (h : sizeIs P t n = true) (w : World) : (sizeOf t).run P w = .ok n w := by
  unfold sizeIs at h
  split at h
  · rename_i i hi
    simp only [beq_iff_eq] at h
    simp [sizeOf, typeInfo, hi, h]
  · cases h
theorem run_isAgg {P : Program} {t : TypeId} {b : Bool} (h : aggIs P t b = true) (w : World) : (isAgg t).run P w = .ok b w := by
  unfold aggIs at h
  split at h
  · rename_i hd; simp [isAgg, run_underlying hd, h]
  · rename_i hd; simp [isAgg, run_underlying hd, h]
  · rename_i d hd1 hd2 hd
    simp only [Bool.not_eq_true'] at h
    subst h
    simp only [isAgg, Sem.run_bind, run_underlying hd, Result.andThen_ok]
    cases d <;> first | rfl | exact absurd hd (hd1 _) | exact absurd hd (hd2 _ _)
  · cases h

theorem add_lit (b o j : Nat) : (⟨b, o, none⟩ : Addr).add j = ⟨b, o + j, none⟩ := by
  unfold Addr.add; split <;> simp_all

theorem look_ne {σ : St} {foot : List Nat} {t s : Nat} {c : TC} (h : look σ foot t s = c) (hc : c ≠ .gone) : s = σ.S t ∧ (σ.tk t).c = c ∧ t ∈ foot := by
  unfold look at h
  split at h
  · rename_i hf
    split at h
    · rename_i hs; exact ⟨hs.symm, h, by simpa using hf⟩
    · exact absurd h.symm hc
  · exact absurd h.symm hc

section
variable {G : Env} {C : Cells} {τ : Tau} {σ : St} {tm : Array Value} {w : World}

/-- The cells of a variable in memory, behind a pointer. -/
theorem box_at (h : Core G C τ σ tm w) {foot : List Nat} {t i o s : Nat} {ty : TypeId} {fz : Bool} {cs : List PV} (hl : look σ foot t s = .box ty fz cs) {v : Value} (hp : RP C σ.S τ w v (.ptr t i o s)) :
    ∃ k vs fr, τ t = some k ∧ v = .pointer (some ⟨k.b, i * k.sz + o, none⟩) ∧ w.heap[k.b]? = some (.cells vs ty fr) ∧ NoFr vs.size fr ∧ vs.size = cs.length ∧
      (∀ (i : Nat) v, vs[i]? = some v → v.oneCell' = true) ∧ (∀ (i : Nat) v x, vs[i]? = some v → cs[i]? = some x → RP C σ.S τ w v x) := by
  obtain ⟨hs, hc, _⟩ := look_ne hl (by simp)
  have ht := h.toks t
  rw [hc] at ht
  obtain ⟨k, vs, fr, h1, h2, h3, h4, h5, h6, _⟩ := ht
  cases hp with
  | ptr v t i o s h1' hle hv =>
    obtain ⟨k', e1, e2⟩ := hv hs
    rw [h1] at e1; cases e1
    exact ⟨k, vs, fr, h1, e2, h2, h3, h4, h5, h6⟩

/-- An element of a row, behind a pointer. -/
theorem row_at (h : Core G C τ σ tm w) {foot : List Nat} {t i o s : Nat} {e : TypeId} {sz l u : Nat} {xs : List (List FV)} (hl : look σ foot t s = .row e sz l u xs) {v : Value} (hp : RP C σ.S τ w v (.ptr t i o s)) :
    ∃ k, τ t = some k ∧ v = .pointer (some ⟨k.b, i * sz + o, none⟩) ∧ (xs = [] ∨ ∃ vs fr, k.sz = sz ∧ w.heap[k.b]? = some (.cells vs e fr) ∧ NoFr vs.size fr ∧
      (∀ (i j : Nat) c y, xs[i]? = some c → c[j]? = some y → ∃ v, vs[i * sz + j]? = some v ∧ RF C w v y)) := by
  obtain ⟨hs, hc, _⟩ := look_ne hl (by simp)
  have ht := h.toks t
  rw [hc] at ht
  cases hp with
  | ptr v t i o s h1' hle hv =>
    obtain ⟨k', e1, e2⟩ := hv hs
    rcases ht with ⟨q1, q2⟩ | ⟨k, vs, fr, q1, q2, q3, q4, q5, q6, q7, q8, q9, q10, _⟩
    · rw [e1] at q1; cases q1
    · rw [e1] at q1; cases q1
      exact ⟨k', e1, q2 ▸ e2, .inr ⟨vs, fr, q2, q3, q4, q10⟩⟩

theorem run_load1 {P : Program} {t : TypeId} (hs : sizeIs P t 1 = true) (ha : aggIs P t false = true) {b o : Nat} {u : Value} (hc : w.cell? ⟨b, o, none⟩ = some u) :
    (Instr.loadAt t (.pointer (some ⟨b, o, none⟩))).run P w = .ok u w := by
  simp [Instr.loadAt, Instr.sureAddr, loadVar, run_isAgg ha, hc]
theorem run_loadn {P : Program} {t : TypeId} {n : Nat} (hs : sizeIs P t n = true) (ha : aggIs P t true = true) {b o : Nat} {f : Nat → Value} (hc : ∀ j, j < n → w.cell? ⟨b, o + j, none⟩ = some (f j)) :
    (Instr.loadAt t (.pointer (some ⟨b, o, none⟩))).run P w = .ok (.agg ((List.range n).map f).toArray) w := by
  have hl := run_loadCells (P := P) w ⟨b, o, none⟩ n f (fun j hj => by rw [add_lit]; exact hc j hj)
  simp [Instr.loadAt, Instr.sureAddr, loadVar, run_isAgg ha, run_sizeOf hs, hl]

theorem getN_spec {cs : List PV} {o n : Nat} {p : PV} (h : getN cs o n = some p) : o + n ≤ cs.length ∧ p = .ag ((cs.drop o).take n) := by
  unfold getN at h
  split at h
  · rename_i hc; cases h; exact ⟨hc, rfl⟩
  · cases h

theorem ag_range {C : Cells} {S : Nat → Nat} {τ : Tau} {w : World} {cs : List PV} {o n : Nat} (hn : o + n ≤ cs.length) (f : Nat → Value)
    (h1 : ∀ j, j < n → (f j).oneCell' = true) (hr : ∀ j x, j < n → cs[o + j]? = some x → RP C S τ w (f j) x) : RP C S τ w (.agg ((List.range n).map f).toArray) (.ag ((cs.drop o).take n)) := by
  refine .ag _ _ (by simp; omega) (fun i v hv => ?_) (fun i v x hv hx => ?_)
  · simp only [List.getElem?_toArray, List.getElem?_map] at hv
    obtain ⟨j, hj, rfl⟩ := Option.map_eq_some_iff.1 hv
    obtain ⟨hlt, rfl⟩ := List.getElem?_eq_some_iff.1 hj
    simp at hlt ⊢
    exact h1 i hlt
  · simp only [List.getElem?_toArray, List.getElem?_map] at hv
    obtain ⟨j, hj, rfl⟩ := Option.map_eq_some_iff.1 hv
    obtain ⟨hlt, rfl⟩ := List.getElem?_eq_some_iff.1 hj
    simp at hlt ⊢
    rw [List.getElem?_take, if_pos hlt, List.getElem?_drop] at hx
    exact hr i x hlt hx

theorem ld1_sound {P : Program} {t : TypeId} (h : Core G C τ σ tm w) (hs : sizeIs P t 1 = true) (ha : aggIs P t false = true) {foot : List Nat} {v : Value} {a p : PV} (hv : RP C σ.S τ w v a)
    (hsem : semR σ foot .ld1 [a] = some p) : ∃ u, (Instr.loadAt t v).run P w = .ok u w ∧ RP C σ.S τ w u p := by
  cases a with
  | ptr tt i o s =>
    simp only [semR] at hsem
    split at hsem
    · rename_i ty fz cs hl
      obtain ⟨k, vs, fr, h1, h2, h3, h4, h5, h6, h7⟩ := box_at h hl hv
      split at hsem
      · rename_i hi
        subst hi
        have hlt : o < vs.size := by rw [h5]; exact (List.getElem?_eq_some_iff.1 hsem).1
        have hvo : vs[o]? = some vs[o] := by simp [hlt]
        rw [h2]
        exact ⟨vs[o], run_load1 hs ha (by simp only [Nat.zero_mul, Nat.zero_add]; rw [cell_of h3]; exact hvo), h7 o _ _ hvo hsem⟩
      · cases hsem
    · rename_i e sz l u xs hl
      obtain ⟨k, h1, h2, h3⟩ := row_at h hl hv
      obtain ⟨y, hy, rfl⟩ := Option.map_eq_some_iff.1 hsem
      obtain ⟨c, hc, hy⟩ := Option.bind_eq_some_iff.1 hy
      rcases h3 with rfl | ⟨vs, fr, e1, e2, e3, e4⟩
      · simp at hc
      · obtain ⟨u, hu, hr⟩ := e4 i o c y hc hy
        rw [h2]
        exact ⟨u, run_load1 hs ha (by rw [cell_of e2]; exact hu), .f _ _ hr⟩
    · cases hsem
  | fp c o =>
    simp only [semR] at hsem
    obtain ⟨y, hy, rfl⟩ := Option.map_eq_some_iff.1 hsem
    cases hv with
    | fp b o' p c us hc hr =>
      have hlt := (List.getElem?_eq_some_iff.1 hy).1
      exact ⟨us o, run_load1 hs ha (hc o hlt).2, .f _ _ (hr o y hy)⟩
  | f x => simp [semR] at hsem
  | ag x => simp [semR] at hsem
  | tup x => simp [semR] at hsem
  | ts a b c d => simp [semR] at hsem
  | fn a b c => simp [semR] at hsem
  | ifc a b => simp [semR] at hsem
  | dead => simp [semR] at hsem

theorem ldn_sound {P : Program} {t : TypeId} {n : Nat} (h : Core G C τ σ tm w) (hs : sizeIs P t n = true) (ha : aggIs P t true = true) {foot : List Nat} {v : Value} {a p : PV} (hv : RP C σ.S τ w v a)
    (hsem : semR σ foot (.ldn n) [a] = some p) : ∃ u, (Instr.loadAt t v).run P w = .ok u w ∧ RP C σ.S τ w u p := by
  cases a with
  | ptr tt i o s =>
    simp only [semR] at hsem
    split at hsem
    · rename_i ty fz cs hl
      obtain ⟨k, vs, fr, h1, h2, h3, h4, h5, h6, h7⟩ := box_at h hl hv
      split at hsem
      · rename_i hi
        subst hi
        obtain ⟨hn, rfl⟩ := getN_spec hsem
        rw [h2]
        refine ⟨_, run_loadn hs ha (f := fun j => vs.getD (o + j) undef) (fun j hj => ?_), ag_range hn _ (fun j hj => ?_) (fun j x hj hx => ?_)⟩
        · simp only [Nat.zero_mul, Nat.zero_add]
          rw [cell_of h3]
          have : o + j < vs.size := by omega
          simp [Array.getD, this]
        · have hlt : o + j < vs.size := by omega
          simp only [Array.getD, hlt, dif_pos]
          exact h6 (o + j) _ (by simp [hlt])
        · have hlt : o + j < vs.size := by omega
          simp only [Array.getD, hlt, dif_pos]
          exact h7 (o + j) _ _ (by simp [hlt]) hx
      · cases hsem
    · rename_i e sz l u xs hl
      obtain ⟨k, h1, h2, h3⟩ := row_at h hl hv
      obtain ⟨c, hc, hy⟩ := Option.bind_eq_some_iff.1 hsem
      obtain ⟨hn, rfl⟩ := getN_spec hy
      rw [List.length_map] at hn
      rcases h3 with rfl | ⟨vs, fr, e1, e2, e3, e4⟩
      · simp at hc
      · rw [h2]
        have at_ : ∀ j, j < n → ∃ y v, c[o + j]? = some y ∧ vs[i * sz + (o + j)]? = some v ∧ RF C w v y := by
          intro j hj
          have hlt : o + j < c.length := by omega
          obtain ⟨v, hv, hr⟩ := e4 i (o + j) c _ hc (List.getElem?_eq_getElem hlt)
          exact ⟨_, v, List.getElem?_eq_getElem hlt, hv, hr⟩
        refine ⟨_, run_loadn hs ha (f := fun j => vs.getD (i * sz + (o + j)) undef) (fun j hj => ?_), ag_range (by simpa using hn) _ (fun j hj => ?_) (fun j x hj hx => ?_)⟩
        · obtain ⟨y, v, a1, a2, a3⟩ := at_ j hj
          rw [Nat.add_assoc, cell_of e2, a2]
          simp [Array.getD_eq_getD_getElem?, a2]
        · obtain ⟨y, v, a1, a2, a3⟩ := at_ j hj
          simp only [Array.getD_eq_getD_getElem?, a2, Option.getD_some]
          exact a3.one
        · obtain ⟨y, v, a1, a2, a3⟩ := at_ j hj
          simp only [Array.getD_eq_getD_getElem?, a2, Option.getD_some]
          rw [List.getElem?_map, a1] at hx
          cases hx
          exact .f _ _ a3
    · cases hsem
  | fp c o =>
    simp only [semR] at hsem
    obtain ⟨hn, rfl⟩ := getN_spec hsem
    rw [List.length_map] at hn
    cases hv with
    | fp b o' p c us hc hr =>
      refine ⟨_, run_loadn hs ha (f := fun j => us (o + j)) (fun j hj => ?_), ag_range (by simpa using hn) _ (fun j hj => ?_) (fun j x hj hx => ?_)⟩
      · rw [Nat.add_assoc]; exact (hc (o + j) (by omega)).2
      · exact (hr (o + j) _ (List.getElem?_eq_getElem (by omega))).one
      · rw [List.getElem?_map] at hx
        obtain ⟨y, hy, rfl⟩ := Option.map_eq_some_iff.1 hx
        exact .f _ _ (hr (o + j) y hy)
  | f x => simp [semR] at hsem
  | ag x => simp [semR] at hsem
  | tup x => simp [semR] at hsem
  | ts a b c d => simp [semR] at hsem
  | fn a b c => simp [semR] at hsem
  | ifc a b => simp [semR] at hsem
  | dead => simp [semR] at hsem
end
end Go.Absw

/- The abstract machine, its fifth part: numbers, strings, comparisons, parts of values. Conditions: none. -/
namespace Go.Absw
open Go

theorem beqDec (a b : Int) : (a == b) = decide (a = b) := by
  rw [Bool.eq_iff_iff]; simp
theorem bneDec (a b : Int) : (a != b) = decide (a ≠ b) := by
  rw [Bool.eq_iff_iff]; simp

section
variable {P : Program} {C : Cells} {S : Nat → Nat} {τ : Tau} {w : World}

theorem run_eqGuard_int (op : BinOp) (t : TypeId) (x y : Operand) (k k' : IntKind) (a b : Int) : (eqGuard op t x y (.int k a) (.int k' b)).run P w = .ok () w := by
  cases op <;> simp [eqGuard]
theorem run_eqGuard_str (op : BinOp) (t : TypeId) (x y : Operand) (a b : ByteArray) : (eqGuard op t x y (.string a) (.string b)).run P w = .ok () w := by
  cases op <;> simp [eqGuard]
theorem run_eqGuard_bool (op : BinOp) (t : TypeId) (x y : Operand) (a b : Bool) : (eqGuard op t x y (.bool a) (.bool b)).run P w = .ok () w := by
  cases op <;> simp [eqGuard]

theorem bin_int {op : BinOp} {k k' : IntKind} {a b : Int} {x : FV} (h : binF op (.int k a) (.int k' b) = some x) (t : TypeId) :
    ∃ u, (binOp op t (.int k a) (.int k' b)).run P w = .ok u w ∧ RF C w u x := by
  have shift : ∀ op, op = .shl ∨ op = .shr → shiftI op k a b = some x → ∃ u, (Op.shift op k a k' b).run P w = .ok u w ∧ RF C w u x := by
    intro op ho hs
    unfold shiftI at hs
    split at hs
    · cases hs
    · rename_i hb
      rcases ho with rfl | rfl
      · cases hs; exact ⟨_, by simp [Op.shift, hb], .int _ _⟩
      · cases hs; exact ⟨_, by simp [Op.shift, hb], .int _ _⟩
  have same : (∀ y, (op = .shl → False) → (op = .shr → False) → k = k' → binI op k a b = some y → ∃ u, (binOp op t (.int k a) (.int k' b)).run P w = .ok u w ∧ RF C w u y) := by
    intro y h1 h2 hk hy
    subst hk
    cases op <;> simp only [binI] at hy <;> first
      | exact absurd rfl h1
      | exact absurd rfl h2
      | (cases hy; refine ⟨_, ?_, .int _ _⟩; simp [binOp, Op.intArith]; done)
      | (cases hy; refine ⟨_, ?_, .int _ _⟩; simp only [binOp, ne_eq, not_true_eq_false, if_false]; rfl)
      | (cases hy; refine ⟨_, ?_, .bool _⟩; simp [binOp, Op.intCmp, beqDec, bneDec]; done)
      | (split at hy
         · cases hy
         · rename_i hb; cases hy; refine ⟨_, ?_, .int _ _⟩; simp [binOp, Op.intDiv, hb]; done)
  cases op <;> simp only [binF] at h <;> first
    | (obtain ⟨u, h1, h2⟩ := shift _ (.inl rfl) h; exact ⟨u, by simpa [binOp] using h1, h2⟩)
    | (obtain ⟨u, h1, h2⟩ := shift _ (.inr rfl) h; exact ⟨u, by simpa [binOp] using h1, h2⟩)
    | (split at h
       · rename_i hk; exact same x (by simp) (by simp) hk h
       · cases h)

theorem bytes_beq (a b : List UInt8) : ((⟨a.toArray⟩ : ByteArray).toList == (⟨b.toArray⟩ : ByteArray).toList) = decide (a = b) := by
  rw [ByteArray.toList_eq, ByteArray.toList_eq, Bool.eq_iff_iff]; simp

theorem size_mk (a : List UInt8) : (⟨a.toArray⟩ : ByteArray).size = a.length := by simp [ByteArray.size]

theorem append_mk (a b : List UInt8) : (⟨a.toArray⟩ : ByteArray) ++ ⟨b.toArray⟩ = ⟨(a ++ b).toArray⟩ := by
  apply ByteArray.ext
  simp

theorem bin_str {op : BinOp} {a b : List UInt8} {x : FV} (h : binF op (.str a) (.str b) = some x) (t : TypeId) :
    ∃ u, (binOp op t (.string ⟨a.toArray⟩) (.string ⟨b.toArray⟩)).run P w = .ok u w ∧ RF C w u x := by
  simp only [binF] at h
  by_cases hop : op = .add
  · subst hop
    simp only [binS] at h
    split at h
    · rename_i hl
      cases h
      simp only [i64max] at hl
      refine ⟨_, ?_, .str _⟩
      have hm : IntKind.i64.max = 9223372036854775807 := by decide
      have : ¬ (((a.length + b.length : Nat) : Int) > IntKind.i64.max) := by rw [hm]; omega
      simp only [binOp, Op.stringOp, size_mk, append_mk, if_neg this]
      rfl
    · cases h
  · cases op <;> simp only [binS] at h <;> first
      | exact absurd rfl hop
      | (cases h; done)
      | (cases h; refine ⟨_, ?_, .bool _⟩; simp [binOp, Op.stringOp, bytes_beq]; done)
      | (cases h; refine ⟨_, ?_, .bool _⟩; simp [binOp, Op.stringOp, bytes_beq, ByteArray.toList_eq]; done)
      | (cases h; refine ⟨_, ?_, .bool _⟩; simp only [binOp, Op.stringOp, bytes_beq]; simp [ByteArray.toList_eq]; done)

theorem bin_sound {op : BinOp} {a b x : FV} (h : binF op a b = some x) (t : TypeId) {va vb : Value} (ha : RF C w va a) (hb : RF C w vb b) (oa ob : Operand) :
    ∃ u, (do eqGuard op t oa ob va vb; binOp op t va vb : Sem Value).run P w = .ok u w ∧ RF C w u x := by
  cases ha <;> cases hb <;> first
    | (simp [binF] at h; done)
    | (obtain ⟨u, h1, h2⟩ := bin_int (P := P) (C := C) (w := w) h t; exact ⟨u, by simp [run_eqGuard_int, h1], h2⟩)
    | (obtain ⟨u, h1, h2⟩ := bin_str (P := P) (C := C) (w := w) h t; exact ⟨u, by simp [run_eqGuard_str, h1], h2⟩)

theorem un_sound {op : UnOp} {a x : FV} (h : unF op a = some x) {va : Value} (ha : RF C w va a) : ∃ u, (Op.unary op va).run P w = .ok u w ∧ RF C w u x := by
  cases ha <;> cases op <;> simp only [unF] at h <;> first
    | (cases h; done)
    | (cases h; refine ⟨_, ?_, .int _ _⟩; simp [Op.unary, Op.intArith]; done)
    | (cases h; refine ⟨_, ?_, .int _ _⟩; simp only [Op.unary]; rfl)
    | (cases h; refine ⟨_, ?_, .bool _⟩; simp [Op.unary]; done)

end
end Go.Absw

/- The abstract machine, its sixth part: building, slicing, indexing, comparing structs. Conditions: none. -/
namespace Go.Absw
open Go

theorem chunk_length (sz : Nat) : ∀ (n : Nat) (ys : List FV), (chunk sz n ys).length = n
  | 0, _ => rfl
  | n + 1, ys => by simp [chunk, chunk_length sz n]
theorem chunk_get (sz : Nat) : ∀ (n : Nat) (ys : List FV) (i : Nat) (c : List FV), (chunk sz n ys)[i]? = some c → c = (ys.drop (i * sz)).take sz
  | 0, _, i, c, h => by simp [chunk] at h
  | n + 1, ys, 0, c, h => by simp [chunk] at h; simp [h]
  | n + 1, ys, i + 1, c, h => by
    simp only [chunk, List.getElem?_cons_succ] at h
    have := chunk_get sz n (ys.drop sz) i c h
    rw [List.drop_drop] at this
    rw [this]
    congr 2
    rw [Nat.add_mul]
    omega
theorem chunk_len {sz n : Nat} {ys : List FV} (hl : ys.length = n * sz) : ∀ c ∈ chunk sz n ys, c.length = sz := by
  intro c hc
  obtain ⟨i, hi, rfl⟩ := List.mem_iff_getElem.1 hc
  have hi' : i < n := by simpa [chunk_length] using hi
  rw [chunk_get sz n ys i _ (List.getElem?_eq_getElem hi)]
  have : (i + 1) * sz ≤ n * sz := Nat.mul_le_mul_right _ hi'
  rw [Nat.add_mul] at this
  simp only [List.length_take, List.length_drop]
  omega

theorem fvs_spec : ∀ {xs : List PV} {ys : List FV}, fvs? xs = some ys → xs = ys.map .f
  | [], ys, h => by simp [fvs?] at h; subst h; rfl
  | .f x :: r, ys, h => by
    simp only [fvs?] at h
    obtain ⟨zs, hz, rfl⟩ := Option.map_eq_some_iff.1 h
    rw [fvs_spec hz]; rfl
  | .ag _ :: _, _, h => by simp [fvs?] at h
  | .tup _ :: _, _, h => by simp [fvs?] at h
  | .ptr _ _ _ _ :: _, _, h => by simp [fvs?] at h
  | .fp _ _ :: _, _, h => by simp [fvs?] at h
  | .ts _ _ _ _ :: _, _, h => by simp [fvs?] at h
  | .fn _ _ _ :: _, _, h => by simp [fvs?] at h
  | .ifc _ _ :: _, _, h => by simp [fvs?] at h
  | .dead :: _, _, h => by simp [fvs?] at h

theorem nth_spec {α : Type} {xs : List α} {i : Int} {c : α} (h : nth xs i = some c) : 0 ≤ i ∧ xs[i.toNat]? = some c ∧ i < xs.length := by
  unfold nth at h
  split at h
  · rename_i h0
    have := (List.getElem?_eq_some_iff.1 h).1
    exact ⟨h0, h, by omega⟩
  · cases h

/-- Lists of cells, value by value. -/
structure RL (C : Cells) (S : Nat → Nat) (τ : Tau) (w : World) (vs : List Value) (xs : List PV) : Prop where
  len : vs.length = xs.length
  one : ∀ (i : Nat) v, vs[i]? = some v → v.oneCell' = true
  rel : ∀ (i : Nat) v x, vs[i]? = some v → xs[i]? = some x → RP C S τ w v x

section
variable {P : Program} {C : Cells} {S : Nat → Nat} {τ : Tau} {w : World}

theorem RL.of_ag {vs : Array Value} {xs : List PV} (h : RP C S τ w (.agg vs) (.ag xs)) : RL C S τ w vs.toList xs := by
  cases h with
  | ag vs xs hs h1 hr => exact ⟨by simpa using hs, fun i v hv => h1 i v (by simpa using hv), fun i v x hv hx => hr i v x (by simpa using hv) hx⟩
theorem RL.ag {vs : Array Value} {xs : List PV} (h : RL C S τ w vs.toList xs) : RP C S τ w (.agg vs) (.ag xs) :=
  .ag _ _ (by simpa using h.len) (fun i v hv => h.one i v (by simpa using hv)) (fun i v x hv hx => h.rel i v x (by simpa using hv) hx)
theorem RL.cells {v : Value} {p : PV} {xs : List PV} (h : RP C S τ w v p) (hp : p.cells = some xs) : RL C S τ w v.cells.toList xs := by
  have single : p.one = true → p.cells = some [p] → RL C S τ w v.cells.toList xs := by
    intro h1 h2
    rw [h2] at hp; cases hp
    have h3 := h.oneCell h1
    have h4 : v.cells = #[v] := by cases v <;> first | rfl | (simp [Value.oneCell'] at h3; done)
    rw [h4]
    refine ⟨rfl, fun i u hu => ?_, fun i u x hu hx => ?_⟩
    · cases i with
      | zero => simp at hu; subst hu; exact h3
      | succ i => simp at hu
    · cases i with
      | zero => simp at hu hx; subst hu; subst hx; exact h
      | succ i => simp at hu
  cases p with
  | ag ys =>
    simp only [PV.cells, Option.some.injEq] at hp
    subst hp
    cases h with
    | ag vs xs hs h1 hr => exact RL.of_ag (.ag vs ys hs h1 hr)
  | tup _ => simp [PV.cells] at hp
  | dead => simp [PV.cells] at hp
  | _ => exact single rfl rfl

theorem splice_length {α : Type} {cs : List α} {o : Nat} {xs : List α} (h : o + xs.length ≤ cs.length) : (splice cs o xs).length = cs.length := by
  simp only [splice, List.length_append, List.length_take, List.length_drop]; omega
theorem splice_get {α : Type} {cs : List α} {o : Nat} {xs : List α} (h : o + xs.length ≤ cs.length) (i : Nat) :
    (splice cs o xs)[i]? = if o ≤ i ∧ i < o + xs.length then xs[i - o]? else cs[i]? := by
  unfold splice
  have ht : (cs.take o).length = o := by rw [List.length_take]; omega
  by_cases h1 : i < o
  · rw [if_neg (by omega), List.append_assoc, List.getElem?_append_left (by omega), List.getElem?_take, if_pos h1]
  · by_cases h2 : i < o + xs.length
    · rw [if_pos ⟨by omega, h2⟩, List.append_assoc, List.getElem?_append_right (by omega), List.getElem?_append_left (by omega), ht]
    · rw [if_neg (by omega), List.getElem?_append_right (by simp only [List.length_append]; omega), List.getElem?_drop]
      congr 1
      simp only [List.length_append, ht]
      omega

theorem RL.splice {vs us : List Value} {xs ys : List PV} {o : Nat} (h : RL C S τ w vs xs) (h' : RL C S τ w us ys) (hl : o + ys.length ≤ xs.length) : RL C S τ w (splice vs o us) (splice xs o ys) := by
  have hl' : o + us.length ≤ vs.length := by rw [h.len, h'.len]; exact hl
  refine ⟨by rw [splice_length hl', splice_length hl, h.len], fun i v hv => ?_, fun i v x hv hx => ?_⟩
  · rw [splice_get hl'] at hv
    split at hv
    · exact h'.one _ v hv
    · exact h.one _ v hv
  · rw [splice_get hl'] at hv
    rw [splice_get hl] at hx
    rw [h'.len] at hv
    split at hv
    · rename_i hc; rw [if_pos hc] at hx; exact h'.rel _ v x hv hx
    · rename_i hc; rw [if_neg hc] at hx; exact h.rel _ v x hv hx

theorem foldl_set (off : Nat) : ∀ (l : List Value) (j : Nat) (cs : Array Value), off + j + l.length ≤ cs.size →
    ((l.zipIdx j).foldl (fun cs (p : Value × Nat) => cs.setIfInBounds (off + p.2) p.1) cs).toList = splice cs.toList (off + j) l
  | [], j, cs, h => by simp [splice]
  | v :: l, j, cs, h => by
    simp only [List.zipIdx_cons, List.foldl_cons]
    rw [foldl_set off l (j + 1) _ (by simp only [Array.size_setIfInBounds, List.length_cons] at *; omega)]
    have h' : off + j < cs.toList.length := by simp only [List.length_cons] at h; simp; omega
    simp only [Array.toList_setIfInBounds]
    simp only [List.length_cons] at h
    have hs : cs.toList.length = cs.size := by simp
    apply List.ext_getElem?
    intro i
    rw [splice_get (by rw [List.length_set]; omega), splice_get (by simp only [List.length_cons]; omega)]
    by_cases h1 : off + (j + 1) ≤ i ∧ i < off + (j + 1) + l.length
    · rw [if_pos h1, if_pos (by simp only [List.length_cons]; omega), show i - (off + j) = (i - (off + (j + 1))) + 1 by omega]
      rfl
    · rw [if_neg h1]
      by_cases h2 : i = off + j
      · subst h2
        rw [if_pos (by simp), List.getElem?_set_self h', Nat.sub_self]; rfl
      · rw [if_neg (by simp only [List.length_cons]; omega), List.getElem?_set_ne (fun e => h2 e.symm)]

theorem cells_fold (off : Nat) (us : Array Value) (cs : Array Value) (h : off + us.size ≤ cs.size) :
    (us.zipIdx.foldl (fun cs (p : Value × Nat) => cs.setIfInBounds (off + p.2) p.1) cs).toList = Absw.splice cs.toList off us.toList := by
  have := foldl_set off us.toList 0 cs (by simpa using h)
  rw [← Array.foldl_toList]
  simpa using this

theorem fill_sound {place : Nat → Option (Nat × Nat)} : ∀ {ps : List (Nat × Nat)} {as : List PV} {is : List Nat} {vs : List Value} {cs : Array Value} {xs out : List PV},
    RL C S τ w cs.toList xs → fillP xs ps as = some out → is.length = ps.length → vs.length = ps.length →
    (∀ (n : Nat) i p, is[n]? = some i → ps[n]? = some p → place i = some p) → (∀ (n : Nat) v a, vs[n]? = some v → as[n]? = some a → RP C S τ w v a) →
    ∃ cs', Instr.fill place cs (is.zip vs) = some cs' ∧ RL C S τ w cs'.toList out
  | [], [], is, vs, cs, xs, out, hr, hf, h1, h2, _, _ => by
    simp only [fillP, Option.some.injEq] at hf
    subst hf
    have : is = [] := List.eq_nil_of_length_eq_zero (by simpa using h1)
    subst this
    exact ⟨cs, rfl, hr⟩
  | (o, n) :: ps, a :: as, is, vs, cs, xs, out, hr, hf, h1, h2, hp, hv => by
    simp only [fillP] at hf
    cases is with
    | nil => simp at h1
    | cons i is =>
      cases vs with
      | nil => simp at h2
      | cons v vs =>
        split at hf
        · rename_i ys hy
          split at hf
          · rename_i hc
            obtain ⟨hc1, hc2⟩ := hc
            have hcells := RL.cells (hv 0 v a rfl rfl) hy
            have hsz : v.cells.size = n := by have := hcells.len; simp at this; omega
            have hxs : cs.size = xs.length := by have := hr.len; simpa using this
            have hpl : place i = some (o, n) := hp 0 i (o, n) rfl rfl
            have hfold := cells_fold o v.cells cs (by omega)
            have key := fill_sound (place := place) (cs := v.cells.zipIdx.foldl (fun cs (p : Value × Nat) => cs.setIfInBounds (o + p.2) p.1) cs) (xs := Absw.splice xs o ys) (is := is) (vs := vs)
              (by rw [hfold]; exact hr.splice hcells (by omega)) hf (by simpa using h1) (by simpa using h2) (fun m i' p' hi hp' => hp (m + 1) i' p' (by simpa using hi) (by simpa using hp'))
              (fun m v' a' hv' ha' => hv (m + 1) v' a' (by simpa using hv') (by simpa using ha'))
            obtain ⟨cs', e1, e2⟩ := key
            refine ⟨cs', ?_, e2⟩
            simp only [List.zip_cons_cons, Instr.fill, hpl]
            rw [if_neg (by simp [hsz]; omega)]
            exact e1
          · cases hf
        · cases hf
  | [], _ :: _, _, _, _, _, _, _, hf, _, _, _, _ => by simp [fillP] at hf
  | _ :: _, [], _, _, _, _, _, _, hf, _, _, _, _ => by simp [fillP] at hf

end
end Go.Absw

/- The abstract machine, its seventh part: the operations that read alone, one by one. Conditions: none. -/
namespace Go.Absw
open Go

section
variable {P : Program} {G : Env} {C : Cells} {τ : Tau} {σ : St} {tm : Array Value} {w : World}

theorem run_mapM_list {α β : Type} (f : α → Sem β) (g : α → β) (w : World) : ∀ l : List α, (∀ x ∈ l, (f x).run P w = .ok (g x) w) → (l.mapM f).run P w = .ok (l.map g) w
  | [], _ => by simp
  | a :: l, h => by
    have ih := run_mapM_list f g w l (fun x hx => h x (by simp [hx]))
    simp [List.mapM_cons, h a (by simp), ih]
theorem run_mapM {α β : Type} (f : α → Sem β) (g : α → β) (w : World) (xs : Array α) (h : ∀ x ∈ xs, (f x).run P w = .ok (g x) w) : (xs.mapM f).run P w = .ok (xs.map g) w := by
  rw [Array.mapM_eq_mapM_toList, Sem.run_map, run_mapM_list f g w xs.toList (fun x hx => h x (by simpa using hx))]
  simp only [Result.andThen_ok]
  congr 1
  apply Array.ext'
  simp

/-! ### build -/
def zeroIs (P : Program) (t : TypeId) (z : List FV) : Bool := match P.info? t with
  | some i => match i.zero with
    | some v => valsOk v.cells.toList z
    | none => false
  | none => false
theorem run_zero {t : TypeId} {z : List FV} (h : zeroIs P t z = true) (w : World) : ∃ v, (zeroValue t).run P w = .ok v w ∧ valsOk v.cells.toList z = true := by
  unfold zeroIs at h
  split at h
  · rename_i i hi
    split at h
    · rename_i v hv
      exact ⟨v, by simp [zeroValue, typeInfo, hi, hv], h⟩
    · cases h
  · cases h
theorem valsOk_RL {C : Cells} {S : Nat → Nat} {vs : List Value} {xs : List FV} (h : valsOk vs xs = true) : RL C S τ w vs (xs.map .f) := by
  obtain ⟨h1, h2⟩ := valsOk_RF (C := C) (w := w) h
  refine ⟨by simp [h1], fun i v hv => ?_, fun i v x hv hx => ?_⟩
  · have hlt : i < xs.length := by rw [← h1]; exact (List.getElem?_eq_some_iff.1 hv).1
    exact (h2 i v _ hv (List.getElem?_eq_getElem hlt)).one
  · rw [List.getElem?_map] at hx
    obtain ⟨y, hy, rfl⟩ := Option.map_eq_some_iff.1 hx
    exact .f _ _ (h2 i v y hv hy)

/-- The place of a part in a struct or an array: cells ahead of it, and its own. -/
def placeOk (P : Program) (t : TypeId) (i : Nat) (p : Nat × Nat) : Bool := match P.underlying t with
  | some (.struct fs) => match fs[i]? with
    | some f => f.offset == p.1 && sizeIs P f.type p.2
    | none => false
  | some (.array _ e) => sizeIs P e p.2 && i * p.2 == p.1
  | _ => false
def placesOk (P : Program) (t : TypeId) : List Nat → List (Nat × Nat) → Bool
  | [], [] => true
  | i :: r, p :: q => placeOk P t i p && placesOk P t r q
  | _, _ => false
def partsInfo (P : Program) (t : TypeId) : Bool := match P.underlying t with
  | some (.struct fs) => fs.all fun f => (P.info? f.type).isSome
  | some (.array _ e) => (P.info? e).isSome
  | _ => false
theorem placesOk_spec {t : TypeId} : ∀ {is : List Nat} {ps : List (Nat × Nat)}, placesOk P t is ps = true → is.length = ps.length ∧ ∀ (n : Nat) i p, is[n]? = some i → ps[n]? = some p → placeOk P t i p = true
  | [], [], _ => ⟨rfl, fun n i p h => by simp at h⟩
  | i :: r, p :: q, h => by
    simp only [placesOk, Bool.and_eq_true] at h
    obtain ⟨h1, h2⟩ := placesOk_spec h.2
    refine ⟨by simp [h1], fun n i' p' hi hp => ?_⟩
    cases n with
    | zero => simp at hi hp; subst hi; subst hp; exact h.1
    | succ n => simp at hi hp; exact h2 n i' p' hi hp
  | [], _ :: _, h => by simp [placesOk] at h
  | _ :: _, [], h => by simp [placesOk] at h

theorem build_sound {t : TypeId} {z : List FV} {is : List Nat} {ps : List (Nat × Nat)} (hz : zeroIs P t z = true) (hp : placesOk P t is ps = true) (hi : partsInfo P t = true)
    {vs : List Value} {as out : List PV} (hf : fillP (z.map .f) ps as = some out) (hl : vs.length = ps.length) (hv : ∀ (n : Nat) v a, vs[n]? = some v → as[n]? = some a → RP C σ.S τ w v a) :
    ∃ u, (Instr.build t (is.zip vs).toArray).run P w = .ok u w ∧ RP C σ.S τ w u (.ag out) := by
  obtain ⟨zv, hz1, hz2⟩ := run_zero hz w
  obtain ⟨hp1, hp2⟩ := placesOk_spec hp
  unfold partsInfo at hi
  split at hi
  · rename_i fs hu
    have hmap := run_mapM (P := P) (fun f : Field => do pure (f.offset, ← sizeOf f.type)) (fun f => (f.offset, P.cellsOf f.type)) w fs (fun f hf => by
      have := Array.all_eq_true_iff_forall_mem.1 hi f hf
      obtain ⟨i, hi⟩ := Option.isSome_iff_exists.1 this
      simp [sizeOf, typeInfo, hi, Program.cellsOf])
    have key := fill_sound (place := fun i => (fs.map fun f => (f.offset, P.cellsOf f.type))[i]?) (valsOk_RL (C := C) (S := σ.S) (τ := τ) (w := w) hz2) hf hp1 hl (fun n i p hi hp => by
      have := hp2 n i p hi hp
      simp only [placeOk, hu] at this
      split at this
      · rename_i f hf
        simp only [Bool.and_eq_true, beq_iff_eq] at this
        obtain ⟨h1, h2⟩ := this
        simp only [sizeIs] at h2
        split at h2
        · rename_i inf hinf
          simp only [beq_iff_eq] at h2
          simp [hf, Program.cellsOf, hinf, h1, h2]
        · cases h2
      · cases this) hv
    obtain ⟨cs', e1, e2⟩ := key
    refine ⟨.agg cs', ?_, RL.ag e2⟩
    simp only [Instr.build, Sem.run_bind, hz1, Result.andThen_ok, run_underlying hu, hmap, Sem.run_pure]
    rw [e1]
    rfl
  · rename_i n e hu
    obtain ⟨ie, hie⟩ := Option.isSome_iff_exists.1 hi
    have hsz : (sizeOf e).run P w = .ok ie.size w := by simp [sizeOf, typeInfo, hie]
    have key := fill_sound (place := fun i => some (i * ie.size, ie.size)) (valsOk_RL (C := C) (S := σ.S) (τ := τ) (w := w) hz2) hf hp1 hl (fun n i p hi hp => by
      have := hp2 n i p hi hp
      simp only [placeOk, hu, Bool.and_eq_true, beq_iff_eq, sizeIs, hie] at this
      obtain ⟨h1, h2⟩ := this
      rw [h1, h2]) hv
    obtain ⟨cs', e1, e2⟩ := key
    refine ⟨.agg cs', ?_, RL.ag e2⟩
    simp only [Instr.build, Sem.run_bind, hz1, Result.andThen_ok, run_underlying hu, hsz, Sem.run_pure]
    rw [e1]
    rfl
  · cases hi

/-! ### bytes as a string -/
theorem bytesOf_spec : ∀ {xs : List (List FV)} {l : List UInt8}, bytesOf xs = some l → ∃ ns : List Int, xs = ns.map (fun n => [.int .u8 n]) ∧ l = ns.map fun n => UInt8.ofNat n.toNat
  | [], l, h => by simp [bytesOf] at h; subst h; exact ⟨[], rfl, rfl⟩
  | c :: r, l, h => by
    unfold bytesOf at h
    split at h
    · rename_i heq; simp at heq
    · rename_i n r' heq
      simp only [List.cons.injEq] at heq
      obtain ⟨rfl, rfl⟩ := heq
      obtain ⟨l', hl, rfl⟩ := Option.map_eq_some_iff.1 h
      obtain ⟨ns, rfl, rfl⟩ := bytesOf_spec hl
      exact ⟨n :: ns, rfl, rfl⟩
    · cases h
theorem foldl_push : ∀ (ns : List Int) (r : ByteArray), ns.foldl (fun r n => r.push (UInt8.ofNat n.toNat)) r = ⟨r.data ++ (ns.map fun n => UInt8.ofNat n.toNat).toArray⟩
  | [], r => by simp
  | n :: ns, r => by
    simp only [List.foldl_cons]
    rw [foldl_push ns]
    simp [ByteArray.push]

/-- The elements of a slice, in memory. -/
theorem rowOf_cells (h : Core G C τ σ tm w) {foot : List Nat} {v : Value} {p : PV} (hv : RP C σ.S τ w v p) {xs : List (List FV)} (hr : rowOf σ foot p = some xs) (hp : ∀ s, p ≠ .f (.str s)) :
    (xs = [] ∧ ∃ a cap, v = .slice a 0 cap) ∨ ∃ b o cap sz, v = .slice (some ⟨b, o, none⟩) xs.length cap ∧ (∀ c ∈ xs, c.length = sz) ∧
      ∀ (i j : Nat) c y, xs[i]? = some c → c[j]? = some y → ∃ u, w.cell? ⟨b, o + i * sz + j, none⟩ = some u ∧ RF C w u y := by
  unfold rowOf at hr
  split at hr
  · cases hr
    cases hv with
    | f v x hx => cases hx; exact .inl ⟨rfl, none, 0, rfl⟩
  · rename_i sz ys
    cases hr
    cases hv with
    | f v x hx =>
      cases hx with
      | sl a cap _ _ us hcap hsz hA hrr =>
        by_cases hne : xs = []
        · subst hne; exact .inl ⟨rfl, a, cap, rfl⟩
        · obtain ⟨b, o, rfl, hc⟩ := hA hne
          refine .inr ⟨b, o, cap, sz, rfl, hsz, fun i j c y hc' hy => ?_⟩
          have hi := (List.getElem?_eq_some_iff.1 hc').1
          have hj := (List.getElem?_eq_some_iff.1 hy).1
          rw [hsz c (List.mem_of_getElem? hc')] at hj
          exact ⟨us i j, (hc i j hi hj).2, hrr i j c y hc' hy⟩
  · rename_i s; exact absurd rfl (hp s)
  · rename_i t off len s
    split at hr
    · rename_i e sz l u ys hl
      split at hr
      · rename_i hle
        cases hr
        obtain ⟨hs, hc, _⟩ := look_ne hl (by simp)
        have ht := h.toks t
        rw [hc] at ht
        cases hv with
        | ts v t off len s h1 hle' hv =>
          have hlen : ((ys.drop off).take len).length = len := by simp; omega
          rcases hv hs with ⟨e1, e2, e3, e4⟩ | ⟨k, o, e1, e2, e3, e4⟩
          · subst e2; subst e4; exact .inl ⟨by simp, none, 0, rfl⟩
          · by_cases h0 : len = 0
            · subst h0; exact .inl ⟨by simp, _, _, e2⟩
            · rcases ht with ⟨q1, q2⟩ | ⟨k', vs, fr, q1, q2, q3, q4, q5, q6, q7, q8, q9, q10, q11, q12, q13⟩
              · rw [e1] at q1; cases q1
              · rw [e1] at q1; cases q1
                refine .inr ⟨k.b, o, k.cap - off, sz, by rw [hlen]; exact e2, fun c hc => q8 c (List.drop_subset _ _ (List.take_subset _ _ hc)), fun i j c y hc hy => ?_⟩
                rw [List.getElem?_take] at hc
                split at hc
                · rw [List.getElem?_drop] at hc
                  obtain ⟨v, hv', hr⟩ := q10 (off + i) j c y hc hy
                  refine ⟨v, ?_, hr⟩
                  rw [cell_of q3, show o + i * sz + j = (off + i) * sz + j by rw [e4 (by omega), q2, Nat.add_mul]]
                  exact hv'
                · cases hc
      · cases hr
    · cases hr
  · cases hr

theorem b2s_sound {src dst e : TypeId} (h : Core G C τ σ tm w) (hs : P.underlying src = some (.slice e)) (he : P.underlying e = some (.int .u8)) (hd : P.underlying dst = some .string)
    {foot : List Nat} {v : Value} {p q : PV} (hv : RP C σ.S τ w v p) (hsem : semR σ foot .b2s [p] = some q) :
    ∃ u, (convert src dst v).run P w = .ok u w ∧ RP C σ.S τ w u q := by
  simp only [semR] at hsem
  split at hsem
  case isFalse => cases hsem
  rename_i hns
  have hp : ∀ s, p ≠ .f (.str s) := by rintro s rfl; simp [PV.noStr] at hns
  obtain ⟨l, hl, rfl⟩ := Option.map_eq_some_iff.1 hsem
  obtain ⟨xs, hx, hb⟩ := Option.bind_eq_some_iff.1 hl
  obtain ⟨ns, rfl, rfl⟩ := bytesOf_spec hb
  rcases rowOf_cells h hv hx hp with ⟨h0, a, cap, rfl⟩ | ⟨b, o, cap, sz, rfl, hsz, hc⟩
  · have : ns = [] := by simpa using h0
    subst this
    refine ⟨.string ⟨#[]⟩, ?_, .f _ _ (.str [])⟩
    cases a with
    | none => simp [convert, run_underlying hs, run_underlying he, run_underlying hd, Conv.bytesToString]; rfl
    | some a =>
      have := run_convert_bytes_back (P := P) w src dst e a cap [] hs he hd (by simp)
      simpa using this
  · refine ⟨.string ⟨(ns.map fun n => UInt8.ofNat n.toNat).toArray⟩, ?_, .f _ _ (.str _)⟩
    have hl := run_loadCells_list (P := P) w ⟨b, o, none⟩ (ns.map (Value.int .u8)) (fun j v hj => by
      rw [List.getElem?_map] at hj
      obtain ⟨n, hn, rfl⟩ := Option.map_eq_some_iff.1 hj
      have hx' : (ns.map (fun n => [FV.int .u8 n]))[j]? = some [.int .u8 n] := by rw [List.getElem?_map, hn]; rfl
      have hsz1 : sz = 1 := by have := hsz _ (List.mem_of_getElem? hx'); simpa using this.symm
      subst hsz1
      obtain ⟨u, hu, hr⟩ := hc j 0 _ (.int .u8 n) hx' rfl
      cases hr
      rw [add_lit]
      simpa using hu)
    simp only [List.length_map] at hl ⊢
    rw [run_convert_bytes_string w src dst e _ _ cap hs he hd, run_bytesToString w _ _ cap _ hl, foldl_push]
    simp [ByteArray.empty, ByteArray.emptyWithCapacity]
    rfl

end
end Go.Absw

/- The abstract machine, its eighth part: the other operations that read alone. Conditions: none. -/
namespace Go.Absw
open Go

section
variable {P : Program} {G : Env} {C : Cells} {τ : Tau} {σ : St} {tm : Array Value} {w : World}

theorem RP.fInt {C : Cells} {S : Nat → Nat} {v : Value} {k : IntKind} {n : Int} (h : RP C S τ w v (.f (.int k n))) : v = .int k n := by
  cases h with | f v x h => cases h; rfl
theorem RP.fBool {C : Cells} {S : Nat → Nat} {v : Value} {b : Bool} (h : RP C S τ w v (.f (.bool b))) : v = .bool b := by
  cases h with | f v x h => cases h; rfl
theorem RP.fStr {C : Cells} {S : Nat → Nat} {v : Value} {s : List UInt8} (h : RP C S τ w v (.f (.str s))) : v = .string ⟨s.toArray⟩ := by
  cases h with | f v x h => cases h; rfl

theorem run_bound {v : Value} {n : Int} {k : IntKind} (hv : v = .int k n) {y : Nat} (h0 : 0 ≤ n) (h1 : n ≤ y) (code : BoundsCode) : (Instr.sliceBound v y code).run P w = .ok n.toNat w := by
  subst hv
  simp [Instr.sliceBound, asIntOf, h0, h1]

/-- Bounds of a slice expression, as numbers. -/
inductive BV : Option Value → Option Int → Prop
  | none : BV none none
  | some (k : IntKind) (n : Int) : BV (some (.int k n)) (some n)

theorem intOf_spec {C : Cells} {S : Nat → Nat} {v : Value} {p : PV} {n : Int} (h : RP C S τ w v p) (hp : intOf? p = some n) : ∃ k, v = .int k n := by
  unfold intOf? at hp
  split at hp
  · cases hp; exact ⟨_, h.fInt⟩
  · cases hp

theorem loHi_spec {C : Cells} {S : Nat → Nat} {lo hi : Option Operand} {ρ : Operand → Value} {r : List PV} {l h : Option Int} (hh : loHi lo.isSome hi.isSome r = some (l, h))
    (hr : ∀ (i : Nat) x p, (lo.toList ++ hi.toList)[i]? = some x → r[i]? = some p → RP C S τ w (ρ x) p) : BV (lo.map ρ) l ∧ BV (hi.map ρ) h := by
  cases lo with
  | none =>
    cases hi with
    | none =>
      cases r with
      | nil => simp [loHi] at hh; obtain ⟨rfl, rfl⟩ := hh; exact ⟨.none, .none⟩
      | cons a r => simp [loHi] at hh
    | some y =>
      match r, hh with
      | [a], hh =>
        simp only [loHi, Option.isSome] at hh
        obtain ⟨n, hn, he⟩ := Option.map_eq_some_iff.1 hh
        simp only [Prod.mk.injEq] at he
        obtain ⟨rfl, rfl⟩ := he
        obtain ⟨k, e⟩ := intOf_spec (hr 0 _ _ rfl rfl) hn
        exact ⟨.none, by simp only [Option.map, e]; exact .some _ _⟩
      | [], hh => simp [loHi] at hh
      | _ :: _ :: _, hh => simp [loHi] at hh
  | some x =>
    cases hi with
    | none =>
      match r, hh with
      | [a], hh =>
        simp only [loHi, Option.isSome] at hh
        obtain ⟨n, hn, he⟩ := Option.map_eq_some_iff.1 hh
        simp only [Prod.mk.injEq] at he
        obtain ⟨rfl, rfl⟩ := he
        obtain ⟨k, e⟩ := intOf_spec (hr 0 _ _ rfl rfl) hn
        exact ⟨by simp only [Option.map, e]; exact .some _ _, .none⟩
      | [], hh => simp [loHi] at hh
      | _ :: _ :: _, hh => simp [loHi] at hh
    | some y =>
      match r, hh with
      | [a, b], hh =>
        simp only [loHi, Option.isSome] at hh
        obtain ⟨n, hn, hh⟩ := Option.bind_eq_some_iff.1 hh
        obtain ⟨m, hm, he⟩ := Option.map_eq_some_iff.1 hh
        simp only [Prod.mk.injEq] at he
        obtain ⟨rfl, rfl⟩ := he
        obtain ⟨k, e⟩ := intOf_spec (hr 0 _ _ rfl rfl) hn
        obtain ⟨k', e'⟩ := intOf_spec (hr 1 _ _ rfl rfl) hm
        exact ⟨by simp only [Option.map, e]; exact .some _ _, by simp only [Option.map, e']; exact .some _ _⟩
      | [], hh => simp [loHi] at hh
      | [_], hh => simp [loHi] at hh
      | _ :: _ :: _ :: _, hh => simp [loHi] at hh

theorem run_bounds {lo hi : Option Value} {l h : Option Int} (hl : BV lo l) (hh : BV hi h) {len cap : Nat} (hc : len ≤ cap) {a b : Nat} (hb : bnds len l h = some (a, b)) (isS : Bool) :
    (Instr.sliceBounds isS len cap lo hi none).run P w = .ok (a, b, cap) w ∧ a ≤ b ∧ b ≤ len := by
  unfold bnds at hb
  split at hb
  · rename_i hc'
    simp only [Option.some.injEq, Prod.mk.injEq] at hb
    obtain ⟨rfl, rfl⟩ := hb
    cases hl with
    | none =>
      cases hh with
      | none => simp [Instr.sliceBounds] at hc' ⊢
      | some k n =>
        simp only [Option.getD_none, Option.getD_some] at hc'
        refine ⟨?_, by simp, by simp; omega⟩
        simp [Instr.sliceBounds, run_bound (P := P) (w := w) (k := k) rfl hc'.2.1 (show n ≤ ((cap : Nat) : Int) by omega)]
    | some k n =>
      cases hh with
      | none =>
        simp only [Option.getD_none, Option.getD_some] at hc'
        refine ⟨?_, by simp; omega, by simp⟩
        simp [Instr.sliceBounds, run_bound (P := P) (w := w) (k := k) rfl hc'.1 (show n ≤ ((len : Nat) : Int) by omega)]
      | some k' n' =>
        simp only [Option.getD_some] at hc'
        refine ⟨?_, by simp; omega, by simp; omega⟩
        simp [Instr.sliceBounds, run_bound (P := P) (w := w) (k := k') rfl (show 0 ≤ n' by omega) (show n' ≤ ((cap : Nat) : Int) by omega), run_bound (P := P) (w := w) (k := k) rfl hc'.1 (show n ≤ ((n'.toNat : Nat) : Int) by omega)]
  · cases hb

theorem extract_mk (s : List UInt8) (a b : Nat) (h : b ≤ s.length) : (⟨s.toArray⟩ : ByteArray).extract a b = ⟨((s.drop a).take (b - a)).toArray⟩ := by
  apply ByteArray.ext
  rw [ByteArray.data_extract]
  apply Array.ext'
  simp

theorem slc_sound {t : TypeId} {sz : Nat} (h : Core G C τ σ tm w) (he : elemSz P t sz = true) {foot : List Nat} {v : Value} {p : PV} (hv : RP C σ.S τ w v p) {lo hi : Option Operand} {ρ : Operand → Value} {r : List PV} {q : PV}
    (hsem : semR σ foot (.slc sz lo.isSome hi.isSome) (p :: r) = some q)
    (hr : ∀ (i : Nat) x p, (lo.toList ++ hi.toList)[i]? = some x → r[i]? = some p → RP C σ.S τ w (ρ x) p) :
    ∃ u, (Instr.sliceAt t v (lo.map ρ) (hi.map ρ) none).run P w = .ok u w ∧ RP C σ.S τ w u q := by
  unfold elemSz at he
  split at he
  case h_2 => cases he
  rename_i e hu
  have hsz := run_sizeOf he w
  simp only [semR] at hsem
  split at hsem
  · cases hsem
  · rename_i l hh hlo
    obtain ⟨hl, hh'⟩ := loHi_spec hlo hr
    have step : ∀ (a : Option Addr) (len cap x y : Nat), len ≤ cap → bnds len l hh = some (x, y) →
        (Instr.sliceAt t (.slice a len cap) (lo.map ρ) (hi.map ρ) none).run P w = .ok (.slice (if cap = x then a else a.map (·.add (x * sz))) (y - x) (cap - x)) w ∧ x ≤ y ∧ y ≤ len := by
      intro a len cap x y hc hb
      obtain ⟨h1, h2, h3⟩ := run_bounds (P := P) (w := w) hl hh' hc hb true
      exact ⟨by simp [Instr.sliceAt, Instr.slice, run_underlying hu, h1, hsz], h2, h3⟩
    split at hsem
    · obtain ⟨⟨x, y⟩, hb, rfl⟩ := Option.map_eq_some_iff.1 hsem
      cases hv with
      | f v x' hx =>
        cases hx
        obtain ⟨h1, h2, h3⟩ := step none 0 0 x y (by omega) hb
        have h0 : x = 0 ∧ y = 0 := by omega
        obtain ⟨rfl, rfl⟩ := h0
        exact ⟨_, h1, .f _ _ .nils⟩
    · rename_i sz' xs
      split at hsem
      · rename_i hs
        subst hs
        obtain ⟨⟨x, y⟩, hb, rfl⟩ := Option.map_eq_some_iff.1 hsem
        cases hv with
        | f v x' hx =>
          cases hx with
          | sl a cap _ _ us hcap hsz' hA hrr =>
            obtain ⟨h1, h2, h3⟩ := step a xs.length cap x y hcap hb
            have hlen : ((xs.drop x).take (y - x)).length = y - x := by simp; omega
            refine ⟨_, h1, .f _ _ ?_⟩
            have key := RF.sl (C := C) (w := w) (if cap = x then a else a.map (·.add (x * sz))) (cap - x) sz ((xs.drop x).take (y - x)) (fun i j => us (x + i) j) (by omega)
              (fun c hc => hsz' c (List.drop_subset _ _ (List.take_subset _ _ hc))) (fun hne => ?_) (fun i j c z hc hz => ?_)
            · rwa [hlen] at key
            · have hlt : x < y := by
                rcases Nat.lt_or_ge x y with h' | h'
                · exact h'
                · exact absurd (List.eq_nil_of_length_eq_zero (by rw [hlen]; omega)) hne
              obtain ⟨b, o, rfl, hc⟩ := hA (by rintro rfl; simp at h3; omega)
              refine ⟨b, o + x * sz, by rw [if_neg (by omega)]; simp [add_lit], fun i j hi hj => ?_⟩
              rw [hlen] at hi
              have := hc (x + i) j (by omega) hj
              rw [show o + (x + i) * sz + j = o + x * sz + i * sz + j by rw [Nat.add_mul]; omega] at this
              exact this
            · rw [List.getElem?_take] at hc
              split at hc
              · rw [List.getElem?_drop] at hc
                exact hrr (x + i) j c z hc hz
              · cases hc
      · cases hsem
    · rename_i tt off len s
      split at hsem
      · rename_i e' sz' l' u' xs' hlk
        split at hsem
        · rename_i hs
          subst hs
          obtain ⟨⟨x, y⟩, hb, rfl⟩ := Option.map_eq_some_iff.1 hsem
          obtain ⟨hst, hc, _⟩ := look_ne hlk (by simp)
          have ht := h.toks tt
          rw [hc] at ht
          cases hv with
          | ts v t off len s h1' hle hv =>
            rcases hv hst with ⟨e1, e2, e3, e4⟩ | ⟨k, o, e1, e2, e3, e4⟩
            · subst e2; subst e3; subst e4
              obtain ⟨h1, h2, h3⟩ := step none 0 0 x y (by omega) hb
              have h0 : x = 0 ∧ y = 0 := by omega
              obtain ⟨rfl, rfl⟩ := h0
              exact ⟨_, h1, .ts _ _ _ _ _ rfl hle (fun _ => .inl ⟨e1, by simp, by simp, by simp⟩)⟩
            · subst e2
              obtain ⟨h1, h2, h3⟩ := step (some ⟨k.b, o, none⟩) len (k.cap - off) x y (by omega) hb
              rcases ht with ⟨q1, q2⟩ | ⟨k', vs, fr, q1, q2, _⟩
              · rw [e1] at q1; cases q1
              · rw [e1] at q1; cases q1
                refine ⟨_, h1, .ts _ _ _ _ _ rfl hle (fun _ => .inr ⟨k, if k.cap - off = x then o else o + x * sz, e1, ?_, by omega, ?_⟩)⟩
                · rw [show k.cap - (off + x) = k.cap - off - x by omega]
                  split <;> simp [add_lit]
                · intro hlt
                  rw [if_neg (by omega), e4 (by omega), q2, Nat.add_mul]
        · cases hsem
      · cases hsem
    · cases hsem

theorem sls_sound {t : TypeId} (hu : P.underlying t = some .string) {foot : List Nat} {v : Value} {p : PV} (hv : RP C σ.S τ w v p) {lo hi : Option Operand} {ρ : Operand → Value} {r : List PV} {q : PV}
    (hsem : semR σ foot (.sls lo.isSome hi.isSome) (p :: r) = some q)
    (hr : ∀ (i : Nat) x p, (lo.toList ++ hi.toList)[i]? = some x → r[i]? = some p → RP C σ.S τ w (ρ x) p) :
    ∃ u, (Instr.sliceAt t v (lo.map ρ) (hi.map ρ) none).run P w = .ok u w ∧ RP C σ.S τ w u q := by
  cases p with
  | f x =>
    cases x with
    | str s =>
      simp only [semR] at hsem
      split at hsem
      · rename_i l hh hlo
        obtain ⟨hl, hh'⟩ := loHi_spec hlo hr
        obtain ⟨⟨x, y⟩, hb, rfl⟩ := Option.map_eq_some_iff.1 hsem
        rw [hv.fStr]
        obtain ⟨h1, h2, h3⟩ := run_bounds (P := P) (w := w) hl hh' (Nat.le_refl s.length) hb false
        refine ⟨_, ?_, .f _ _ (.str _)⟩
        simp [Instr.sliceAt, Instr.slice, run_underlying hu, size_mk, h1, extract_mk s x y h3]
      · cases hsem
    | _ => simp [semR] at hsem
  | _ => simp [semR] at hsem

theorem ixs_sound {t : TypeId} {sz : Nat} (h : Core G C τ σ tm w) (he : elemSz P t sz = true) {foot : List Nat} {v vi : Value} {p pi q : PV} (hv : RP C σ.S τ w v p) (hi : RP C σ.S τ w vi pi)
    (hsem : semR σ foot (.ixs sz) [p, pi] = some q) : ∃ u, (Instr.indexAt t v vi).run P w = .ok u w ∧ RP C σ.S τ w u q := by
  unfold elemSz at he
  split at he
  case h_2 => cases he
  rename_i e hu
  have hsz := run_sizeOf he w
  have step : ∀ (a : Addr) (len cap : Nat) (k : IntKind) (i : Int), 0 ≤ i → i < len → (Instr.indexAt t (.slice (some a) len cap) (.int k i)).run P w = .ok (.pointer (some (a.add (i.toNat * sz)))) w := by
    intro a len cap k i h0 h1
    simp [Instr.indexAt, asIntOf, run_underlying hu, h0, h1, hsz]
  cases pi with
  | f xi =>
    cases xi with
    | int k i =>
      rw [hi.fInt]
      cases p with
      | f x =>
        cases x with
        | sl sz' xs =>
          simp only [semR] at hsem
          split at hsem
          · rename_i hs
            subst hs
            obtain ⟨c, hc, rfl⟩ := Option.map_eq_some_iff.1 hsem
            obtain ⟨h0, hc1, h1⟩ := nth_spec hc
            cases hv with
            | f v x' hx =>
              cases hx with
              | sl a cap _ _ us hcap hsz' hA hrr =>
                obtain ⟨b, o, rfl, hcc⟩ := hA (by rintro rfl; simp at hc1)
                refine ⟨_, step _ _ _ _ _ h0 h1, ?_⟩
                rw [add_lit]
                have hl := hsz' c (List.mem_of_getElem? hc1)
                exact RP.fp b (o + i.toNat * sz) 0 c (fun j => us i.toNat j) (fun j hj => hcc _ j (by omega) (by omega)) (fun j y hy => hrr _ j c y hc1 hy)
          · cases hsem
        | _ => simp [semR] at hsem
      | ts tt off len s =>
        simp only [semR] at hsem
        split at hsem
        · rename_i e' sz' l' u' xs' hlk
          split at hsem
          · rename_i hs
            obtain ⟨rfl, h0, h1⟩ := hs
            cases hsem
            obtain ⟨hst, hc, _⟩ := look_ne hlk (by simp)
            have ht := h.toks tt
            rw [hc] at ht
            cases hv with
            | ts v t off len s h1' hle hv =>
              rcases hv hst with ⟨e1, e2, e3, e4⟩ | ⟨k', o, e1, e2, e3, e4⟩
              · omega
              · subst e2
                rcases ht with ⟨q1, q2⟩ | ⟨k'', vs, fr, q1, q2, _⟩
                · rw [e1] at q1; cases q1
                · rw [e1] at q1; cases q1
                  refine ⟨_, step _ _ _ _ _ h0 h1, .ptr _ _ _ _ _ rfl hle (fun _ => ⟨k', e1, ?_⟩)⟩
                  rw [add_lit, e4 (by omega), q2, Nat.add_mul]
                  rfl
          · cases hsem
        · cases hsem
      | _ => simp [semR] at hsem
    | _ => cases p <;> first | (simp [semR] at hsem; done) | (rename_i x; cases x <;> simp [semR] at hsem)
  | _ => cases p <;> first | (simp [semR] at hsem; done) | (rename_i x; cases x <;> simp [semR] at hsem)

theorem cur_spec {σ : St} {foot : List Nat} {t s : Nat} (h : cur σ foot t s = true) : s = σ.S t := by
  simp only [cur, Bool.and_eq_true, decide_eq_true_eq] at h
  exact h.2.symm

theorem ixa_sound {t e : TypeId} {n sz : Nat} (hu : P.underlying t = some (.array n e)) (he : sizeIs P e sz = true) {foot : List Nat} {v vi : Value} {p pi q : PV} (hv : RP C σ.S τ w v p) (hi : RP C σ.S τ w vi pi)
    (hsem : semR σ foot (.ixa n sz) [p, pi] = some q) : ∃ u, (Instr.indexAt t v vi).run P w = .ok u w ∧ RP C σ.S τ w u q := by
  have hsz := run_sizeOf he w
  have step : ∀ (a : Addr) (k : IntKind) (i : Int), 0 ≤ i → i < n → (Instr.indexAt t (.pointer (some a)) (.int k i)).run P w = .ok (.pointer (some (a.add (i.toNat * sz)))) w := by
    intro a k i h0 h1
    simp [Instr.indexAt, Instr.sureAddr, asIntOf, run_underlying hu, h0, h1, hsz]
  cases pi with
  | f xi =>
    cases xi with
    | int k i =>
      rw [hi.fInt]
      cases p with
      | ptr tt ii o s =>
        simp only [semR] at hsem
        split at hsem
        · rename_i hc
          obtain ⟨hcur, hc⟩ := hc
          cases hsem
          cases hv with
          | ptr v t' i' o' s' h1 hle hvv =>
            have hs := cur_spec hcur
            obtain ⟨k', e1, rfl⟩ := hvv hs
            refine ⟨_, step _ _ _ hc.1 hc.2, .ptr _ _ _ _ _ rfl hle (fun _ => ⟨k', e1, ?_⟩)⟩
            rw [add_lit, Nat.add_assoc]
        · cases hsem
      | fp c o =>
        simp only [semR] at hsem
        split at hsem
        · rename_i hc
          cases hsem
          cases hv with
          | fp b o' p' c' us hcc hrr =>
            refine ⟨_, step _ _ _ hc.1 hc.2, ?_⟩
            rw [add_lit, Nat.add_assoc]
            exact .fp b o' _ c us hcc hrr
        · cases hsem
      | _ => simp [semR] at hsem
    | _ => cases p <;> simp [semR] at hsem
  | _ => cases p <;> simp [semR] at hsem
theorem RP.fFV {C : Cells} {S : Nat → Nat} {τ : Tau} {w : World} {v : Value} {x : FV} (h : RP C S τ w v (.f x)) : RF C w v x := by
  cases h with
  | f v x hx => exact hx

/-- The whole of an array variable that nobody writes any more, as a slice. -/
theorem sla_sound {t e : TypeId} {n sz : Nat} (h : Core G C τ σ tm w) (hu : P.underlying t = some (.array n e)) (he : sizeIs P e sz = true) {foot : List Nat} {v : Value} {r : List PV} {p q : PV} (hv : RP C σ.S τ w v p)
    (hsem : semR σ foot (.sla n sz) (p :: r) = some q) : ∃ u, (Instr.sliceAt t v none none none).run P w = .ok u w ∧ RP C σ.S τ w u q := by
  have hsz := run_sizeOf he w
  cases p with
  | ptr tt ii o s =>
    cases r with
    | cons a r => simp [semR] at hsem
    | nil =>
      simp only [semR] at hsem
      split at hsem
      case h_2 => cases hsem
      rename_i ty cs hlk
      split at hsem
      case isFalse => cases hsem
      rename_i hc
      obtain ⟨rfl, hn, hfit⟩ := hc
      obtain ⟨ys, hys, rfl⟩ := Option.map_eq_some_iff.1 hsem
      have hfv := fvs_spec hys
      obtain ⟨hst, hcc, _⟩ := look_ne hlk (by simp)
      have ht := h.toks tt
      rw [hcc] at ht
      obtain ⟨k', vs, fr, g1, g2, g3, g4, g5, g6, g7, g8⟩ := ht
      cases hv with
      | ptr v t' i' o' s' h1 hle hvv =>
        obtain ⟨k, e1, rfl⟩ := hvv hst
        rw [e1] at g1
        have hkk := Option.some.inj g1
        subst hkk
        have hyl : ys.length = n * sz := by
          have := congrArg List.length hfv
          simp only [List.length_take, List.length_drop, List.length_map] at this
          omega
        have hclen := chunk_len (sz := sz) hyl
        have hrun : (Instr.sliceAt t (.pointer (some ⟨k.b, 0 * k.sz + o, none⟩)) none none none).run P w = .ok (.slice (some ⟨k.b, o, none⟩) n n) w := by
          have hn0 : n ≠ 0 := by omega
          simp [Instr.sliceAt, Instr.sureAddr, Instr.sliceBounds, run_underlying hu, hsz, hn0, Addr.add]
        refine ⟨_, hrun, .f _ _ ?_⟩
        have key := RF.sl (C := C) (w := w) (some ⟨k.b, o, none⟩) n sz (chunk sz n ys) (fun i j => vs.getD (o + i * sz + j) undef) (by rw [chunk_length]; exact Nat.le_refl _) hclen (fun _ => ?_) (fun i j c y hc hy => ?_)
        · rw [chunk_length] at key; exact key
        · refine ⟨k.b, o, rfl, fun i j hi hj => ?_⟩
          rw [chunk_length] at hi
          have hij : i * sz + j < n * sz := idx_lt hi hj
          have hlt : o + i * sz + j < vs.size := by omega
          exact ⟨g8 rfl _ hlt, by rw [cell_of g2]; simp [Array.getD, hlt]⟩
        · have hcg := chunk_get sz n ys i c hc
          have hjl : j < sz := by rw [← hclen c (List.mem_of_getElem? hc)]; exact (List.getElem?_eq_some_iff.1 hy).1
          have hil : i < n := by have := (List.getElem?_eq_some_iff.1 hc).1; rw [chunk_length] at this; exact this
          have hij : i * sz + j < n * sz := idx_lt hil hjl
          have hlt : o + i * sz + j < vs.size := by omega
          rw [hcg, List.getElem?_take, if_pos hjl, List.getElem?_drop] at hy
          have hcell : cs[o + i * sz + j]? = some (.f y) := by
            have e2 : (((cs.drop o).take (n * sz)))[i * sz + j]? = (ys.map PV.f)[i * sz + j]? := by rw [hfv]
            rw [List.getElem?_take, if_pos hij, List.getElem?_drop, List.getElem?_map, hy] at e2
            rw [Nat.add_assoc]; simpa using e2
          have hval : vs[o + i * sz + j]? = some (vs.getD (o + i * sz + j) undef) := by simp [Array.getD, hlt]
          have hrp := g6 _ _ _ hval hcell
          exact hrp.fFV
  | _ => simp [semR] at hsem
end
end Go.Absw

/- The abstract machine, its ninth part: what is left of the operations that read alone, and the link that a closed computation checks. Conditions: none. -/
namespace Go.Absw
open Go

section
variable {P : Program} {G : Env} {C : Cells} {τ : Tau} {σ : St} {tm : Array Value} {w : World}

/-- The field's place in a struct's cells; the field is no empty one. -/
def fieldOk (P : Program) (t : TypeId) (f off n : Nat) : Bool := match P.underlying t with
  | some (.struct fs) => match fs[f]? with
    | some x => x.offset == off && sizeIs P x.type n && n != 0
    | none => false
  | _ => false

theorem fad_sound {t : TypeId} {f off n : Nat} (hf : fieldOk P t f off n = true) {foot : List Nat} {v : Value} {p q : PV} (hv : RP C σ.S τ w v p)
    (hsem : semR σ foot (.fad off) [p] = some q) : ∃ u, (Instr.fieldAt t v f).run P w = .ok u w ∧ RP C σ.S τ w u q := by
  unfold fieldOk at hf
  split at hf
  case h_2 => cases hf
  rename_i fs hu
  split at hf
  case h_2 => cases hf
  rename_i x hx
  simp only [Bool.and_eq_true, beq_iff_eq, bne_iff_ne] at hf
  obtain ⟨⟨rfl, hs⟩, hn⟩ := hf
  have hsz := run_sizeOf hs w
  have step : ∀ a : Addr, (Instr.fieldAt t (.pointer (some a)) f).run P w = .ok (.pointer (some (a.add x.offset))) w := by
    intro a
    simp [Instr.fieldAt, Instr.sureAddr, run_underlying hu, hx, fieldPlace, hsz, hn]
  cases p with
  | ptr tt i o s =>
    simp only [semR] at hsem
    split at hsem
    · rename_i hc
      cases hsem
      cases hv with
      | ptr v t' i' o' s' h1 hle hvv =>
        obtain ⟨k', e1, rfl⟩ := hvv (cur_spec hc)
        refine ⟨_, step _, .ptr _ _ _ _ _ rfl hle (fun _ => ⟨k', e1, ?_⟩)⟩
        rw [add_lit, Nat.add_assoc]
    · cases hsem
  | fp c o =>
    simp only [semR, Option.some.injEq] at hsem
    subst hsem
    cases hv with
    | fp b o' p' c' us hcc hrr =>
      refine ⟨_, step _, ?_⟩
      rw [add_lit, Nat.add_assoc]
      exact .fp b o' _ c us hcc hrr
  | _ => simp [semR] at hsem

theorem part1_sound {t : TypeId} (ha : aggIs P t false = true) {vs : Array Value} {xs : List PV} (hv : RP C σ.S τ w (.agg vs) (.ag xs)) {o : Nat} {q : PV} (hq : xs[o]? = some q) :
    ∃ u, (part t vs o).run P w = .ok u w ∧ RP C σ.S τ w u q := by
  have h := RL.of_ag hv
  have hlt : o < vs.size := by have := h.len; simp at this; have := (List.getElem?_eq_some_iff.1 hq).1; omega
  refine ⟨vs[o], ?_, h.rel o _ _ (by simp [hlt]) hq⟩
  simp [part, run_isAgg ha, hlt]

theorem partn_sound {t : TypeId} {n : Nat} (ha : aggIs P t true = true) (hs : sizeIs P t n = true) {vs : Array Value} {xs : List PV} (hv : RP C σ.S τ w (.agg vs) (.ag xs)) {o : Nat} {q : PV} (hq : getN xs o n = some q) :
    ∃ u, (part t vs o).run P w = .ok u w ∧ RP C σ.S τ w u q := by
  obtain ⟨hn, rfl⟩ := getN_spec hq
  have h := RL.of_ag hv
  have hsz : vs.size = xs.length := by have := h.len; simpa using this
  refine ⟨.agg (vs.extract o (o + n)), by simp [part, run_isAgg ha, run_sizeOf hs], RL.ag ?_⟩
  have hl : (vs.extract o (o + n)).toList = (vs.toList.drop o).take n := by simp
  rw [hl]
  refine ⟨by simp [hsz], fun i v hv => ?_, fun i v x hv hx => ?_⟩
  · rw [List.getElem?_take] at hv
    split at hv
    · rw [List.getElem?_drop] at hv; exact h.one _ v hv
    · cases hv
  · rw [List.getElem?_take] at hv hx
    split at hv
    · rename_i hi; rw [if_pos hi, List.getElem?_drop] at hx; rw [List.getElem?_drop] at hv; exact h.rel _ v x hv hx
    · cases hv

def fldOk (P : Program) (t : TypeId) (f off n : Nat) (ag : Bool) : Bool := match P.underlying t with
  | some (.struct fs) => match fs[f]? with
    | some x => x.offset == off && sizeIs P x.type n && aggIs P x.type ag
    | none => false
  | _ => false

theorem fld_sound {t : TypeId} {f off n : Nat} {ag : Bool} (hf : fldOk P t f off n ag = true) {foot : List Nat} {v : Value} {p q : PV} (hv : RP C σ.S τ w v p)
    (hsem : semR σ foot (if ag then .fldn off n else .fld1 off) [p] = some q) : ∃ u, (Instr.field t v f).run P w = .ok u w ∧ RP C σ.S τ w u q := by
  unfold fldOk at hf
  split at hf
  case h_2 => cases hf
  rename_i fs hu
  split at hf
  case h_2 => cases hf
  rename_i x hx
  simp only [Bool.and_eq_true, beq_iff_eq] at hf
  obtain ⟨⟨rfl, hs⟩, ha⟩ := hf
  have fin : ∀ (vs : Array Value) (u : Value), (part x.type vs x.offset).run P w = .ok u w → (Instr.field t (.agg vs) f).run P w = .ok u w := by
    intro vs u h
    simp [Instr.field, run_underlying hu, hx, asAgg, h]
  cases p with
  | ag xs =>
    cases hv with
    | ag vs _ hsz h1 hr =>
      cases ag with
      | false =>
        simp only [semR, Bool.false_eq_true, if_false] at hsem
        obtain ⟨u, h1', h2⟩ := part1_sound (P := P) ha (.ag vs xs hsz h1 hr) hsem
        exact ⟨u, fin _ _ h1', h2⟩
      | true =>
        simp only [semR, if_true] at hsem
        obtain ⟨u, h1', h2⟩ := partn_sound (P := P) ha hs (.ag vs xs hsz h1 hr) hsem
        exact ⟨u, fin _ _ h1', h2⟩
  | _ => cases ag <;> simp [semR] at hsem

theorem ixv_sound {t e : TypeId} {n sz : Nat} {ag : Bool} (hu : P.underlying t = some (.array n e)) (hs : sizeIs P e sz = true) (ha : aggIs P e ag = true) (h1 : ag = false → sz = 1) {foot : List Nat} {v vi : Value} {p pi q : PV}
    (hv : RP C σ.S τ w v p) (hi : RP C σ.S τ w vi pi) (hsem : semR σ foot (if ag then .ixvn n sz else .ixv1 n) [p, pi] = some q) : ∃ u, (Instr.index t v vi).run P w = .ok u w ∧ RP C σ.S τ w u q := by
  have fin : ∀ (vs : Array Value) (k : IntKind) (i : Int) (u : Value), 0 ≤ i → i < n → (part e vs (i.toNat * sz)).run P w = .ok u w → (Instr.index t (.agg vs) (.int k i)).run P w = .ok u w := by
    intro vs k i u h0 h1 h
    simp [Instr.index, run_underlying hu, asIntOf, h0, h1, run_sizeOf hs, h]
  cases p with
  | ag xs =>
    cases pi with
    | f xi =>
      cases xi with
      | int k i =>
        rw [hi.fInt]
        cases hv with
        | ag vs _ hsz h1' hr =>
          cases ag with
          | false =>
            simp only [semR, Bool.false_eq_true, if_false] at hsem
            split at hsem
            · rename_i hc
              obtain ⟨u, a1, a2⟩ := part1_sound (P := P) (o := i.toNat) ha (.ag vs xs hsz h1' hr) hsem
              exact ⟨u, fin _ _ _ _ hc.1 hc.2 (by rw [h1 rfl, Nat.mul_one]; exact a1), a2⟩
            · cases hsem
          | true =>
            simp only [semR, if_true] at hsem
            split at hsem
            · rename_i hc
              obtain ⟨u, a1, a2⟩ := partn_sound (P := P) ha hs (.ag vs xs hsz h1' hr) hsem
              exact ⟨u, fin _ _ _ _ hc.1 hc.2 a1, a2⟩
            · cases hsem
      | _ => cases ag <;> simp [semR] at hsem
    | _ => cases ag <;> simp [semR] at hsem
  | _ => cases ag <;> simp [semR] at hsem

theorem ixc_sound {t : TypeId} (hu : P.underlying t = some .string) {foot : List Nat} {v vi : Value} {p pi q : PV} (hv : RP C σ.S τ w v p) (hi : RP C σ.S τ w vi pi)
    (hsem : semR σ foot .ixc [p, pi] = some q) : ∃ u, (Instr.index t v vi).run P w = .ok u w ∧ RP C σ.S τ w u q := by
  cases pi with
  | f xi =>
    cases xi with
    | int k i =>
      cases p with
      | f x =>
        cases x with
        | str s =>
          rw [hi.fInt, hv.fStr]
          simp only [semR] at hsem
          obtain ⟨b, hb, rfl⟩ := Option.map_eq_some_iff.1 hsem
          obtain ⟨h0, h1, h2⟩ := nth_spec hb
          refine ⟨_, ?_, .f _ _ (.int _ _)⟩
          have hlt : i.toNat < s.length := by omega
          have hg : (⟨s.toArray⟩ : ByteArray)[i.toNat]? = some b := by
            rw [getElem?_pos (⟨s.toArray⟩ : ByteArray) i.toNat (by simpa [ByteArray.size] using hlt)]
            rw [List.getElem?_eq_getElem hlt] at h1
            simpa [ByteArray.getElem_eq_getElem_data] using h1
          simp [Instr.index, run_underlying hu, asIntOf, h0, hg]
        | _ => simp [semR] at hsem
      | _ => simp [semR] at hsem
    | _ => cases p <;> first | (simp [semR] at hsem; done) | (rename_i x; cases x <;> simp [semR] at hsem)
  | _ => cases p <;> first | (simp [semR] at hsem; done) | (rename_i x; cases x <;> simp [semR] at hsem)

theorem ext_sound {foot : List Nat} {i : Nat} {v : Value} {p q : PV} (hv : RP C σ.S τ w v p) (hsem : semR σ foot (.ext i) [p] = some q) : ∃ u, (Instr.extract v i).run P w = .ok u w ∧ RP C σ.S τ w u q := by
  cases p with
  | tup xs =>
    simp only [semR] at hsem
    cases hv with
    | tup vs _ hs hr =>
      have hlt : i < vs.size := by have := (List.getElem?_eq_some_iff.1 hsem).1; omega
      exact ⟨vs[i], by simp [Instr.extract, hlt], hr i _ _ (by simp [hlt]) hsem⟩
  | _ => simp [semR] at hsem

theorem len_sound {t ty : TypeId} {at' : Array TypeId} (h : Core G C τ σ tm w) (ht : at'[0]? = some t) {e : TypeId} (hu : P.underlying t = some (.slice e)) {foot : List Nat} {v : Value} {p q : PV} (hv : RP C σ.S τ w v p)
    (hsem : semR σ foot .len [p] = some q) : ∃ u, (Builtin.len_ at' ty #[v]).run P w = .ok u w ∧ RP C σ.S τ w u q := by
  simp only [semR] at hsem
  split at hsem
  case isFalse => cases hsem
  rename_i hok
  have hp : ∀ t off len s, p = .ts t off len s → cur σ foot t s = true := by rintro t off len s rfl; exact hok
  obtain ⟨n, hn, rfl⟩ := Option.map_eq_some_iff.1 hsem
  have hvn : ∃ a cap, v = .slice a n cap := by
    unfold sliceLen at hn
    split at hn
    · cases hn; cases hv with | f v x hx => cases hx; exact ⟨_, _, rfl⟩
    · cases hn; cases hv with | f v x hx => cases hx; exact ⟨_, _, rfl⟩
    · cases hn
      cases hv with
      | ts v t' off len s h1 hle hvv =>
        rcases hvv (cur_spec (hp _ _ _ _ rfl)) with ⟨e1, e2, e3, e4⟩ | ⟨k, o, e1, e2, _⟩
        · subst e2; subst e4; exact ⟨_, _, rfl⟩
        · exact ⟨_, _, e2⟩
    · cases hn
  obtain ⟨a, cap, rfl⟩ := hvn
  exact ⟨_, by simp [Builtin.len_, ht, run_underlying hu]; rfl, .f _ _ (.int _ _)⟩

theorem lens_sound {t ty : TypeId} {at' : Array TypeId} (ht : at'[0]? = some t) (hu : P.underlying t = some .string) {foot : List Nat} {v : Value} {p q : PV} (hv : RP C σ.S τ w v p)
    (hsem : semR σ foot .lens [p] = some q) : ∃ u, (Builtin.len_ at' ty #[v]).run P w = .ok u w ∧ RP C σ.S τ w u q := by
  cases p with
  | f x =>
    cases x with
    | str s =>
      simp only [semR, Option.some.injEq] at hsem
      subst hsem
      rw [hv.fStr]
      exact ⟨_, by simp [Builtin.len_, ht, run_underlying hu, size_mk]; rfl, .f _ _ (.int _ _)⟩
    | _ => simp [semR] at hsem
  | _ => simp [semR] at hsem

def arrLen (P : Program) (t : TypeId) (n : Nat) : Bool := match P.underlying t with
  | some (.array m _) => m == n
  | some (.pointer a) => match P.underlying a with
    | some (.array m _) => m == n
    | _ => false
  | _ => false
theorem lenc_sound {t ty : TypeId} {at' : Array TypeId} {n : Nat} (ht : at'[0]? = some t) (hu : arrLen P t n = true) {foot : List Nat} {v : Value} {p q : PV}
    (hsem : semR σ foot (.lenc n) [p] = some q) : ∃ u, (Builtin.len_ at' ty #[v]).run P w = .ok u w ∧ RP C σ.S τ w u q := by
  simp only [semR, Option.some.injEq] at hsem
  subst hsem
  refine ⟨.int .i64 n, ?_, .f _ _ (.int _ _)⟩
  unfold arrLen at hu
  split at hu
  · rename_i m e hd
    simp only [beq_iff_eq] at hu; subst hu
    simp [Builtin.len_, ht, run_underlying hd]
    rfl
  · rename_i a hd
    split at hu
    · rename_i m e hd'
      simp only [beq_iff_eq] at hu; subst hu
      simp [Builtin.len_, ht, run_underlying hd, run_underlying hd']
      rfl
    · cases hu
  · cases hu

theorem mm_sound {at' : Array TypeId} {ty : TypeId} {foot : List Nat} {va vb : Value} {a b q : PV} (ha : RP C σ.S τ w va a) (hb : RP C σ.S τ w vb b) (mx : Bool)
    (hsem : semR σ foot (if mx then .max else .min) [a, b] = some q) : ∃ u, (if mx then Builtin.max_ at' ty #[va, vb] else Builtin.min_ at' ty #[va, vb]).run P w = .ok u w ∧ RP C σ.S τ w u q := by
  cases a with
  | f x =>
    cases x with
    | int k i =>
      cases b with
      | f y =>
        cases y with
        | int k' j =>
          rw [ha.fInt, hb.fInt]
          cases mx
          · simp only [semR, Bool.false_eq_true, if_false, Option.some.injEq] at hsem
            subst hsem
            refine ⟨_, ?_, .f _ _ (.int _ _)⟩
            simp [Builtin.min_, Builtin.min2]
          · simp only [semR, if_true, Option.some.injEq] at hsem
            subst hsem
            refine ⟨_, ?_, .f _ _ (.int _ _)⟩
            simp [Builtin.max_, Builtin.max2]
        | _ => cases mx <;> simp [semR] at hsem
      | _ => cases mx <;> simp [semR] at hsem
    | _ => cases mx <;> cases b <;> simp [semR] at hsem
  | _ => cases mx <;> cases b <;> simp [semR] at hsem

theorem pick_sound {foot : List Nat} {vc va vb : Value} {c a b q : PV} (hc : RP C σ.S τ w vc c) (ha : RP C σ.S τ w va a) (hb : RP C σ.S τ w vb b)
    (hsem : semR σ foot .pick [c, a, b] = some q) : ∃ u, (do pure (if ← asBool vc then va else vb) : Sem Value).run P w = .ok u w ∧ RP C σ.S τ w u q := by
  cases c with
  | f x =>
    cases x with
    | bool t =>
      simp only [semR, Option.some.injEq] at hsem
      subst hsem
      rw [hc.fBool]
      refine ⟨if t then va else vb, by simp [asBool], ?_⟩
      cases t
      · exact hb
      · exact ha
    | _ => simp [semR] at hsem
  | _ => simp [semR] at hsem

theorem beq_sound {t : TypeId} (hu : P.underlying t = some .bool) {foot : List Nat} {va vb : Value} {a b q : PV} (ha : RP C σ.S τ w va a) (hb : RP C σ.S τ w vb b) (oa ob : Operand) (neg : Bool)
    (hsem : semR σ foot (.beq neg) [a, b] = some q) : ∃ u, (do eqGuard (if neg then .neq else .eql) t oa ob va vb; binOp (if neg then .neq else .eql) t va vb : Sem Value).run P w = .ok u w ∧ RP C σ.S τ w u q := by
  cases a with
  | f x =>
    cases x with
    | bool i =>
      cases b with
      | f y =>
        cases y with
        | bool j =>
          rw [ha.fBool, hb.fBool]
          have he := run_equalIn_bool (P := P) w 9999 t i j hu
          have he' : (Op.equal t (.bool i) (.bool j)).run P w = .ok (i == j) w := he
          simp only [semR, Option.some.injEq] at hsem
          subst hsem
          cases neg
          · refine ⟨_, ?_, .f _ _ (.bool _)⟩
            simp [run_eqGuard_bool, binOp, he']
            cases i <;> cases j <;> rfl
          · refine ⟨_, ?_, .f _ _ (.bool _)⟩
            simp [run_eqGuard_bool, binOp, he']
            cases i <;> cases j <;> rfl
        | _ => simp [semR] at hsem
      | _ => simp [semR] at hsem
    | _ => cases b <;> first | (simp [semR] at hsem; done) | (rename_i y; cases y <;> simp [semR] at hsem)
  | _ => cases b <;> first | (simp [semR] at hsem; done) | (rename_i y; cases y <;> simp [semR] at hsem)

def isC : Operand → Bool
  | .const _ => true
  | _ => false
theorem run_equal_nili {t : TypeId} {ms : Array (String × TypeId)} (hu : P.underlying t = some (.interface ms)) (w : World) : (Op.equal t .nilIface .nilIface).run P w = .ok true w := by
  unfold Op.equal
  rw [show Op.maxDepth = 9999 + 1 from rfl, Op.equalIn]
  simp [run_underlying hu]
theorem run_equal_iface {t : TypeId} {ms : Array (String × TypeId)} (hu : P.underlying t = some (.interface ms)) (w : World) (u : TypeId) (v : Value) : (Op.equal t (.iface u v) .nilIface).run P w = .ok false w := by
  unfold Op.equal
  rw [show Op.maxDepth = 9999 + 1 from rfl, Op.equalIn]
  simp [run_underlying hu]
theorem ieq_sound {t : TypeId} {ms : Array (String × TypeId)} (hu : P.underlying t = some (.interface ms)) {foot : List Nat} {va vb : Value} {a b q : PV} (ha : RP C σ.S τ w va a) (hb : RP C σ.S τ w vb b) (oa ob : Operand) (ho : isC ob = true) (neg : Bool)
    (hsem : semR σ foot (.ieq neg) [a, b] = some q) : ∃ u, (do eqGuard (if neg then .neq else .eql) t oa ob va vb; binOp (if neg then .neq else .eql) t va vb : Sem Value).run P w = .ok u w ∧ RP C σ.S τ w u q := by
  have hob : ∃ c, ob = .const c := by cases ob <;> simp [isC] at ho; exact ⟨_, rfl⟩
  obtain ⟨c, rfl⟩ := hob
  have some_ : ∀ (u : TypeId) (v : Value), (do eqGuard (if neg then .neq else .eql) t oa (.const c) (.iface u v) .nilIface; binOp (if neg then .neq else .eql) t (.iface u v) .nilIface : Sem Value).run P w = .ok (.bool neg) w := by
    intro u v
    have := run_equal_iface hu w u v
    cases neg <;> simp [eqGuard, binOp, this]
  have none_ : (do eqGuard (if neg then .neq else .eql) t oa (.const c) .nilIface .nilIface; binOp (if neg then .neq else .eql) t .nilIface .nilIface : Sem Value).run P w = .ok (.bool !neg) w := by
    have := run_equal_nili hu w
    cases neg <;> cases oa <;> simp [eqGuard, binOp, this]
  cases a with
  | f x =>
    cases b with
    | f y =>
      cases y with
      | nili =>
        have hvb : vb = .nilIface := by cases hb with | f v y hy => cases hy; rfl
        subst hvb
        cases ha with
        | f va x hx =>
          cases hx with
          | nili => simp only [semR, Option.some.injEq] at hsem; subst hsem; exact ⟨_, none_, .f _ _ (.bool _)⟩
          | ifs t' v x h => simp only [semR, Option.some.injEq] at hsem; subst hsem; exact ⟨_, some_ _ _, .f _ _ (.bool _)⟩
          | ifa t' vs xs hs hr => simp only [semR, Option.some.injEq] at hsem; subst hsem; exact ⟨_, some_ _ _, .f _ _ (.bool _)⟩
          | err t' v => simp only [semR, Option.some.injEq] at hsem; subst hsem; exact ⟨_, some_ _ _, .f _ _ (.bool _)⟩
          | _ => simp [semR] at hsem
      | _ => simp [semR] at hsem
    | _ => simp [semR] at hsem
  | _ => simp [semR] at hsem
end
end Go.Absw

/- The abstract machine, its tenth part: the link between an operation that reads alone and its abstract form, checked by a closed computation, and that it suffices. Conditions: none. -/
namespace Go.Absw
open Go

section
variable {P : Program} {G : Env} {C : Cells} {τ : Tau} {σ : St} {w : World}

def tagOk (P : Program) (t : TypeId) (n : Nat) : Bool := match n, P.underlying t with
  | 0, some (.int _) => true
  | 1, some .string => true
  | 2, some .bool => true
  | _, _ => false
def fldsOk (P : Program) : Nat → List Field → List Nat → Bool
  | _, [], [] => true
  | i, f :: fs, n :: ns => f.offset == i && f.name != "_" && aggIs P f.type false && tagOk P f.type n && fldsOk P (i + 1) fs ns
  | _, _, _ => false
def eqsOk (P : Program) (t : TypeId) (tags : List Nat) : Bool := match P.underlying t with
  | some (.struct fs) => P.stoodInHeld t == false && P.eqGuardType P.depth t == false && fldsOk P 0 fs.toList tags
  | _ => false

theorem eqf_step {d : Nat} {xs ys : Array Value} {f : Field} {fs : List Field} {a b : Value} {r s : Bool} (hn : f.name ≠ "_") (ha : (part f.type xs f.offset).run P w = .ok a w) (hb : (part f.type ys f.offset).run P w = .ok b w)
    (he : (Op.equalIn d f.type a b).run P w = .ok r w) (hr : (Op.eqFields d xs ys fs).run P w = .ok s w) : (Op.eqFields d xs ys (f :: fs)).run P w = .ok (r && s) w := by
  rw [Op.eqFields]
  simp only [if_pos hn, Sem.run_bind, ha, hb, he, Result.andThen_ok]
  cases r
  · simp
  · simpa using hr

theorem eqFs_run (d : Nat) (vs us : Array Value) : ∀ (fs : List Field) (tags : List Nat) (i : Nat) (xs ys : List FV) (r : Bool), fldsOk P i fs tags = true → eqFs tags xs ys = some r →
    (∀ (j : Nat) x, xs[j]? = some x → ∃ v, vs[i + j]? = some v ∧ RF C w v x) → (∀ (j : Nat) x, ys[j]? = some x → ∃ v, us[i + j]? = some v ∧ RF C w v x) →
    (Op.eqFields (d + 1) vs us fs).run P w = .ok r w
  | [], [], i, xs, ys, r, hf, he, hx, hy => by
    cases xs <;> cases ys <;> simp [eqFs] at he
    subst he
    simp [Op.eqFields]
  | f :: fs, n :: tags, i, xs, ys, r, hf, he, hx, hy => by
    simp only [fldsOk, Bool.and_eq_true, beq_iff_eq, bne_iff_ne] at hf
    obtain ⟨⟨⟨⟨h1, h2⟩, h3⟩, h4⟩, h5⟩ := hf
    have part_ : ∀ (ws : Array Value) (v : Value), ws[i]? = some v → (part f.type ws f.offset).run P w = .ok v w := by
      intro ws v hv
      simp [part, run_isAgg h3, h1, hv]
    have rest : ∀ (xs ys : List FV) (x y : FV) (r : Bool), eqFs tags xs ys = some r → (∀ (j : Nat) z, (x :: xs)[j]? = some z → ∃ v, vs[i + j]? = some v ∧ RF C w v z) → (∀ (j : Nat) z, (y :: ys)[j]? = some z → ∃ v, us[i + j]? = some v ∧ RF C w v z) →
        (Op.eqFields (d + 1) vs us fs).run P w = .ok r w := fun xs ys x y r he hx hy =>
      eqFs_run d vs us fs tags (i + 1) xs ys r h5 he (fun j z hz => by have := hx (j + 1) z (by simpa using hz); rwa [show i + (j + 1) = i + 1 + j by omega] at this)
        (fun j z hz => by have := hy (j + 1) z (by simpa using hz); rwa [show i + (j + 1) = i + 1 + j by omega] at this)
    unfold eqFs at he
    split at he
    · rename_i heq; cases heq
    · rename_i t k a r' k' b q heq
      cases heq
      split at he
      · rename_i hk
        subst hk
        obtain ⟨s, hs, rfl⟩ := Option.map_eq_some_iff.1 he
        obtain ⟨v, hv, hvr⟩ := hx 0 _ rfl
        obtain ⟨u, hu, hur⟩ := hy 0 _ rfl
        cases hvr; cases hur
        have hrest := rest r' q _ _ s hs hx hy
        have ht : ∃ k', P.underlying f.type = some (.int k') := by
          unfold tagOk at h4; split at h4 <;> first | exact ⟨_, by assumption⟩ | (rename_i h0 _; cases h0) | cases h4
        obtain ⟨k', ht⟩ := ht
        have key := eqf_step h2 (part_ vs _ (by simpa using hv)) (part_ us _ (by simpa using hu)) (run_equalIn_int w d f.type k k' a b ht) hrest
        rwa [beqDec] at key
      · cases he
    · rename_i t a r' b q heq
      cases heq
      obtain ⟨s, hs, rfl⟩ := Option.map_eq_some_iff.1 he
      obtain ⟨v, hv, hvr⟩ := hx 0 _ rfl
      obtain ⟨u, hu, hur⟩ := hy 0 _ rfl
      cases hvr; cases hur
      have hrest := rest r' q _ _ s hs hx hy
      have ht : P.underlying f.type = some .string := by
        unfold tagOk at h4; split at h4 <;> first | assumption | (rename_i h0 _; cases h0) | cases h4
      have key := eqf_step h2 (part_ vs _ (by simpa using hv)) (part_ us _ (by simpa using hu)) (run_equalIn_string w d f.type _ _ ht) hrest
      rwa [bytes_beq] at key
    · rename_i t a r' b q heq
      cases heq
      obtain ⟨s, hs, rfl⟩ := Option.map_eq_some_iff.1 he
      obtain ⟨v, hv, hvr⟩ := hx 0 _ rfl
      obtain ⟨u, hu, hur⟩ := hy 0 _ rfl
      cases hvr; cases hur
      have hrest := rest r' q _ _ s hs hx hy
      have ht : P.underlying f.type = some .bool := by
        unfold tagOk at h4; split at h4 <;> first | assumption | (rename_i h0 _; cases h0) | cases h4
      have key := eqf_step h2 (part_ vs _ (by simpa using hv)) (part_ us _ (by simpa using hu)) (run_equalIn_bool w d f.type a b ht) hrest
      rwa [show (a == b) = decide (a = b) by cases a <;> cases b <;> rfl] at key
    · cases he
  | [], _ :: _, _, _, _, _, hf, _, _, _ => by simp [fldsOk] at hf
  | _ :: _, [], _, _, _, _, hf, _, _, _ => by simp [fldsOk] at hf

theorem RP.toF {C : Cells} {S : Nat → Nat} {v : Value} {x : FV} (h : RP C S τ w v (.f x)) : RF C w v x := by
  cases h with | f v x h => exact h

theorem eqs_sound {t : TypeId} {tags : List Nat} (hc : eqsOk P t tags = true) {foot : List Nat} {va vb : Value} {a b q : PV} (ha : RP C σ.S τ w va a) (hb : RP C σ.S τ w vb b) (oa ob : Operand) (neg : Bool)
    (hsem : semR σ foot (.eqs neg tags) [a, b] = some q) : ∃ u, (do eqGuard (if neg then .neq else .eql) t oa ob va vb; binOp (if neg then .neq else .eql) t va vb : Sem Value).run P w = .ok u w ∧ RP C σ.S τ w u q := by
  unfold eqsOk at hc
  split at hc
  case h_2 => cases hc
  rename_i fs hu
  simp only [Bool.and_eq_true, beq_iff_eq] at hc
  obtain ⟨⟨hc1, hc2⟩, hc3⟩ := hc
  cases a with
  | ag xs =>
    cases b with
    | ag ys =>
      simp only [semR] at hsem
      split at hsem
      · rename_i x y hx hy
        obtain ⟨r, hr, rfl⟩ := Option.map_eq_some_iff.1 hsem
        cases ha with
        | ag vs _ hs h1 hrel =>
          cases hb with
          | ag us _ hs' h1' hrel' =>
            have hxs := fvs_spec hx
            have hys := fvs_spec hy
            have get : ∀ (vs : Array Value) (xs : List PV) (x : List FV), vs.size = xs.length → xs = x.map .f → (∀ (i : Nat) v x, vs[i]? = some v → xs[i]? = some x → RP C σ.S τ w v x) →
                ∀ (j : Nat) z, x[j]? = some z → ∃ v, vs[0 + j]? = some v ∧ RF C w v z := by
              intro vs xs x hs hx hrel j z hz
              have hlt := (List.getElem?_eq_some_iff.1 hz).1
              have hlt' : j < vs.size := by rw [hs, hx]; simpa using hlt
              refine ⟨vs[j], by simp [hlt'], ?_⟩
              exact RP.toF (hrel j vs[j] (.f z) (by simp [hlt']) (by rw [hx, List.getElem?_map, hz]; rfl))
            have key := eqFs_run (P := P) (C := C) (w := w) 9998 vs us fs.toList tags 0 x y r hc3 hr (get vs xs x hs hxs hrel) (get us ys y hs' hys hrel')
            have hf : P.fieldsOf t = fs := by simp [Program.fieldsOf, hu]
            have he : (Op.equalIn 10000 t (.agg vs) (.agg us)).run P w = .ok r w := by
              rw [show (10000 : Nat) = 9999 + 1 from rfl, run_equalIn_struct (P := P) w 9999 t vs us (by rw [hf]; exact hu) hc1, hf]
              exact key
            have hg : ∀ op, (eqGuard op t oa ob (.agg vs) (.agg us)).run P w = .ok () w := by
              intro op
              cases op <;> simp [eqGuard, hc2]
            cases neg
            · refine ⟨_, ?_, .f _ _ (.bool _)⟩
              simp [hg, run_eql_struct, he]
            · refine ⟨_, ?_, .f _ _ (.bool _)⟩
              simp [hg, run_neq_struct, he]
      · cases hsem
    | _ => simp [semR] at hsem
  | _ => simp [semR] at hsem

/-! ### conversions, interface and function values -/
def noIface (P : Program) (t : TypeId) : Bool := match P.underlying t with
  | some (.interface _) => false
  | some _ => true
  | none => false
theorem run_mki {t : TypeId} (h : noIface P t = true) (v : Value) (w : World) : (Instr.makeInterface t v).run P w = .ok (.iface t v) w := by
  unfold noIface at h
  split at h
  · cases h
  · rename_i d hd hn
    simp only [Instr.makeInterface, Sem.run_bind, run_underlying hn, Result.andThen_ok]
    cases d <;> first | rfl | exact absurd rfl (hd _)
  · cases h

theorem mki_sound {t : TypeId} (h : noIface P t = true) {foot : List Nat} {v : Value} {p q : PV} (hv : RP C σ.S τ w v p) (hsem : semR σ foot (.mki t) [p] = some q) :
    ∃ u, (Instr.makeInterface t v).run P w = .ok u w ∧ RP C σ.S τ w u q := by
  refine ⟨_, run_mki h v w, ?_⟩
  have gen : ∀ p : PV, RP C σ.S τ w v p → p.one = true → RP C σ.S τ w (.iface t v) (.ifc t p) := fun p hp _ => .ifc t v p hp
  cases p with
  | f x =>
    simp only [semR, Option.some.injEq] at hsem
    subst hsem
    cases hv with | f v x hx => exact .f _ _ (.ifs t v x hx)
  | ag xs =>
    simp only [semR] at hsem
    split at hsem
    · rename_i ys hy
      simp only [Option.some.injEq] at hsem
      subst hsem
      cases hv with
      | ag vs _ hs h1 hr =>
        have := fvs_spec hy
        subst this
        refine .f _ _ (.ifa t vs ys (by simpa using hs) (fun i v x hv hx => ?_))
        exact (hr i v (.f x) hv (by rw [List.getElem?_map, hx]; rfl)).toF
    · simp only [Option.some.injEq] at hsem
      subst hsem
      exact .ifc t v _ hv
  | ptr a b c d => simp only [semR, PV.one, if_true, Option.some.injEq] at hsem; subst hsem; exact .ifc t v _ hv
  | fp a b => simp only [semR, PV.one, if_true, Option.some.injEq] at hsem; subst hsem; exact .ifc t v _ hv
  | ts a b c d => simp only [semR, PV.one, if_true, Option.some.injEq] at hsem; subst hsem; exact .ifc t v _ hv
  | fn a b c => simp only [semR, PV.one, if_true, Option.some.injEq] at hsem; subst hsem; exact .ifc t v _ hv
  | ifc a b => simp only [semR, PV.one, if_true, Option.some.injEq] at hsem; subst hsem; exact .ifc t v _ hv
  | tup a => simp [semR, PV.one] at hsem
  | dead => simp [semR, PV.one] at hsem

theorem cvi_sound {s d : TypeId} {k : IntKind} {ds : TypeDesc} (hs : P.underlying s = some ds) (hd : P.underlying d = some (.int k)) {foot : List Nat} {v : Value} {p q : PV} (hv : RP C σ.S τ w v p) (hsem : semR σ foot (.cvi k) [p] = some q) :
    ∃ u, (convert s d v).run P w = .ok u w ∧ RP C σ.S τ w u q := by
  cases p with
  | f x =>
    cases x with
    | int k' n =>
      simp only [semR, Option.some.injEq] at hsem
      subst hsem
      rw [hv.fInt]
      refine ⟨_, ?_, .f _ _ (.int _ _)⟩
      simp only [convert, Sem.run_bind, run_underlying hs, run_underlying hd, Result.andThen_ok]
      cases ds <;> rfl
    | _ => simp [semR] at hsem
  | _ => simp [semR] at hsem

theorem s2s_sound {s d : TypeId} (hs : P.underlying s = some .string) (hd : P.underlying d = some .string) {foot : List Nat} {v : Value} {p q : PV} (hv : RP C σ.S τ w v p) (hsem : semR σ foot .s2s [p] = some q) :
    ∃ u, (convert s d v).run P w = .ok u w ∧ RP C σ.S τ w u q := by
  cases p with
  | f x =>
    cases x with
    | str l =>
      simp only [semR, Option.some.injEq] at hsem
      subst hsem
      rw [hv.fStr]
      refine ⟨_, ?_, .f _ _ (.str _)⟩
      simp [convert, run_underlying hs, run_underlying hd]
    | _ => simp [semR] at hsem
  | _ => simp [semR] at hsem

theorem mkf_sound {fn : Fn} {nf : Nat} {foot : List Nat} {vs : Array Value} {us : Array Value} {as : List PV} {q : PV} (hn : vs.size = nf) (hl : vs.size + us.size = as.length)
    (hv : ∀ (i : Nat) v p, (vs ++ us)[i]? = some v → as[i]? = some p → RP C σ.S τ w v p) (hsem : semR σ foot (.mkf fn nf) as = some q) :
    ∃ u, (Instr.makeFunc fn vs us).run P w = .ok u w ∧ RP C σ.S τ w u q := by
  refine ⟨.func fn vs us, rfl, ?_⟩
  cases as with
  | nil =>
    simp only [semR, Option.some.injEq] at hsem
    subst hsem
    have h1 : vs = #[] := Array.eq_empty_of_size_eq_zero (by simp only [List.length_nil] at hl; omega)
    have h2 : us = #[] := Array.eq_empty_of_size_eq_zero (by simp only [List.length_nil] at hl; omega)
    subst h1; subst h2
    exact .f _ _ (.fn fn)
  | cons a r =>
    simp only [semR, Option.some.injEq] at hsem
    subst hsem
    refine .fn fn vs us _ _ (by rw [List.length_take]; omega) (by rw [List.length_drop]; omega) (fun i v x hv' hx => ?_) (fun i v x hv' hx => ?_)
    · rw [List.getElem?_take] at hx
      split at hx
      · exact hv i v x (by rw [Array.getElem?_append_left (by omega)]; exact hv') hx
      · cases hx
    · rw [List.getElem?_drop] at hx
      exact hv (nf + i) v x (by rw [Array.getElem?_append_right (by omega), hn]; simpa using hv') hx
end
end Go.Absw

/- The abstract machine, its eleventh part: every operation that reads alone. Conditions: none. -/
namespace Go.Absw
open Go

def boolT (P : Program) (t : TypeId) : Bool := match P.underlying t with | some .bool => true | _ => false
def strT (P : Program) (t : TypeId) : Bool := match P.underlying t with | some .string => true | _ => false
def ifaceT (P : Program) (t : TypeId) : Bool := match P.underlying t with | some (.interface _) => true | _ => false
def intT (P : Program) (t : TypeId) (k : IntKind) : Bool := match P.underlying t with | some (.int k') => decide (k' = k) | _ => false
def sliceT (P : Program) (t : TypeId) : Bool := match P.underlying t with | some (.slice _) => true | _ => false
def bytesT (P : Program) (t : TypeId) : Bool := match P.underlying t with | some (.slice e) => intT P e .u8 | _ => false
def arrT (P : Program) (t : TypeId) (n sz : Nat) : Bool := match P.underlying t with | some (.array m e) => m == n && sizeIs P e sz | _ => false
def arrV (P : Program) (t : TypeId) (n sz : Nat) (ag : Bool) : Bool := match P.underlying t with | some (.array m e) => m == n && sizeIs P e sz && aggIs P e ag | _ => false
def fadOk (P : Program) (t : TypeId) (f off : Nat) : Bool := match P.underlying t with
  | some (.struct fs) => match fs[f]? with
    | some x => match P.info? x.type with
      | some i => x.offset == off && i.size != 0
      | none => false
    | none => false
  | _ => false
theorem fadOk_spec {P : Program} {t : TypeId} {f off : Nat} (h : fadOk P t f off = true) : ∃ n, fieldOk P t f off n = true := by
  unfold fadOk at h
  split at h
  · rename_i fs hu
    split at h
    · rename_i x hx
      split at h
      · rename_i i hi
        simp only [Bool.and_eq_true, beq_iff_eq, bne_iff_ne] at h
        exact ⟨i.size, by simp [fieldOk, hu, hx, h.1, sizeIs, hi, h.2]⟩
      · cases h
    · cases h
  · cases h
theorem boolT_spec {P : Program} {t : TypeId} (h : boolT P t = true) : P.underlying t = some .bool := by
  unfold boolT at h; split at h <;> first | assumption | cases h
theorem strT_spec {P : Program} {t : TypeId} (h : strT P t = true) : P.underlying t = some .string := by
  unfold strT at h; split at h <;> first | assumption | cases h
theorem ifaceT_spec {P : Program} {t : TypeId} (h : ifaceT P t = true) : ∃ ms, P.underlying t = some (.interface ms) := by
  unfold ifaceT at h; split at h <;> first | exact ⟨_, by assumption⟩ | cases h
theorem intT_spec {P : Program} {t : TypeId} {k : IntKind} (h : intT P t k = true) : P.underlying t = some (.int k) := by
  unfold intT at h; split at h
  · rename_i k' hk; simp only [decide_eq_true_eq] at h; exact h ▸ hk
  · cases h
theorem sliceT_spec {P : Program} {t : TypeId} (h : sliceT P t = true) : ∃ e, P.underlying t = some (.slice e) := by
  unfold sliceT at h; split at h <;> first | exact ⟨_, by assumption⟩ | cases h
theorem bytesT_spec {P : Program} {t : TypeId} (h : bytesT P t = true) : ∃ e, P.underlying t = some (.slice e) ∧ P.underlying e = some (.int .u8) := by
  unfold bytesT at h; split at h
  · exact ⟨_, by assumption, intT_spec h⟩
  · cases h
theorem arrT_spec {P : Program} {t : TypeId} {n sz : Nat} (h : arrT P t n sz = true) : ∃ e, P.underlying t = some (.array n e) ∧ sizeIs P e sz = true := by
  unfold arrT at h; split at h
  · rename_i m e hu; simp only [Bool.and_eq_true, beq_iff_eq] at h; exact ⟨e, h.1 ▸ hu, h.2⟩
  · cases h
theorem arrV_spec {P : Program} {t : TypeId} {n sz : Nat} {ag : Bool} (h : arrV P t n sz ag = true) : ∃ e, P.underlying t = some (.array n e) ∧ sizeIs P e sz = true ∧ aggIs P e ag = true := by
  unfold arrV at h; split at h
  · rename_i m e hu; simp only [Bool.and_eq_true, beq_iff_eq] at h; exact ⟨e, h.1.1 ▸ hu, h.1.2, h.2⟩
  · cases h

/-- The method of an interface value whose dynamic type is known is no method of a nil pointer. -/
def nckmOk (P : Program) (t : TypeId) (m : String) : Bool := match P.info? t with
  | some i => match i.methods.find? (·.name == m) with
    | some x => x.path.isEmpty && (match x.func with
      | some (_, true) => true
      | some (_, false) => (match P.underlying t with | some (.pointer _) => false | some _ => true | none => false)
      | none => false)
    | none => false
  | none => false

def chkR (P : Program) (o : Oper) (k : RK) (args : List PArg) : Bool :=
  match o.op with
  | .move x => match k with | .mv => opdsOk [x] args | _ => false
  | .assign x => match k with | .mv => opdsOk [x] args | _ => false
  | .pick c a b => match k with | .pick => opdsOk [c, a, b] args | _ => false
  | .build t parts => match k with
    | .build z ps => zeroIs P t z && placesOk P t (parts.toList.map (·.1)) ps && partsInfo P t && opdsOk (parts.toList.map (·.2)) args
    | _ => false
  | .load t x => match k with
    | .ld1 => sizeIs P t 1 && aggIs P t false && opdsOk [x] args
    | .ldn n => sizeIs P t n && aggIs P t true && opdsOk [x] args
    | _ => false
  | .binOp op t x y _ => opdsOk [x, y] args && match k with
    | .bin op' => decide (op = op')
    | .beq neg => decide (op = if neg then .neq else .eql) && boolT P t
    | .ieq neg => decide (op = if neg then .neq else .eql) && ifaceT P t && isC y
    | .eqs neg tags => decide (op = if neg then .neq else .eql) && eqsOk P t tags
    | _ => false
  | .unOp op _ x => match k with | .un op' => decide (op = op') && opdsOk [x] args | _ => false
  | .convert s d x => opdsOk [x] args && match k with
    | .cvi k' => (P.underlying s).isSome && intT P d k'
    | .b2s => bytesT P s && strT P d && (match args with | [.s _] => true | [.z _ _] => true | _ => false)
    | .s2s => strT P s && strT P d
    | _ => false
  | .makeInterface t x => match k with | .mki t' => t == t' && noIface P t && opdsOk [x] args | _ => false
  | .makeFunc fn first cap => match k with | .mkf fn' nf => decide (fn = fn') && first.size == nf && opdsOk (first ++ cap).toList args | _ => false
  | .slice t x lo hi mx => mx.isNone && opdsOk (x :: (lo.toList ++ hi.toList)) args && match k with
    | .slc sz l h => elemSz P t sz && l == lo.isSome && h == hi.isSome
    | .sls l h => strT P t && l == lo.isSome && h == hi.isSome
    | .sla n sz => arrT P t n sz && lo.isNone && hi.isNone
    | _ => false
  | .fieldAddr s x f => match k with | .fad off => fadOk P s f off && opdsOk [x] args | _ => false
  | .indexAddr t x i => opdsOk [x, i] args && match k with
    | .ixs sz => elemSz P t sz
    | .ixa n sz => arrT P t n sz
    | _ => false
  | .field t x f => opdsOk [x] args && match k with
    | .fld1 off => fldOk P t f off 1 false
    | .fldn off n => fldOk P t f off n true
    | _ => false
  | .index t x i => opdsOk [x, i] args && match k with
    | .ixv1 n => arrV P t n 1 false
    | .ixvn n sz => arrV P t n sz true
    | .ixc => strT P t
    | _ => false
  | .extract x i => match k with | .ext i' => i == i' && opdsOk [x] args | _ => false
  | .nilCheck x => match k with
    | .nck => opdsOk [x] args
    | .nckm t m => nckmOk P t m && opdsOk [x] args
    | _ => false
  | .call c => opdsOk c.args.toList args && match c.callee with
    | .builtin .len => match c.argTypes[0]? with
      | some t => c.argTypes.size == 1 && match k with
        | .len => sliceT P t
        | .lens => strT P t
        | .lenc n => arrLen P t n
        | _ => false
      | none => false
    | .builtin .max => (match k with | .max => true | _ => false)
    | .builtin .min => (match k with | .min => true | _ => false)
    | _ => false
  | _ => false

section
variable {G : Env} {C : Cells} {τ : Tau} {σ : St} {a : Act} {w : World}

theorem opds1 {P : Program} (h : Core G C τ σ a.tmps w) (foot : List Nat) {x : Operand} {args : List PArg} (hx : opdsOk [x] args = true) : ∃ q, args = [q] ∧ RP C σ.S τ w (a.eval x) (q.val G σ foot) := by
  match args, hx with
  | [q], hx => simp only [opdsOk, Bool.and_true] at hx; exact ⟨q, rfl, opd_RP h foot hx⟩
  | [], hx => simp [opdsOk] at hx
  | _ :: _ :: _, hx => simp [opdsOk] at hx
theorem opds2 {P : Program} (h : Core G C τ σ a.tmps w) (foot : List Nat) {x y : Operand} {args : List PArg} (hx : opdsOk [x, y] args = true) :
    ∃ q r, args = [q, r] ∧ RP C σ.S τ w (a.eval x) (q.val G σ foot) ∧ RP C σ.S τ w (a.eval y) (r.val G σ foot) := by
  match args, hx with
  | [q, r], hx => simp only [opdsOk, Bool.and_true, Bool.and_eq_true] at hx; exact ⟨q, r, rfl, opd_RP h foot hx.1, opd_RP h foot hx.2⟩
  | [], hx => simp [opdsOk] at hx
  | [_], hx => simp [opdsOk] at hx
  | _ :: _ :: _ :: _, hx => simp [opdsOk] at hx
theorem opds3 {P : Program} (h : Core G C τ σ a.tmps w) (foot : List Nat) {x y z : Operand} {args : List PArg} (hx : opdsOk [x, y, z] args = true) :
    ∃ q r s, args = [q, r, s] ∧ RP C σ.S τ w (a.eval x) (q.val G σ foot) ∧ RP C σ.S τ w (a.eval y) (r.val G σ foot) ∧ RP C σ.S τ w (a.eval z) (s.val G σ foot) := by
  match args, hx with
  | [q, r, s], hx => simp only [opdsOk, Bool.and_true, Bool.and_eq_true] at hx; exact ⟨q, r, s, rfl, opd_RP h foot hx.1, opd_RP h foot hx.2.1, opd_RP h foot hx.2.2⟩
  | [], hx => simp [opdsOk] at hx
  | [_], hx => simp [opdsOk] at hx
  | [_, _], hx => simp [opdsOk] at hx
  | _ :: _ :: _ :: _ :: _, hx => simp [opdsOk] at hx

theorem zip_map {α β γ : Type} (f : β → γ) : ∀ l : List (α × β), (l.map (·.1)).zip ((l.map (·.2)).map f) = l.map fun p => (p.1, f p.2)
  | [] => rfl
  | _ :: l => by simp only [List.map_cons, List.zip_cons_cons]; rw [zip_map f l]

def plainVal : Value → Bool
  | .pointer none => false
  | .nilIface => false
  | .nilFunc => false
  | .func (.method _) _ _ => false
  | _ => true
theorem nck_plain {P : Program} {x : Operand} {o : Oper} (ho : o.op = .nilCheck x) {u : Value} (hu : a.eval x = u) (h : plainVal u = true) : (execOp a.eval o).run P w = .ok (.value u) w := by
  unfold execOp
  rw [ho]
  simp only [hu]
  unfold plainVal at h
  split at h <;> first | (cases h; done) | skip
  rename_i h1 h2 h3 h4
  split
  · exact absurd rfl h1
  · exact absurd rfl h2
  · exact absurd rfl h3
  · exact absurd rfl (h4 _ _ _)
  · rfl
theorem nck_run {x : Operand} {q r : PV} {o : Oper} (ho : o.op = .nilCheck x) {P : Program} {foot : List Nat} {u : Value} (hu : a.eval x = u) (hv : RP C σ.S τ w u q) (hsem : semR σ foot .nck [q] = some r) :
    (execOp a.eval o).run P w = .ok (.value u) w ∧ RP C σ.S τ w u r := by
  cases hv with
  | ptr v t i o' s h1 hle hvv =>
    simp only [semR] at hsem
    split at hsem
    · rename_i hc
      cases hsem
      obtain ⟨k, hk, rfl⟩ := hvv (cur_spec hc)
      exact ⟨nck_plain ho hu rfl, .ptr _ _ _ _ _ h1 hle hvv⟩
    · cases hsem
  | fp b o' p c us hc hr =>
    simp only [semR, Option.some.injEq] at hsem
    subst hsem
    exact ⟨nck_plain ho hu rfl, .fp b o' p c us hc hr⟩
  | f v y hy =>
    cases hy with
    | fn f =>
      cases f with
      | func f =>
        simp only [semR, Option.some.injEq] at hsem
        subst hsem
        exact ⟨nck_plain ho hu rfl, .f _ _ (.fn _)⟩
      | _ => simp [semR] at hsem
    | _ => simp [semR] at hsem
  | fn f vs us xs ys hs hs' hr hr' =>
    cases f with
    | func f =>
      simp only [semR, Option.some.injEq] at hsem
      subst hsem
      exact ⟨nck_plain ho hu rfl, .fn _ vs us xs ys hs hs' hr hr'⟩
    | _ => simp [semR] at hsem
  | _ => simp [semR] at hsem

theorem nckm_run {P : Program} {t : TypeId} {m : String} (hc : nckmOk P t m = true) {x : Operand} {q r : PV} {o : Oper} (ho : o.op = .nilCheck x) {foot : List Nat} {u : Value} (hu : a.eval x = u) (hv : RP C σ.S τ w u q)
    (hsem : semR σ foot (.nckm t m) [q] = some r) : (execOp a.eval o).run P w = .ok (.value u) w ∧ RP C σ.S τ w u r := by
  cases hv with
  | fn f vs us xs ys hs hs' hr hr' =>
    unfold semR at hsem
    split at hsem <;> first | (rename_i heq; cases heq; done) | skip
    all_goals try (rename_i heq _; cases heq; done)
    all_goals first | (cases hsem; done) | skip
    rename_i heq1 heq2
    cases heq1
    simp only [List.cons.injEq, PV.fn.injEq, and_true] at heq2
    obtain ⟨rfl, rfl, rfl⟩ := heq2
    split at hsem
    · rename_i hmt
      obtain ⟨rfl, rfl⟩ := hmt
      cases hsem
      have h1 : vs.size = 1 := hs
      have hv0 : vs[0]? = some vs[0] := by simp [h1]
      have hr0 := (hr 0 _ _ hv0 rfl).toF
      refine ⟨?_, .fn _ vs us _ _ hs hs' hr hr'⟩
      generalize hz : vs[0] = z at hv0 hr0
      cases hr0 with
      | ifa t' ws _ hws hrw =>
        unfold nckmOk at hc
        split at hc
        case h_2 => cases hc
        rename_i i hi
        split at hc
        case h_2 => cases hc
        rename_i xm hxm
        simp only [Bool.and_eq_true] at hc
        obtain ⟨hp, hf⟩ := hc
        have hpath : xm.path.toList = [] := by simpa using hp
        have key : (nilAhead (P.types.size + Made.depth) t (.agg ws) m).run P w = .ok (some false) w := by
          rw [show P.types.size + Made.depth = (P.types.size + 99) + 1 from rfl, nilAhead]
          simp only [Sem.run_bind, typeInfo, run_program, Result.andThen_ok, hi, Sem.run_pure, hxm, hpath, followBlind]
          split at hf
          · rename_i f hfn
            simp only [hfn]
            rfl
          · rename_i f hfn
            simp only [hfn]
            split at hf
            · cases hf
            · rename_i d hd hu'
              simp only [Sem.run_bind, run_underlying hu', Result.andThen_ok]
              cases d <;> first | rfl | exact absurd rfl (hd _)
            · cases hf
          · cases hf
        unfold execOp
        rw [ho]
        simp only [hu, hv0]
        simp [key]
    · cases hsem
  | _ => simp [semR] at hsem
end
end Go.Absw

/- The abstract machine, its twelfth part: an operation that reads alone, checked, gives in the model what the abstract machine says. Conditions: the check. -/
namespace Go.Absw
open Go

section
variable {G : Env} {C : Cells} {τ : Tau} {σ : St} {a : Act} {w : World}

theorem len_two {α : Type} {l : List α} (h : l.length = 2) : ∃ x y, l = [x, y] := by
  match l, h with
  | [x, y], _ => exact ⟨x, y, rfl⟩
  | [], h => simp at h
  | [_], h => simp at h
  | _ :: _ :: _ :: _, h => simp at h
theorem run_v {P : Program} {s : Sem Value} {u : Value} (h : s.run P w = .ok u w) : (do pure (.value (← s)) : Sem Next).run P w = .ok (.value u) w := by
  simp [h]

theorem semR_sound {P : Program} {o : Oper} {k : RK} {args : List PArg} (hc : chkR P o k args = true) (h : Core G C τ σ a.tmps w) {foot : List Nat} {q : PV}
    (hsem : semR σ foot k (args.map (·.val G σ foot)) = some q) : ∃ u, (execOp a.eval o).run P w = .ok (.value u) w ∧ RP C σ.S τ w u q := by
  obtain ⟨dst, op, ty, pos, after, guard⟩ := o
  have lift : ∀ {s : Sem Value}, (execOp a.eval ⟨dst, op, ty, pos, after, guard⟩ = do pure (.value (← s))) → (∃ u, s.run P w = .ok u w ∧ RP C σ.S τ w u q) →
      ∃ u, (execOp a.eval ⟨dst, op, ty, pos, after, guard⟩).run P w = .ok (.value u) w ∧ RP C σ.S τ w u q := by
    intro s he hs
    obtain ⟨u, h1, h2⟩ := hs
    exact ⟨u, by rw [he]; exact run_v h1, h2⟩
  cases op <;> simp only [chkR] at hc
  case move x =>
    cases k <;> first | (simp at hc; done) | skip
    obtain ⟨q', rfl, hq⟩ := opds1 (P := P) h foot hc
    simp only [List.map_cons, List.map_nil, semR, Option.some.injEq] at hsem
    subst hsem
    exact ⟨_, rfl, hq⟩
  case assign x =>
    cases k <;> first | (simp at hc; done) | skip
    obtain ⟨q', rfl, hq⟩ := opds1 (P := P) h foot hc
    simp only [List.map_cons, List.map_nil, semR, Option.some.injEq] at hsem
    subst hsem
    exact ⟨_, rfl, hq⟩
  case pick c x y =>
    cases k <;> first | (simp at hc; done) | skip
    obtain ⟨q1, q2, q3, rfl, h1, h2, h3⟩ := opds3 (P := P) h foot hc
    obtain ⟨u, e1, e2⟩ := pick_sound (P := P) h1 h2 h3 hsem
    refine ⟨u, ?_, e2⟩
    simp only [Sem.run_bind, Sem.run_pure] at e1
    simp only [execOp, Sem.run_bind, Sem.run_pure]
    generalize (asBool (a.eval c)).run P w = r at e1 ⊢
    cases r with
    | ok b w' => simp only [Result.andThen_ok, Result.ok.injEq] at e1 ⊢; obtain ⟨rfl, rfl⟩ := e1; exact ⟨rfl, rfl⟩
    | halt x w' => simp at e1
  case build t parts =>
    cases k <;> first | (simp at hc; done) | skip
    rename_i z ps
    simp only [Bool.and_eq_true] at hc
    obtain ⟨⟨⟨h1, h2⟩, h3⟩, h4⟩ := hc
    obtain ⟨e1, e2⟩ := opds_RP (G := G) h foot h4
    simp only [semR] at hsem
    obtain ⟨out, ho, rfl⟩ := Option.map_eq_some_iff.1 hsem
    have hpl := (placesOk_spec h2).1
    simp only [List.length_map] at hpl e1
    refine lift (s := Instr.build t (parts.map fun (i, x) => (i, a.eval x))) rfl ?_
    have key := build_sound (P := P) (C := C) (τ := τ) (σ := σ) (w := w) h1 h2 h3 (vs := (parts.toList.map (·.2)).map a.eval) ho (by simp only [List.length_map]; exact hpl) (fun n v x hv hx => by
      rw [List.getElem?_map] at hv hx
      obtain ⟨o', ho', rfl⟩ := Option.map_eq_some_iff.1 hv
      obtain ⟨p', hp', rfl⟩ := Option.map_eq_some_iff.1 hx
      exact e2 n o' p' ho' hp')
    rw [zip_map] at key
    have : (parts.toList.map fun p => (p.1, a.eval p.2)).toArray = parts.map fun (i, x) => (i, a.eval x) := by
      apply Array.ext'; simp
    rw [this] at key
    exact key
  case load t x =>
    cases k <;> first | (simp at hc; done) | skip
    · simp only [Bool.and_eq_true] at hc
      obtain ⟨q', rfl, hq⟩ := opds1 (P := P) h foot hc.2
      exact lift (s := Instr.loadAt t (a.eval x)) rfl (ld1_sound h hc.1.1 hc.1.2 hq hsem)
    · simp only [Bool.and_eq_true] at hc
      obtain ⟨q', rfl, hq⟩ := opds1 (P := P) h foot hc.2
      exact lift (s := Instr.loadAt t (a.eval x)) rfl (ldn_sound h hc.1.1 hc.1.2 hq hsem)
  case binOp op t x y t' =>
    simp only [Bool.and_eq_true] at hc
    obtain ⟨hc0, hc⟩ := hc
    obtain ⟨q1, q2, rfl, h1, h2⟩ := opds2 (P := P) h foot hc0
    simp only [List.map_cons, List.map_nil] at hsem
    refine lift (s := do eqGuard op t x y (a.eval x) (a.eval y); binOp op t (a.eval x) (a.eval y)) rfl ?_
    cases k <;> first | (simp at hc; done) | skip
    · simp only [decide_eq_true_eq] at hc
      subst hc
      generalize hq1 : q1.val G σ foot = p1 at *
      generalize hq2 : q2.val G σ foot = p2 at *
      cases p1 with
      | f xa =>
        cases p2 with
        | f xb =>
          simp only [semR] at hsem
          obtain ⟨z, hz, rfl⟩ := Option.map_eq_some_iff.1 hsem
          obtain ⟨u, e1, e2⟩ := bin_sound (P := P) hz t h1.toF h2.toF x y
          exact ⟨u, e1, .f _ _ e2⟩
        | _ => simp [semR] at hsem
      | _ => simp [semR] at hsem
    · simp only [Bool.and_eq_true, decide_eq_true_eq] at hc
      rw [hc.1]
      exact beq_sound (boolT_spec hc.2) h1 h2 x y _ hsem
    · simp only [Bool.and_eq_true, decide_eq_true_eq] at hc
      obtain ⟨ms, hm⟩ := ifaceT_spec hc.1.2
      rw [hc.1.1]
      exact ieq_sound hm h1 h2 x y hc.2 _ hsem
    · simp only [Bool.and_eq_true, decide_eq_true_eq] at hc
      rw [hc.1]
      exact eqs_sound hc.2 h1 h2 x y _ hsem
  case unOp op t x =>
    cases k <;> first | (simp at hc; done) | skip
    simp only [Bool.and_eq_true, decide_eq_true_eq] at hc
    obtain ⟨rfl, hc⟩ := hc
    obtain ⟨q', rfl, hq⟩ := opds1 (P := P) h foot hc
    refine lift (s := Op.unary op (a.eval x)) rfl ?_
    simp only [List.map_cons, List.map_nil] at hsem
    generalize hq1 : q'.val G σ foot = p1 at *
    cases p1 with
    | f xa =>
      simp only [semR] at hsem
      obtain ⟨z, hz, rfl⟩ := Option.map_eq_some_iff.1 hsem
      obtain ⟨u, e1, e2⟩ := un_sound (P := P) hz hq.toF
      exact ⟨u, e1, .f _ _ e2⟩
    | _ => simp [semR] at hsem
  case convert s d x =>
    simp only [Bool.and_eq_true] at hc
    obtain ⟨hc0, hc⟩ := hc
    obtain ⟨q', rfl, hq⟩ := opds1 (P := P) h foot hc0
    refine lift (s := convert s d (a.eval x)) rfl ?_
    simp only [List.map_cons, List.map_nil] at hsem
    cases k <;> first | (simp at hc; done) | skip
    · simp only [Bool.and_eq_true] at hc
      obtain ⟨ds, hds⟩ := Option.isSome_iff_exists.1 hc.1
      exact cvi_sound hds (intT_spec hc.2) hq hsem
    · simp only [Bool.and_eq_true] at hc
      obtain ⟨e, he1, he2⟩ := bytesT_spec hc.1.1
      exact b2s_sound h he1 he2 (strT_spec hc.1.2) hq hsem
    · simp only [Bool.and_eq_true] at hc
      exact s2s_sound (strT_spec hc.1) (strT_spec hc.2) hq hsem
  case makeInterface t x =>
    cases k <;> first | (simp at hc; done) | skip
    simp only [Bool.and_eq_true, beq_iff_eq] at hc
    obtain ⟨⟨rfl, hc1⟩, hc⟩ := hc
    obtain ⟨q', rfl, hq⟩ := opds1 (P := P) h foot hc
    exact lift (s := Instr.makeInterface t (a.eval x)) rfl (mki_sound hc1 hq hsem)
  case makeFunc fn first cap =>
    cases k <;> first | (simp at hc; done) | skip
    simp only [Bool.and_eq_true, beq_iff_eq, decide_eq_true_eq] at hc
    obtain ⟨⟨rfl, hc1⟩, hc⟩ := hc
    obtain ⟨e1, e2⟩ := opds_RP (G := G) h foot hc
    refine lift (s := Instr.makeFunc fn (first.map a.eval) (cap.map a.eval)) rfl (mkf_sound (by simpa using hc1) (by simpa using e1) (fun i v p hv hp => ?_) hsem)
    rw [← Array.map_append, Array.getElem?_map] at hv
    rw [List.getElem?_map] at hp
    obtain ⟨x, hx, rfl⟩ := Option.map_eq_some_iff.1 hv
    obtain ⟨y, hy, rfl⟩ := Option.map_eq_some_iff.1 hp
    exact e2 i x y (by rw [Array.getElem?_toList]; exact hx) hy
  case slice t x lo hi mx =>
    simp only [Bool.and_eq_true] at hc
    obtain ⟨⟨hc0, hc1⟩, hc⟩ := hc
    obtain rfl : mx = none := by simpa using hc0
    obtain ⟨e1, e2⟩ := opds_RP (G := G) h foot hc1
    cases args with
    | nil => simp at e1
    | cons q' r =>
      refine lift (s := Instr.sliceAt t (a.eval x) (lo.map a.eval) (hi.map a.eval) none) rfl ?_
      have hq := e2 0 _ _ rfl rfl
      have hr : ∀ (i : Nat) x p, (lo.toList ++ hi.toList)[i]? = some x → (r.map (·.val G σ foot))[i]? = some p → RP C σ.S τ w (a.eval x) p := fun i x p hx hp => by
        rw [List.getElem?_map] at hp
        obtain ⟨y, hy, rfl⟩ := Option.map_eq_some_iff.1 hp
        exact e2 (i + 1) x y (by simpa using hx) (by simpa using hy)
      simp only [List.map_cons] at hsem
      cases k <;> first | (simp at hc; done) | skip
      · simp only [Bool.and_eq_true, beq_iff_eq] at hc
        obtain ⟨⟨h1, rfl⟩, rfl⟩ := hc
        exact slc_sound h h1 hq hsem hr
      · simp only [Bool.and_eq_true, beq_iff_eq] at hc
        obtain ⟨⟨h1, rfl⟩, rfl⟩ := hc
        exact sls_sound (strT_spec h1) hq hsem hr
      · simp only [Bool.and_eq_true] at hc
        obtain ⟨⟨h1, h2⟩, h3⟩ := hc
        obtain rfl : lo = none := by simpa using h2
        obtain rfl : hi = none := by simpa using h3
        obtain ⟨e, he1, he2⟩ := arrT_spec h1
        exact sla_sound h he1 he2 hq hsem
  case fieldAddr s x f =>
    cases k <;> first | (simp at hc; done) | skip
    simp only [Bool.and_eq_true] at hc
    obtain ⟨q', rfl, hq⟩ := opds1 (P := P) h foot hc.2
    obtain ⟨n, hn⟩ := fadOk_spec hc.1
    exact lift (s := Instr.fieldAt s (a.eval x) f) rfl (fad_sound hn hq hsem)
  case indexAddr t x i =>
    simp only [Bool.and_eq_true] at hc
    obtain ⟨hc0, hc⟩ := hc
    obtain ⟨q1, q2, rfl, h1, h2⟩ := opds2 (P := P) h foot hc0
    refine lift (s := Instr.indexAt t (a.eval x) (a.eval i)) rfl ?_
    cases k <;> first | (simp at hc; done) | skip
    · exact ixs_sound h hc h1 h2 hsem
    · obtain ⟨e, he1, he2⟩ := arrT_spec hc
      exact ixa_sound he1 he2 h1 h2 hsem
  case field t x f =>
    simp only [Bool.and_eq_true] at hc
    obtain ⟨hc0, hc⟩ := hc
    obtain ⟨q', rfl, hq⟩ := opds1 (P := P) h foot hc0
    refine lift (s := Instr.field t (a.eval x) f) rfl ?_
    cases k <;> first | (simp at hc; done) | skip
    · exact fld_sound (ag := false) hc hq hsem
    · exact fld_sound (ag := true) hc hq hsem
  case index t x i =>
    simp only [Bool.and_eq_true] at hc
    obtain ⟨hc0, hc⟩ := hc
    obtain ⟨q1, q2, rfl, h1, h2⟩ := opds2 (P := P) h foot hc0
    refine lift (s := Instr.index t (a.eval x) (a.eval i)) rfl ?_
    cases k <;> first | (simp at hc; done) | skip
    · obtain ⟨e, he1, he2, he3⟩ := arrV_spec hc
      exact ixv_sound (ag := false) he1 he2 he3 (fun _ => rfl) h1 h2 hsem
    · obtain ⟨e, he1, he2, he3⟩ := arrV_spec hc
      exact ixv_sound (ag := true) he1 he2 he3 (fun h => by cases h) h1 h2 hsem
    · exact ixc_sound (strT_spec hc) h1 h2 hsem
  case extract x i =>
    cases k <;> first | (simp at hc; done) | skip
    simp only [Bool.and_eq_true, beq_iff_eq] at hc
    obtain ⟨rfl, hc⟩ := hc
    obtain ⟨q', rfl, hq⟩ := opds1 (P := P) h foot hc
    exact lift (s := Instr.extract (a.eval x) i) rfl (ext_sound hq hsem)
  case nilCheck x =>
    cases k <;> first | (simp at hc; done) | skip
    · obtain ⟨q', rfl, hq⟩ := opds1 (P := P) h foot hc
      exact ⟨_, nck_run rfl rfl hq hsem⟩
    · simp only [Bool.and_eq_true] at hc
      obtain ⟨q', rfl, hq⟩ := opds1 (P := P) h foot hc.2
      exact ⟨_, nckm_run hc.1 rfl rfl hq hsem⟩
  case call c =>
    obtain ⟨callee, cargs, argTypes⟩ := c
    simp only [Bool.and_eq_true] at hc
    obtain ⟨hc0, hc⟩ := hc
    have one : ∀ {x : Operand}, cargs.toList = [x] → cargs.map a.eval = #[a.eval x] := by
      intro x hx
      have : cargs = #[x] := by apply Array.ext'; simpa using hx
      subst this; simp
    have two : ∀ {x y : Operand}, cargs.toList = [x, y] → cargs.map a.eval = #[a.eval x, a.eval y] := by
      intro x y hx
      have : cargs = #[x, y] := by apply Array.ext'; simpa using hx
      subst this; simp
    have hop := opds_RP (G := G) h foot hc0
    have len1 : ∀ {p : PV}, args.map (·.val G σ foot) = [p] → ∃ x, cargs.toList = [x] ∧ RP C σ.S τ w (a.eval x) p := by
      intro p hp
      have h0 : args.length = 1 := by have := congrArg List.length hp; simpa using this
      obtain ⟨q', hq'⟩ := List.length_eq_one_iff.1 h0
      obtain ⟨x, hx⟩ := List.length_eq_one_iff.1 (hop.1.trans h0)
      rw [hq'] at hp
      simp only [List.map_cons, List.map_nil, List.cons.injEq, and_true] at hp
      exact ⟨x, hx, hp ▸ hop.2 0 x q' (by rw [hx]; rfl) (by rw [hq']; rfl)⟩
    have len2 : ∀ {p r : PV}, args.map (·.val G σ foot) = [p, r] → ∃ x y, cargs.toList = [x, y] ∧ RP C σ.S τ w (a.eval x) p ∧ RP C σ.S τ w (a.eval y) r := by
      intro p r hp
      have h0 : args.length = 2 := by have := congrArg List.length hp; simpa using this
      obtain ⟨q1, q2, hq'⟩ := len_two h0
      obtain ⟨x, y, hx⟩ := len_two (hop.1.trans h0)
      rw [hq'] at hp
      simp only [List.map_cons, List.map_nil, List.cons.injEq, and_true] at hp
      exact ⟨x, y, hx, hp.1 ▸ hop.2 0 x q1 (by rw [hx]; rfl) (by rw [hq']; rfl), hp.2 ▸ hop.2 1 y q2 (by rw [hx]; rfl) (by rw [hq']; rfl)⟩
    have arg1 : ∀ {k : RK} {l : List PV}, (k = .len ∨ k = .lens ∨ ∃ n, k = .lenc n) → semR σ foot k l = some q → ∃ p, l = [p] := by
      intro k l hk hs
      match l, hs with
      | [p], _ => exact ⟨p, rfl⟩
      | [], hs => rcases hk with rfl | rfl | ⟨n, rfl⟩ <;> simp [semR] at hs
      | _ :: _ :: _, hs => rcases hk with rfl | rfl | ⟨n, rfl⟩ <;> simp [semR] at hs
    have arg2 : ∀ {k : RK} {l : List PV}, (k = .max ∨ k = .min) → semR σ foot k l = some q → ∃ p r, l = [p, r] := by
      intro k l hk hs
      match l, hs with
      | [p, r], _ => exact ⟨p, r, rfl⟩
      | [], hs => rcases hk with rfl | rfl <;> simp [semR] at hs
      | [_], hs => rcases hk with rfl | rfl <;> simp [semR] at hs
      | _ :: _ :: _ :: _, hs => rcases hk with rfl | rfl <;> simp [semR] at hs
    cases callee
    case builtin b =>
      cases b
      case len =>
        simp only at hc
        split at hc
        case h_2 => cases hc
        rename_i t ht
        simp only [Bool.and_eq_true] at hc
        obtain ⟨_, hc⟩ := hc
        have fin : ∀ {x : Operand}, cargs.toList = [x] → (∃ u, (Builtin.len_ argTypes ty #[a.eval x]).run P w = .ok u w ∧ RP C σ.S τ w u q) → _ := fun hx he =>
          lift (s := Builtin.len_ argTypes ty (cargs.map a.eval)) rfl (by rw [one hx]; exact he)
        cases k <;> first | (simp at hc; done) | skip
        · obtain ⟨p, hp⟩ := arg1 (.inl rfl) hsem
          rw [hp] at hsem
          obtain ⟨x, hx, hr⟩ := len1 hp
          obtain ⟨e, he⟩ := sliceT_spec hc
          exact fin hx (len_sound h ht he hr hsem)
        · obtain ⟨p, hp⟩ := arg1 (.inr (.inl rfl)) hsem
          rw [hp] at hsem
          obtain ⟨x, hx, hr⟩ := len1 hp
          exact fin hx (lens_sound ht (strT_spec hc) hr hsem)
        · obtain ⟨p, hp⟩ := arg1 (.inr (.inr ⟨_, rfl⟩)) hsem
          rw [hp] at hsem
          obtain ⟨x, hx, hr⟩ := len1 hp
          exact fin hx (lenc_sound ht hc hsem)
      case max =>
        cases k <;> first | (simp at hc; done) | skip
        obtain ⟨p, r, hp⟩ := arg2 (.inl rfl) hsem
        rw [hp] at hsem
        obtain ⟨x, y, hx, h1, h2⟩ := len2 hp
        exact lift (s := Builtin.max_ argTypes ty (cargs.map a.eval)) rfl (by rw [two hx]; exact mm_sound (P := P) (at' := argTypes) (ty := ty) h1 h2 true hsem)
      case min =>
        cases k <;> first | (simp at hc; done) | skip
        obtain ⟨p, r, hp⟩ := arg2 (.inr rfl) hsem
        rw [hp] at hsem
        obtain ⟨x, y, hx, h1, h2⟩ := len2 hp
        exact lift (s := Builtin.min_ argTypes ty (cargs.map a.eval)) rfl (by rw [two hx]; exact mm_sound (P := P) (at' := argTypes) (ty := ty) h1 h2 false hsem)
      all_goals exact absurd hc (by simp)
    all_goals exact absurd hc (by simp)
  all_goals exact absurd hc (by simp)
end
end Go.Absw
