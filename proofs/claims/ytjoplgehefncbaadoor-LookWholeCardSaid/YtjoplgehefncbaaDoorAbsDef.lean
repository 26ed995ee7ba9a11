/- The engine, its words: values without memory, states, what an operation makes of them, a function's condition ('awp'). -/
import Derived.Calls
import Derived.Tactics
import Derived.Below
import Derived.Maps.AppendAt
set_option linter.all false
namespace Go.Abs
/-- A condition to be shown, kept whole. -/
structure Need (p : Prop) : Prop where
  out : p
/-- Values, without memory. -/
inductive AV where
  | any
  | gone
  | int (k : IntKind) (n : Int)
  | lit (b : Bool)
  | sb (b : Bool)
  | str (s : ByteArray)
  | agg (cs : List AV)
  | tup (vs : List AV)
  | nil
  | sl (sz n : Nat) (el : Nat → List AV)
  | rptr (cs : List AV)
  | fn (f : FuncId) (caps : List AV)
  | iface (t : TypeId) (v : AV)
  | nilI
  | nilF
  | nilP
  | own (id : Nat)
  | ptr (id off : Nat)
  | optr (id sz i off : Nat)
/-- Blocks of the call's own. -/
inductive AB where
  | box (t : TypeId) (cs : List AV)
  | row (e : TypeId) (sz n : Nat) (el : Nat → List AV)
  | fro (sz n : Nat) (el : Nat → List AV)
  | frb (cs : List AV)
  | dead
  | mp (l : List (Int × AV))
  | gh (env : List (Nat × AV)) (tm : Array Value)
structure ASt where
  nt : Nat
  env : List (Nat × AV)
  heap : List AB
def look : List (Nat × AV) → Nat → AV
  | [], _ => .any
  | (d, v) :: l, t => cond (Nat.beq d t) v (look l t)
def ASt.put (st : ASt) (d : Option Nat) (v : AV) : ASt := match d with
  | some d => ⟨st.nt, (d, cond (Nat.blt d st.nt) v .any) :: st.env, st.heap⟩
  | none => st
def hAt : List AB → Nat → AB
  | [], _ => .dead
  | b :: _, 0 => b
  | _ :: h, i + 1 => hAt h i
def hSet : List AB → Nat → AB → List AB
  | [], _, _ => []
  | _ :: h, 0, x => x :: h
  | b :: h, i + 1, x => b :: hSet h i x
def nth : List AV → Nat → AV
  | [], _ => .any
  | v :: _, 0 => v
  | _ :: l, i + 1 => nth l i
/-- Constants. -/
def ofVals (f : Value → AV) : List Value → List AV
  | [] => []
  | v :: l => f v :: ofVals f l
def ofVal1 : Value → AV
  | .int k n => .int k n
  | .bool b => .lit b
  | .string s => .str s
  | .slice none 0 0 => .nil
  | .nilIface => .nilI
  | .nilFunc => .nilF
  | .map none => .nilF
  | .pointer none => .nilP
  | _ => .any
def ofVal : Value → AV
  | .agg cs => .agg (ofVals ofVal1 cs.toList)
  | .tuple cs => .tup (ofVals ofVal1 cs.toList)
  | v => ofVal1 v
def ev (st : ASt) : Operand → AV
  | .tmp t => look st.env t
  | .const v => ofVal v
  | .func f => .fn f []
  | .global _ => .any
def cells : AV → List AV
  | .agg cs => cs
  | v => [v]
/-- A value that fills one cell. -/
def one : AV → Bool
  | .any | .gone | .agg _ | .tup _ => false
  | _ => true
/-- May these cells lie in a box? In a row? -/
def ones : List AV → Bool
  | [] => true
  | a :: l => one a && ones l
/-- A value that names no block of the call's own. -/
def stb : AV → Bool
  | .own _ | .ptr _ _ | .optr _ _ _ _ => false
  | .agg cs | .tup cs | .fn _ cs => stbs cs
  | .iface _ v => stb v
  | _ => true
where stbs : List AV → Bool
  | [] => true
  | a :: l => stb a && stbs l
/-- A value without memory. -/
def flat : AV → Bool
  | .int _ _ | .lit _ | .sb _ | .str _ | .nil | .nilI | .nilF | .nilP => true
  | .agg cs | .tup cs => flats cs
  | _ => false
where flats : List AV → Bool
  | [] => true
  | a :: l => flat a && flats l
/-- The blocks that a value names. -/
def ids : AV → List Nat
  | .own id | .ptr id _ | .optr id _ _ _ => [id]
  | .agg cs | .tup cs | .fn _ cs => idss cs
  | .iface _ v => ids v
  | _ => []
where idss : List AV → List Nat
  | [] => []
  | a :: l => ids a ++ idss l
/-- A value as it stands once the blocks that it names are written no more. -/
def fz (h : List AB) : AV → AV
  | .own id => match hAt h id with
    | .row _ sz n el => .sl sz n el
    | .fro sz n el => .sl sz n el
    | _ => .any
  | .ptr id off => match hAt h id with
    | .box _ cs => cond (stb.stbs cs) (.rptr (cs.drop off)) .any
    | .frb cs => .rptr (cs.drop off)
    | _ => .any
  | .optr _ _ _ _ => .any
  | .agg cs => .agg (fzs h cs)
  | .tup cs => .tup (fzs h cs)
  | .fn f cs => .fn f (fzs h cs)
  | .iface t v => .iface t (fz h v)
  | v => v
where fzs (h : List AB) : List AV → List AV
  | [] => []
  | a :: l => fz h a :: fzs h l
def frz1 (h : List AB) (id : Nat) : List AB := match hAt h id with
  | .row _ sz n el => hSet h id (.fro sz n el)
  | .box _ cs => cond (stb.stbs cs) (hSet h id (.frb cs)) h
  | _ => h
def frz (h : List AB) : List Nat → List AB
  | [] => h
  | id :: l => frz (frz1 h id) l
/-- What a call gives: a value, or a row of its own. -/
inductive ARes where
  | st (v : AV)
  | row (e : TypeId) (sz n : Nat) (el : Nat → List AV)
/-- A type: how many cells, how many bytes, the zero value's cells, its form. -/
inductive TD where
  | int (k : IntKind) | bool | str | slice (e : TypeId) | struct (fs : List (Nat × Nat × Bool)) | arr (n : Nat) (e : TypeId) | ptr (e : TypeId) | map (k e : TypeId) | other
structure TI where
  size : Nat
  bytes : Nat
  zero : List AV
  d : TD
/-- A cell that is compared as it is. -/
inductive EK where
  | i (k : IntKind) | b | s
/-- A function whose code is gone through where it is called: how many temps, its results, what is to be shown of its code. -/
structure Inl where
  nt : Nat
  rl : List ResultVar
  c : Code
structure Cfg where
  T : List (TypeId × TI)
  tbl : FuncId → List AV → (ARes → Prop) → Prop
  ins : FuncId → Option (TypeId × Nat)
  seq : TypeId → Option (List EK)
  meth : TypeId → String → Option FuncId
  inl : FuncId → Option Inl
  run : Code → (Exit → ASt → Prop) → ASt → Prop
def mlook : List (TypeId × String × FuncId) → TypeId → String → Option FuncId
  | [], _, _ => none
  | (d, m, g) :: l, t, n => cond (Nat.beq d t && (m == n)) (some g) (mlook l t n)
def qlook : List (TypeId × List EK) → TypeId → Option (List EK)
  | [], _ => none
  | (d, v) :: l, t => cond (Nat.beq d t) (some v) (qlook l t)
def tlook : List (TypeId × TI) → TypeId → Option TI
  | [], _ => none
  | (d, v) :: l, t => cond (Nat.beq d t) (some v) (tlook l t)
def Cfg.ty (C : Cfg) (t : TypeId) : Option TI := tlook C.T t
def Cfg.tyD (C : Cfg) (t : TypeId) : TD := match C.ty t with
  | some i => i.d
  | none => .other
def TI.isAgg (i : TI) : Bool := match i.d with
  | .struct _ | .arr _ _ => true
  | _ => false
def pack (i : TI) (cs : List AV) : AV := cond i.isAgg (.agg (cs.take i.size)) (nth cs 0)
def memAt (h : List AB) : AV → Option (List AV)
  | .ptr id off => match hAt h id with
    | .box _ cs => some (cs.drop off)
    | .frb cs => some (cs.drop off)
    | _ => none
  | .rptr cs => some cs
  | .optr id sz i off => match hAt h id with
    | .row _ sz' _ el => cond (Nat.beq sz sz') (some ((el i).drop off)) none
    | _ => none
  | _ => none
/-- A slice as it is read. -/
def asSl (h : List AB) : AV → Option (Nat × Nat × (Nat → List AV))
  | .sl sz n el => some (sz, n, el)
  | .own id => match hAt h id with
    | .row _ sz n el => some (sz, n, el)
    | .fro sz n el => some (sz, n, el)
    | _ => none
  | .nil => some (1, 0, fun _ => [])
  | _ => none
def NeedO : Option Prop → Prop → Prop
  | none, k => k
  | some p, k => Need p ∧ k
abbrev VR := Option (Option Prop × AV)
def intOp (o : BinOp) (k : IntKind) (a b : Int) : VR := match o with
  | .add => some (none, .int k (k.wrap (a + b)))
  | .sub => some (none, .int k (k.wrap (a - b)))
  | .mul => some (none, .int k (k.wrap (a * b)))
  | .quo => some (some (b ≠ 0), .int k (k.wrap (a.tdiv b)))
  | .rem => some (some (b ≠ 0), .int k (a.tmod b))
  | .and => some (none, .int k (k.wrap (BitVec.ofInt k.bits a &&& BitVec.ofInt k.bits b).toNat))
  | .or => some (none, .int k (k.wrap (BitVec.ofInt k.bits a ||| BitVec.ofInt k.bits b).toNat))
  | .xor => some (none, .int k (k.wrap (BitVec.ofInt k.bits a ^^^ BitVec.ofInt k.bits b).toNat))
  | .shl => some (some (0 ≤ b), .int k (k.wrap (a * 2 ^ (min b.toNat k.bits))))
  | .shr => some (some (0 ≤ b), .int k (a.fdiv (2 ^ (min b.toNat k.bits))))
  | .lss => some (none, .sb (decide (a < b)))
  | .leq => some (none, .sb (decide (a ≤ b)))
  | .gtr => some (none, .sb (decide (a > b)))
  | .geq => some (none, .sb (decide (a ≥ b)))
  | .eql => some (none, .sb (a == b))
  | .neq => some (none, .sb (a != b))
  | _ => none
def bval : AV → Option Bool
  | .lit b => some b
  | .sb b => some b
  | _ => none
def strOp (o : BinOp) (a b : ByteArray) : VR := match o with
  | .add => some (some (((a.size + b.size : Nat) : Int) ≤ 9223372036854775807), .str (a ++ b))
  | .eql => some (none, .sb (a.toList == b.toList))
  | .neq => some (none, .sb (!(a.toList == b.toList)))
  | _ => none
def boolOp (o : BinOp) (d : TD) (a b : Bool) : VR := match d with
  | .bool => match o with
    | .eql => some (none, .sb (a == b))
    | .neq => some (none, .sb (a != b))
    | _ => none
  | _ => none
def sameKind (k k' : IntKind) (x : VR) : VR := cond (k == k') x none
def fld (i : TI) (f : Nat) : Option (Nat × Nat × Bool) := match i.d with
  | .struct fs => fs[f]?
  | _ => none
/-- The elements' size of a slice's type. -/
def Cfg.elSz (C : Cfg) (t : TypeId) : Nat := match C.tyD t with
  | .slice e => match C.ty e with
    | some i => i.size
    | none => 0
  | _ => 0
def isInt : TD → Option IntKind
  | .int k => some k
  | _ => none
def isStr : TD → Bool
  | .str => true
  | _ => false
def isSlice : TD → Bool
  | .slice _ => true
  | _ => false
def isOther : TD → Bool
  | .other => true
  | _ => false
def fillA (fs : List (Nat × Nat × Bool)) : List AV → List (Nat × List AV) → Option (List AV)
  | cs, [] => some cs
  | cs, (i, c) :: ps => match fs[i]? with
    | some (o, n, _) => cond (Nat.beq c.length n && Nat.ble (o + c.length) cs.length && ones c) (fillA fs (cs.take o ++ c ++ cs.drop (o + c.length)) ps) none
    | none => none
def evParts (st : ASt) : List (Nat × Operand) → List (Nat × List AV)
  | [] => []
  | p :: ps => (p.1, cells (ev st p.2)) :: evParts st ps
def evs (st : ASt) : List Operand → List AV
  | [] => []
  | x :: l => ev st x :: evs st l
def evO (st : ASt) (x : Option Operand) (d : AV) : AV := match x with
  | some x => ev st x
  | none => d
/-- Structs against each other. -/
def fitsA : List EK → List AV → Bool
  | [], as => match as with
    | [] => true
    | _ => false
  | k :: ks, as => match as with
    | [] => false
    | a :: as => match k with
      | .i k => match a with
        | .int k' _ => (k' == k) && fitsA ks as
        | _ => false
      | .b => match bval a with
        | some _ => fitsA ks as
        | none => false
      | .s => match a with
        | .str _ => fitsA ks as
        | _ => false
def eqA : List AV → List AV → Bool
  | [], _ => true
  | a :: as, bs => match bs with
    | [] => true
    | b :: bs => match a with
      | .int _ x => match b with
        | .int _ y => (x == y) && eqA as bs
        | _ => true
      | .str x => match b with
        | .str y => (x.toList == y.toList) && eqA as bs
        | _ => true
      | a => match bval a with
        | some x => match bval b with
          | some y => (x == y) && eqA as bs
          | none => true
        | none => true
def sqOp (o : BinOp) (q : Option (List EK)) (cs ds : List AV) : VR := match q with
  | some ks => cond (fitsA ks cs && fitsA ks ds) (match o with
    | .eql => some (none, .sb (eqA cs ds))
    | .neq => some (none, .sb (!(eqA cs ds)))
    | _ => none) none
  | none => none
/-- Bytes as a string. -/
def u8v : List AV → Option Int
  | [] => none
  | a :: l => match l with
    | [] => match a with
      | .int k n => cond (k == .u8) (some n) none
      | _ => none
    | _ => none
def bStr (ns : List Int) : ByteArray := ns.foldl (fun r n => r.push (UInt8.ofNat n.toNat)) ByteArray.empty
def elStr (n : Nat) (el : Nat → List AV) : ByteArray := bStr ((List.range n).map fun i => (u8v (el i)).getD 0)
def isU8s (C : Cfg) (t : TypeId) : Bool := match C.tyD t with
  | .slice e => match isInt (C.tyD e) with
    | some k => k == .u8
    | none => false
  | _ => false
/-- The value of an operation that changes no block. -/
def aval (C : Cfg) (o : Oper) (st : ASt) : VR := match o.op with
  | .move x | .assign x => some (none, ev st x)
  | .fieldAddr t x f => match C.ty t with
    | some i => match fld i f with
      | some (o', _, _) => match ev st x with
        | .ptr id off => some (none, .ptr id (off + o'))
        | .rptr cs => some (none, .rptr (cs.drop o'))
        | .optr id sz i off => some (none, .optr id sz i (off + o'))
        | _ => none
      | none => none
    | none => none
  | .field t x f => match C.ty t with
    | some i => match fld i f with
      | some (o', n, g) => match ev st x with
        | .agg cs => cond (Nat.ble (o' + n) cs.length && Nat.blt 0 n) (some (none, cond g (.agg ((cs.drop o').take n)) (nth cs o'))) none
        | _ => none
      | none => none
    | none => none
  | .load t x => match C.ty t with
    | some i => match memAt st.heap (ev st x) with
      | some cs => cond (Nat.ble i.size cs.length && Nat.blt 0 cs.length) (some (none, pack i cs)) none
      | none => none
    | none => none
  | .binOp op t x y _ => match ev st x with
    | .int k a => match ev st y with
      | .int k' b => match op with
        | .shl | .shr => intOp op k a b
        | _ => sameKind k k' (intOp op k a b)
      | _ => none
    | .str a => match ev st y with
      | .str b => strOp op a b
      | _ => none
    | .agg cs => match ev st y with
      | .agg ds => sqOp op (C.seq t) cs ds
      | _ => none
    | v => match bval v, bval (ev st y) with
      | some a, some b => boolOp op (C.tyD t) a b
      | _, _ => none
  | .unOp op _ x => match op with
    | .not => match ev st x with
      | .lit b => some (none, .lit (!b))
      | .sb b => some (none, .sb (!b))
      | _ => none
    | .neg => match ev st x with
      | .int k n => some (none, .int k (k.wrap (0 - n)))
      | _ => none
    | _ => none
  | .nilCheck x => match ev st x with
    | .rptr cs => some (none, .rptr cs)
    | .ptr id off => some (none, .ptr id off)
    | .optr id sz i off => some (none, .optr id sz i off)
    | .fn f cs => some (none, .fn f cs)
    | _ => none
  | .indexAddr t x i => match ev st i with
    | .int _ i => match ev st x with
      | .own id => match hAt st.heap id with
        | .row _ sz n el => cond (Nat.beq sz (C.elSz t) && Nat.blt 0 sz) (some (some (0 ≤ i ∧ i < n), .optr id sz i.toNat 0)) none
        | .fro sz n el => cond (Nat.beq sz (C.elSz t) && Nat.blt 0 sz) (some (some (0 ≤ i ∧ i < n), .rptr (el i.toNat))) none
        | _ => none
      | .sl sz n el => cond (Nat.beq sz (C.elSz t) && Nat.blt 0 sz) (some (some (0 ≤ i ∧ i < n), .rptr (el i.toNat))) none
      | _ => none
    | _ => none
  | .index t x i => match ev st x with
    | .str s => match ev st i with
      | .int _ i => cond (isStr (C.tyD t)) (some (some (0 ≤ i ∧ i < s.size), .int .u8 ((s.data.toList.getD i.toNat 0).toNat : Int))) none
      | _ => none
    | _ => none
  | .extract x i => match ev st x with
    | .tup vs => cond (Nat.blt i vs.length) (some (none, nth vs i)) none
    | _ => none
  | .build t ps => match C.ty t with
    | some i => match i.d with
      | .struct fs => match fillA fs i.zero (evParts st ps.toList) with
        | some cs => some (none, .agg cs)
        | none => none
      | _ => none
    | none => none
  | .convert src dst x => match isInt (C.tyD dst) with
    | some k => match ev st x with
      | .int _ n => match C.ty src with
        | some _ => some (none, .int k (k.wrap n))
        | none => none
      | _ => none
    | none => cond (isStr (C.tyD dst) && isU8s C src) (match asSl st.heap (ev st x) with
      | some (sz, n, el) => cond (Nat.beq sz 1) (some (some (∀ i, i < n → (u8v (el i)).isSome = true), .str (elStr n el))) none
      | none => none) none
  | .makeInterface t x => match C.tyD t with
    | .struct _ => some (none, .iface t (ev st x))
    | _ => none
  | .makeFunc fn first caps => match fn with
    | .func f => match first.toList with
      | [] => some (none, .fn f (evs st caps.toList))
      | _ => none
    | _ => none
  | .slice t x lo hi mx => match mx with
    | none => match ev st x with
      | .str s => match evO st lo (.int .i64 0) with
        | .int _ l => match evO st hi (.int .i64 s.size) with
          | .int _ h => cond (isStr (C.tyD t)) (some (some (0 ≤ l ∧ l ≤ h ∧ h ≤ s.size), .str (s.extract l.toNat h.toNat))) none
          | _ => none
        | _ => none
      | .sl sz n el => match evO st lo (.int .i64 0) with
        | .int _ l => match evO st hi (.int .i64 n) with
          | .int _ h => cond (Nat.beq sz (C.elSz t) && Nat.blt 0 sz) (some (some (0 ≤ l ∧ l ≤ h ∧ h ≤ n), .sl sz (h - l).toNat (fun i => el (l.toNat + i)))) none
          | _ => none
        | _ => none
      | .own id => match hAt st.heap id with
        | .fro sz n el => match evO st lo (.int .i64 0) with
          | .int _ l => match evO st hi (.int .i64 n) with
            | .int _ h => cond (Nat.beq sz (C.elSz t) && Nat.blt 0 sz) (some (some (0 ≤ l ∧ l ≤ h ∧ h ≤ n), .sl sz (h - l).toNat (fun i => el (l.toNat + i)))) none
            | _ => none
          | _ => none
        | _ => none
      | _ => none
    | some _ => none
  | .call c => match c.callee with
    | .builtin .len => match c.argTypes.toList with
      | t :: _ => match evs st c.args.toList with
        | [v] => match v with
          | .str s => cond (isStr (C.tyD t)) (some (none, .int .i64 s.size)) none
          | v => match asSl st.heap v with
            | some (_, n, _) => cond (isSlice (C.tyD t)) (some (none, .int .i64 n)) none
            | none => none
        | _ => none
      | _ => none
    | .builtin .min => match evs st c.args.toList with
      | [.int k a, .int k' b] => sameKind k k' (some (none, .int k (if b < a then b else a)))
      | [.int k a, .int k' b, .int k2 c] => sameKind k k' (sameKind k k2 (some (none, .int k (if c < (if b < a then b else a) then c else (if b < a then b else a)))))
      | _ => none
    | .builtin .max => match evs st c.args.toList with
      | [.int k a, .int k' b] => sameKind k k' (some (none, .int k (if b > a then b else a)))
      | _ => none
    | _ => none
  | _ => none
def setLit (st : ASt) (o : Operand) (b : Bool) : ASt := match o with
  | .tmp t => ⟨st.nt, (t, .lit b) :: st.env, st.heap⟩
  | _ => st
/-- Both ways of a bool; on each it is a literal from there on. -/
def br (st : ASt) (o : Operand) (K : Bool → ASt → Prop) : Prop := match ev st o with
  | .lit true => K true st
  | .lit false => K false st
  | .sb b => (b = true → K true (setLit st o true)) ∧ (b = false → K false (setLit st o false))
  | _ => False
def ASt.newB (st : ASt) (b : AB) : ASt := ⟨st.nt, st.env, st.heap ++ [b]⟩
def ASt.setH (st : ASt) (h : List AB) : ASt := ⟨st.nt, st.env, h⟩
def elt (l : List (List AV)) (i : Nat) : List AV := match l, i with
  | [], _ => []
  | c :: _, 0 => c
  | _ :: l, i + 1 => elt l i
/-- The elements of a literal. -/
def litEls (h : List AB) (st : ASt) : Nat → List (Nat × Operand) → Option (List (List AV))
  | _, [] => some []
  | i, p :: ps => cond (Nat.beq p.1 i) (match litEls h st (i + 1) ps with
    | some l => some (fz.fzs h (cells (ev st p.2)) :: l)
    | none => none) none
def allEls (sz : Nat) : List (List AV) → Bool
  | [] => true
  | c :: l => Nat.beq c.length sz && ones c && stb.stbs c && allEls sz l
def partIds (st : ASt) : List (Nat × Operand) → List Nat
  | [] => []
  | p :: l => ids (ev st p.2) ++ partIds st l
def catEl (n : Nat) (a b : Nat → List AV) (i : Nat) : List AV := cond (Nat.blt i n) (a i) (b (i - n))
def putEl (k : Nat) (c : List AV) (a : Nat → List AV) (i : Nat) : List AV := cond (Nat.beq i k) c (a i)
def bytesEl (s : ByteArray) (i : Nat) : List AV := [.int .u8 ((s.data.toList.getD i 0).toNat : Int)]
/-- What is appended. -/
def appSrc (h : List AB) (sz : Nat) : AV → Option (Nat × (Nat → List AV))
  | .nil => some (0, fun _ => [])
  | v => match asSl h v with
    | some (sz', n, el) => cond (Nat.beq sz sz') (some (n, el)) none
    | none => none
def callK (dst : Option Tmp) (st : ASt) (vs : List AV) (K : ASt → Prop) : ARes → Prop
  | .st r => K (cond (flat r) (st.put dst r) ((st.setH (frz st.heap (ids.idss vs))).put dst r))
  | .row e sz n el => K (((st.setH (frz st.heap (ids.idss vs))).newB (.row e sz n el)).put dst (.own st.heap.length))
def callA (C : Cfg) (dst : Option Tmp) (st : ASt) (g : FuncId) (vs : List AV) (K : ASt → Prop) : Prop := C.tbl g (fz.fzs st.heap vs) (callK dst st vs K)
def insEl (i : Nat) (el : Nat → List AV) (c : List AV) (k : Nat) : List AV := cond (Nat.blt k i) (el k) (cond (Nat.beq k i) c (el (k - 1)))
/-- A function that puts one element into a row of the call's own. -/
def callI (dst : Option Tmp) (st : ASt) (e : TypeId) (sz : Nat) (vs : List AV) (K : ASt → Prop) : Prop := match vs with
  | [a, b, c] => match a with
    | .own id => match b with
      | .int k i => match c with
        | .own id2 => match hAt st.heap id with
          | .row e1 s1 n el => match hAt st.heap id2 with
            | .row e2 s2 m el2 => cond (Nat.beq e1 e && Nat.beq e2 e && Nat.beq s1 sz && Nat.beq s2 sz && !Nat.beq id2 id && (k == .i64)) (Need (0 ≤ i ∧ i ≤ n ∧ m = 1 ∧ n < 4294967296) ∧ K (((st.setH (hSet st.heap id .dead)).newB (.row e sz (n + 1) (insEl i.toNat el (el2 0)))).put dst (.own st.heap.length))) False
            | _ => False
          | _ => False
        | _ => False
      | _ => False
    | _ => False
  | _ => False
def argEnv : Nat → List AV → List (Nat × AV)
  | _, [] => []
  | i, v :: l => (i, v) :: argEnv (i + 1) l
def resA (C : Cfg) (st : ASt) : List ResultVar → Option (List AV)
  | [] => some []
  | r :: l => match resA C st l with
    | none => none
    | some vs => match r with
      | .tmp t => some (look st.env t :: vs)
      | .cell t ty => match C.ty ty with
        | some i => match memAt st.heap (look st.env t) with
          | some cs => cond (Nat.ble i.size cs.length && Nat.blt 0 cs.length) (some (pack i cs :: vs)) none
          | none => none
        | none => none
def resV : List AV → AV
  | [v] => v
  | vs => .tup vs
/-- A call whose code is gone through where it is called: the caller's temps lie by meanwhile. -/
def inlR (C : Cfg) (dst : Option Tmp) (st : ASt) (rl : List ResultVar) (K : ASt → Prop) (tm : Array Value) (st2 : ASt) : Prop := match hAt st2.heap st.heap.length with
  | .gh env tm2 => match resA C st2 rl with
    | some vs => tm2 = tm ∧ K ((⟨st.nt, env, hSet st2.heap st.heap.length .dead⟩ : ASt).put dst (resV vs))
    | none => False
  | _ => False
def inlK (C : Cfg) (dst : Option Tmp) (st : ASt) (rl : List ResultVar) (K : ASt → Prop) (tm : Array Value) : Exit → ASt → Prop
  | .normal, st2 => inlR C dst st rl K tm st2
  | .ret, st2 => inlR C dst st rl K tm st2
  | _, _ => False
def inlA (C : Cfg) (dst : Option Tmp) (st : ASt) (x : Inl) (vs : List AV) (K : ASt → Prop) : Prop :=
  cond (Nat.ble vs.length x.nt) (∀ tm : Array Value, C.run x.c (inlK C dst st x.rl K tm) ⟨x.nt, argEnv 0 vs, st.heap ++ [.gh st.env tm]⟩) False
/-- Maps of the call's own, keyed by numbers. -/
def mpFresh : List (Int × AV) → Int → Bool
  | [], _ => true
  | p :: l, n => (p.1 != n) && mpFresh l n
def mpLook : List (Int × AV) → Int → (Option AV → Prop) → Prop
  | [], _, K => K none
  | (k, v) :: l, n, K => (n = k → K (some v)) ∧ (n ≠ k → mpLook l n K)
def isMapI (C : Cfg) (t : TypeId) : Option TypeId := match C.tyD t with
  | .map k e => match isInt (C.tyD k) with
    | some q => cond (q == .i64) (some e) none
    | none => none
  | _ => none
/-- A slice against nil: how long it is. -/
def nilTest (h : List AB) : AV → AV → Option Nat
  | v, .nil => match v with
    | .sl sz n _ => cond (Nat.blt 0 sz) (some n) none
    | .own id => match hAt h id with
      | .row _ sz n _ => cond (Nat.blt 0 sz) (some n) none
      | .fro sz n _ => cond (Nat.blt 0 sz) (some n) none
      | _ => none
    | _ => none
  | _, _ => none
def isEql : BinOp → Bool
  | .eql => true
  | _ => false
def binA (C : Cfg) (o : Oper) (op : BinOp) (t : TypeId) (x y : Operand) (st : ASt) (K : ASt → Prop) : Prop := match cond (isEql op) (nilTest st.heap (ev st x) (ev st y)) none with
  | some n => cond (isSlice (C.tyD t)) (∀ b : Bool, (b = true → n = 0) → K (st.put o.dst (.sb b))) False
  | none => match aval C o st with
    | some (c, v) => NeedO c (K (st.put o.dst v))
    | none => False
/-- A part of a row; a row of the call's own is written no more from there on. -/
def sliceA (C : Cfg) (o : Oper) (x : Operand) (st : ASt) (K : ASt → Prop) : Prop := match ev st x with
  | .own id => match aval C o (st.setH (frz st.heap [id])) with
    | some (c, v) => NeedO c (K ((st.setH (frz st.heap [id])).put o.dst v))
    | none => False
  | _ => match aval C o st with
    | some (c, v) => NeedO c (K (st.put o.dst v))
    | none => False
def mapUpA (C : Cfg) (o : Oper) (t : TypeId) (m k v : Operand) (st : ASt) (K : ASt → Prop) : Prop := match isMapI C t with
  | some _ => match ev st m with
    | .own id => match hAt st.heap id with
      | .mp l => match ev st k with
        | .int q n => cond (mpFresh l n && (q == .i64)) (K ((st.setH (hSet st.heap id (.mp (l ++ [(n, ev st v)])))).put o.dst .any)) False
        | _ => False
      | _ => False
    | _ => False
  | none => False
def aop (C : Cfg) (o : Oper) (st : ASt) (K : ASt → Prop) : Prop := match o.op with
  | .pick c a b => br st c fun t st => K (st.put o.dst (cond t (ev st a) (ev st b)))
  | .alloc t => match C.ty t with
    | some i => K ((st.newB (.box t i.zero)).put o.dst (.ptr st.heap.length 0))
    | none => False
  | .box t x => cond (ones (cells (ev st x))) (K ((st.newB (.box t (cells (ev st x)))).put o.dst (.ptr st.heap.length 0))) False
  | .buildSlice t len ps => match C.tyD t with
    | .slice e => match C.ty e with
      | some ie => match litEls st.heap st 0 ps.toList with
        | some els => cond (allEls ie.size els && Nat.beq els.length len && Nat.blt 0 ie.size && Nat.ble (len * ie.size) 16777216) (K (((st.setH (frz st.heap (partIds st ps.toList))).newB (.row e ie.size len (elt els))).put o.dst (.own st.heap.length))) False
        | none => False
      | none => False
    | _ => False
  | .makeSlice t x y => match C.tyD t with
    | .slice e => match C.ty e with
      | some ie => match ev st x with
        | .int _ n => match ev st y with
          | .int _ m => Need (n = m ∧ 0 ≤ n ∧ n ≤ 1000000000 ∧ (ie.bytes : Int) * n ≤ 281474976710656) ∧ cond (Nat.blt 0 ie.size) (K ((st.newB (.row e ie.size n.toNat (fun _ => ie.zero))).put o.dst (.own st.heap.length))) False
          | _ => False
        | _ => False
      | none => False
    | _ => False
  | .makeMap t none => match isMapI C t with
    | some _ => K ((st.newB (.mp [])).put o.dst (.own st.heap.length))
    | none => False
  | .mapUpdate t m k v => mapUpA C o t m k v st K
  | .insert t m k v => mapUpA C o t m k v st K
  | .lookup t m k ok => match (match isMapI C t with
    | some e => C.ty e
    | none => none) with
    | some _ => match ev st m with
      | .own id => match hAt st.heap id with
        | .mp l => match ev st k with
          | .int q n => cond (q == .i64) (mpLook l n fun r => match r with
            | some v => K (st.put o.dst (cond ok (.tup [v, .lit true]) v))
            | none => K (st.put o.dst (cond ok (.tup [.any, .lit false]) .any))) False
          | _ => False
        | _ => False
      | _ => False
    | none => False
  | .store t x v => match C.ty t with
    | some i => match ev st x with
      | .ptr id off => match hAt st.heap id with
        | .box t' cs => cond (Nat.beq (cells (ev st v)).length i.size && Nat.ble (off + i.size) cs.length && ones (cells (ev st v))) (K ((st.setH (hSet st.heap id (.box t' (cs.take off ++ cells (ev st v) ++ cs.drop (off + i.size))))).put o.dst .any)) False
        | _ => False
      | .optr id sz k off => match hAt st.heap id with
        | .row e sz' n el => cond (Nat.beq (cells (ev st v)).length i.size && Nat.beq sz sz' && Nat.ble (off + i.size) sz' && ones (cells (ev st v)) && stb.stbs (cells (ev st v))) (K ((st.setH (hSet st.heap id (.row e sz' n (putEl k ((el k).take off ++ cells (ev st v) ++ (el k).drop (off + i.size)) el)))).put o.dst .any)) False
        | _ => False
      | _ => False
    | none => False
  | .binOp op t x y ty => binA C o op t x y st K
  | .slice _ x _ _ _ => sliceA C o x st K
  | .call c => match c.callee with
    | .builtin .append => match c.argTypes.toList with
      | [t, u] => match evs st c.args.toList with
        | [s, x] => match C.tyD t with
          | .slice e => match C.ty e with
            | some ie => match appSrc st.heap ie.size x with
              | some (m, elx) => (match s with
                | .own id => (match hAt st.heap id with
                  | .row e' sz n el => cond (Nat.beq t u && Nat.blt 0 ie.size && Nat.blt 0 ie.bytes && Nat.beq e e' && Nat.beq sz ie.size) (Need ((n + m) * ie.bytes ≤ 140737488355328) ∧ K (((st.setH (hSet st.heap id .dead)).newB (.row e ie.size (n + m) (catEl n el elx))).put o.dst (.own st.heap.length))) False
                  | _ => False)
                | .nil => cond (Nat.beq t u && Nat.blt 0 ie.size && Nat.blt 0 ie.bytes) (Need ((0 + m) * ie.bytes ≤ 140737488355328) ∧ K ((st.newB (.row e ie.size m elx)).put o.dst (.own st.heap.length))) False
                | _ => False)
              | none => False
            | none => False
          | _ => False
        | _ => False
      | _ => False
    | .value f => match ev st f with
      | .fn g caps => match C.ins g with
        | some p => callI o.dst st p.1 p.2 (evs st c.args.toList ++ caps) K
        | none => match C.inl g with
          | some x => inlA C o.dst st x (evs st c.args.toList ++ caps) K
          | none => callA C o.dst st g (evs st c.args.toList ++ caps) K
      | _ => False
    | .invoke r m => match ev st r with
      | .iface t v => match C.meth t m with
        | some g => callA C o.dst st g (v :: evs st c.args.toList) K
        | none => False
      | _ => False
    | _ => match aval C o st with
      | some (c, v) => NeedO c (K (st.put o.dst v))
      | none => False
  | _ => match aval C o st with
    | some (c, v) => NeedO c (K (st.put o.dst v))
    | none => False
def dstOf : List Oper → Nat → Option Tmp
  | [], _ => none
  | o :: _, 0 => o.dst
  | _ :: l, i + 1 => dstOf l i
def isGone : AV → Bool
  | .gone => true
  | _ => false
def aops (C : Cfg) (all : List Oper) : List Oper → ASt → (ASt → Prop) → Prop
  | [], st, K => K st
  | o :: rest, st, K => match o.guard with
    | none => aop C o st fun st => aops C all rest st K
    | some (g, b) => match dstOf all g with
      | some d => cond (isGone (look st.env d)) (aops C all rest (st.put o.dst .gone) K) (br st (.tmp d) fun t st => cond (t == b) (aop C o st fun st => aops C all rest st K) (aops C all rest (st.put o.dst .gone) K))
      | none => False
/-! ### Regions that draw their order: operations that turn no block of the call's own -/
def noIds : List Nat → Bool
  | [] => true
  | _ => false
def isFro : AB → Bool
  | .fro _ _ _ => true
  | .frb _ => true
  | _ => false
def froIds (h : List AB) : List Nat → Bool
  | [] => true
  | id :: l => isFro (hAt h id) && froIds h l
def dcallK (st : ASt) (vs : List AV) (K : ASt → AV → Prop) : ARes → Prop
  | .st r => cond (flat r || froIds st.heap (ids.idss vs)) (K st r) False
  | .row e sz n el => cond (froIds st.heap (ids.idss vs)) (K st (.sl sz n el)) False
def dop0 (C : Cfg) (o : Oper) (st : ASt) (K : ASt → AV → Prop) : Prop := match o.op with
  | .pick c a b => br st c fun t st => K st (cond t (ev st a) (ev st b))
  | .buildSlice t len ps => match C.tyD t with
    | .slice e => match C.ty e with
      | some ie => match litEls st.heap st 0 ps.toList with
        | some els => cond (allEls ie.size els && Nat.beq els.length len && Nat.blt 0 ie.size && Nat.ble (len * ie.size) 16777216 && noIds (partIds st ps.toList)) (K st (.sl ie.size len (elt els))) False
        | none => False
      | none => False
    | _ => False
  | .call c => match c.callee with
    | .value f => match ev st f with
      | .fn g caps => C.tbl g (fz.fzs st.heap (evs st c.args.toList ++ caps)) (dcallK st (evs st c.args.toList ++ caps) K)
      | _ => False
    | .builtin .append => False
    | _ => match aval C o st with
      | some (c, v) => NeedO c (K st v)
      | none => False
  | _ => match aval C o st with
    | some (c, v) => NeedO c (K st v)
    | none => False
/-- A box that such a region lays, whenever it does: its number, where its pointer goes. -/
structure Al where
  n : Nat
  d : Nat
/-- The blocks at which an operation looks. -/
def looksAt (o : Oper) (st : ASt) : List Nat := match o.op with
  | .load _ x => ids (ev st x)
  | .indexAddr _ x _ => ids (ev st x)
  | .convert _ _ x => ids (ev st x)
  | .slice _ x _ _ _ => ids (ev st x)
  | .buildSlice _ _ ps => partIds st ps.toList
  | .call c => (match c.callee with
    | .value f => ids (ev st f)
    | _ => []) ++ ids.idss (evs st c.args.toList)
  | _ => []
def belowN (n : Nat) : List Nat → Bool
  | [] => true
  | id :: l => Nat.blt id n && belowN n l
def alOk (al : Option Al) (l : List Nat) : Bool := match al with
  | none => true
  | some y => belowN y.n l
def dop (C : Cfg) (al : Option Al) (o : Oper) (st : ASt) (K : ASt → AV → Prop) : Prop := match o.op with
  | .alloc _ => match al with
    | some y => match o.dst with
      | some d => cond (Nat.beq d y.d) (K st (.ptr y.n 0)) False
      | none => False
    | none => False
  | _ => cond (alOk al (looksAt o st)) (dop0 C o st K) False
def dops (C : Cfg) (al : Option Al) (all : List Oper) : List Oper → ASt → (ASt → Prop) → Prop
  | [], st, K => K st
  | o :: rest, st, K => match o.guard with
    | none => dop C al o st fun st v => dops C al all rest (st.put o.dst v) K
    | some (g, b) => match dstOf all g with
      | some d => cond (isGone (look st.env d)) (dops C al all rest (st.put o.dst .gone) K) (br st (.tmp d) fun t st => cond (t == b) (dop C al o st fun st v => dops C al all rest (st.put o.dst v) K) (dops C al all rest (st.put o.dst .gone) K))
      | none => False
/-- Does an operation at place i follow, by an edge of its own, whatever writes what it looks at? -/
def afterHas (o : Oper) (j : Nat) : Bool := o.after.toList.any fun e => Region.binds .any e && Nat.beq e.on j
def writers (t : Tmp) : List Oper → Nat → List Nat
  | [], _ => []
  | o :: l, i => match o.dst with
    | some d => cond (Nat.beq d t) (i :: writers t l (i + 1)) (writers t l (i + 1))
    | none => writers t l (i + 1)
def looksOk (all : List Oper) (o : Oper) : List Operand → Bool
  | [] => true
  | .tmp t :: l => (writers t all 0).all (afterHas o) && looksOk all o l
  | _ :: l => looksOk all o l
def drawOk1 (all : List Oper) (o : Oper) (i : Nat) : Bool :=
  looksOk all o o.op.operands.toList && (o.after.toList.all fun e => !Region.binds .any e || Nat.blt e.on i) &&
  (match o.guard with
   | some (g, _) => afterHas o g
   | none => true) &&
  (match o.dst with
   | some d => match writers d all 0 with
     | [_] => true
     | _ => false
   | none => true)
def drawOkL (all : List Oper) : List Oper → Nat → Bool
  | [], _ => true
  | o :: l, i => drawOk1 all o i && drawOkL all l (i + 1)
def drawOk (all : List Oper) : Bool := drawOkL all all 0
/-- Does it follow whatever stands ahead of it, by edges of its own? -/
def hasAll (o : Oper) : Nat → Bool
  | 0 => true
  | j + 1 => afterHas o j && hasAll o j
def backOnly (o : Oper) (i : Nat) : Bool := o.after.toList.all fun e => !Region.binds .any e || Nat.blt e.on i
def seqOp (all : List Oper) (i : Nat) : Bool := match all[i]? with
  | some o => hasAll o i && backOnly o i
  | none => false
/-- From where on is the order that of the text? -/
def tailK (all : List Oper) : Nat → Nat
  | 0 => 0
  | k + 1 => cond (seqOp all k) (tailK all k) (k + 1)
def nthN : List Nat → Nat → Nat
  | [], _ => 0
  | x :: _, 0 => x
  | _ :: l, i + 1 => nthN l i
/-- All that stand ahead of one by its edges, as bits. -/
def edgeMask (acc : List Nat) : List Edge → Nat
  | [] => 0
  | e :: l => cond (Region.binds .any e) (Nat.lor (Nat.lor (Nat.shiftLeft 1 e.on) (nthN acc e.on)) (edgeMask acc l)) (edgeMask acc l)
def maskAt : List Oper → List Nat → Nat → Nat
  | [], _, _ => 0
  | o :: _, acc, 0 => edgeMask acc o.after.toList
  | o :: l, acc, k + 1 => maskAt l (acc ++ [edgeMask acc o.after.toList]) k
/-- From k on each follows the one ahead of it. -/
def chainOk (all : List Oper) (k : Nat) : Nat → Bool
  | 0 => true
  | m + 1 => (match all[k + m]? with
    | some o => backOnly o (k + m) && (Nat.beq m 0 || afterHas o (k + m - 1))
    | none => false) && chainOk all k m
def tailOk (all : List Oper) (k : Nat) : Bool := Nat.beq k all.length || (Nat.beq (maskAt all [] k) (Nat.sub (Nat.shiftLeft 1 k) 1) && chainOk all k (all.length - k))
def heavyOp (o : Oper) : Bool := match o.op with
  | .store _ _ _ => true
  | .call c => match c.callee with
    | .builtin .append => true
    | _ => false
  | _ => false
def firstHeavy : List Oper → Nat → Option Nat
  | [], _ => none
  | o :: l, i => cond (heavyOp o) (some i) (firstHeavy l (i + 1))
/-- From where on the text's order is taken. -/
def cutK (all : List Oper) : Nat := match firstHeavy (all.take (tailK all all.length)) 0 with
  | some h => cond (tailOk all h) h (tailK all all.length)
  | none => tailK all all.length
/-- The box that is laid in no order. -/
def allocOf : List Oper → Option (Nat × TypeId)
  | [] => none
  | o :: l => match o.op with
    | .alloc t => match o.guard with
      | none => match o.dst with
        | some d => some (d, t)
        | none => allocOf l
      | some _ => allocOf l
    | _ => allocOf l
def rootOf : List Oper → Nat → Nat
  | [], t => t
  | o :: l, t => match o.op with
    | .move (.tmp u) => match o.dst with
      | some d => cond (Nat.beq d t) u (rootOf l t)
      | none => rootOf l t
    | _ => rootOf l t
def flatTD : TD → Bool
  | .int _ => true
  | .bool => true
  | .str => true
  | _ => false
def argIds (all : List Oper) (st : ASt) : List Operand → List Nat
  | [] => []
  | .tmp t :: l => ids (look st.env (rootOf all t)) ++ argIds all st l
  | _ :: l => argIds all st l
/-- The blocks that its calls may keep. -/
def regIds (C : Cfg) (all : List Oper) (st : ASt) : List Oper → List Nat
  | [] => []
  | o :: l => (match o.op with
    | .call c => match c.callee with
      | .value _ => cond (flatTD (C.tyD o.type)) [] (argIds all st c.args.toList)
      | _ => []
    | .slice _ x _ _ _ => argIds all st [x]
    | _ => []) ++ regIds C all st l
def dregion0 (C : Cfg) (all : List Oper) (k : Nat) (st : ASt) (K : ASt → Prop) : Prop :=
  cond (drawOk (all.take k) && tailOk all k) (match allocOf (all.take k) with
    | none => dops C none (all.take k) (all.take k) st fun st => aops C all (all.drop k) st K
    | some (d, t) => match C.ty t with
      | some i => dops C (some ⟨st.heap.length, d⟩) (all.take k) (all.take k) (st.newB (.box t i.zero)) fun st => aops C all (all.drop k) st K
      | none => False) False
def preF (C : Cfg) (l : List Oper) (st : ASt) : ASt := match regIds C l st l with
  | [] => st
  | ids => st.setH (frz st.heap ids)
def dregion (C : Cfg) (all : List Oper) (k : Nat) (st : ASt) (K : ASt → Prop) : Prop := dregion0 C all k (preF C (all.take k) st) K
end Go.Abs
