import Derived.OrdersIn
import Derived.RangeFuncLeaves
import Derived.RangeFuncRecord
set_option linter.all false
set_option linter.unusedVariables false
set_option linter.unusedSimpArgs false
set_option autoImplicit false
namespace Go.Sh
inductive Bk where
  | hp (n v:Nat)
  | st (d i:Nat)
  deriving DecidableEq,Inhabited
inductive SV where
  | unk
  | bool (b:Bool)
  | int (k:IntKind) (n:Int)
  | str (s:ByteArray)
  | nilp
  | ptr (b:Bk) (off:Nat)
  | nils
  | sl (b:Bk) (off len:Nat) (cap:Option Nat) (z:Nat)
  | nilm
  | map (b:Bk)
  | fn (f:FuncId) (first caps:List SV)
  | nilf
  | yld (b:Bk)
  | agg (l:List SV)
  | tup (l:List SV)
  | emp
  deriving Inhabited
abbrev SV.i (n:Int):SV:=.int .i64 n
def SV.cells:SV → List SV
  | .agg l=>l
  | v=>[v]
inductive Opd where
  | t (n:Nat)
  | v (x:SV)
  deriving Inhabited
inductive Kd where
  | int | bool | str | ptr | slice | map | func
  deriving DecidableEq,Inhabited
def Kd.ok:Kd → SV → Bool
  | .int,.int _ _=>true
  | .bool,.bool _=>true
  | .str,.str _=>true
  | .ptr,.nilp=>true
  | .ptr,.ptr _ _=>true
  | .slice,.nils=>true
  | .slice,.emp=>true
  | .slice,.sl _ _ _ _ _=>true
  | .map,.nilm=>true
  | .map,.map _=>true
  | .func,.nilf=>true
  | .func,.fn _ _ _=>true
  | .func,.yld _=>true
  | _,_=>false
def kdsOk:List Kd → List SV → Bool
  | [],[]=>true
  | k :: r,v :: s=>k.ok v && kdsOk r s
  | _,_=>false
def SV.isAgg:SV → Bool
  | .agg _=>true
  | _=>false
def likeK (ag:Bool) (ks:List Kd) (v:SV):Bool:=(v.isAgg == ag) && kdsOk ks v.cells
inductive SOp where
  | mv (x:Opd)
  | pick (c a b:Opd)
  | alloc (st:Bool) (z:List SV)
  | box (st:Bool) (n:Nat) (x:Opd)
  | build (z:List SV) (parts:List (Nat × Nat × Opd))
  | bslice (z:List SV) (len esz:Nat) (parts:List (Nat × Nat × Opd))
  | load (n:Option Nat) (a:Opd)
  | store (n:Nat) (loose:List Opd) (a x:Opd)
  | nilck (x:Opd)
  | bin (op:BinOp) (x y:Opd)
  | eq (neg ag:Bool) (ks:List Kd) (x y:Opd)
  | un (op:UnOp) (x:Opd)
  | conv (k:IntKind) (x:Opd)
  | s2b (x:Opd)
  | b2s (x:Opd)
  | fz (x:Opd)
  | mkfn (f:FuncId) (first caps:List Opd)
  | mkmap
  | mkslice (z:List SV) (bytes:Nat) (l c:Opd)
  | slice (esz:Nat) (x:Opd) (lo hi mx:Option Opd)
  | sliceArr (n esz:Nat) (x:Opd) (lo hi mx:Option Opd)
  | sliceStr (x:Opd) (lo hi:Option Opd)
  | faddr (off:Nat) (x:Opd)
  | field (off:Nat) (n:Option Nat) (x:Opd)
  | iaddr (esz:Nat) (x i:Opd)
  | iaddrA (len esz:Nat) (x i:Opd)
  | idxA (len esz:Nat) (agg:Bool) (x i:Opd)
  | idxS (x i:Opd)
  | lookup (ag:Bool) (ks:List Kd) (z:SV) (ok:Bool) (m k:Opd)
  | mapset (ag:Bool) (ks:List Kd) (m k x:Opd)
  | ext (x:Opd) (i:Nat)
  | len (x:Opd)
  | slen (x:Opd)
  | mlen (x:Opd)
  | cnst (x:SV)
  | append (esz bytes:Nat) (z:List SV) (loose:List Opd) (x y:Opd)
  | copy (esz:Nat) (x y:Opd)
  | clear (m:Opd)
  | delete (ag:Bool) (ks:List Kd) (m k:Opd)
  | mxmn (mx:Bool) (xs:List Opd)
  | call (f:FuncId) (args:List Opd)
  | callv (fv:Opd) (args:List Opd)
  | callL (lo:List Opd) (f:FuncId) (args:List Opd)
  | mapsetL (lo:List Opd) (ag:Bool) (ks:List Kd) (m k x:Opd)
  | bad
  | add64 (x y c:Opd)
  deriving Inhabited
structure SOper where
  dst:Option Nat
  op:SOp
  guard:Option (Nat × Bool)
  quiet:Bool
  deriving Inhabited
inductive SCode where
  | skip
  | region (draw:Bool) (ops:List SOper)
  | seq (a b:SCode)
  | cond (c:Opd) (a b:SCode)
  | block (id:Nat) (c:SCode)
  | loop (ks:Option (List Nat)) (c:SCode)
  | rangef (f:Opd) (ps:List Nat) (assign body:SCode)
  | exit (id:Nat)
  | ret
  | kp (ks:List Nat) (c:SCode)
  | rangem (mp:Opd) (it nx more out next pair:Nat) (ks:List Nat) (pre asg:List SOper) (body:SCode)
  deriving Inhabited
inductive SRes where
  | t (n:Nat)
  | cell (a:Nat) (n:Option Nat)
  deriving Inhabited
structure SFn where
  np:Nat
  res:List SRes
  body:SCode
  deriving Inhabited
abbrev Fr:=List (Nat × SV)
def Fr.get:Fr → Nat → SV
  | [],_=>.unk
  | (k,v) :: r,t=>if t=k then v else Fr.get r t
def Fr.keep (fr:Fr) (ks:List Nat):Fr:=ks.map fun k=>(k,fr.get k)
def Fr.put (fr:Fr) (d:Option Nat) (v:SV):Fr :=
  match d with
  | some t=>(t,v) :: fr
  | none=>fr
def Opd.ev (fr:Fr):Opd → SV
  | .t n=>fr.get n
  | .v x=>x
inductive Jump where
  | ret
  | exit (id:Nat)
  deriving DecidableEq,Inhabited
structure LoopR where
  state:LoopState
  pending:Option Jump
  fr:Fr
  params:List Nat
  assign:SCode
  body:SCode
inductive SBk where
  | cells (rw:Bool) (c:List SV)
  | map (es:List (SV × SV))
  | loop (r:LoopR)
  | iter
structure Mem where
  stk:List (List SBk)
  heap:List (Nat × SBk)
  hb:Nat
  db:Nat
  esc:Option Nat
def stkGet:List (List SBk) → Nat → Nat → Option SBk
  | [],_,_=>none
  | f :: r,d,i=>if d=r.length then f[i]? else stkGet r d i
def stkSet:List (List SBk) → Nat → Nat → SBk → List (List SBk)
  | [],_,_,_=>[]
  | f :: r,d,i,b=>if d=r.length then f.set i b :: r else f :: stkSet r d i b
def Mem.get (m:Mem):Bk → Option SBk
  | .hp n v=>match m.heap[n]? with
    | some (w,x)=>if w=v then some x else none
    | none=>none
  | .st d i=>stkGet m.stk d i
def Mem.may (m:Mem):Bk → Bool
  | .hp n _=>decide (m.hb ≤ n)
  | .st d _=>decide (m.db ≤ d)
def Mem.set (m:Mem) (b:Bk) (x:SBk):Mem :=
  match b with
  | .hp n v=>{ m with heap:=m.heap.set n (v,x) }
  | .st d i=>{ m with stk:=stkSet m.stk d i x }
def Mem.new (m:Mem) (st:Bool) (x:SBk):Option (Bk × Mem) :=
  if st then
    match m.stk with
    | f :: r=>some (.st r.length f.length,{ m with stk:=(f ++ [x]) :: r })
    | []=>none
  else some (.hp m.heap.length 0,{ m with heap:=m.heap ++ [(0,x)] })
def Mem.push (m:Mem):Mem:={ m with stk:=[] :: m.stk,esc:=none }
def Mem.lvl (m:Mem):Nat × Nat :=
  match m.stk with
  | f :: r=>(r.length,f.length)
  | []=>(0,0)
def Mem.trim (m:Mem) (k:Nat):Mem :=
  match m.stk with
  | f :: r=>{ m with stk:=f.take k :: r }
  | []=>m
def Bk.lv (d i:Nat):Bk → Bool
  | .hp _ _=>true
  | .st e j=>decide (e < d) || (decide (e=d) && decide (j < i))
def Bk.hx:Bk → Nat
  | .hp n _=>n + 1
  | .st _ _=>0
mutual
def SV.lv (d i:Nat):SV → Bool
  | .ptr b _=>b.lv d i
  | .sl b _ _ _ _=>b.lv d i
  | .map b=>b.lv d i
  | .yld b=>b.lv d i
  | .fn _ first caps=>SV.lvs d i first && SV.lvs d i caps
  | .agg l=>SV.lvs d i l
  | .tup l=>SV.lvs d i l
  | .unk=>true
  | .bool _=>true
  | .int _ _=>true
  | .str _=>true
  | .nilp=>true
  | .nils=>true
  | .emp=>true
  | .nilm=>true
  | .nilf=>true
def SV.lvs (d i:Nat):List SV → Bool
  | []=>true
  | v :: r=>SV.lv d i v && SV.lvs d i r
end
mutual
def SV.hx:SV → Nat
  | .ptr b _=>b.hx
  | .sl b _ _ _ _=>b.hx
  | .map b=>b.hx
  | .yld b=>b.hx
  | .fn _ first caps=>max (SV.hxs first) (SV.hxs caps)
  | .agg l=>SV.hxs l
  | .tup l=>SV.hxs l
  | .unk=>0
  | .bool _=>0
  | .int _ _=>0
  | .str _=>0
  | .nilp=>0
  | .nils=>0
  | .emp=>0
  | .nilm=>0
  | .nilf=>0
def SV.hxs:List SV → Nat
  | []=>0
  | v :: r=>max (SV.hx v) (SV.hxs r)
end
def SV.cell (d i:Nat):SV → Bool
  | .agg _=>false
  | .tup _=>false
  | .unk=>false
  | v=>v.lv d i
def SV.cellsOk (d i:Nat) (l:List SV):Bool:=l.all (SV.cell d i)
def Bk.room:Bk → Nat × Nat
  | .hp _ _=>(0,0)
  | .st d i=>(d,i)
def escMin:Option Nat → Option Nat → Option Nat
  | none,b=>b
  | some a,none=>some a
  | some a,some b=>some (min a b)
def Mem.note (m:Mem) (b:Bk) (h:Nat):Mem :=
  match b with
  | .hp n _=>if h ≤ n then m else { m with esc:=escMin m.esc (some n) }
  | .st d _=>if h=0 ∨ m.stk.length ≤ d + 1 then m else { m with esc:=some 0 }
mutual
def seq:SV → SV → Option Bool
  | .bool a,.bool b=>some (a == b)
  | .int k a,.int j b=>if k=j then some (a == b) else none
  | .str a,.str b=>some (a.toList == b.toList)
  | .nilp,.nilp=>some true
  | .nilp,.ptr _ _=>some false
  | .ptr _ _,.nilp=>some false
  | .nils,.nils=>some true
  | .nils,.emp=>some false
  | .emp,.nils=>some false
  | .nils,.sl _ _ _ _ _=>some false
  | .sl _ _ _ _ _,.nils=>some false
  | .nilm,.nilm=>some true
  | .nilm,.map _=>some false
  | .map _,.nilm=>some false
  | .nilf,.nilf=>some true
  | .nilf,.fn _ _ _=>some false
  | .fn _ _ _,.nilf=>some false
  | .nilf,.yld _=>some false
  | .yld _,.nilf=>some false
  | .agg a,.agg b=>seqs a b
  | _,_=>none
def seqs:List SV → List SV → Option Bool
  | [],[]=>some true
  | a :: r,b :: s=>match seq a b,seqs r s with
    | some x,some y=>some (x && y)
    | _,_=>none
  | _,_=>none
end
def ibits (op:BinOp) (k:IntKind) (x y:Int):Option Int :=
  let a:=BitVec.ofInt k.bits x
  let b:=BitVec.ofInt k.bits y
  match op with
  | .and=>some (k.wrap (a &&& b).toNat)
  | .or=>some (k.wrap (a ||| b).toNat)
  | .xor=>some (k.wrap (a ^^^ b).toNat)
  | .andNot=>some (k.wrap (a &&& ~~~b).toNat)
  | _=>none
def binv (op:BinOp) (x y:SV):Option SV :=
  match x,y with
  | .int k a,.int j b =>
    match op with
    | .shl=>if b < 0 then none else some (.int k (k.wrap (a * 2 ^ min b.toNat k.bits)))
    | .shr=>if b < 0 then none else some (.int k (a.fdiv (2 ^ min b.toNat k.bits)))
    | _ =>
      if k=j then
        match op with
        | .add=>some (.int k (k.wrap (a + b)))
        | .sub=>some (.int k (k.wrap (a - b)))
        | .mul=>some (.int k (k.wrap (a * b)))
        | .quo=>if b=0 then none else some (.int k (k.wrap (a.tdiv b)))
        | .rem=>if b=0 then none else some (.int k (a.tmod b))
        | .eql=>some (.bool (a == b))
        | .neq=>some (.bool (a != b))
        | .lss=>some (.bool (a < b))
        | .leq=>some (.bool (a ≤ b))
        | .gtr=>some (.bool (a > b))
        | .geq=>some (.bool (a ≥ b))
        | op=>(ibits op k a b).map (.int k)
      else none
  | .str a,.str b =>
    match op with
    | .eql=>some (.bool (a.toList == b.toList))
    | .neq=>some (.bool !(a.toList == b.toList))
    | _=>none
  | _,_=>none
def unv (op:UnOp) (x:SV):Option SV :=
  match op,x with
  | .neg,.int k n=>some (.int k (k.wrap (0 - n)))
  | .xor,.int k n=>(ibits .xor k (if k.signed then -1 else k.max) n).map (.int k)
  | .not,.bool b=>some (.bool !b)
  | _,_=>none
def mxmn2 (mx:Bool):SV → SV → Option SV
  | .int k x,.int j y=>if k=j then some (.int k (if mx then (if y > x then y else x) else (if y < x then y else x))) else none
  | _,_=>none
def mxmnL (mx:Bool):SV → List SV → Option SV
  | x,[]=>some x
  | x,y :: r=>(mxmn2 mx x y).bind fun z=>mxmnL mx z r
def add64v:SV → SV → SV → Option SV
  | .int .u64 x,.int .u64 y,.int .u64 c=>if 0 ≤ x ∧ 0 ≤ y ∧ 0 ≤ c ∧ c ≤ 1 then some (.tup [.int .u64 ((x + y + c) % 18446744073709551616),.int .u64 ((x + y + c) / 18446744073709551616)]) else none
  | _,_,_=>none
def SV.known:SV → Bool
  | .unk=>false
  | _=>true
def fillv:List SV → List (Nat × Nat × SV) → Option (List SV)
  | cs,[]=>some cs
  | cs,(off,size,v) :: r =>
    if v.known ∧ v.cells.length=size ∧ off + size ≤ cs.length then fillv (cs.take off ++ v.cells ++ cs.drop (off + size)) r else none
def idxv:SV → Option Int
  | .int _ i=>some i
  | _=>none
def inB (i:Int) (n:Nat):Bool:=decide (0 ≤ i) && decide (i < n)
def bnds (len:Nat) (cap:Option Nat) (lo hi mx:Option Int):Option (Nat × Nat × Option Nat) :=
  match mx with
  | some m =>
    if 0 ≤ m ∧ m ≤ (cap.getD len:Nat) then
      match hi with
      | some h=>if 0 ≤ h ∧ h ≤ m then
          (match lo with
           | some l=>if 0 ≤ l ∧ l ≤ h then some (l.toNat,h.toNat,some (m.toNat - l.toNat)) else none
           | none=>some (0,h.toNat,some m.toNat)) else none
      | none=>none
    else none
  | none =>
    match hi with
    | some h=>if 0 ≤ h ∧ h ≤ (cap.getD len:Nat) then
        (match lo with
         | some l=>if 0 ≤ l ∧ l ≤ h then some (l.toNat,h.toNat,cap.map (· - l.toNat)) else none
         | none=>some (0,h.toNat,cap)) else none
    | none =>
      match lo with
      | some l=>if 0 ≤ l ∧ l ≤ len then some (l.toNat,len,cap.map (· - l.toNat)) else none
      | none=>some (0,len,cap)
def optI (fr:Fr):Option Opd → Option (Option Int)
  | none=>some none
  | some o=>(idxv (o.ev fr)).map some
def partv (c:List SV) (off:Nat) (n:Option Nat):Option SV :=
  match n with
  | none=>c[off]?
  | some n=>if off + n ≤ c.length then some (.agg ((c.drop off).take n)) else none
def Mem.load (m:Mem) (b:Bk) (off:Nat) (n:Option Nat):Option SV :=
  match m.get b with
  | some (.cells _ c)=>partv c off n
  | _=>none
def Mem.store (m:Mem) (b:Bk) (off:Nat) (vs:List SV):Option Mem :=
  if m.may b ∧ SV.cellsOk b.room.1 b.room.2 vs then
    match m.get b with
    | some (.cells true c) =>
      if off + vs.length ≤ c.length then some ((m.set b (.cells true (c.take off ++ vs ++ c.drop (off + vs.length)))).note b (SV.hxs vs)) else none
    | _=>none
  else none
def assoc (k:SV):List (SV × SV) → Option (Option SV)
  | []=>some none
  | (a,v) :: r=>match seq k a with
    | some true=>some (some v)
    | some false=>assoc k r
    | none=>none
def assocSet (k x:SV):List (SV × SV) → List (SV × SV)
  | []=>[(k,x)]
  | (a,v) :: r=>match seq k a with
    | some true=>(k,x) :: r
    | _=>(a,v) :: assocSet k x r
def assocDel (k:SV):List (SV × SV) → List (SV × SV)
  | []=>[]
  | (a,v) :: r=>match seq k a with
    | some true=>r
    | _=>(a,v) :: assocDel k r
def Mem.elems (m:Mem) (esz n:Nat):SV → Option (List SV)
  | .nils=>some []
  | .sl b off _ _ _ =>
    match m.get b with
    | some (.cells _ c)=>if off + n * esz ≤ c.length then some ((c.drop off).take (n * esz)) else none
    | _=>none
  | .str s=>if esz=1 ∧ n ≤ s.size then some ((s.data.toList.take n).map fun b=>.int .u8 b.toNat) else none
  | .emp=>some []
  | _=>none
def lenv:SV → Option Nat
  | .nils=>some 0
  | .emp=>some 0
  | .sl _ _ n _ _=>some n
  | .str s=>some s.size
  | _=>none
def u8s:List SV → Option (List UInt8)
  | []=>some []
  | .int .u8 n :: r=>(u8s r).map (UInt8.ofNat n.toNat :: ·)
  | _=>none
def awayL (fr:Fr) (b:Bk):List Opd → Bool
  | []=>true
  | x :: r=>(match x.ev fr with
    | .ptr c _=>decide (c ≠ b)
    | _=>true) && awayL fr b r
def lenS:SV → Option Nat
  | .nils=>some 0
  | .sl _ _ n _ _=>some n
  | .emp=>some 0
  | _=>none
def noRoom (cap:Option Nat) (n:Nat):Bool :=
  match cap with
  | some k=>decide (k < n)
  | none=>false
def two48:Nat:=2 ^ 48
def pev (op:SOp) (fr:Fr):Option SV :=
  match op with
  | .mv x=>some (x.ev fr)
  | .cnst x=>some x
  | .pick c a b =>
    match c.ev fr with
    | .bool t=>some (if t then a.ev fr else b.ev fr)
    | _=>none
  | .build z parts=>(fillv z (parts.map fun (o,s,x)=>(o,s,x.ev fr))).map .agg
  | .nilck x =>
    match x.ev fr with
    | .ptr b o=>some (.ptr b o)
    | .fn f a c=>some (.fn f a c)
    | .yld b=>some (.yld b)
    | _=>none
  | .bin op x y=>binv op (x.ev fr) (y.ev fr)
  | .eq neg ag ks x y=>if likeK ag ks (x.ev fr) ∧ likeK ag ks (y.ev fr) then (seq (x.ev fr) (y.ev fr)).map fun b=>.bool (b != neg) else none
  | .un op x=>unv op (x.ev fr)
  | .conv k x =>
    match x.ev fr with
    | .int _ n=>some (.int k (k.wrap n))
    | _=>none
  | .mkfn f first caps=>some (.fn f (first.map (·.ev fr)) (caps.map (·.ev fr)))
  | .slice esz x lo hi mx =>
    match optI fr lo,optI fr hi,optI fr mx with
    | some lo,some hi,some mx =>
      match x.ev fr with
      | .nils=>(bnds 0 (some 0) lo hi mx).map fun _=>.nils
      | .sl b off len cap z=>if z=esz then (bnds len cap lo hi mx).map fun (l,h,c)=>.sl b (off + l * esz) (h - l) c z else none
      | .emp=>(bnds 0 (some 0) lo hi mx).map fun _=>.emp
      | _=>none
    | _,_,_=>none
  | .sliceStr x lo hi =>
    match optI fr lo,optI fr hi with
    | some lo,some hi =>
      match x.ev fr with
      | .str s=>(bnds s.size (some s.size) lo hi none).map fun (l,h,_)=>.str (s.extract l h)
      | _=>none
    | _,_=>none
  | .faddr off x =>
    match x.ev fr with
    | .ptr b o=>some (.ptr b (o + off))
    | _=>none
  | .field off n x =>
    match x.ev fr with
    | .agg l=>partv l off n
    | _=>none
  | .iaddr esz x i =>
    match x.ev fr,i.ev fr with
    | .sl b off len _ _,.int _ i=>if inB i len then some (.ptr b (off + i.toNat * esz)) else none
    | _,_=>none
  | .iaddrA len esz x i =>
    match x.ev fr,i.ev fr with
    | .ptr b off,.int _ i=>if inB i len then some (.ptr b (off + i.toNat * esz)) else none
    | _,_=>none
  | .idxA len esz agg x i =>
    match x.ev fr,i.ev fr with
    | .agg l,.int _ i=>if inB i len then partv l (i.toNat * esz) (if agg then some esz else none) else none
    | _,_=>none
  | .idxS x i =>
    match x.ev fr,i.ev fr with
    | .str s,.int _ i=>if 0 ≤ i then (s.data.toList[i.toNat]?).map fun b=>.int .u8 b.toNat else none
    | _,_=>none
  | .ext x i =>
    match x.ev fr with
    | .tup l=>l[i]?
    | _=>none
  | .len x =>
    match x.ev fr with
    | .nils=>some (.i 0)
    | .sl _ _ n _ _=>some (.i n)
    | .emp=>some (.i 0)
    | _=>none
  | .slen x =>
    match x.ev fr with
    | .str s=>some (.i s.size)
    | _=>none
  | .mxmn mx xs =>
    match xs.map (·.ev fr) with
    | []=>none
    | x :: r=>mxmnL mx x r
  | .add64 x y c=>add64v (x.ev fr) (y.ev fr) (c.ev fr)
  | _=>none
def memop (op : SOp) (fr:Fr) (m:Mem):Option (SV × Mem) :=
  match op with
  | .alloc st z=>if SV.cellsOk 0 0 z then (m.new st (.cells true z)).map fun (b,m)=>(.ptr b 0,m) else none
  | .box st n x =>
    if (x.ev fr).cells.length=n ∧ (if st then SV.cellsOk m.lvl.1 m.lvl.2 (x.ev fr).cells else SV.cellsOk 0 0 (x.ev fr).cells) then (m.new st (.cells true (x.ev fr).cells)).map fun (b,m)=>(.ptr b 0,m) else none
  | .bslice z len esz parts =>
    (fillv z (parts.map fun (o,s,x)=>(o,s,x.ev fr))).bind fun c =>
      if SV.cellsOk 0 0 c then (m.new false (.cells true c)).map fun (b,m)=>(.sl b 0 len (some len) esz,m) else none
  | .load n a =>
    match a.ev fr with
    | .ptr b off=>(m.load b off n).map fun v=>(v,m)
    | _=>none
  | .store n loose a x =>
    match a.ev fr with
    | .ptr b off=>if (x.ev fr).cells.length=n ∧ awayL fr b loose then (m.store b off (x.ev fr).cells).map fun m=>(.tup [],m) else none
    | _=>none
  | .s2b x =>
    match x.ev fr with
    | .str s=>(m.new false (.cells true (s.data.toList.map fun b=>.int .u8 b.toNat))).map fun (b,m)=>(.sl b 0 s.size none 1,m)
    | _=>none
  | .b2s x =>
    match x.ev fr with
    | .nils=>some (.str .empty,m)
    | .sl b off n c z=>(m.elems 1 n (.sl b off n c z)).bind fun l=>(u8s l).map fun bs=>(.str ⟨bs.toArray⟩,m)
    | _=>none
  | .fz x =>
    match x.ev fr with
    | .sl b off n c z =>
      match m.get b with
      | some (.cells true _)=>if 0 < n ∧ m.may b then some (.sl b off n c z,m) else none
      | _=>none
    | _=>none
  | .mkmap=>(m.new false (.map [])).map fun (b,m)=>(.map b,m)
  | .mkslice z bytes l c =>
    match l.ev fr,c.ev fr with
    | .int .i64 l,.int .i64 c =>
      if 0 ≤ l ∧ l ≤ c ∧ c < 9223372036854775808 ∧ bytes * c ≤ (two48:Int) ∧ SV.cellsOk 0 0 z then
        (m.new false (.cells true (List.replicate c.toNat z).flatten)).map fun (b,m)=>(.sl b 0 l.toNat (some c.toNat) z.length,m)
      else none
    | _,_=>none
  | .sliceArr n esz x lo hi mx =>
    match optI fr lo,optI fr hi,optI fr mx with
    | some lo,some hi,some mx =>
      match x.ev fr with
      | .ptr b off =>
        match m.get b with
        | some (.cells _ cs)=>if off + n * esz ≤ cs.length then (bnds n (some n) lo hi mx).map fun (l,h,c)=>(.sl b (off + l * esz) (h - l) c esz,m) else none
        | _=>none
      | _=>none
    | _,_,_=>none
  | .lookup ag ks z ok mp k =>
    if likeK ag ks (k.ev fr) then
      match mp.ev fr with
      | .nilm=>some (if ok then .tup [z,.bool false] else z,m)
      | .map b =>
        match m.get b with
        | some (.map es)=>(assoc (k.ev fr) es).map fun r=>(if ok then .tup [r.getD z,.bool r.isSome] else r.getD z,m)
        | _=>none
      | _=>none
    else none
  | .mapset ag ks mp k x =>
    if likeK ag ks (k.ev fr) ∧ (x.ev fr).known then
      match mp.ev fr with
      | .map b =>
        if m.may b ∧ SV.lv b.room.1 b.room.2 (k.ev fr) ∧ SV.lv b.room.1 b.room.2 (x.ev fr) then
          match m.get b with
          | some (.map es)=>(assoc (k.ev fr) es).map fun _=>(.tup [],(m.set b (.map (assocSet (k.ev fr) (x.ev fr) es))).note b (max (k.ev fr).hx (x.ev fr).hx))
          | _=>none
        else none
      | _=>none
    else none
  | .mlen x =>
    match x.ev fr with
    | .nilm=>some (.i 0,m)
    | .map b=>match m.get b with
      | some (.map es)=>some (.i es.length,m)
      | _=>none
    | _=>none
  | .append esz bytes z loose x y =>
    match lenS (x.ev fr),lenv (y.ev fr) with
    | some sl, some n =>
      (m.elems esz n (y.ev fr)).bind fun new =>
        if n=0 then some (x.ev fr,m) else
        if z.length=esz ∧ 0 < esz ∧ SV.cellsOk 0 0 new ∧ sl + n ≤ two48 ∧ 2 * (sl + n) * bytes ≤ two48 then
        match x.ev fr with
        | .nils=>(m.new false (.cells true new)).map fun (b,m)=>(.sl b 0 n none esz,m)
        | .emp=>(m.new false (.cells true new)).map fun (b,m)=>(.sl b 0 n none esz,m)
        | .sl b off len cap z' =>
          (m.elems esz sl (.sl b off len cap z')).bind fun old =>
            if SV.cellsOk 0 0 old ∧ z'=esz then
              if noRoom cap (sl + n) then
                -- no room: a new array; the old one lies on
                (m.new false (.cells true (old ++ new))).map fun (b,m)=>(.sl b 0 (sl + n) none esz,m)
              else
                -- room or not: the old array is taken over
                match b,m.get b with
                | .hp k v,some (.cells true _) =>
                  if m.may (.hp k v) ∧ awayL fr (.hp k v) loose then
                    some (.sl (.hp k (v + 1)) 0 (sl + n) none esz,({ m with heap:=m.heap.set k (v + 1,.cells true (old ++ new)) }).note (.hp k v) (SV.hxs new))
                  else none
                | _,_=>none
            else none
        | _=>none
        else none
    | _,_=>none
  | .copy esz x y =>
    match lenS (x.ev fr),lenv (y.ev fr) with
    | some dl,some sl =>
      (m.elems esz (min sl dl) (y.ev fr)).bind fun cs =>
        match x.ev fr with
        | .nils=>some (.i (min sl dl:Nat),m)
        | .sl b off _ _ _=>(m.store b off cs).map fun m=>(.i (min sl dl:Nat),m)
        | _=>none
    | _,_=>none
  | .clear mp =>
    match mp.ev fr with
    | .nilm=>some (.tup [],m)
    | .map b =>
      if m.may b then
        match m.get b with
        | some (.map _)=>some (.tup [],m.set b (.map []))
        | _=>none
      else none
    | _=>none
  | .delete ag ks mp k =>
    if likeK ag ks (k.ev fr) then
      match mp.ev fr with
      | .nilm=>some (.tup [],m)
      | .map b =>
        if m.may b then
          match m.get b with
          | some (.map es)=>(assoc (k.ev fr) es).map fun _=>(.tup [],m.set b (.map (assocDel (k.ev fr) es)))
          | _=>none
        else none
      | _=>none
    else none
  | op=>(pev op fr).map fun v=>(v,m)
def escOk (n:Nat):Option Nat → Bool
  | none=>true
  | some e=>decide (0 < n) && decide (n ≤ e)
def Mem.back (m m0:Mem) (h:Nat):Mem :=
  { m with
    stk:=m.stk.tail
    heap:=if h ≤ m0.heap.length ∧ escOk m0.heap.length m.esc then m.heap.take m0.heap.length else m.heap
    esc:=escMin m0.esc m.esc }
inductive SEx where
  | normal
  | exit (id:Nat)
  | ret
  deriving DecidableEq,Inhabited
def SEx.jump:SEx → Option Jump
  | .normal=>none
  | .exit id=>some (.exit id)
  | .ret=>some .ret
def Jump.ex:Jump → SEx
  | .ret=>.ret
  | .exit id=>.exit id
def resv (fr:Fr) (m:Mem):SRes → Option SV
  | .t n=>some (fr.get n)
  | .cell a n =>
    match fr.get a with
    | .ptr b off=>m.load b off n
    | _=>none
def resvs (fr:Fr) (m:Mem):List SRes → Option (List SV)
  | []=>some []
  | r :: rs=>(resv fr m r).bind fun v=>(resvs fr m rs).map (v :: ·)
def pack:List SV → SV
  | [v]=>v
  | l=>.tup l
abbrev Tbl:=FuncId → Option SFn
noncomputable def allI {α:Type} (n:Nat) (f:Nat → Option α):Option α:=open Classical in if h:∃ r,∀ i,i < n → f i=some r then some (Classical.choose h) else none
def isPtr (b:Bk):SV → Bool
  | .ptr c o=>decide (c=b) && decide (o=0)
  | _=>false
def hdFr (b:Bk) (it nx more:Nat) (ks:List Nat) (fr:Fr):Fr:=(it,.ptr b 0) :: (more,.unk) :: (nx,.unk) :: fr.keep ks
def isIter:Option SBk → Bool
  | some .iter=>true
  | _=>false
def headM (b:Bk) (k it nx more:Nat) (ks:List Nat) (fr:Fr) (m:Mem):Option (Fr × Mem) :=
  if isPtr b (fr.get it) && SV.lvs m.lvl.1 k ((hdFr b it nx more ks fr).map Prod.snd) && isIter ((m.trim k).get b) then some (hdFr b it nx more ks fr,m.trim k) else none
def Mem.shutH (m:Mem):Mem:={ m with hb:=m.heap.length }
def Mem.reopenH (m m₀:Mem):Mem:={ m with hb:=m₀.hb }
def away1 (v:SV) (m m':Mem):Prop:=match v with
  | .ptr b _=>m'.get b=m.get b
  | _=>False
def awayP (fr:Fr):List Opd → Mem → Mem → Prop
  | [],_,_=>True
  | o :: r,m,m'=>away1 (o.ev fr) m m' ∧ awayP fr r m m'
noncomputable def awayB (fr:Fr) (lo:List Opd) (m:Mem) (x:SV × Mem):Option (SV × Mem):=open Classical in if awayP fr lo m x.2 then some x else none
def wantedS (fr:Fr):Option (Nat × Bool) → Option Bool
  | none=>some true
  | some (t,b) =>
    match fr.get t with
    | .bool x=>some (x == b)
    | .tup _=>some false
    | _=>none
def Fr.puts (fr:Fr):List Nat → List SV → Fr
  | t :: ts,v :: vs=>Fr.puts ((t,v) :: fr) ts vs
  | _,_=>fr
def argFr:Nat → List SV → Fr
  | _,[]=>[]
  | k,v :: r=>(k,v) :: argFr (k + 1) r
mutual
noncomputable def runC (F:Tbl):Nat → SCode → Fr → Mem → Option (SEx × Fr × Mem)
  | 0,_,_,_=>none
  | n + 1, c,fr,m =>
    match c with
    | .skip=>some (.normal,fr,m)
    | .region draw ops=>(runO F n draw ops fr m).map fun (fr,m)=>(.normal,fr,m)
    | .seq a b=>(runC F n a fr m).bind fun (e,fr,m) =>
        match e with
        | .normal=>runC F n b fr m
        | e=>some (e,fr,m)
    | .cond c a b =>
      match c.ev fr with
      | .bool t=>if t then runC F n a fr m else runC F n b fr m
      | _=>none
    | .block id c=>(runC F n c fr m).map fun (e,fr,m)=>(if e=.exit id then .normal else e,fr,m)
    | .loop ks c=>runL F n m.lvl.2 ks c fr m
    | .rangef f ps assign body =>
      (m.new true (.loop { state:=.ready,pending:=none,fr:=fr,params:=ps,assign:=assign,body:=body })).bind fun (b,m) =>
      (match f.ev fr with
       | .fn g first caps=>callF F n g (first ++ [SV.yld b] ++ caps) m
       | _ => none).bind fun ((_,m):SV × Mem) =>
        match m.get b with
        | some (SBk.loop r) =>
          if r.state=LoopState.busy ∨ m.may b=false then none else
            some ((match r.pending with | none=>.normal | some j=>j.ex),fr,m.set b (.loop { r with state:=.exhausted }))
        | _=>none
    | .exit id=>some (.exit id,fr,m)
    | .ret=>some (.ret,fr,m)
    | .kp ks c=>(runC F n c fr m).map fun (e,fr,m)=>(e,if e=.normal then fr.keep ks else fr,m)
    | .rangem mp it nx more out next pair ks pre asg body =>
      (runO F n false pre fr m).bind fun ((fr,m):Fr × Mem) =>
        match mp.ev fr with
        | .map (.hp j v) =>
          match m.get (.hp j v) with
          | some (.map es)=>(m.shutH.new true .iter).bind fun ((b,m1):Bk × Mem) =>
            (runM F n b m1.lvl.2 it nx more out next pair ks asg body es ((it,.ptr b 0) :: fr) m1).map fun (e,fr,m')=>(e,fr,m'.reopenH m)
          | _=>none
        | _=>none
noncomputable def runM (F:Tbl):Nat → Bk → Nat → Nat → Nat → Nat → Nat → Nat → Nat → List Nat → List SOper → SCode → List (SV × SV) → Fr → Mem → Option (SEx × Fr × Mem)
  | 0,_,_,_,_,_,_,_,_,_,_,_,_,_,_=>none
  | n + 1, b,k,it,nx,more,out,next,pair,ks,asg,body,es,fr,m =>
    (headM b k it nx more ks fr m).bind fun ((fr,m):Fr × Mem) =>
      match es with
      | []=>some (.normal,fr,m)
      | x :: r=>allI (r.length + 1) fun i =>
        match (x :: r)[i]? with
        | some (key,val) =>
          (runO F n false asg ((pair,.tup [key,val]) :: fr) m).bind fun ((fr,m):Fr × Mem) =>
          (runC F n body fr m).bind fun ((e,fr,m):SEx × Fr × Mem) =>
            match e with
            | .normal=>runM F n b k it nx more out next pair ks asg body ((x :: r).eraseIdx i) fr m
            | .exit id=>if id=next then runM F n b k it nx more out next pair ks asg body ((x :: r).eraseIdx i) fr m else some (if id=out then .normal else .exit id,fr,m)
            | .ret=>some (.ret,fr,m)
        | none=>none
noncomputable def runL (F:Tbl):Nat → Nat → Option (List Nat) → SCode → Fr → Mem → Option (SEx × Fr × Mem)
  | 0,_,_,_,_,_=>none
  | n + 1,k,ks,c,fr,m =>
    (match ks with
     | some ks=>if SV.lvs m.lvl.1 k ((fr.keep ks).map Prod.snd) then some (fr.keep ks,m.trim k) else none
     | none=>some (fr,m)).bind fun ((fr,m):Fr × Mem) =>
    (runC F n c fr m).bind fun (e,fr,m) =>
      match e with
      | .normal=>runL F n k ks c fr m
      | e=>some (e,fr,m)
noncomputable def runO (F:Tbl):Nat → Bool → List SOper → Fr → Mem → Option (Fr × Mem)
  | 0,_,_,_,_=>none
  | _ + 1,_,[],fr,m=>some (fr,m)
  | n + 1, draw,o :: r,fr,m =>
    (wantedS fr o.guard).bind fun w =>
      if w then
        (if draw && o.quiet then
          (runP F n o.op fr { m with hb:=m.heap.length,db:=m.stk.length }).map fun (v,m')=>(v,{ m' with hb:=m.hb,db:=m.db })
        else runP F n o.op fr m).bind fun (v,m)=>runO F n draw r (fr.put o.dst v) m
      else runO F n draw r (fr.put o.dst (.tup [])) m
noncomputable def runP (F:Tbl):Nat → SOp → Fr → Mem → Option (SV × Mem)
  | 0,_,_,_=>none
  | n + 1,op,fr,m =>
    match op with
    | .call f args=>callF F n f (args.map (·.ev fr)) m
    | .callv fv args=>runV F n (fv.ev fr) (args.map (·.ev fr)) m
    | .callL lo f args=>(callF F n f (args.map (·.ev fr)) m).bind (awayB fr lo m)
    | .mapsetL lo ag ks mp k x=>(memop (.mapset ag ks mp k x) fr m).bind (awayB fr lo m)
    | op=>memop op fr m
noncomputable def runV (F:Tbl):Nat → SV → List SV → Mem → Option (SV × Mem)
  | 0,_,_,_=>none
  | n + 1, fv, args, m =>
    match fv with
    | .fn f first caps=>callF F n f (first ++ args ++ caps) m
    | .yld b =>
      match m.get b with
      | some (.loop r) =>
        if r.state = .ready ∧ r.params.length=args.length ∧ m.may b then
          (runC F n r.assign (r.fr.puts r.params args) m.push).bind fun (e,fr,m1) =>
            match e with
            | .normal =>
              match m1.get b with
              | some (.loop r1) =>
                if r1.state=.ready then
                  (runC F n r.body fr (m1.set b (.loop { r1 with state:=.busy }))).bind fun (e,_,m2) =>
                    match m2.get b with
                    | some (.loop r) =>
                      some (.bool (e=.normal),(m2.set b (.loop { r with state:=if e=.normal then .ready else .done,pending:=e.jump })).back m 0)
                    | _=>none
                else none
              | _=>none
            | _=>none
        else none
      | _=>none
    | _=>none
noncomputable def callF (F:Tbl):Nat → FuncId → List SV → Mem → Option (SV × Mem)
  | 0,_,_,_=>none
  | n + 1, f,args,m =>
    match F f with
    | some sf =>
      if args.length=sf.np then
        (runC F n sf.body (argFr 0 args) m.push).bind fun (e,fr,m') =>
          match e with
          | .exit _=>none
          | _=>(resvs fr m' sf.res).bind fun vs=>if SV.lvs m.stk.length 0 vs then some (pack vs,m'.back m (SV.hxs vs)) else none
      else none
    | none=>none
end
end Go.Sh
