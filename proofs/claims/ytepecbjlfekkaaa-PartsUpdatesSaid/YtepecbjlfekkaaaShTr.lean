import Derived.Test.YtepecbjlfekkaaaShIr
set_option linter.all false
set_option linter.unusedVariables false
set_option linter.unusedSimpArgs false
set_option autoImplicit false
namespace Go.Sh
mutual
def ofV:Nat → Value → Option SV
  | 0,_=>none
  | n + 1,v=>match v with
    | .bool b=>some (.bool b)
    | .int k x=>some (.int k x)
    | .string s=>some (.str s)
    | .pointer none=>some .nilp
    | .slice none 0 0=>some .nils
    | .map none=>some .nilm
    | .nilFunc=>some .nilf
    | .agg cs=>(ofVs n cs.toList).map .agg
    | .tuple cs=>(ofVs n cs.toList).map .tup
    | .func (.func f) a c=>(ofVs n a.toList).bind fun a=>(ofVs n c.toList).map fun c=>.fn f a c
    | _=>none
def ofVs:Nat → List Value → Option (List SV)
  | 0,_=>none
  | _ + 1,[]=>some []
  | n + 1,v :: r=>(ofV n v).bind fun x=>(ofVs n r).map (x :: ·)
end
def opdT:Operand → Option Opd
  | .tmp t=>some (.t t)
  | .const v=>(ofV 4096 v).map .v
  | .func f=>some (.v (.fn f [] []))
  | .global _=>none
def opdsT:List Operand → Option (List Opd)
  | []=>some []
  | x :: r=>(opdT x).bind fun y=>(opdsT r).map (y :: ·)
def opdO:Option Operand → Option (Option Opd)
  | none=>some none
  | some x=>(opdT x).map some
def szT (P:Program) (t:TypeId):Option Nat:=(P.info? t).map (·.size)
def byT (P:Program) (t:TypeId):Option Nat:=(P.info? t).map (·.bytes)
def aggT (P:Program) (t:TypeId):Option Bool:=(P.underlying t).map fun | .struct _=>true | .array _ _=>true | _=>false
def zeroT (P:Program) (t:TypeId):Option SV:=((P.info? t).bind (·.zero)).bind (ofV 4096)
def varT (P:Program) (t:TypeId):Option (Option Nat) :=
  (aggT P t).bind fun a=>(szT P t).map fun n=>if a then some n else none
def partsT (place:Nat → Option (Nat × Nat)):List (Nat × Operand) → Option (List (Nat × Nat × Opd))
  | []=>some []
  | (i,x) :: r=>(place i).bind fun (o,s)=>(opdT x).bind fun y=>(partsT place r).map ((o,s,y) :: ·)
def fieldsT (P:Program) (fs:Array Field) (i:Nat):Option (Nat × Nat) :=
  (fs[i]?).bind fun f=>(szT P f.type).map fun s=>(f.offset,s)
def eqFs (f:TypeId → Option (List Kd)):List Field → Nat → Option (List Kd)
  | [],_=>some []
  | fd :: r, n => if fd.name ≠ "_" ∧ fd.offset = n then (f fd.type).bind fun s => (eqFs f r (n + s.length)).map (s ++ ·) else none
def eqT (P:Program):Nat → TypeId → Option (List Kd)
  | 0,_=>none
  | d + 1,t=>match P.underlying t with
    | some (.int _)=>some [.int]
    | some .bool=>some [.bool]
    | some .string=>some [.str]
    | some (.struct fs)=>if P.stoodInHeld t then none else (eqFs (eqT P d) fs.toList 0).bind fun l=>if szT P t=some l.length then some l else none
    | _=>none
def builtinT (P:Program) (b:Builtin) (tys:Array TypeId) (args:List Opd):Option SOp :=
  match b,args with
  | .len,[x] =>
    (tys[0]?).bind fun t=>match P.underlying t with
      | some .string=>some (.slen x)
      | some (.slice _)=>some (.len x)
      | some (.map _ _)=>some (.mlen x)
      | some (.array n _)=>some (.cnst (.i n))
      | some (.pointer a)=>match P.underlying a with
        | some (.array n _)=>some (.cnst (.i n))
        | _=>none
      | _=>none
  | .append,[x,y] =>
    (tys[0]?).bind fun t=>(tys[1]?).bind fun u=>match P.underlying t,P.underlying u with
      | some (.slice e),some u =>
        match u with
        | .int _=>none
        | _=>(szT P e).bind fun s=>(byT P e).bind fun b=>(zeroT P e).map fun z=>.append s b z.cells [] x y
      | _,_=>none
  | .copy,[x,y] =>
    (tys[0]?).bind fun t=>match P.underlying t with
      | some (.slice e)=>(szT P e).map fun s=>.copy s x y
      | _=>none
  | .clear,[x] =>
    (tys[0]?).bind fun t=>match P.underlying t with
      | some (.map _ _)=>some (.clear x)
      | _=>none
  | .delete,[m,k] =>
    (tys[0]?).bind fun t=>match P.underlying t with
      | some (.map kt _)=>(eqT P 8 kt).bind fun ks=>(aggT P kt).map fun ag=>.delete ag ks m k
      | _=>none
  | .max,x :: r=>some (.mxmn true (x :: r))
  | .min,x :: r=>some (.mxmn false (x :: r))
  | _,_=>none
def callT (P:Program) (c:Call):Option SOp :=
  (opdsT c.args.toList).bind fun args =>
    match c.callee with
    | .builtin b=>builtinT P b c.argTypes args
    | .value (.func f) =>
      (P.funcs[f]?).bind fun fn => if fn.body.isSome && fn.name != "runtime.NumGoroutine" then some (.call f args) else
        if fn.body.isNone && (Extern.findNext fn).isNone && fn.name == "math/bits.Add64" then
          (match args with
           | [x,y,c]=>some (.add64 x y c)
           | _=>none)
        else none
    | .value (.tmp t)=>some (.callv (.t t) args)
    | _=>none
def opT (P:Program) (o:Op):Option SOp :=
  match o with
  | .move x=>(opdT x).map .mv
  | .assign x=>(opdT x).map .mv
  | .pick c a b=>(opdT c).bind fun c=>(opdT a).bind fun a=>(opdT b).map fun b=>.pick c a b
  | .alloc e=>(zeroT P e).map fun z=>.alloc false z.cells
  | .box e x=>(opdT x).bind fun x=>(szT P e).map fun n=>.box false n x
  | .build t ps =>
    (zeroT P t).bind fun z=>match P.underlying t with
      | some (.struct fs)=>if fs.toList.all (fun f=>(szT P f.type).isSome) then (partsT (fieldsT P fs) ps.toList).map fun ps=>.build z.cells ps else none
      | some (.array _ e)=>(szT P e).bind fun s=>(partsT (fun i=>some (i * s,s)) ps.toList).map fun ps=>.build z.cells ps
      | _=>none
  | .buildSlice t len ps =>
    match P.underlying t with
    | some (.slice e)=>(szT P e).bind fun s=>(zeroT P e).bind fun z=>(partsT (fun i=>some (i * s,s)) ps.toList).bind fun ps =>
        if s=z.cells.length ∧ 0 < s ∧ len * s ≤ 4096 then some (.bslice (List.replicate len z.cells).flatten len s ps) else none
    | _=>none
  | .load t a=>(opdT a).bind fun a=>(varT P t).map fun n=>.load n a
  | .store t a x=>(opdT a).bind fun a=>(opdT x).bind fun x=>(szT P t).map fun n=>.store n [] a x
  | .nilCheck x=>(opdT x).map .nilck
  | .binOp op t x y _ =>
    (opdT x).bind fun x=>(opdT y).bind fun y =>
      match op with
      | .eql | .neq =>
        match P.underlying t with
        | some (.int _)=>some (.bin op x y)
        | some .string=>some (.bin op x y)
        | some .bool=>some (.eq (op == .neq) false [.bool] x y)
        | some (.pointer _)=>some (.eq (op == .neq) false [.ptr] x y)
        | some (.slice _)=>some (.eq (op == .neq) false [.slice] x y)
        | some (.map _ _)=>some (.eq (op == .neq) false [.map] x y)
        | some (.func _ _ _)=>some (.eq (op == .neq) false [.func] x y)
        | some (.struct _)=>if P.eqGuardType P.depth t then none else (eqT P 8 t).map fun ks=>.eq (op == .neq) true ks x y
        | some (.array n e)=>if P.eqGuardType P.depth t then none else (match P.underlying e with
          | some (.int _)=>if szT P e=some 1 ∧ aggT P e=some false then some (.eq (op == .neq) true (List.replicate n .int) x y) else none
          | _=>none)
        | _=>none
      | _=>some (.bin op x y)
  | .unOp op _ x=>(opdT x).map fun x=>.un op x
  | .convert s d x =>
    (opdT x).bind fun x=>match P.underlying s,P.underlying d with
      | some (.int _),some (.int k)=>some (.conv k x)
      | some (.slice _),some (.slice e)=>if s == d then (match P.underlying e with
        | some (.int .u8)=>some (.fz x)
        | _=>none) else none
      | some (.slice e),some .string=>match P.underlying e with
        | some (.int .u8)=>some (.b2s x)
        | _=>none
      | _,_=>none
  | .makeFunc (.func f) a c=>(opdsT a.toList).bind fun a=>(opdsT c.toList).map fun c=>.mkfn f a c
  | .makeMap _ none=>some .mkmap
  | .makeSlice t l c =>
    match P.underlying t with
    | some (.slice e)=>(opdT l).bind fun l=>(opdT c).bind fun c=>(byT P e).bind fun b=>(zeroT P e).bind fun z =>
        if szT P e=some z.cells.length ∧ 0 < z.cells.length then some (.mkslice z.cells b l c) else none
    | _=>none
  | .slice t x lo hi mx =>
    (opdT x).bind fun x=>(opdO lo).bind fun lo=>(opdO hi).bind fun hi=>(opdO mx).bind fun mx =>
      match P.underlying t with
      | some (.array n e)=>(szT P e).map fun s=>.sliceArr n s x lo hi mx
      | some (.slice e)=>(szT P e).map fun s=>.slice s x lo hi mx
      | some .string=>if mx.isNone then some (.sliceStr x lo hi) else none
      | _=>none
  | .fieldAddr s x f =>
    (opdT x).bind fun x=>match P.underlying s with
      | some (.struct fs)=>(fs[f]?).bind fun fd=>(szT P fd.type).bind fun n=>if n=0 then none else some (.faddr fd.offset x)
      | _=>none
  | .field t x f =>
    (opdT x).bind fun x=>match P.underlying t with
      | some (.struct fs)=>(fs[f]?).bind fun fd=>(varT P fd.type).map fun n=>.field fd.offset n x
      | _=>none
  | .indexAddr t x i =>
    (opdT x).bind fun x=>(opdT i).bind fun i=>match P.underlying t with
      | some (.array n e)=>(szT P e).map fun s=>.iaddrA n s x i
      | some (.slice e)=>(szT P e).map fun s=>.iaddr s x i
      | _=>none
  | .index t x i =>
    (opdT x).bind fun x=>(opdT i).bind fun i=>match P.underlying t with
      | some (.array n e)=>(szT P e).bind fun s=>(aggT P e).map fun a=>.idxA n s a x i
      | some .string=>some (.idxS x i)
      | _=>none
  | .lookup t m k ok =>
    (opdT m).bind fun m=>(opdT k).bind fun k=>match P.underlying t with
      | some (.map kt e)=>(eqT P 8 kt).bind fun ks=>(aggT P kt).bind fun ag=>(zeroT P e).map fun z=>.lookup ag ks z ok m k
      | _=>none
  | .mapUpdate t m k x | .insert t m k x =>
    (opdT m).bind fun m=>(opdT k).bind fun k=>(opdT x).bind fun x=>match P.underlying t with
      | some (.map kt _)=>(eqT P 8 kt).bind fun ks=>(aggT P kt).map fun ag=>.mapset ag ks m k x
      | _=>none
  | .extract x i=>(opdT x).map fun x=>.ext x i
  | .call c=>callT P c
  | .panic _=>some .bad
  | _=>none
def SOp.pure:SOp → Bool
  | .mv _ | .cnst _ | .pick _ _ _ | .build _ _ | .nilck _ | .bin _ _ _ | .eq _ _ _ _ _ | .un _ _ | .conv _ _ | .mkfn _ _ _ | .slice _ _ _ _ _ | .sliceStr _ _ _ | .faddr _ _ | .field _ _ _ | .iaddr _ _ _ | .iaddrA _ _ _ _ | .idxA _ _ _ _ _ | .idxS _ _ | .ext _ _ | .len _ | .slen _ | .mxmn _ _ | .add64 _ _ _=>true
  | _=>false
def guardT (ops:Array Oper):Option (Nat × Bool) → Option (Option (Nat × Bool))
  | none=>some none
  | some (j,b)=>((ops[j]?).bind (·.dst)).map fun t=>some (t,b)
def operT (P:Program) (nt:Nat) (ops:Array Oper) (o:Oper):Option SOper :=
  if (match o.dst with | some d=>decide (d < nt) | none=>true) then (guardT ops o.guard).map fun g=>{ dst:=o.dst,op:=(opT P o.op).getD .bad,guard:=g,quiet:=false } else none
def opersT (P:Program) (nt:Nat) (ops:Array Oper):List Oper → Option (List SOper)
  | []=>some []
  | o :: r=>(operT P nt ops o).bind fun s=>(opersT P nt ops r).map (s :: ·)
def ancs:List Oper → List Nat → List Nat
  | [],acc=>acc
  | o :: r,acc=>ancs r (acc ++ [o.after.foldl (fun s e=>if Region.binds .any e then s ||| 2 ^ e.on ||| acc.getD e.on 0 else s) 0])
def comparable (an:List Nat) (i j:Nat):Bool:=(an.getD j 0).testBit i || (an.getD i 0).testBit j
def SOp.isLoad:SOp → Bool
  | .load _ _ | .lookup _ _ _ _ _ _ | .mlen _ | .sliceArr _ _ _ _ _ _=>true
  | _=>false
def SOp.isLoad1:SOp → Bool
  | .load _ _=>true
  | _=>false
def SOp.isPut:SOp → Bool
  | .append _ _ _ _ _ _=>true
  | .store _ _ _ _=>true
  | _=>false
def SOp.isPutC (oc:Bool):SOp → Bool
  | .append _ _ _ _ _ _=>true
  | .store _ _ _ _=>true
  | .call _ _=>oc
  | .mapset _ _ _ _ _=>oc
  | _=>false
def SOp.isAlloc:SOp → Bool
  | .alloc _ _ | .box _ _ _ | .bslice _ _ _ _ | .mkmap | .mkslice _ _ _ _=>true
  | _=>false
def SOp.prio (o:SOp):Nat:=if o.pure || o.isLoad then 0 else if o.isAlloc then 2 else 1
def nextT (l:List SOper) (an:List Nat) (placed:List Nat):Option Nat :=
  let rs:=(List.range l.length).filter fun i=>!placed.contains i && (List.range l.length).all fun k=>!(an.getD i 0).testBit k || placed.contains k
  let at_ (p:Nat):=rs.find? fun i=>((l[i]?).map (·.op.prio)) == some p
  (at_ 0).orElse fun _=>(at_ 1).orElse fun _=>at_ 2
def orderT (l:List SOper) (an:List Nat):Nat → List Nat → List Nat
  | 0,placed=>placed
  | n + 1,placed=>match nextT l an placed with
    | some i=>orderT l an n (placed ++ [i])
    | none=>placed
def inOrder (oc:Bool) (l:List SOper) (an:List Nat) (ord:List Nat) (i:Nat):Bool :=
  (l.zipIdx).all fun (s,j)=>j == i || s.op.pure || comparable an i j || (s.op.isAlloc && decide (ord.idxOf i < ord.idxOf j)) ||
    ((match l[i]? with | some t=>t.op.isPutC oc | none=>false) && s.op.isLoad1 && decide (ord.idxOf j < ord.idxOf i))
def looseT (l:List SOper) (an:List Nat) (i:Nat):List Opd :=
  (l.zipIdx).filterMap fun (s,j)=>if j == i || comparable an i j then none else match s.op with
    | .load _ a=>some a
    | _=>none
def usesT (o:Oper):List Nat:=o.op.operands.toList.filterMap fun | .tmp t=>some t | _=>none
def drawOk (ops:List Oper) (l:List SOper) (an ord:List Nat):Bool :=
  decide (ord.length=l.length) && decide (ops.length=l.length) && decide ord.Nodup && (ord.all fun i=>decide (i < l.length)) && ((List.range l.length).all fun i=>decide (i ∈ ord)) &&
  ((List.range l.length).all fun j =>
    ((List.range l.length).all fun k=>!(an.getD j 0).testBit k || decide (ord.idxOf k < ord.idxOf j)) &&
    (match ops[j]? with
     | some o=>(o.after.toList.all fun e=>!Region.binds .any e || decide (e.on < l.length)) &&
        (List.range l.length).all fun k=>(an.getD j 0).testBit k == o.after.toList.any fun e=>Region.binds .any e && (e.on == k || (an.getD e.on 0).testBit k)
     | none=>false))
def takes (o:Oper) (s:SOper) (d:Nat):Bool:=(usesT o).contains d || (match s.guard with | some (t,_)=>t == d | none=>false)
def tidy (ops:List Oper) (l:List SOper) (an:List Nat):Bool :=
  (List.range l.length).all fun j=>(List.range l.length).all fun i =>
    match ops[j]?,l[j]?,l[i]? with
    | some o,some s,some q =>
      match q.dst with
      | none=>true
      | some d =>
        if i=j then !(s.op.isLoad1 && (usesT o).contains d)
        else s.dst != some d && (!takes o s d || (comparable an i j && (!s.op.isLoad1 || (an.getD j 0).testBit i)))
    | _,_,_=>false
def callO (oc:Bool) (lo:List Opd) (f:FuncId) (args:List Opd):SOp:=if oc && !lo.isEmpty then .callL lo f args else .call f args
def mapO (oc:Bool) (lo:List Opd) (ag:Bool) (ks:List Kd) (m k x:Opd):SOp:=if oc && !lo.isEmpty then .mapsetL lo ag ks m k x else .mapset ag ks m k x
def looseO (oc:Bool) (lo:List Opd):SOp → SOp
  | .append e b z _ x y=>.append e b z lo x y
  | .store n _ a x=>.store n lo a x
  | .call f args=>callO oc lo f args
  | .mapset ag ks m k x=>mapO oc lo ag ks m k x
  | o=>o
def placeT (oc:Bool) (l:List SOper) (an ord:List Nat) (i:Nat):SOper :=
  { (l.getD i default) with quiet:=!inOrder oc l an ord i,op:=looseO oc (looseT l an i) (l.getD i default).op }
def regionT (P:Program) (oc:Bool) (nt:Nat) (ops:Array Oper) (draw:Bool):Option (List SOper) :=
  (opersT P nt ops ops.toList).bind fun l =>
    if draw then
      let an:=ancs ops.toList []
      let ord:=orderT l an l.length []
      if drawOk ops.toList l an ord && tidy ops.toList l an then some (ord.map (placeT oc l an ord)) else none
    else some l
def rmT (P:Program) (nt:Nat):Code → Code → SCode → Option SCode
  | .region _ ops false,.block out (.loop (.seq (.region _ ops1 false) (.seq (.cond (.tmp mo) .skip (.exit out')) (.block next (.seq (.region _ ops2 false) _))))),.block _ (.loop _ (.seq _ (.seq _ (.block _ (.seq _ body))))) =>
    match ops.toList.reverse,ops1.toList,ops2.toList with
    | ⟨some it,.range t x,_,_,_,none⟩ :: pre,[⟨some nx,.next (.tmp it') false,_,_,_,none⟩,⟨some more,.extract (.tmp nx') 0,_,_,_,none⟩],⟨some pair,.entry (.tmp it''),_,_,_,none⟩ :: rest =>
      if mo=more ∧ out'=out ∧ it'=it ∧ nx'=nx ∧ it''=it ∧ it ≠ nx ∧ it ≠ more ∧ it < nt ∧ nx < nt ∧ more < nt ∧ pair < nt ∧ (match P.underlying t with | some (.map _ _)=>true | _=>false)=true then
        (opdT x).bind fun mp=>(opersT P nt ops pre.reverse).bind fun pre=>(opersT P nt ops2 rest).map fun asg=>.rangem mp it nx more out next pair [] pre asg body
      else none
    | _,_,_=>none
  | _,_,_=>none
def mkSeq (P:Program) (nt:Nat) (a b:Code) (x y:SCode):SCode:=(rmT P nt a b y).getD (.seq x y)
def codeT (P:Program) (oc:Bool) (nt:Nat):Code → Option SCode
  | .skip=>some .skip
  | .region _ ops draw=>(regionT P oc nt ops draw).map fun l=>.region draw l
  | .seq a b=>(codeT P oc nt a).bind fun x=>(codeT P oc nt b).map fun y=>mkSeq P nt a b x y
  | .cond c a b=>(opdT c).bind fun c=>(codeT P oc nt a).bind fun a=>(codeT P oc nt b).map fun b=>.cond c a b
  | .block id c=>(codeT P oc nt c).map fun c=>.block id c
  | .loop c=>(codeT P oc nt c).map fun c=>.loop none c
  | .rangeFunc f ps a b=>(opdT f).bind fun f=>(codeT P oc nt a).bind fun a=>(codeT P oc nt b).bind fun b=>if ps.toList.all (fun t=>decide (t < nt)) then some (.rangef f ps.toList a b) else none
  | .exit id=>some (.exit id)
  | .scope _=>none
  | .label _=>some .skip
  | .goto _=>none
  | .ret=>some .ret
  | .refuse _=>none
def resT (P:Program):List ResultVar → Option (List SRes)
  | []=>some []
  | .tmp t :: r=>(resT P r).map (.t t :: ·)
  | .cell a t :: r=>(varT P t).bind fun n=>(resT P r).map (.cell a n :: ·)
def fnTo (P:Program) (oc:Bool) (fn:Func):Option SFn :=
  fn.body.bind fun c => (codeT P oc fn.ntmps c).bind fun c => (resT P fn.results.toList).bind fun rs => if fn.params.size + fn.nfree ≤ fn.ntmps ∧ (fn.name != "runtime.NumGoroutine") = true then some { np := fn.params.size + fn.nfree, res := rs, body := c } else none
def fnT (P:Program) (fn:Func):Option SFn:=fnTo P false fn
def SOp.erase:SOp → SOp
  | .alloc _ z=>.alloc false z
  | .box _ n x=>.box false n x
  | o=>o
def SOp.base:SOp → SOp
  | .alloc _ z=>.alloc false z
  | .box _ n x=>.box false n x
  | .append e b z _ x y=>.append e b z [] x y
  | .store n _ a x=>.store n [] a x
  | .callL _ f args=>.call f args
  | .mapsetL _ ag ks m k x=>.mapset ag ks m k x
  | o=>o
def SOper.erase (o:SOper):SOper:={ o with op:=o.op.erase }
def SCode.erase:SCode → SCode
  | .region d l=>.region d (l.map SOper.erase)
  | .seq a b=>.seq a.erase b.erase
  | .cond c a b=>.cond c a.erase b.erase
  | .block i c=>.block i c.erase
  | .loop _ c=>.loop none c.erase
  | .rangef f ps a b=>.rangef f ps a.erase b.erase
  | .kp _ c=>c.erase
  | .rangem mp it nx more out next pair _ pre asg body=>.rangem mp it nx more out next pair [] (pre.map SOper.erase) (asg.map SOper.erase) body.erase
  | c=>c
def SFn.erase (f:SFn):SFn:={ f with body:=f.body.erase }
end Go.Sh
