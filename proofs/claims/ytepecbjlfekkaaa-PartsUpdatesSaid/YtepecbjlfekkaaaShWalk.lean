import Derived.Test.YtepecbjlfekkaaaShLim
import Derived.TacticsIn
set_option linter.all false
set_option linter.unusedVariables false
set_option linter.unusedSimpArgs false
set_option autoImplicit false
namespace Go.Sh
theorem shut_reopen (m:Mem):m.shut.reopen m=m:=rfl
def Mem.dep (m:Mem):Nat:=m.stk.length
def Mem.fr (m:Mem) (f:List SBk) (e:Option Nat):Mem:={ m with stk:=f :: m.stk,esc:=e }
def Mem.frs (m:Mem) (fs:List (List SBk)) (e:Option Nat):Mem:={ m with stk:=fs ++ m.stk,esc:=e }
theorem fr_db (m:Mem) (f:List SBk) (e:Option Nat):(m.fr f e).db=m.db:=by simp [Mem.fr]
theorem fr_hb (m:Mem) (f:List SBk) (e:Option Nat):(m.fr f e).hb=m.hb:=by simp [Mem.fr]
theorem fr_esc (m:Mem) (f:List SBk) (e:Option Nat):(m.fr f e).esc=e:=rfl
theorem fr_lvl (m:Mem) (f:List SBk) (e:Option Nat):(m.fr f e).lvl=(m.dep,f.length):=rfl
theorem frs_db (m:Mem) (f:List (List SBk)) (e:Option Nat):(m.frs f e).db=m.db:=by simp [Mem.frs]
theorem frs_hb (m:Mem) (f:List (List SBk)) (e:Option Nat):(m.frs f e).hb=m.hb:=by simp [Mem.frs]
theorem shut_dep (m:Mem):m.shut.dep=m.dep:=by simp [Mem.shut,Mem.dep]
theorem fr_dep (m:Mem) (f:List SBk) (e:Option Nat):(m.fr f e).dep=m.dep + 1:=by simp [Mem.fr,Mem.dep]
theorem frs_dep (m:Mem) (f:List (List SBk)) (e:Option Nat):(m.frs f e).dep=f.length + m.dep:=by simp [Mem.frs,Mem.dep]
theorem fr_frs1 (m:Mem) (f:List SBk) (e:Option Nat):m.fr f e=m.frs [f] e:=rfl
theorem push_fr (m:Mem):m.push=m.fr [] none:=rfl
theorem new_fr (m:Mem) (f:List SBk) (e:Option Nat) (x:SBk):(m.fr f e).new true x=some (.st m.dep f.length,m.fr (f ++ [x]) e):=by
  simp [Mem.fr,Mem.new,Mem.dep]
theorem get_fr (m:Mem) (f:List SBk) (e:Option Nat) {d:Nat} (i:Nat) (hd:d=m.dep):(m.fr f e).get (.st d i)=f[i]? := by subst hd; simp [Mem.fr,Mem.get,stkGet,Mem.dep]
theorem get_hp_fr (m:Mem) (f:List SBk) (e:Option Nat) (n v:Nat):(m.fr f e).get (.hp n v)=m.get (.hp n v):=rfl
theorem get_hp_frs (m:Mem) (f:List (List SBk)) (e:Option Nat) (n v:Nat):(m.frs f e).get (.hp n v)=m.get (.hp n v):=rfl
theorem get_lt_fr (m:Mem) (f:List SBk) (e:Option Nat) {d:Nat} (i:Nat) (h:d < m.dep):(m.fr f e).get (.st d i)=m.get (.st d i):=by
  have:¬ d=m.stk.length:=Nat.ne_of_lt h
  simp [Mem.fr,Mem.get,stkGet,this]
theorem stkGet_app (fs s:List (List SBk)) {d:Nat} (i:Nat) (h:d < s.length):stkGet (fs ++ s) d i=stkGet s d i:=by
  induction fs with
  | nil=>rfl
  | cons f fs ih =>
    have:¬ d=(fs ++ s).length:=by simp; omega
    simp only [List.cons_append,stkGet,this,if_false,ih]
theorem stkSet_app (fs s:List (List SBk)) {d:Nat} (i:Nat) (x:SBk) (h:d < s.length):stkSet (fs ++ s) d i x=fs ++ stkSet s d i x:=by
  induction fs with
  | nil=>rfl
  | cons f fs ih =>
    have:¬ d=(fs ++ s).length:=by simp; omega
    simp only [List.cons_append,stkSet,this,if_false,ih]
theorem get_lt_frs (m:Mem) (f:List (List SBk)) (e:Option Nat) {d:Nat} (i:Nat) (h:d < m.dep):(m.frs f e).get (.st d i)=m.get (.st d i):=stkGet_app f m.stk i h
theorem load_get {m:Mem} {b:Bk} {off:Nat} {n:Option Nat}:m.load b off n=match m.get b with
    | some (.cells _ c)=>partv c off n
    | _=>none:=rfl
theorem load_fr (m:Mem) (f:List SBk) (e:Option Nat) {d:Nat} (i off:Nat) (n:Option Nat) (hd:d=m.dep):(m.fr f e).load (.st d i) off n=match f[i]? with
    | some (.cells _ c)=>partv c off n
    | _=>none:=by rw [Mem.load,get_fr m f e i hd]; cases f[i]? with
      | none=>rfl
      | some y=>cases y <;> rfl
theorem load_congr {m m':Mem} {b:Bk} (h:m.get b=m'.get b) (off:Nat) (n:Option Nat):m.load b off n=m'.load b off n:=by rw [Mem.load,Mem.load,h]
theorem load_hp_fr (m:Mem) (f:List SBk) (e:Option Nat) (k v off:Nat) (n:Option Nat):(m.fr f e).load (.hp k v) off n=m.load (.hp k v) off n:=rfl
theorem load_hp_frs (m:Mem) (f:List (List SBk)) (e:Option Nat) (k v off:Nat) (n:Option Nat):(m.frs f e).load (.hp k v) off n=m.load (.hp k v) off n:=rfl
theorem load_lt_fr (m:Mem) (f:List SBk) (e:Option Nat) {d:Nat} (i off:Nat) (n:Option Nat) (h:d < m.dep):(m.fr f e).load (.st d i) off n=m.load (.st d i) off n:=load_congr (get_lt_fr m f e i h) off n
theorem load_lt_frs (m:Mem) (f:List (List SBk)) (e:Option Nat) {d:Nat} (i off:Nat) (n:Option Nat) (h:d < m.dep):(m.frs f e).load (.st d i) off n=m.load (.st d i) off n:=load_congr (get_lt_frs m f e i h) off n
theorem shut_load (m:Mem) (b:Bk) (off:Nat) (n:Option Nat):m.shut.load b off n=m.load b off n:=by simp [Mem.load,shut_get]
theorem back_fr (m:Mem) (f:List SBk) (h:Nat):(m.fr f none).back m h=m:=by
  cases m with
  | mk s hp hb db esc=>cases esc <;> simp [Mem.fr,Mem.back,escMin]
def Mem.Wf (m:Mem):Prop:=m.db ≤ m.dep
theorem fr_wf {m:Mem} (h:m.Wf) (f:List SBk) (e:Option Nat):(m.fr f e).Wf:=Nat.le_succ_of_le h
theorem frs_wf {m:Mem} (h:m.Wf) (f:List (List SBk)) (e:Option Nat):(m.frs f e).Wf:=by
  have:=frs_dep m f e
  unfold Mem.Wf at *
  rw [frs_db,this]
  omega
theorem shut_wf (m:Mem):m.shut.Wf:=Nat.le_refl _
theorem store_fr (m:Mem) (f:List SBk) (e:Option Nat) {d:Nat} (i off:Nat) (vs:List SV) (hd:d=m.dep) (h:m.Wf):(m.fr f e).store (.st d i) off vs =
    if SV.cellsOk m.dep i vs then
      match f[i]? with
      | some (.cells true c)=>if off + vs.length ≤ c.length then some (m.fr (f.set i (.cells true (c.take off ++ vs ++ c.drop (off + vs.length)))) e) else none
      | _=>none
    else none:=by
  subst hd
  have hm:(m.fr f e).may (.st m.dep i)=true:=by simp only [Mem.may,fr_db]; exact decide_eq_true h
  simp only [Mem.store,hm,true_and,get_fr m f e i rfl,Bk.room]
  split
  · generalize f[i]? = y
    cases y with
    | none=>rfl
    | some y =>
      cases y with
      | cells rw c =>
        cases rw with
        | false=>rfl
        | true =>
          simp only
          split
          · simp [Mem.note,Mem.set,Mem.fr,stkSet,Mem.dep]
          · rfl
      | map es=>rfl
      | loop l=>rfl
      | iter=>rfl
  · rfl
theorem lt_addr {a b c:Nat} (h:a < c):(a < b + c)=True:=eq_true (by omega)
theorem lt_succ1 (a:Nat):(a < a + 1)=True:=eq_true (by omega)
theorem lt_succ2 {a b:Nat} (h:a < b):(a < b + 1)=True:=eq_true (by omega)
theorem le_addr {a b c:Nat} (h:a ≤ c):(a ≤ b + c)=True:=eq_true (by omega)
theorem le_succ2 {a b:Nat} (h:a ≤ b):(a ≤ b + 1)=True:=eq_true (by omega)
section
set_option autoImplicit true
theorem RP_mv (F:Tbl) {fr:Fr} {m:Mem} {x}:RP F (.mv x) fr m=some (x.ev fr,m):=by
  rw [RP_mem _ _ _ rfl]
  first | rfl | (simp only [memop,pev]; (first | rfl | (repeat' split) <;> simp_all [Option.map_map,Function.comp_def]))
theorem RP_cnst (F:Tbl) {fr:Fr} {m:Mem} {x}:RP F (.cnst x) fr m=some (x,m):=by
  rw [RP_mem _ _ _ rfl]
  first | rfl | (simp only [memop,pev]; (first | rfl | (repeat' split) <;> simp_all [Option.map_map,Function.comp_def]))
theorem RP_pick (F:Tbl) {fr:Fr} {m:Mem} {c} {a} {b}:RP F (.pick c a b) fr m=(match c.ev fr with | .bool t=>some (if t then a.ev fr else b.ev fr,m) | _=>none):=by
  rw [RP_mem _ _ _ rfl]
  simp only [memop,pev]
  generalize c.ev fr=vx
  cases vx <;> rfl
theorem RP_build (F:Tbl) {fr:Fr} {m:Mem} {z} {ps}:RP F (.build z ps) fr m=(fillv z (ps.map fun (o,s,x)=>(o,s,x.ev fr))).map fun c=>(.agg c,m):=by
  rw [RP_mem _ _ _ rfl]
  simp only [memop,pev,Option.map_map]
  rfl
theorem RP_nilck (F:Tbl) {fr:Fr} {m:Mem} {x}:RP F (.nilck x) fr m=(match x.ev fr with | .ptr b o=>some (.ptr b o,m) | .fn f a c=>some (.fn f a c,m) | .yld b=>some (.yld b,m) | _=>none):=by
  rw [RP_mem _ _ _ rfl]
  simp only [memop,pev]
  generalize x.ev fr=vx
  cases vx <;> rfl
theorem RP_bin (F:Tbl) {fr:Fr} {m:Mem} {op} {x} {y}:RP F (.bin op x y) fr m=(binv op (x.ev fr) (y.ev fr)).map fun v=>(v,m):=by
  rw [RP_mem _ _ _ rfl]
  first | rfl | (simp only [memop,pev]; (first | rfl | (repeat' split) <;> simp_all [Option.map_map,Function.comp_def]))
theorem RP_eq (F:Tbl) {fr:Fr} {m:Mem} {neg} {ag} {ks} {x} {y}:RP F (.eq neg ag ks x y) fr m=(if likeK ag ks (x.ev fr) ∧ likeK ag ks (y.ev fr) then (seq (x.ev fr) (y.ev fr)).map fun b=>(.bool (b != neg),m) else none):=by
  rw [RP_mem _ _ _ rfl]
  simp only [memop,pev]
  split
  · simp only [Option.map_map]; rfl
  · rfl
theorem RP_un (F:Tbl) {fr:Fr} {m:Mem} {op} {x}:RP F (.un op x) fr m=(unv op (x.ev fr)).map fun v=>(v,m):=by
  rw [RP_mem _ _ _ rfl]
  first | rfl | (simp only [memop,pev]; (first | rfl | (repeat' split) <;> simp_all [Option.map_map,Function.comp_def]))
theorem RP_conv (F:Tbl) {fr:Fr} {m:Mem} {k} {x}:RP F (.conv k x) fr m=(match x.ev fr with | .int _ n=>some (.int k (k.wrap n),m) | _=>none):=by
  rw [RP_mem _ _ _ rfl]
  simp only [memop,pev]
  generalize x.ev fr=vx
  cases vx <;> rfl
theorem RP_mkfn (F:Tbl) {fr:Fr} {m:Mem} {f} {first} {caps}:RP F (.mkfn f first caps) fr m=some (.fn f (first.map (·.ev fr)) (caps.map (·.ev fr)),m):=by
  rw [RP_mem _ _ _ rfl]
  first | rfl | (simp only [memop,pev]; (first | rfl | (repeat' split) <;> simp_all [Option.map_map,Function.comp_def]))
theorem RP_faddr (F:Tbl) {fr:Fr} {m:Mem} {off} {x}:RP F (.faddr off x) fr m=(match x.ev fr with | .ptr b o=>some (.ptr b (o + off),m) | _=>none):=by
  rw [RP_mem _ _ _ rfl]
  simp only [memop,pev]
  generalize x.ev fr=vx
  cases vx <;> rfl
theorem RP_field (F:Tbl) {fr:Fr} {m:Mem} {off} {n} {x}:RP F (.field off n x) fr m=(match x.ev fr with | .agg l=>(partv l off n).map fun v=>(v,m) | _=>none):=by
  rw [RP_mem _ _ _ rfl]
  simp only [memop,pev]
  generalize x.ev fr=vx
  cases vx <;> rfl
theorem RP_ext (F:Tbl) {fr:Fr} {m:Mem} {x} {i}:RP F (.ext x i) fr m=(match x.ev fr with | .tup l=>(l[i]?).map fun v=>(v,m) | _=>none):=by
  rw [RP_mem _ _ _ rfl]
  simp only [memop,pev]
  generalize x.ev fr=vx
  cases vx <;> rfl
theorem RP_len (F:Tbl) {fr:Fr} {m:Mem} {x}:RP F (.len x) fr m=(match x.ev fr with | .nils=>some (.i 0,m) | .sl _ _ n _ _=>some (.i n,m) | .emp=>some (.i 0,m) | _=>none):=by
  rw [RP_mem _ _ _ rfl]
  simp only [memop,pev]
  generalize x.ev fr=vx
  cases vx <;> rfl
theorem RP_slen (F:Tbl) {fr:Fr} {m:Mem} {x}:RP F (.slen x) fr m=(match x.ev fr with | .str s=>some (.i s.size,m) | _=>none):=by
  rw [RP_mem _ _ _ rfl]
  simp only [memop,pev]
  generalize x.ev fr=vx
  cases vx <;> rfl
theorem RP_iaddr (F:Tbl) {fr:Fr} {m:Mem} {esz} {x} {i}:RP F (.iaddr esz x i) fr m=(match x.ev fr,i.ev fr with | .sl b off len _ _,.int _ i=>if inB i len then some (.ptr b (off + i.toNat * esz),m) else none | _,_=>none):=by
  rw [RP_mem _ _ _ rfl]
  simp only [memop,pev]
  generalize x.ev fr=vx
  generalize i.ev fr=vi
  cases vx <;> first | rfl | (cases vi <;> first | rfl | (simp only; split <;> rfl))
theorem RP_iaddrA (F:Tbl) {fr:Fr} {m:Mem} {len} {esz} {x} {i}:RP F (.iaddrA len esz x i) fr m=(match x.ev fr,i.ev fr with | .ptr b off,.int _ i=>if inB i len then some (.ptr b (off + i.toNat * esz),m) else none | _,_=>none):=by
  rw [RP_mem _ _ _ rfl]
  simp only [memop,pev]
  generalize x.ev fr=vx
  generalize i.ev fr=vi
  cases vx <;> first | rfl | (cases vi <;> first | rfl | (simp only; split <;> rfl))
theorem RP_idxA (F:Tbl) {fr:Fr} {m:Mem} {len} {esz} {ag} {x} {i}:RP F (.idxA len esz ag x i) fr m=(match x.ev fr,i.ev fr with | .agg l,.int _ i=>if inB i len then (partv l (i.toNat * esz) (if ag then some esz else none)).map fun v=>(v,m) else none | _,_=>none):=by
  rw [RP_mem _ _ _ rfl]
  simp only [memop,pev]
  generalize x.ev fr=vx
  generalize i.ev fr=vi
  cases vx <;> first | rfl | (cases vi <;> first | rfl | (simp only; split <;> rfl))
theorem RP_mxmn (F:Tbl) {fr:Fr} {m:Mem} {mx} {xs}:RP F (.mxmn mx xs) fr m=(match xs.map (·.ev fr) with | []=>none | x :: r=>(mxmnL mx x r).map fun v=>(v,m)):=by
  rw [RP_mem _ _ _ rfl]
  simp only [memop,pev]
  generalize xs.map (·.ev fr)=l
  cases l <;> rfl
theorem RP_add64 (F:Tbl) {fr:Fr} {m:Mem} {x} {y} {c}:RP F (.add64 x y c) fr m=(add64v (x.ev fr) (y.ev fr) (c.ev fr)).map fun v=>(v,m):=by
  rw [RP_mem _ _ _ rfl]
  rfl
theorem RP_slice (F:Tbl) {fr:Fr} {m:Mem} {esz x lo hi mx}:RP F (.slice esz x lo hi mx) fr m=(pev (.slice esz x lo hi mx) fr).map fun v=>(v,m):=by
  rw [RP_mem _ _ _ rfl]
  rfl
theorem RP_sliceStr (F:Tbl) {fr:Fr} {m:Mem} {x lo hi}:RP F (.sliceStr x lo hi) fr m=(pev (.sliceStr x lo hi) fr).map fun v=>(v,m):=by
  rw [RP_mem _ _ _ rfl]
  rfl
theorem RP_idxS (F:Tbl) {fr:Fr} {m:Mem} {x i}:RP F (.idxS x i) fr m=(pev (.idxS x i) fr).map fun v=>(v,m):=by
  rw [RP_mem _ _ _ rfl]
  rfl
theorem RP_bslice (F:Tbl) {fr:Fr} {m:Mem} {z len esz ps}:RP F (.bslice z len esz ps) fr m=(fillv z (ps.map fun (o,s,x)=>(o,s,x.ev fr))).bind fun c=>if SV.cellsOk 0 0 c then (m.new false (.cells true c)).map fun (b,m)=>(.sl b 0 len (some len) esz,m) else none:=by
  rw [RP_mem _ _ _ rfl]
  rfl
theorem RP_mkmap (F:Tbl) {fr:Fr} {m:Mem}:RP F .mkmap fr m=(m.new false (.map [])).map fun (b,m)=>(.map b,m):=by
  rw [RP_mem _ _ _ rfl]
  rfl
theorem RP_alloc (F:Tbl) {fr:Fr} {m:Mem} {st} {z}:RP F (.alloc st z) fr m=(if SV.cellsOk 0 0 z then (m.new st (.cells true z)).map fun (b,m)=>(.ptr b 0,m) else none):=by
  rw [RP_mem _ _ _ rfl]
  first | rfl | (simp only [memop,pev]; (first | rfl | (repeat' split) <;> simp_all [Option.map_map,Function.comp_def]))
theorem RP_box (F:Tbl) {fr:Fr} {m:Mem} {st} {n} {x}:RP F (.box st n x) fr m=(if (x.ev fr).cells.length=n ∧ (if st then SV.cellsOk m.lvl.1 m.lvl.2 (x.ev fr).cells else SV.cellsOk 0 0 (x.ev fr).cells) then (m.new st (.cells true (x.ev fr).cells)).map fun (b,m)=>(.ptr b 0,m) else none):=by
  rw [RP_mem _ _ _ rfl]
  first | rfl | (simp only [memop,pev]; (first | rfl | (repeat' split) <;> simp_all [Option.map_map,Function.comp_def]))
theorem RP_load (F:Tbl) {fr:Fr} {m:Mem} {n} {a}:RP F (.load n a) fr m=(match a.ev fr with | .ptr b off=>(m.load b off n).map fun v=>(v,m) | _=>none):=by
  rw [RP_mem _ _ _ rfl]
  first | rfl | (simp only [memop,pev]; (first | rfl | (repeat' split) <;> simp_all [Option.map_map,Function.comp_def]))
theorem RP_store (F:Tbl) {fr:Fr} {m:Mem} {n} {lo} {a} {x}:RP F (.store n lo a x) fr m=(match a.ev fr with | .ptr b off=>if (x.ev fr).cells.length=n ∧ awayL fr b lo then (m.store b off (x.ev fr).cells).map fun m=>(.tup [],m) else none | _=>none):=by
  rw [RP_mem _ _ _ rfl]
  first | rfl | (simp only [memop,pev]; (first | rfl | (repeat' split) <;> simp_all [Option.map_map,Function.comp_def]))
end
inductive KI where
  | seq (c:SCode)
  | block (id:Nat)
  | kp (ks:List Nat)
  | loop (k:Nat) (ks:Option (List Nat)) (c:SCode)
noncomputable def unK (F:Tbl):List KI → SEx × Fr × Mem → Option (SEx × Fr × Mem)
  | [],r=>some r
  | .seq c :: K,(.normal,fr,m)=>(RC F c fr m).bind (unK F K)
  | .seq _ :: K,r=>unK F K r
  | .block id :: K,(e,fr,m)=>unK F K (if e=.exit id then .normal else e,fr,m)
  | .kp ks :: K,(e,fr,m)=>unK F K (e,if e=.normal then fr.keep ks else fr,m)
  | .loop k ks c :: K,(.normal,fr,m)=>(RL F k ks c fr m).bind (unK F K)
  | .loop _ _ _ :: K,r=>unK F K r
noncomputable def RK (F:Tbl) (K:List KI) (c:SCode) (fr:Fr) (m:Mem):Option (SEx × Fr × Mem):=(RC F c fr m).bind (unK F K)
noncomputable def RJ (F:Tbl) (K:List KI) (e:SEx) (fr:Fr) (m:Mem):Option (SEx × Fr × Mem):=unK F K (e,fr,m)
noncomputable def KO (F:Tbl) (K:List KI) (d:Bool) (l:List SOper) (fr:Fr) (m:Mem):Option (SEx × Fr × Mem):=(RO F d l fr m).bind fun x=>RJ F K .normal x.1 x.2
noncomputable def KG (F:Tbl) (K:List KI) (d:Bool) (g:Option Bool) (o:SOper) (l:List SOper) (fr:Fr) (m:Mem):Option (SEx × Fr × Mem) :=
  g.bind fun w=>if w then (RS F d o fr m).bind fun x=>KO F K d l (fr.put o.dst x.1) x.2 else KO F K d l (fr.put o.dst (.tup [])) m
noncomputable def KV (F:Tbl) (K:List KI) (d:Bool) (x:Option (SV × Mem)) (dst:Option Nat) (l:List SOper) (fr:Fr):Option (SEx × Fr × Mem):=x.bind fun x=>KO F K d l (fr.put dst x.1) x.2
noncomputable def KC (F:Tbl) (K:List KI) (v:SV) (a b:SCode) (fr:Fr) (m:Mem):Option (SEx × Fr × Mem) :=
  match v with
  | .bool t=>if t then RK F K a fr m else RK F K b fr m
  | _=>none
variable {F:Tbl} {K:List KI} {fr:Fr} {m:Mem}
theorem RK_skip:RK F K .skip fr m=RJ F K .normal fr m:=by simp [RK,RC_skip,RJ]
theorem RK_ret:RK F K .ret fr m=RJ F K .ret fr m:=by simp [RK,RC_ret,RJ]
theorem RK_exit (i:Nat):RK F K (.exit i) fr m=RJ F K (.exit i) fr m:=by simp [RK,RC_exit,RJ]
theorem RK_seq (a b:SCode):RK F K (.seq a b) fr m=RK F (.seq b :: K) a fr m:=by
  unfold RK
  rw [RC_seq,Option.bind_assoc]
  congr 1
  funext ⟨e,fr,m⟩
  cases e <;> simp [unK]
theorem RK_block (i:Nat) (c:SCode):RK F K (.block i c) fr m=RK F (.block i :: K) c fr m:=by
  unfold RK
  rw [RC_block,Option.bind_map]
  congr 1
theorem RK_kp (ks:List Nat) (c:SCode):RK F K (.kp ks c) fr m=RK F (.kp ks :: K) c fr m:=by
  unfold RK
  rw [RC_kp,Option.bind_map]
  congr 1
theorem RK_cond (c:Opd) (a b:SCode):RK F K (.cond c a b) fr m=KC F K (c.ev fr) a b fr m:=by
  unfold RK KC
  rw [RC_cond]
  generalize c.ev fr=x
  cases x with
  | bool t=>cases t <;> rfl
  | _=>rfl
theorem KC_true (a b:SCode):KC F K (.bool true) a b fr m=RK F K a fr m:=rfl
theorem KC_false (a b:SCode):KC F K (.bool false) a b fr m=RK F K b fr m:=rfl
theorem KC_bool (t:Bool) (a b:SCode):KC F K (.bool t) a b fr m=if t=true then RK F K a fr m else RK F K b fr m:=rfl
theorem RK_region (d:Bool) (l:List SOper):RK F K (.region d l) fr m=KO F K d l fr m:=by
  unfold RK KO
  rw [RC_region,Option.bind_map]
  rfl
theorem KO_nil (d:Bool):KO F K d [] fr m=RJ F K .normal fr m:=by simp [KO,RO_nil]
theorem KO_cons (d:Bool) (o:SOper) (l:List SOper):KO F K d (o :: l) fr m=KG F K d (wantedS fr o.guard) o l fr m:=by
  unfold KO KG
  rw [RO_cons,Option.bind_assoc]
  congr 1
  funext w
  cases w
  · rfl
  · simp only [if_true,Option.bind_assoc]; rfl
theorem KG_true (d:Bool) (o:SOper) (l:List SOper):KG F K d (some true) o l fr m=KV F K d (RS F d o fr m) o.dst l fr:=rfl
theorem KG_false (d:Bool) (o:SOper) (l:List SOper):KG F K d (some false) o l fr m=KO F K d l (fr.put o.dst (.tup [])) m:=rfl
theorem KG_bool (t:Bool) (d:Bool) (o:SOper) (l:List SOper):KG F K d (some t) o l fr m=if t=true then KV F K d (RS F d o fr m) o.dst l fr else KO F K d l (fr.put o.dst (.tup [])) m:=by cases t <;> rfl
theorem KV_some (d:Bool) (v:SV) (dst:Option Nat) (l:List SOper):KV F K d (some (v,m)) dst l fr=KO F K d l (fr.put dst v) m:=rfl
theorem RJ_nil (e:SEx):RJ F [] e fr m=some (e,fr,m):=rfl
theorem RJ_seq (c:SCode):RJ F (.seq c :: K) .normal fr m=RK F K c fr m:=rfl
theorem RJ_seq_ret (c:SCode):RJ F (.seq c :: K) .ret fr m=RJ F K .ret fr m:=rfl
theorem RJ_seq_exit (c:SCode) (i:Nat):RJ F (.seq c :: K) (.exit i) fr m=RJ F K (.exit i) fr m:=rfl
theorem RJ_block (i:Nat):RJ F (.block i :: K) .normal fr m=RJ F K .normal fr m:=rfl
theorem RJ_block_ret (i:Nat):RJ F (.block i :: K) .ret fr m=RJ F K .ret fr m:=rfl
theorem RJ_block_exit (i j:Nat):RJ F (.block i :: K) (.exit j) fr m=if j=i then RJ F K .normal fr m else RJ F K (.exit j) fr m:=by
  simp only [RJ,unK,SEx.exit.injEq]
  split <;> rfl
theorem RJ_kp (ks:List Nat):RJ F (.kp ks :: K) .normal fr m=RJ F K .normal (fr.keep ks) m:=rfl
theorem RJ_kp_ret (ks:List Nat):RJ F (.kp ks :: K) .ret fr m=RJ F K .ret fr m:=rfl
theorem RJ_kp_exit (ks:List Nat) (i:Nat):RJ F (.kp ks :: K) (.exit i) fr m=RJ F K (.exit i) fr m:=rfl
theorem RC_RK (c:SCode):RC F c fr m=RK F [] c fr m:=by
  unfold RK
  cases RC F c fr m <;> rfl
noncomputable def KL (F:Tbl) (K:List KI) (k:Nat) (ks:Option (List Nat)) (c:SCode) (fr:Fr) (m:Mem):Option (SEx × Fr × Mem):=(RL F k ks c fr m).bind (unK F K)
noncomputable def KH (F:Tbl) (K:List KI) (k:Nat) (ks:Option (List Nat)) (c:SCode) (x:Option (Fr × Mem)):Option (SEx × Fr × Mem):=x.bind fun x=>RK F (.loop k ks c :: K) c x.1 x.2
theorem RK_loop (ks:Option (List Nat)) (c:SCode):RK F K (.loop ks c) fr m=KL F K m.lvl.2 ks c fr m:=by
  unfold RK KL
  rw [RC_loop]
theorem KL_go (k:Nat) (ks:Option (List Nat)) (c:SCode):KL F K k ks c fr m=KH F K k ks c (headL k ks fr m):=by
  unfold KL KH RK
  rw [RL_eq,Option.bind_assoc]
  congr 1
  funext ⟨fr,m⟩
  rw [Option.bind_assoc]
  congr 1
  funext ⟨e,fr,m⟩
  cases e <;> simp [unK]
theorem KH_some (k:Nat) (ks:Option (List Nat)) (c:SCode):KH F K k ks c (some (fr,m))=RK F (.loop k ks c :: K) c fr m:=rfl
theorem RJ_loop (k:Nat) (ks:Option (List Nat)) (c:SCode):RJ F (.loop k ks c :: K) .normal fr m=KL F K k ks c fr m:=rfl
theorem RJ_loop_ret (k:Nat) (ks:Option (List Nat)) (c:SCode):RJ F (.loop k ks c :: K) .ret fr m=RJ F K .ret fr m:=rfl
theorem RJ_loop_exit (k:Nat) (ks:Option (List Nat)) (c:SCode) (i:Nat):RJ F (.loop k ks c :: K) (.exit i) fr m=RJ F K (.exit i) fr m:=rfl
theorem trim_fr (m:Mem) (f:List SBk) (e:Option Nat) (k:Nat):(m.fr f e).trim k=m.fr (f.take k) e:=rfl
def fin (res:List SRes) (m:Mem) (x:Option (SEx × Fr × Mem)):Option (SV × Mem):=x.bind (outF ⟨0,res,.skip⟩ m)
theorem fin_ret (res:List SRes) (m:Mem) (fr:Fr) (m':Mem):fin res m (some (.ret,fr,m'))=(resvs fr m' res).bind fun vs=>if SV.lvs m.dep 0 vs then some (pack vs,m'.back m (SV.hxs vs)) else none:=rfl
theorem fin_normal (res:List SRes) (m:Mem) (fr:Fr) (m':Mem):fin res m (some (.normal,fr,m'))=(resvs fr m' res).bind fun vs=>if SV.lvs m.dep 0 vs then some (pack vs,m'.back m (SV.hxs vs)) else none:=rfl
theorem lv_own (d i j:Nat):Bk.lv d j (.st d i)=decide (i < j):=by simp [Bk.lv]
theorem lv_hp (d j n v:Nat):Bk.lv d j (.hp n v)=true:=rfl
def Mem.shutAs (m₂ m:Mem):Mem:={ m₂ with hb:=m.heap.length,db:=m.stk.length }
theorem shut_new_fr (m:Mem) (f:List SBk) (e:Option Nat) (x:SBk):(m.fr f e).shut.new true x=some (.st m.dep f.length,(m.fr (f ++ [x]) e).shutAs (m.fr f e)):=by
  simp [Mem.shut,Mem.shutAs,Mem.fr,Mem.new,Mem.dep]
theorem shutAs_reopen (m m₀:Mem) (f g:List SBk) (e e':Option Nat):((m.fr g e).shutAs m₀).reopen (m.fr f e')=m.fr g e:=rfl
theorem shut_lvl (m:Mem):m.shut.lvl=m.lvl:=rfl
def mxI (a b:Int):Int:=if b > a then b else a
def mnI (a b:Int):Int:=if b < a then b else a
theorem mxmn2_mx (k:IntKind) (x y:Int):mxmn2 true (.int k x) (.int k y)=some (.int k (mxI x y)):=by simp [mxmn2,mxI]
theorem mxmn2_mn (k:IntKind) (x y:Int):mxmn2 false (.int k x) (.int k y)=some (.int k (mnI x y)):=by simp [mxmn2,mnI]
theorem bne_tt (b:Bool):(b != false)=b:=by cases b <;> rfl
theorem bne_ff (b:Bool):(b != true)=!b:=by cases b <;> rfl
theorem keep_keep (fr:Fr) (ks:List Nat):(fr.keep ks).keep ks=fr.keep ks:=by
  unfold Fr.keep
  refine List.map_congr_left fun k hk=>?_
  have:=Fr.get_keep fr ks k
  rw [if_pos hk] at this
  rw [show (ks.map fun k=>(k,fr.get k))=fr.keep ks from rfl,this]
theorem trim_trim (m:Mem) (k:Nat):(m.trim k).trim k=m.trim k:=by
  unfold Mem.trim
  cases h:m.stk with
  | nil=>simp [h]
  | cons f r=>simp [List.take_take]
theorem trim_lvl1 (m:Mem) (k:Nat):(m.trim k).lvl.1=m.lvl.1:=by
  unfold Mem.trim Mem.lvl
  cases h:m.stk <;> simp [h]
theorem KL_keep (k:Nat) (ks:List Nat) (c:SCode) (h:SV.lvs m.lvl.1 k ((fr.keep ks).map Prod.snd)=true):KL F K k (some ks) c fr m=KL F K k (some ks) c (fr.keep ks) (m.trim k):=by
  rw [KL_go,KL_go]
  simp only [headL,h,if_true,keep_keep,trim_trim,trim_lvl1]
theorem RF_go {f:FuncId} {sf:SFn} (hf:F f=some sf) (args:List SV) (m:Mem) (h:args.length=sf.np):RF F f args m=fin sf.res m (RK F [] sf.body (argFr 0 args) m.push):=by
  rw [RF_eq hf,if_pos h,RC_RK]
  unfold fin
  congr 1
theorem awayB_go (fr:Fr) (lo:List Opd) (m:Mem) (v:SV) (m':Mem):awayB fr lo m (v,m')=open Classical in if awayP fr lo m m' then some (v,m') else none:=id rfl
theorem awayP_nil (fr:Fr) (m m':Mem):awayP fr [] m m'=True:=id rfl
theorem awayP_cons (fr:Fr) (o:Opd) (r:List Opd) (m m':Mem):awayP fr (o :: r) m m'=(away1 (o.ev fr) m m' ∧ awayP fr r m m'):=id rfl
theorem away1_ptr (b:Bk) (off:Nat) (m m':Mem):away1 (.ptr b off) m m'=(m'.get b=m.get b):=id rfl
theorem cells_unk :SV.cells .unk=[.unk]:=rfl
theorem known_unk :SV.known .unk=false:=rfl
theorem cell_unk (d i:Nat) :SV.cell d i .unk=false:=by simp only [SV.cell,SV.lv]
theorem isAgg_unk :SV.isAgg .unk=false:=rfl
theorem cells_bool (b:Bool):SV.cells (.bool b)=[.bool b]:=rfl
theorem known_bool (b:Bool):SV.known (.bool b)=true:=rfl
theorem cell_bool (d i:Nat) (b:Bool):SV.cell d i (.bool b)=true:=by simp only [SV.cell,SV.lv]
theorem isAgg_bool (b:Bool):SV.isAgg (.bool b)=false:=rfl
theorem cells_int (k:IntKind) (n:Int):SV.cells (.int k n)=[.int k n]:=rfl
theorem known_int (k:IntKind) (n:Int):SV.known (.int k n)=true:=rfl
theorem cell_int (d i:Nat) (k:IntKind) (n:Int):SV.cell d i (.int k n)=true:=by simp only [SV.cell,SV.lv]
theorem isAgg_int (k:IntKind) (n:Int):SV.isAgg (.int k n)=false:=rfl
theorem cells_str (s:ByteArray):SV.cells (.str s)=[.str s]:=rfl
theorem known_str (s:ByteArray):SV.known (.str s)=true:=rfl
theorem cell_str (d i:Nat) (s:ByteArray):SV.cell d i (.str s)=true:=by simp only [SV.cell,SV.lv]
theorem isAgg_str (s:ByteArray):SV.isAgg (.str s)=false:=rfl
theorem cells_nilp :SV.cells .nilp=[.nilp]:=rfl
theorem known_nilp :SV.known .nilp=true:=rfl
theorem cell_nilp (d i:Nat) :SV.cell d i .nilp=true:=by simp only [SV.cell,SV.lv]
theorem isAgg_nilp :SV.isAgg .nilp=false:=rfl
theorem cells_ptr (b:Bk) (o:Nat):SV.cells (.ptr b o)=[.ptr b o]:=rfl
theorem known_ptr (b:Bk) (o:Nat):SV.known (.ptr b o)=true:=rfl
theorem cell_ptr (d i:Nat) (b:Bk) (o:Nat):SV.cell d i (.ptr b o)=Bk.lv d i b:=by simp only [SV.cell,SV.lv]
theorem isAgg_ptr (b:Bk) (o:Nat):SV.isAgg (.ptr b o)=false:=rfl
theorem cells_nils :SV.cells .nils=[.nils]:=rfl
theorem known_nils :SV.known .nils=true:=rfl
theorem cell_nils (d i:Nat) :SV.cell d i .nils=true:=by simp only [SV.cell,SV.lv]
theorem isAgg_nils :SV.isAgg .nils=false:=rfl
theorem cells_sl (b:Bk) (o n:Nat) (c:Option Nat) (z:Nat):SV.cells (.sl b o n c z)=[.sl b o n c z]:=rfl
theorem known_sl (b:Bk) (o n:Nat) (c:Option Nat) (z:Nat):SV.known (.sl b o n c z)=true:=rfl
theorem cell_sl (d i:Nat) (b:Bk) (o n:Nat) (c:Option Nat) (z:Nat):SV.cell d i (.sl b o n c z)=Bk.lv d i b:=by simp only [SV.cell,SV.lv]
theorem isAgg_sl (b:Bk) (o n:Nat) (c:Option Nat) (z:Nat):SV.isAgg (.sl b o n c z)=false:=rfl
theorem cells_nilm :SV.cells .nilm=[.nilm]:=rfl
theorem known_nilm :SV.known .nilm=true:=rfl
theorem cell_nilm (d i:Nat) :SV.cell d i .nilm=true:=by simp only [SV.cell,SV.lv]
theorem isAgg_nilm :SV.isAgg .nilm=false:=rfl
theorem cells_map (b:Bk):SV.cells (.map b)=[.map b]:=rfl
theorem known_map (b:Bk):SV.known (.map b)=true:=rfl
theorem cell_map (d i:Nat) (b:Bk):SV.cell d i (.map b)=Bk.lv d i b:=by simp only [SV.cell,SV.lv]
theorem isAgg_map (b:Bk):SV.isAgg (.map b)=false:=rfl
theorem cells_fn (f:FuncId) (x y:List SV):SV.cells (.fn f x y)=[.fn f x y]:=rfl
theorem known_fn (f:FuncId) (x y:List SV):SV.known (.fn f x y)=true:=rfl
theorem cell_fn (d i:Nat) (f:FuncId) (x y:List SV):SV.cell d i (.fn f x y)=(SV.lvs d i x && SV.lvs d i y):=by simp only [SV.cell,SV.lv]
theorem isAgg_fn (f:FuncId) (x y:List SV):SV.isAgg (.fn f x y)=false:=rfl
theorem cells_nilf :SV.cells .nilf=[.nilf]:=rfl
theorem known_nilf :SV.known .nilf=true:=rfl
theorem cell_nilf (d i:Nat) :SV.cell d i .nilf=true:=by simp only [SV.cell,SV.lv]
theorem isAgg_nilf :SV.isAgg .nilf=false:=rfl
theorem cells_yld (b:Bk):SV.cells (.yld b)=[.yld b]:=rfl
theorem known_yld (b:Bk):SV.known (.yld b)=true:=rfl
theorem cell_yld (d i:Nat) (b:Bk):SV.cell d i (.yld b)=Bk.lv d i b:=by simp only [SV.cell,SV.lv]
theorem isAgg_yld (b:Bk):SV.isAgg (.yld b)=false:=rfl
theorem cells_agg (l:List SV):SV.cells (.agg l)=l:=rfl
theorem known_agg (l:List SV):SV.known (.agg l)=true:=rfl
theorem cell_agg (d i:Nat) (l:List SV):SV.cell d i (.agg l)=false:=by simp only [SV.cell,SV.lv]
theorem isAgg_agg (l:List SV):SV.isAgg (.agg l)=true:=rfl
theorem cells_tup (l:List SV):SV.cells (.tup l)=[.tup l]:=rfl
theorem known_tup (l:List SV):SV.known (.tup l)=true:=rfl
theorem cell_tup (d i:Nat) (l:List SV):SV.cell d i (.tup l)=false:=by simp only [SV.cell,SV.lv]
theorem isAgg_tup (l:List SV):SV.isAgg (.tup l)=false:=rfl
theorem cells_emp :SV.cells .emp=[.emp]:=rfl
theorem known_emp :SV.known .emp=true:=rfl
theorem cell_emp (d i:Nat) :SV.cell d i .emp=true:=by simp only [SV.cell,SV.lv]
theorem isAgg_emp :SV.isAgg .emp=false:=rfl
attribute [go_sem] RP_callL awayB_go awayP_nil awayP_cons away1_ptr
attribute [go_sem] RS wantedS RP_call RP_callv RP_mv RP_cnst RP_pick RP_build RP_nilck RP_bin RP_eq RP_un RP_conv RP_mkfn RP_faddr RP_field RP_ext RP_slen RP_iaddrA RP_idxA RP_mxmn RP_add64 RP_sliceStr RP_idxS RP_bslice RP_mkmap RP_alloc RP_box RP_load RP_store Opd.ev Fr.get Fr.put binv unv likeK kdsOk Kd.ok seq seqs push_fr new_fr load_fr store_fr get_fr back_fr resvs resv pack SV.lvs SV.lv SV.hxs SV.hx partv SV.cellsOk fillv argFr shut_reopen shut_load Option.bind_some Option.map_some Option.bind_none Option.map_none if_true if_false Bool.true_and Bool.and_true Bool.false_and Bool.and_false Bool.false_eq_true List.length_cons List.length_nil List.map_cons List.map_nil List.getElem?_cons_zero List.getElem?_cons_succ List.getElem?_nil List.nil_append List.cons_append List.append_nil List.take_zero List.take_succ_cons List.drop_zero List.drop_succ_cons List.take_nil List.drop_nil List.set_cons_zero List.set_cons_succ List.all_cons List.all_nil and_self and_true true_and fr_lvl fr_db frs_db fr_dep frs_dep lt_addr lt_succ1 lt_succ2 le_addr le_succ2 get_hp_fr get_hp_frs get_lt_fr get_lt_frs load_hp_fr load_hp_frs load_lt_fr load_lt_frs frs_wf Nat.zero_add Nat.add_zero Bool.not_true Bool.not_false beq_self_eq_true bne_self_eq_false Nat.le_refl Bool.and_self decide_true decide_false decide_eq_true_eq beq_true beq_false Bool.not_eq_true' decide_eq_false_iff_not not_false_eq_true RK_skip RK_ret RK_exit RK_seq RK_block RK_kp RK_cond KC_true KC_false RK_region KO_nil KO_cons KG_true KG_false KV_some RJ_nil RJ_seq RJ_seq_ret RJ_seq_exit RJ_block RJ_block_ret RJ_block_exit RJ_kp RJ_kp_ret RJ_kp_exit fin_ret fin_normal awayL RK_loop KH_some RJ_loop RJ_loop_ret RJ_loop_exit trim_fr headL Fr.keep lv_own lv_hp bne_tt bne_ff mxmnL mxmn2_mx mxmn2_mn shut_new_fr shutAs_reopen shut_lvl Int.cast_ofNat_Int fr_wf shut_wf ne_eq Bk.st.injEq Bk.hp.injEq and_false false_and not_true_eq_false ite_not
attribute [go_sem] cells_unk known_unk cell_unk isAgg_unk cells_bool known_bool cell_bool isAgg_bool cells_int known_int cell_int isAgg_int cells_str known_str cell_str isAgg_str cells_nilp known_nilp cell_nilp isAgg_nilp cells_ptr known_ptr cell_ptr isAgg_ptr cells_nils known_nils cell_nils isAgg_nils cells_sl known_sl cell_sl isAgg_sl cells_nilm known_nilm cell_nilm isAgg_nilm cells_map known_map cell_map isAgg_map cells_fn known_fn cell_fn isAgg_fn cells_nilf known_nilf cell_nilf isAgg_nilf cells_yld known_yld cell_yld isAgg_yld cells_agg known_agg cell_agg isAgg_agg cells_tup known_tup cell_tup isAgg_tup cells_emp known_emp cell_emp isAgg_emp
end Go.Sh
