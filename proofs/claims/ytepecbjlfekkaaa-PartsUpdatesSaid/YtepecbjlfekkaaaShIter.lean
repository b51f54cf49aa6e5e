import Derived.Test.YtepecbjlfekkaaaShWalk
set_option linter.all false
set_option linter.unusedVariables false
set_option linter.unusedSimpArgs false
set_option autoImplicit false
namespace Go.Sh
variable {F:Tbl} {K:List KI} {fr:Fr} {m:Mem}
def Mem.stq (m:Mem) (b:Bk) (off:Nat) (vs:List SV):Option Mem :=
  if SV.cellsOk b.room.1 b.room.2 vs then
    match m.get b with
    | some (.cells true c)=>if off + vs.length ≤ c.length then some (m.set b (.cells true (c.take off ++ vs ++ c.drop (off + vs.length)))) else none
    | _=>none
  else none
theorem set_fr (m:Mem) (f:List SBk) (e:Option Nat) {d:Nat} (i:Nat) (x:SBk) (hd:d=m.dep):(m.fr f e).set (.st d i) x=m.fr (f.set i x) e:=by subst hd; simp [Mem.fr,Mem.set,stkSet,Mem.dep]
theorem set_lt_fr (m:Mem) (f:List SBk) (e:Option Nat) {d:Nat} (i:Nat) (x:SBk) (h:d < m.dep):(m.fr f e).set (.st d i) x=(m.set (.st d i) x).fr f e:=by
  have:¬ d=m.stk.length:=Nat.ne_of_lt h
  simp [Mem.fr,Mem.set,stkSet,this]
theorem set_lt_frs (m:Mem) (f:List (List SBk)) (e:Option Nat) {d:Nat} (i:Nat) (x:SBk) (h:d < m.dep):(m.frs f e).set (.st d i) x=(m.set (.st d i) x).frs f e:=by
  simp [Mem.frs,Mem.set,stkSet_app f m.stk i x h]
theorem set_hp_fr (m:Mem) (f:List SBk) (e:Option Nat) (n v:Nat) (x:SBk):(m.fr f e).set (.hp n v) x=(m.set (.hp n v) x).fr f e:=rfl
theorem set_hp_frs (m:Mem) (f:List (List SBk)) (e:Option Nat) (n v:Nat) (x:SBk):(m.frs f e).set (.hp n v) x=(m.set (.hp n v) x).frs f e:=rfl
theorem store_lt_fr (m:Mem) (f:List SBk) (e:Option Nat) {d:Nat} (i off:Nat) (vs:List SV) (h:d < m.dep) (hdb:m.db ≤ d) :
    (m.fr f e).store (.st d i) off vs=(m.stq (.st d i) off vs).map fun m'=>m'.fr f (if SV.hxs vs=0 then e else some 0):=by
  have hm:(m.fr f e).may (.st d i)=true:=by simp only [Mem.may,fr_db]; exact decide_eq_true hdb
  simp only [Mem.store,hm,true_and,get_lt_fr m f e i h,Mem.stq]
  split
  · cases m.get (.st d i) with
    | none=>rfl
    | some y =>
      cases y with
      | cells rw c =>
        cases rw with
        | false=>rfl
        | true =>
          simp only
          split
          · simp only [Option.map_some,set_lt_fr m f e i _ h,Option.some.injEq,Mem.note]
            by_cases hz:SV.hxs vs=0
            · simp [hz]
            · have:¬ ((m.set (.st d i) (.cells true (c.take off ++ vs ++ c.drop (off + vs.length)))).fr f e).stk.length ≤ d + 1:=by
                simp only [Mem.fr,List.length_cons,Mem.set,stkSet_length]
                have:d < m.stk.length:=h
                omega
              simp only [hz,this,or_self,if_false]
              rfl
          · rfl
      | _=>rfl
  · rfl
theorem store_hp_fr (m:Mem) (f:List SBk) (e:Option Nat) (n v off:Nat) (vs:List SV) (hb:m.hb ≤ n) :
    (m.fr f e).store (.hp n v) off vs=(m.stq (.hp n v) off vs).map fun m'=>m'.fr f (if SV.hxs vs ≤ n then e else escMin e (some n)):=by
  have hm:(m.fr f e).may (.hp n v)=true:=by simp only [Mem.may,fr_hb]; exact decide_eq_true hb
  simp only [Mem.store,hm,true_and,get_hp_fr,Mem.stq]
  split
  · cases m.get (.hp n v) with
    | none=>rfl
    | some y =>
      cases y with
      | cells rw c =>
        cases rw with
        | false=>rfl
        | true =>
          simp only
          split
          · simp only [Option.map_some,set_hp_fr,Option.some.injEq,Mem.note]
            split <;> rfl
          · rfl
      | _=>rfl
  · rfl
theorem stq_lt_frs (m:Mem) (f:List (List SBk)) (e:Option Nat) {d:Nat} (i off:Nat) (vs:List SV) (h:d < m.dep) :
    (m.frs f e).stq (.st d i) off vs=(m.stq (.st d i) off vs).map fun m'=>m'.frs f e:=by
  simp only [Mem.stq,get_lt_frs m f e i h,set_lt_frs m f e i _ h]
  split
  · cases m.get (.st d i) with
    | none=>rfl
    | some y =>
      cases y with
      | cells rw c =>
        cases rw with
        | false=>rfl
        | true=>simp only; split <;> rfl
      | _=>rfl
  · rfl
theorem stq_lt_fr (m:Mem) (f:List SBk) (e:Option Nat) {d:Nat} (i off:Nat) (vs:List SV) (h:d < m.dep) :
    (m.fr f e).stq (.st d i) off vs=(m.stq (.st d i) off vs).map fun m'=>m'.fr f e:=by
  rw [fr_frs1,stq_lt_frs m [f] e i off vs h]; rfl
theorem stq_fr (m:Mem) (f:List SBk) (e:Option Nat) {d:Nat} (i off:Nat) (vs:List SV) (hd:d=m.dep):(m.fr f e).stq (.st d i) off vs =
    if SV.cellsOk m.dep i vs then
      match f[i]? with
      | some (.cells true c)=>if off + vs.length ≤ c.length then some (m.fr (f.set i (.cells true (c.take off ++ vs ++ c.drop (off + vs.length)))) e) else none
      | _=>none
    else none:=by
  subst hd
  simp only [Mem.stq,get_fr m f e i rfl,set_fr m f e i _ rfl,Bk.room]
theorem stq_hp_fr (m:Mem) (f:List SBk) (e:Option Nat) (n v off:Nat) (vs:List SV):(m.fr f e).stq (.hp n v) off vs=(m.stq (.hp n v) off vs).map fun m'=>m'.fr f e:=by
  simp only [Mem.stq,get_hp_fr,set_hp_fr]
  split
  · cases m.get (.hp n v) with
    | none=>rfl
    | some y =>
      cases y with
      | cells rw c =>
        cases rw with
        | false=>rfl
        | true=>simp only; split <;> rfl
      | _=>rfl
  · rfl
theorem stq_hp_frs (m:Mem) (f:List (List SBk)) (e:Option Nat) (n v off:Nat) (vs:List SV):(m.frs f e).stq (.hp n v) off vs=(m.stq (.hp n v) off vs).map fun m'=>m'.frs f e:=by
  simp only [Mem.stq,get_hp_frs,set_hp_frs]
  split
  · cases m.get (.hp n v) with
    | none=>rfl
    | some y =>
      cases y with
      | cells rw c =>
        cases rw with
        | false=>rfl
        | true=>simp only; split <;> rfl
      | _=>rfl
  · rfl
def Mem.hl (m:Mem):Nat:=m.heap.length
def Mem.hap (m:Mem) (l:List (Nat × SBk)):Mem:={ m with heap:=m.heap ++ l }
theorem hl_fr (m:Mem) (f:List SBk) (e:Option Nat):(m.fr f e).hl=m.hl:=by simp [Mem.hl,Mem.fr]
theorem hl_frs (m:Mem) (f:List (List SBk)) (e:Option Nat):(m.frs f e).hl=m.hl:=by simp [Mem.hl,Mem.frs]
theorem hl_hap (m:Mem) (l:List (Nat × SBk)):(m.hap l).hl=m.hl + l.length:=by simp [Mem.hap,Mem.hl]
theorem hap_hap (m:Mem) (l l':List (Nat × SBk)):(m.hap l).hap l'=m.hap (l ++ l'):=by simp [Mem.hap]
theorem hap_nil (m:Mem):m.hap []=m:=by simp [Mem.hap]
theorem hap_fr (m:Mem) (l:List (Nat × SBk)) (f:List SBk) (e:Option Nat):(m.hap l).fr f e=(m.fr f e).hap l:=rfl
theorem hap_frs (m:Mem) (l:List (Nat × SBk)) (f:List (List SBk)) (e:Option Nat):(m.hap l).frs f e=(m.frs f e).hap l:=rfl
theorem hap_push (m:Mem) (l:List (Nat × SBk)):(m.hap l).push=m.push.hap l:=rfl
theorem hap_dep (m:Mem) (l:List (Nat × SBk)):(m.hap l).dep=m.dep:=by simp [Mem.hap,Mem.dep]
theorem hap_db (m:Mem) (l:List (Nat × SBk)):(m.hap l).db=m.db:=by simp [Mem.hap]
theorem hap_hb (m:Mem) (l:List (Nat × SBk)):(m.hap l).hb=m.hb:=by simp [Mem.hap]
theorem hap_wf {m:Mem} (h:m.Wf) (l:List (Nat × SBk)):(m.hap l).Wf:=h
theorem hap_lvl (m:Mem) (l:List (Nat × SBk)):(m.hap l).lvl=m.lvl:=rfl
theorem hap_trim (m:Mem) (l:List (Nat × SBk)) (k:Nat):(m.hap l).trim k=(m.trim k).hap l:=by
  obtain ⟨stk,heap,hb,db,esc⟩:=m
  cases stk <;> rfl
theorem new_hp (m:Mem) (x:SBk):m.new false x=some (.hp m.hl 0,m.hap [(0,x)]):=by simp [Mem.new,Mem.hl,Mem.hap]
theorem new_st_hap (m:Mem) (l:List (Nat × SBk)) (x:SBk):(m.hap l).new true x=(m.new true x).map fun (b,m)=>(b,m.hap l):=by
  obtain ⟨stk,heap,hb,db,esc⟩:=m
  cases stk <;> rfl
theorem get_st_hap (m:Mem) (l:List (Nat × SBk)) (d i:Nat):(m.hap l).get (.st d i)=m.get (.st d i):=rfl
theorem set_st_hap (m:Mem) (l:List (Nat × SBk)) (d i:Nat) (x:SBk):(m.hap l).set (.st d i) x=(m.set (.st d i) x).hap l:=rfl
theorem load_st_hap (m:Mem) (l:List (Nat × SBk)) (d i off:Nat) (n:Option Nat):(m.hap l).load (.st d i) off n=m.load (.st d i) off n:=rfl
def hapGet (l:List (Nat × SBk)) (i v:Nat):Option SBk:=match l[i]? with
  | some (w,x)=>if w=v then some x else none
  | none=>none
theorem get_hap (m:Mem) (l:List (Nat × SBk)) {h:Nat} (i v:Nat) (hh:h=m.hl):(m.hap l).get (.hp (h + i) v)=hapGet l i v:=by
  subst hh
  simp only [Mem.get,Mem.hap,Mem.hl,hapGet,List.getElem?_append_right (Nat.le_add_right _ i),Nat.add_sub_cancel_left]
  rfl
theorem get_hap0 (m:Mem) (l:List (Nat × SBk)) {h:Nat} (v:Nat) (hh:h=m.hl):(m.hap l).get (.hp h v)=hapGet l 0 v:=get_hap m l (h:=h) 0 v hh
theorem get_hap_lt (m:Mem) (l:List (Nat × SBk)) {n:Nat} (v:Nat) (h:n < m.hl):(m.hap l).get (.hp n v)=m.get (.hp n v):=by
  simp only [Mem.get,Mem.hap,List.getElem?_append_left (show n < m.heap.length from h)]
theorem get_lt {m:Mem} {n v:Nat} {x:SBk} (h:m.get (.hp n v)=some x):n < m.hl:=by
  simp only [Mem.get] at h
  cases hh:m.heap[n]? with
  | none=>simp [hh] at h
  | some y=>exact (List.getElem?_eq_some_iff.1 hh).1
theorem load_hap (m:Mem) (l:List (Nat × SBk)) {h:Nat} (i v off:Nat) (n:Option Nat) (hh:h=m.hl):(m.hap l).load (.hp (h + i) v) off n=match hapGet l i v with
    | some (.cells _ c)=>partv c off n
    | _=>none:=by
  rw [load_get,get_hap m l i v hh]
  generalize hapGet l i v=y
  cases y with
  | none=>rfl
  | some y=>cases y <;> rfl
theorem load_hap0 (m:Mem) (l:List (Nat × SBk)) {h:Nat} (v off:Nat) (n:Option Nat) (hh:h=m.hl):(m.hap l).load (.hp h v) off n=match hapGet l 0 v with
    | some (.cells _ c)=>partv c off n
    | _=>none:=load_hap m l (h:=h) 0 v off n hh
theorem load_hap_lt (m:Mem) (l:List (Nat × SBk)) {k:Nat} (v off:Nat) (n:Option Nat) (h:k < m.hl):(m.hap l).load (.hp k v) off n=m.load (.hp k v) off n:=load_congr (get_hap_lt m l v h) off n
theorem set_hap (m:Mem) (l:List (Nat × SBk)) {h:Nat} (i v:Nat) (x:SBk) (hh:h=m.hl):(m.hap l).set (.hp (h + i) v) x=m.hap (l.set i (v,x)):=by
  subst hh
  simp [Mem.set,Mem.hap,Mem.hl,List.set_append_right (i:=m.heap.length + i) (h:=Nat.le_add_right _ _)]
theorem set_hap0 (m:Mem) (l:List (Nat × SBk)) {h:Nat} (v:Nat) (x:SBk) (hh:h=m.hl):(m.hap l).set (.hp h v) x=m.hap (l.set 0 (v,x)):=set_hap m l (h:=h) 0 v x hh
theorem back_gen (Z Y:Mem) (g:List SBk) (l l':List (Nat × SBk)) (h:Nat) (hz:Z.heap=Y.heap) (he:Z.esc=Y.esc) :
    ((Z.fr g none).hap l').back (Y.hap l) h=if h ≤ Y.hl + l.length then Z.hap (l'.take l.length) else Z.hap l':=by
  have e1:(Y.hap l).heap.length=Y.hl + l.length:=by simp [Mem.hap,Mem.hl]
  have e2:escMin (Y.hap l).esc ((Z.fr g none).hap l').esc=Z.esc:=by simp only [Mem.hap,Mem.fr,he]; cases Y.esc <;> rfl
  unfold Mem.back
  rw [e1,e2]
  simp only [Mem.hap,Mem.fr,escOk,and_true,List.tail_cons,hz]
  split
  · simp only [Mem.hl,List.take_append,Nat.add_sub_cancel_left]
    rw [List.take_of_length_le (l:=Y.heap) (by omega)]
  · rfl
theorem back_hap (m:Mem) (g:List SBk) (l':List (Nat × SBk)) (h:Nat):((m.fr g none).hap l').back m h=if h ≤ m.hl then m else m.hap l':=by
  have:=back_gen m m g [] l' h rfl rfl
  simpa [hap_nil] using this
theorem back_own_hap (m₀:Mem) (f f' g:List SBk) (fs:List (List SBk)) (e₀ e:Option Nat) (l l':List (Nat × SBk)) (h:Nat) :
    ((((m₀.fr f' e₀).frs fs e).fr g none).hap l').back (((m₀.fr f e₀).frs fs e).hap l) h=if h ≤ m₀.hl + l.length then ((m₀.fr f' e₀).frs fs e).hap (l'.take l.length) else ((m₀.fr f' e₀).frs fs e).hap l' :=
  back_gen ((m₀.fr f' e₀).frs fs e) ((m₀.fr f e₀).frs fs e) g l l' h rfl rfl
theorem back_own_hap0 (m₀:Mem) (f f' g:List SBk) (fs:List (List SBk)) (e₀ e:Option Nat) (l':List (Nat × SBk)) (h:Nat) :
    ((((m₀.fr f' e₀).frs fs e).fr g none).hap l').back ((m₀.fr f e₀).frs fs e) h=if h ≤ m₀.hl then ((m₀.fr f' e₀).frs fs e) else ((m₀.fr f' e₀).frs fs e).hap l':=by
  have:=back_own_hap m₀ f f' g fs e₀ e [] l' h
  simpa [hap_nil] using this
theorem back_hap_hap (m:Mem) (g:List SBk) (l l':List (Nat × SBk)) (h:Nat):((m.fr g none).hap l').back (m.hap l) h=if h ≤ m.hl + l.length then m.hap (l'.take l.length) else m.hap l':=back_gen m m g l l' h rfl rfl
theorem store_st_hap (m:Mem) (l:List (Nat × SBk)) (d i off:Nat) (vs:List SV):(m.hap l).store (.st d i) off vs=(m.store (.st d i) off vs).map fun m'=>m'.hap l:=by
  have hm:(m.hap l).may (.st d i)=m.may (.st d i):=rfl
  simp only [Mem.store,hm,get_st_hap,set_st_hap]
  split
  · cases m.get (.st d i) with
    | none=>rfl
    | some y =>
      cases y with
      | cells rw c =>
        cases rw with
        | false=>rfl
        | true =>
          simp only
          split
          · simp only [Option.map_some,Option.some.injEq,Mem.note]
            split <;> split <;> first | rfl | (rename_i h1 h2; exact absurd h1 h2) | (rename_i h1 h2; exact absurd h2 h1)
          · rfl
      | _=>rfl
  · rfl
theorem stq_st_hap (m:Mem) (l:List (Nat × SBk)) (d i off:Nat) (vs:List SV):(m.hap l).stq (.st d i) off vs=(m.stq (.st d i) off vs).map fun m'=>m'.hap l:=by
  simp only [Mem.stq,get_st_hap,set_st_hap]
  split
  · cases m.get (.st d i) with
    | none=>rfl
    | some y =>
      cases y with
      | cells rw c =>
        cases rw with
        | false=>rfl
        | true=>simp only; split <;> rfl
      | _=>rfl
  · rfl
theorem le_hl0 (m:Mem):(m.hl + 1 ≤ m.hl)=False:=by simp
theorem le_hli (m:Mem) (i:Nat):(m.hl + i + 1 ≤ m.hl)=False:=by simp; omega
theorem may_st (m:Mem) (d i:Nat):m.may (.st d i)=decide (m.db ≤ d):=rfl
theorem wf_le {m:Mem} (h:m.Wf):(m.db ≤ m.dep)=True:=eq_true h
noncomputable def RG (F:Tbl) (fv y:SV) (m:Mem):Option (SV × Mem) :=
  match fv with
  | .fn g first caps=>RF F g (first ++ [y] ++ caps) m
  | _=>none
theorem RG_fn (F:Tbl) (g:FuncId) (first caps:List SV) (y:SV) (m:Mem):RG F (.fn g first caps) y m=RF F g (first ++ [y] ++ caps) m:=rfl
def pendE:Option Jump → SEx
  | none=>.normal
  | some j=>j.ex
noncomputable def KR (F:Tbl) (K:List KI) (b:Bk) (fr:Fr) (x:Option (SV × Mem)):Option (SEx × Fr × Mem):=x.bind fun y =>
  match y.2.get b with
  | some (.loop r)=>if r.state=LoopState.busy ∨ y.2.may b=false then none else RJ F K (pendE r.pending) fr (y.2.set b (.loop { r with state:=.exhausted }))
  | _=>none
noncomputable def KA (F:Tbl) (K:List KI) (fv:SV) (fr:Fr) (x:Option (Bk × Mem)):Option (SEx × Fr × Mem):=x.bind fun x=>KR F K x.1 fr (RG F fv (.yld x.1) x.2)
theorem KA_some (fv:SV) (b:Bk):KA F K fv fr (some (b,m))=KR F K b fr (RG F fv (.yld b) m):=rfl
theorem RK_rangef (f:Opd) (ps:List Nat) (a b:SCode):RK F K (.rangef f ps a b) fr m=KA F K (f.ev fr) fr (m.new true (.loop ⟨.ready,none,fr,ps,a,b⟩)):=by
  unfold RK KA KR RG
  rw [RC_rangef]
  cases m.new true (.loop ⟨.ready,none,fr,ps,a,b⟩) with
  | none=>rfl
  | some y =>
    obtain ⟨b',m'⟩:=y
    simp only [Option.bind_some]
    generalize f.ev fr=x
    cases x with
    | fn h first caps =>
      simp only
      rw [Option.bind_assoc]
      congr 1
      funext y
      cases y.2.get b' with
      | none=>rfl
      | some z =>
        cases z with
        | loop r =>
          simp only
          split
          · rfl
          · cases r.pending <;> rfl
        | _=>rfl
    | _=>rfl
theorem KR_some (b:Bk) (v:SV):KR F K b fr (some (v,m)) =
    match m.get b with
    | some (.loop r)=>if r.state=LoopState.busy ∨ m.may b=false then none else RJ F K (pendE r.pending) fr (m.set b (.loop { r with state:=.exhausted }))
    | _=>none:=rfl
theorem pendE_none:pendE none=.normal:=rfl
theorem pendE_ret:pendE (some .ret)=.ret:=rfl
theorem pendE_exit (i:Nat):pendE (some (.exit i))=.exit i:=rfl
noncomputable def KB (F:Tbl) (b:Bk) (c:SCode) (x:Option (SEx × Fr × Mem)):Option (SEx × Fr × Mem):=x.bind fun
  | (.normal,fr,m) =>
    match m.get b with
    | some (.loop r)=>if r.state=.ready then RK F [] c fr (m.set b (.loop { r with state:=.busy })) else none
    | _=>none
  | _=>none
theorem KB_some (b:Bk) (c:SCode):KB F b c (some (.normal,fr,m))=match m.get b with
    | some (.loop r)=>if r.state=.ready then RK F [] c fr (m.set b (.loop { r with state:=.busy })) else none
    | _=>none:=rfl
def finR (m:Mem) (b:Bk) (x:Option (SEx × Fr × Mem)):Option (SV × Mem):=x.bind (outR m b)
theorem finR_some (m:Mem) (b:Bk) (e:SEx) (fr:Fr) (m2:Mem):finR m b (some (e,fr,m2))=match m2.get b with
    | some (.loop r)=>some (.bool (e=.normal),(m2.set b (.loop { r with state:=if e=.normal then .ready else .done,pending:=e.jump })).back m 0)
    | _=>none:=rfl
theorem RV_go (b : Bk) (args:List SV) (m:Mem) {l:LoopR} (hg:m.get b=some (.loop l)) (hs:l.state=.ready) (hp:l.params.length=args.length) (hm:m.may b=true) :
    RV F (.yld b) args m=finR m b (KB F b l.body (RK F [] l.assign (l.fr.puts l.params args) m.push)):=by
  rw [RV_yld b args m hg,if_pos ⟨hs,hp,hm⟩]
  unfold finR KB
  rw [RC_RK,Option.bind_assoc]
  congr 1
  funext ⟨e,fr,m1⟩
  cases e with
  | normal =>
    simp only
    cases m1.get b with
    | none=>rfl
    | some y =>
      cases y with
      | loop r => simp only; split
                  · rw [RC_RK]
                  · rfl
      | _=>rfl
  | _=>rfl
theorem back_own (m₀:Mem) (f f' g:List SBk) (fs:List (List SBk)) (e₀ e:Option Nat) (h:Nat):(((m₀.fr f' e₀).frs fs e).fr g none).back ((m₀.fr f e₀).frs fs e) h=(m₀.fr f' e₀).frs fs e:=by
  cases e <;> simp [Mem.fr,Mem.frs,Mem.back,escMin]
theorem Fr_puts_nil (fr:Fr) (l:List SV):fr.puts [] l=fr:=by cases l <;> rfl
theorem Fr_puts_cons (fr:Fr) (t:Nat) (ts:List Nat) (v:SV) (vs:List SV):fr.puts (t :: ts) (v :: vs)=Fr.puts ((t,v) :: fr) ts vs:=rfl
theorem escMin_none (e:Option Nat):escMin e none=e:=by cases e <;> rfl
theorem escMin_none' (e:Option Nat):escMin none e=e:=rfl
def Yields (F:Tbl) (b:Bk) (x:List SV) (m m':Mem) (d:Option Nat) (go:Bool):Prop:=∀ fs e,RV F (.yld b) x (m.frs fs e)=some (.bool go,m'.frs fs (escMin e d))
def Noted (H:Nat) (m:Mem) (u:Option Nat):Prop:=m.hl=H ∨ ∃ k,u=some k ∧ k < H
inductive Rounds (F:Tbl) (b:Bk) (P:Mem → Prop) (H:Nat):List (List SV) → Mem → Option Nat → Mem → Option Nat → Bool → Prop
  | nil (m:Mem) (u:Option Nat):Rounds F b P H [] m u m u true
  | stop {x:List SV} {L:List (List SV)} {m m':Mem} {u d:Option Nat} (h:Yields F b x m m' d false) (hp:P m') (hk:Noted H m' (escMin u d)):Rounds F b P H (x :: L) m u m' (escMin u d) false
  | next {x:List SV} {L:List (List SV)} {m m' m'':Mem} {u d u':Option Nat} {go:Bool} (h:Yields F b x m m' d true) (hp:P m') (hk:Noted H m' (escMin u d)) (t:Rounds F b P H L m' (escMin u d) m'' u' go):Rounds F b P H (x :: L) m u m'' u' go
theorem rounds_of (b:Bk) (P:Mem → Prop) (H:Nat) (I J:Nat → Mem → Option Nat → Prop):∀ (L:List (List SV)) (k:Nat) (m:Mem) (u:Option Nat),I k m u →
    (∀ i x m u,L[i]? = some x → I (k + i) m u → ∃ m' d go,Yields F b x m m' d go ∧ P m' ∧ Noted H m' (escMin u d) ∧ (go=true → I (k + i + 1) m' (escMin u d)) ∧ (go=false → J (k + i) m' (escMin u d))) →
    ∃ m' u' go,Rounds F b P H L m u m' u' go ∧ (go=true → I (k + L.length) m' u') ∧ (go=false → ∃ i,i < L.length ∧ J (k + i) m' u')
  | [],k,m,u,h0,_=>⟨m,u,true,.nil m u,fun _=>h0,fun h=>(by cases h)⟩
  | x :: L,k,m,u,h0,hs=>by
    obtain ⟨m',d,go,hy,hP,hk,h1,h2⟩:=hs 0 x m u rfl h0
    cases go with
    | false=>exact ⟨m',_,false,.stop hy hP hk,fun h=>(by cases h),fun _=>⟨0,by simp,h2 rfl⟩⟩
    | true =>
      obtain ⟨m'',u'',go,hr,h3,h4⟩:=rounds_of b P H I J L (k + 1) m' _ (h1 rfl) fun i y m u hi hI=>by
        have:=hs (i + 1) y m u (by simpa using hi) (by rw [show k + (i + 1)=k + 1 + i by omega]; exact hI)
        rw [show k + (i + 1)=k + 1 + i by omega] at this
        exact this
      refine ⟨m'',u'',go,.next hy hP hk hr,fun h=>?_,fun h=>?_⟩
      · rw [List.length_cons,show k + (L.length + 1)=k + 1 + L.length by omega]; exact h3 h
      · obtain ⟨i,hi,hJ⟩:=h4 h
        exact ⟨i + 1,by simp; omega,by rw [show k + (i + 1)=k + 1 + i by omega]; exact hJ⟩
theorem Rounds.last {b:Bk} {P:Mem → Prop} {H:Nat} {L:List (List SV)} {m m':Mem} {u u':Option Nat} {go:Bool} (h:Rounds F b P H L m u m' u' go) (h0:P m):P m':=by
  induction h with
  | nil=>exact h0
  | stop _ hp=>exact hp
  | next _ hp _ _ ih=>exact ih hp
theorem Rounds.noted {b:Bk} {P:Mem → Prop} {H:Nat} {L:List (List SV)} {m m':Mem} {u u':Option Nat} {go:Bool} (h:Rounds F b P H L m u m' u' go) (h0:Noted H m u):Noted H m' u':=by
  induction h with
  | nil=>exact h0
  | stop _ _ hk=>exact hk
  | next _ _ hk _ ih=>exact ih hk
theorem back_rounds {M M':Mem} {u:Option Nat} (hn:Noted M.hl M' u) (fs:List (List SBk)) (e:Option Nat) (g:List SBk):((M'.frs fs e).fr g u).back (M.frs fs e) 0=M'.frs fs (escMin e u):=by
  simp only [Mem.back,Mem.fr,Mem.frs,List.tail_cons,Nat.zero_le,true_and]
  rcases hn with h | ⟨k,rfl,hk⟩
  · have:M'.heap.take M.heap.length=M'.heap:=List.take_of_length_le (by simp only [Mem.hl] at h; omega)
    rw [this,ite_self]
  · have:escOk M.heap.length (some k)=false:=by
      simp only [escOk,Bool.and_eq_false_iff,decide_eq_false_iff_not]
      simp only [Mem.hl] at hk
      omega
    rw [this]
    rfl
theorem yields_fr {b:Bk} {x:List SV} {m m':Mem} {d:Option Nat} {go:Bool} (h:Yields F b x m m' d go) (fs:List (List SBk)) (e u:Option Nat) (g:List SBk) :
    RV F (.yld b) x ((m.frs fs e).fr g u)=some (.bool go,(m'.frs fs e).fr g (escMin u d)):=h (g :: fs) u
theorem frs_nil_fr (m:Mem) (f:List SBk) (e e':Option Nat):(m.fr f e).frs [] e'=m.fr f e':=rfl
theorem hx_hp (n v:Nat):(Bk.hp n v).hx=n + 1:=rfl
theorem hx_st (n v:Nat):(Bk.st n v).hx=0:=rfl
theorem lv_lt {d e j i:Nat} (h:e < d):Bk.lv d j (.st e i)=true:=by simp [Bk.lv,h]
theorem KL_ind {α:Type} {R:Option (SEx × Fr × Mem) → Prop} {k:Nat} {ks:Option (List Nat)} {c:SCode} (μ:α → Nat) (frf:α → Fr) (memf:α → Mem) (I:α → Prop)
    (step:∀ a,I a → (∀ b,I b → μ b < μ a → R (KL F K k ks c (frf b) (memf b))) → R (KH F K k ks c (headL k ks (frf a) (memf a)))) :
    ∀ a,I a → R (KL F K k ks c (frf a) (memf a)):=by
  have key:∀ n a,μ a < n → I a → R (KL F K k ks c (frf a) (memf a)):=by
    intro n
    induction n with
    | zero=>intro a h; omega
    | succ n ih =>
      intro a h hI
      rw [KL_go]
      exact step a hI fun b hb hlt=>ih b (by omega) hb
  exact fun a=>key (μ a + 1) a (by omega)
theorem KL_indE {α:Type} {g:Option (SEx × Fr × Mem) → Option (SV × Mem)} {T:Option (SV × Mem)} {k:Nat} {ks:Option (List Nat)} {c:SCode} (μ:α → Nat) (frf:α → Fr) (memf:α → Mem) (I:α → Prop)
    (step:∀ a,I a → (∀ b,I b → μ b < μ a → g (KL F K k ks c (frf b) (memf b))=T) → g (KH F K k ks c (headL k ks (frf a) (memf a)))=T) :
    ∀ a,I a → g (KL F K k ks c (frf a) (memf a))=T:=KL_ind (R:=fun z=>g z=T) μ frf memf I step
theorem RK_unf {c c':SCode} (h:c=c'):RK F K c fr m=RK F K c' fr m:=by rw [h]
attribute [go_sem] store_lt_fr store_hp_fr RK_rangef KA_some KR_some RG_fn pendE_none pendE_ret pendE_exit KB_some finR_some back_own Fr_puts_nil Fr_puts_cons set_fr set_lt_fr set_lt_frs set_hp_fr set_hp_frs stq_lt_frs stq_lt_fr stq_fr stq_hp_fr stq_hp_frs SEx.jump hl_fr hl_frs hl_hap hap_hap hap_fr hap_frs hap_push hap_dep hap_db hap_hb hap_wf hap_lvl hap_trim new_hp new_st_hap get_st_hap set_st_hap load_st_hap hapGet get_hap get_hap0 get_hap_lt load_hap load_hap0 load_hap_lt set_hap set_hap0 back_hap back_own_hap back_own_hap0 back_hap_hap store_st_hap stq_st_hap le_hl0 le_hli may_st wf_le Nat.zero_le or_false false_or lv_lt shut_dep frs_wf hap_wf hx_hp hx_st escMin_none escMin_none' frs_nil_fr Nat.zero_max Nat.max_zero Nat.max_self
end Go.Sh
