import Derived.Test.YtepecbjlfekkaaaShMo5
set_option linter.all false
set_option linter.unusedVariables false
set_option linter.unusedSimpArgs false
set_option autoImplicit false
namespace Go.Sh
variable {P:Program}
theorem MR.let {μ:Mu} {p:Bk → Bool} {es:List (SV × SV)} {E:List MapEntry} (h:MR (μ.on p) es E):(SBk.map es).names p:=by
  intro e he
  have:=MR.named h e he
  exact ⟨SV.all_mono (fun b hb=>by cases hx:(μ.on p) b with | none=>simp [hx] at hb | some x=>exact (Mu.on_some.1 hx).1) _ this.1,
    SV.all_mono (fun b hb=>by cases hx:(μ.on p) b with | none=>simp [hx] at hb | some x=>exact (Mu.on_some.1 hx).1) _ this.2⟩
theorem mo_call {dst ty pos after guard} {c:Call} {so:SOp} {fr:Fr} {m m':Mem} {v:SV} (hT:opT P (.call c)=some so.base) (hnp:so.pure=false) (h:memop so fr m=some (v,m')):MemOk P ⟨dst,.call c,ty,pos,after,guard⟩ fr m v m':=by
  intro μ w ρ hr hs
  simp only [opT] at hT
  unfold callT at hT
  simp only [Option.bind_eq_some_iff] at hT
  obtain ⟨args,hargs,hT⟩:=hT
  have ra:=opdsT_rel hargs fun x y hx=>hr x y (by simp [Op.operands,Call.operands]; exact .inr (by simpa using hx))
  obtain ⟨callee,cargs,tys⟩:=c
  dsimp only at hT hargs ra
  have em:Array.map ρ cargs=⟨cargs.toList.map ρ⟩:=by apply Array.toList_inj.1; simp
  cases callee with
  | invoke r m=>simp at hT
  | value f =>
    cases f with
    | func f =>
      simp only [Option.bind_eq_some_iff] at hT
      obtain ⟨fn,_,hT⟩:=hT
      split at hT
      · simp only [Option.some.injEq] at hT
        rcases base_call hT.symm with rfl | ⟨lo,rfl⟩ <;> simp [memop,pev] at h
      · split at hT
        · split at hT
          · simp only [Option.some.injEq] at hT; obtain rfl:=base_eq hT.symm rfl; simp [SOp.pure] at hnp
          · cases hT
        · cases hT
    | tmp t=>simp only [Option.some.injEq] at hT; obtain rfl:=base_eq hT.symm rfl; simp [memop,pev] at h
    | const v=>simp at hT
    | global g=>simp at hT
  | builtin b =>
    simp only at hT
    have run:∀ (l:List Value) (v':Value) (w':World) (f:Array TypeId → TypeId → Array Value → Sem Value),cargs.toList.map ρ=l → (∀ cs,builtin b tys ty cs l.toArray=(do pure (.value (← f tys ty l.toArray)))) → (f tys ty l.toArray).run P w=.ok v' w' →
        (execOp ρ ⟨dst,.call ⟨.builtin b,cargs,tys⟩,ty,pos,after,guard⟩).run P w=.ok (.value v') w':=by
      intro l v' w' f hl hb hv
      simp only [execOp,Sem.run_bind,resolve,em,hl,Sem.run_pure,Result.andThen_ok,invoke]
      show (builtin b tys ty _ l.toArray).run P w=_
      rw [hb]
      simp [hv]
    unfold builtinT at hT
    split at hT
    · rename_i x
      simp only [Option.bind_eq_some_iff] at hT
      obtain ⟨t,ht,hT⟩:=hT
      obtain ⟨u,hu,hur⟩:=list1 ra
      split at hT
      · simp only [Option.some.injEq] at hT; obtain rfl:=base_eq hT.symm rfl; simp [SOp.pure] at hnp
      · simp only [Option.some.injEq] at hT; obtain rfl:=base_eq hT.symm rfl; simp [SOp.pure] at hnp
      · rename_i k e hs'
        simp only [Option.some.injEq] at hT; obtain rfl:=base_eq hT.symm rfl
        simp only [memop] at h
        split at h
        · rename_i e
          rw [e] at hur
          simp only [Option.some.injEq,Prod.mk.injEq] at h
          obtain ⟨rfl,rfl⟩:=h
          exact ⟨.int .i64 0,w,μ,.inl (run [u] _ w Builtin.len_ hu (fun _=>rfl) (by rw [hur.nilm_inv]; simp [Builtin.len_,ht,r_und hs',goInt])),.int _ _,.refl hs⟩
        · rename_i b' e
          rw [e] at hur
          split at h
          · rename_i es hg
            simp only [Option.some.injEq,Prod.mk.injEq] at h
            obtain ⟨rfl,rfl⟩:=h
            obtain ⟨r,base,N,hmu,hk⟩:=hur.map_inv
            obtain ⟨E,clock,hh,hm,hbo⟩:=hs.mapOf hmu hg
            have hlen:∀ {es:List (SV × SV)} {E:List MapEntry} {μ:Mu},MR μ es E → es.length=E.length:=by
              intro es
              induction es with
              | nil=>intro E μ h; cases E with | nil=>rfl | cons _ _=>exact h.elim
              | cons a es ih=>intro E μ h; obtain ⟨k,x⟩:=a; cases E with
                | nil=>cases h
                | cons e E=>simp [ih h.2.2]
            have:=hlen hm
            refine ⟨.int .i64 E.size,w,μ,.inl (run [u] _ w Builtin.len_ hu (fun _=>rfl) (by rw [hk]; simp [Builtin.len_,ht,r_und hs',goInt,run_getMap hh])),?_,.refl hs⟩
            rw [show (es.length:Int)=(E.size:Int) from by rw [this]; simp]
            exact .int _ _
          · cases h
        · cases h
      · simp only [Option.some.injEq] at hT; obtain rfl:=base_eq hT.symm rfl; simp [SOp.pure] at hnp
      · split at hT
        · simp only [Option.some.injEq] at hT; obtain rfl:=base_eq hT.symm rfl; simp [SOp.pure] at hnp
        · cases hT
      · cases hT
    · -- append
      rename_i x y
      simp only [Option.bind_eq_some_iff] at hT
      obtain ⟨t,ht,u',hu',hT⟩:=hT
      obtain ⟨u,uy,hu,hur,huy⟩:=list2 ra
      split at hT
      · rename_i e ud hs1 hs2
        split at hT
        · cases hT
        · rename_i hnint
          simp only [Option.bind_eq_some_iff,Option.map_eq_some_iff] at hT
          obtain ⟨s,hsz,by_,hby,z,hz,e'⟩:=hT
          obtain ⟨loose,rfl⟩:=(base_spec e'.symm).2.2.1 _ _ _ _ _ rfl
          obtain ⟨r,w',μ',hrun,hv,hp⟩:=append_sound hs1 hs2 (fun k e=>hnint k e) hsz hby hz hur huy hs h ty
          refine ⟨r,w',μ',.inl (run [u,uy] _ w' Builtin.append_ hu (fun _=>rfl) ?_),hv,hp⟩
          have e1:(Builtin.append_ tys ty #[u,uy])=Builtin.append_ #[t,u'] ty #[u,uy]:=by
            simp only [Builtin.append_,ht,hu']
            rfl
          show (Builtin.append_ tys ty #[u,uy]).run P w=_
          rw [e1]; exact hrun
      · cases hT
    · -- copy
      rename_i x y
      simp only [Option.bind_eq_some_iff] at hT
      obtain ⟨t,ht,hT⟩:=hT
      obtain ⟨u,uy,hu,hur,huy⟩:=list2 ra
      split at hT
      · rename_i e hs1
        simp only [Option.map_eq_some_iff] at hT
        obtain ⟨s,hsz,e'⟩:=hT
        obtain rfl:=base_eq e'.symm rfl
        simp only [memop] at h
        split at h
        · rename_i dl sl hdl hsl
          simp only [Option.bind_eq_some_iff] at h
          obtain ⟨cs,hcs,h⟩:=h
          have hln:=lenOf_run (P:=P) hsl huy w
          obtain ⟨nw,hnw,hnr⟩:=elems_run hs hcs huy (by simp [hsl]; omega)
          have hnw:(Builtin.firstCells s (min sl dl) uy).run P w=.ok ⟨nw⟩ w:=hnw w.drawn
          have hmin:Nat.min sl dl=min sl dl:=rfl
          split at h
          · rename_i e1
            rw [e1] at hur hdl
            simp [lenS] at hdl
            subst hdl
            simp only [Option.some.injEq,Prod.mk.injEq] at h
            obtain ⟨rfl,rfl⟩:=h
            refine ⟨.int .i64 (min sl 0:Nat),w,μ,.inl (run [u,uy] _ w Builtin.copy_ hu (fun _=>rfl) ?_),.int _ _,.refl hs⟩
            rw [hur.nils_inv]
            simp only [Builtin.copy_,List.getElem?_toArray,List.getElem?_cons_zero,List.getElem?_cons_succ,ht,Sem.run_bind,r_und hs1,Result.andThen_ok,hln,r_sz hsz,hmin,hnw,Sem.run_pure]
            rfl
          · rename_i b off n c z e1
            rw [e1] at hur hdl
            simp [lenS] at hdl
            subst hdl
            simp only [Option.map_eq_some_iff,Prod.mk.injEq] at h
            obtain ⟨m2,hst,rfl,rfl⟩:=h
            obtain ⟨r,base,N,hmu,⟨k,hk,_⟩ | ⟨a,hk,rfl,_⟩⟩:=hur.sl_inv
            · obtain ⟨w',hrun,hp⟩:=hs.store hmu hst hnr
              refine ⟨.int .i64 (min sl n:Nat),w',μ,.inl (run [u,uy] _ w' Builtin.copy_ hu (fun _=>rfl) ?_),.int _ _,hp⟩
              rw [hk]
              simp only [Builtin.copy_,List.getElem?_toArray,List.getElem?_cons_zero,List.getElem?_cons_succ,ht,Sem.run_bind,r_und hs1,Result.andThen_ok,hln,r_sz hsz,hmin,hnw,hrun,Sem.run_pure]
              rfl
            · -- nothing fits
              have hcl:cs=[]:=by
                have:min sl 0=0:=by omega
                rw [this] at hcs
                unfold Mem.elems at hcs
                split at hcs
                · simp at hcs; exact hcs
                · split at hcs
                  · split at hcs
                    · simp at hcs; exact hcs
                    · cases hcs
                  · cases hcs
                · split at hcs
                  · simp at hcs; exact hcs
                  · cases hcs
                · simp at hcs; exact hcs
                · cases hcs
              subst hcl
              cases hnr
              obtain ⟨w',hrun,hp⟩:=hs.store hmu hst .nil
              have hww:w'=w:=by simp [storeCells] at hrun; exact hrun.symm
              subst hww
              refine ⟨.int .i64 (min sl 0:Nat),w',μ,.inl (run [u,uy] _ w' Builtin.copy_ hu (fun _=>rfl) ?_),.int _ _,hp⟩
              rw [hk]
              simp only [Builtin.copy_,List.getElem?_toArray,List.getElem?_cons_zero,List.getElem?_cons_succ,ht,Sem.run_bind,r_und hs1,Result.andThen_ok,hln,r_sz hsz,hmin,hnw,Sem.run_pure]
              simp [storeCells,goInt]
          · cases h
        · cases h
      · cases hT
    · -- clear
      rename_i x
      simp only [Option.bind_eq_some_iff] at hT
      obtain ⟨t,ht,hT⟩:=hT
      obtain ⟨u,hu,hur⟩:=list1 ra
      split at hT
      · rename_i k e hs1
        simp only [Option.some.injEq] at hT
        obtain rfl:=base_eq hT.symm rfl
        simp only [memop] at h
        split at h
        · rename_i e1
          rw [e1] at hur
          simp only [Option.some.injEq,Prod.mk.injEq] at h
          obtain ⟨rfl,rfl⟩:=h
          exact ⟨.tuple #[],w,μ,.inl (run [u] _ w Builtin.clear_ hu (fun _=>rfl) (by rw [hur.nilm_inv]; simp [Builtin.clear_,ht,r_und hs1])),.tup .nil,.refl hs⟩
        · rename_i b' e1
          rw [e1] at hur
          split at h
          · rename_i hmay
            split at h
            · rename_i es hg
              simp only [Option.some.injEq,Prod.mk.injEq] at h
              obtain ⟨rfl,rfl⟩:=h
              obtain ⟨r,base,N,hmu,hk⟩:=hur.map_inv
              obtain ⟨E,clock,hh,hm,hbo⟩:=hs.mapOf hmu hg
              have hnote:m.set b' (.map [])=(m.set b' (.map [])).note b' 0:=by cases b' <;> simp [Mem.note]
              rw [hnote]
              refine ⟨.tuple #[],_,μ,.inl (run [u] _ _ Builtin.clear_ hu (fun _=>rfl) ?_),.tup .nil,hs.turnMap (es':=[]) (E':=#[]) (c':=clock) hmu hg hmay hh trivial ⟨fun x hx=>by simp at hx,by simp⟩ rfl (fun B _ _ e he=>by cases he)⟩
              rw [hk]
              simp [Builtin.clear_,ht,r_und hs1,run_getMap hh,run_setMap _ hh]
            · cases h
          · cases h
        · cases h
      · cases hT
    · -- delete
      rename_i x y
      simp only [Option.bind_eq_some_iff] at hT
      obtain ⟨t,ht,hT⟩:=hT
      obtain ⟨u,uk,hu,hur,huk⟩:=list2 ra
      split at hT
      · rename_i kt e hs1
        simp only [Option.bind_eq_some_iff,Option.map_eq_some_iff] at hT
        obtain ⟨ks,hks,ag,hag,e'⟩:=hT
        obtain rfl:=base_eq e'.symm rfl
        obtain ⟨kd,hkd⟩:=eqT_und hks
        simp only [memop] at h
        split at h
        · rename_i hl
          have hck:=fun b=>checkKey_like hks hag hl huk b w
          split at h
          · rename_i e1
            rw [e1] at hur
            simp only [Option.some.injEq,Prod.mk.injEq] at h
            obtain ⟨rfl,rfl⟩:=h
            exact ⟨.tuple #[],w,μ,.inl (run [u,uk] _ w Builtin.delete_ hu (fun _=>rfl) (by rw [hur.nilm_inv]; simp [Builtin.delete_,ht,r_und hs1,hck])),.tup .nil,.refl hs⟩
          · rename_i b' e1
            rw [e1] at hur
            split at h
            · rename_i hmay
              split at h
              · rename_i es hg
                simp only [Option.map_eq_some_iff,Prod.mk.injEq] at h
                obtain ⟨q,hq,rfl,rfl⟩:=h
                obtain ⟨r,base,N,hmu,hk⟩:=hur.map_inv
                obtain ⟨E,clock,hh,hm,hbo⟩:=hs.mapOf hmu hg
                have hnote:∀ es',m.set b' (.map es')=(m.set b' (.map es')).note b' 0:=by intro es'; cases b' <;> simp [Mem.note]
                rw [hnote]
                have hn:∀ B,0 ≤ B → (SBk.map es).names (lowB B) → (SBk.map (assocDel (y.ev fr) es)).names (lowB B):=fun B _ hy=>del_names hy
                rcases ask_run hks hag hl huk w 0 hq hm.off with ⟨rfl,q2,q3,_⟩ | ⟨n,z',q',e',rfl,q2,_,_,_,q6,_⟩
                · have hf:=find_run hkd q2
                  refine ⟨.tuple #[],_,μ,.inl (run [u,uk] _ _ Builtin.delete_ hu (fun _=>rfl) ?_),.tup .nil,hs.turnMap (E':=E) (c':=clock) hmu hg hmay hh (by rw [q3]; exact hm) hbo rfl hn⟩
                  rw [hk]
                  simp [Builtin.delete_,ht,r_und hs1,run_getMap hh,hck,hf,run_setMap _ hh]
                · have hf:=find_run hkd q2
                  have hmr:MR (μ.on (Bk.lv b'.room.1 b'.room.2)) (assocDel (y.ev fr) es) (E.toList.eraseIdx n):=q6.restrict _ (del_names (MR.let hm))
                  refine ⟨.tuple #[],_,μ,.inl (run [u,uk] _ _ Builtin.delete_ hu (fun _=>rfl) ?_),.tup .nil,hs.turnMap (E':=E.eraseIdxIfInBounds n) (c':=clock) hmu hg hmay hh (by simpa using hmr) (bornOk_erase hbo n) rfl hn⟩
                  rw [hk]
                  simp [Builtin.delete_,ht,r_und hs1,run_getMap hh,hck,hf,run_setMap _ hh]
              · cases h
            · cases h
          · cases h
        · cases h
      · cases hT
    · simp only [Option.some.injEq] at hT; obtain rfl:=base_eq hT.symm rfl; simp [SOp.pure] at hnp
    · simp only [Option.some.injEq] at hT; obtain rfl:=base_eq hT.symm rfl; simp [SOp.pure] at hnp
    · cases hT
theorem memop_sound {o:Oper} {so:SOp} {fr:Fr} {m m':Mem} {v:SV} (hT:opT P o.op=some so.base) (h:memop so fr m=some (v,m')):MemOk P o fr m v m':=by
  by_cases hp:so.pure=true
  · rw [memop_pure fr m hp] at h
    simp only [Option.map_eq_some_iff,Prod.mk.injEq] at h
    obtain ⟨v',hv,rfl,rfl⟩:=h
    intro μ w ρ hr hs
    obtain ⟨u,h1,h2⟩:=pure_sound hT hv μ w ρ hr
    exact ⟨u,w,μ,.inl h1,h2,.refl hs⟩
  · have hnp:so.pure=false:=by simpa using hp
    obtain ⟨dst,op,ty,pos,after,guard⟩:=o
    cases op
    case alloc e=>exact mo_alloc hT h
    case box e x=>exact mo_box hT h
    case buildSlice t n ps=>exact mo_bslice hT h
    case load t x=>exact mo_load hT h
    case store t a x=>exact mo_store hT h
    case convert s d x=>exact mo_fz hT hnp h
    case makeMap t r=>exact mo_mkmap hT h
    case makeSlice t l c=>exact mo_mkslice hT h
    case slice t x lo hi mx=>exact mo_sliceArr hT hnp h
    case lookup t mp k ok=>exact mo_lookup hT h
    case mapUpdate t mp k x=>exact mo_mapset (.inl rfl) hT h
    case insert t mp k x=>exact mo_mapset (.inr rfl) hT h
    case call c=>exact mo_call hT hnp h
    all_goals
      exfalso
      have hb:so.base.pure=false:=by rw [SOp.pure_base]; exact hnp
      simp only [opT] at hT
    case panic x=>simp only [Option.some.injEq] at hT; obtain rfl:=base_eq hT.symm rfl; simp [memop,pev] at h
    case move x=>simp only [Option.map_eq_some_iff] at hT; obtain ⟨_,_,e⟩:=hT; rw [← e] at hb; simp [SOp.pure] at hb
    case assign x=>simp only [Option.map_eq_some_iff] at hT; obtain ⟨_,_,e⟩:=hT; rw [← e] at hb; simp [SOp.pure] at hb
    case pick x y z=>simp only [Option.bind_eq_some_iff,Option.map_eq_some_iff] at hT; obtain ⟨_,_,_,_,_,_,e⟩:=hT; rw [← e] at hb; simp [SOp.pure] at hb
    case nilCheck x=>simp only [Option.map_eq_some_iff] at hT; obtain ⟨_,_,e⟩:=hT; rw [← e] at hb; simp [SOp.pure] at hb
    case unOp x y z=>simp only [Option.map_eq_some_iff] at hT; obtain ⟨_,_,e⟩:=hT; rw [← e] at hb; simp [SOp.pure] at hb
    case extract x y=>simp only [Option.map_eq_some_iff] at hT; obtain ⟨_,_,e⟩:=hT; rw [← e] at hb; simp [SOp.pure] at hb
    case makeFunc f x y =>
      cases f <;> simp only [Option.bind_eq_some_iff,Option.map_eq_some_iff,reduceCtorEq] at hT
      obtain ⟨_,_,_,_,e⟩:=hT; rw [← e] at hb; simp [SOp.pure] at hb
    case build t ps =>
      simp only [Option.bind_eq_some_iff] at hT
      obtain ⟨_,_,hT⟩:=hT
      split at hT
      · split at hT
        · simp only [Option.map_eq_some_iff] at hT; obtain ⟨_,_,e⟩:=hT; rw [← e] at hb; simp [SOp.pure] at hb
        · cases hT
      · simp only [Option.bind_eq_some_iff,Option.map_eq_some_iff] at hT; obtain ⟨_,_,_,_,e⟩:=hT; rw [← e] at hb; simp [SOp.pure] at hb
      · cases hT
    case fieldAddr s x f =>
      simp only [Option.bind_eq_some_iff] at hT
      obtain ⟨_,_,hT⟩:=hT
      split at hT
      · simp only [Option.bind_eq_some_iff] at hT
        obtain ⟨_,_,_,_,hT⟩:=hT
        split at hT
        · cases hT
        · simp only [Option.some.injEq] at hT; rw [← hT] at hb; simp [SOp.pure] at hb
      · cases hT
    case field t x f =>
      simp only [Option.bind_eq_some_iff] at hT
      obtain ⟨_,_,hT⟩:=hT
      split at hT
      · simp only [Option.bind_eq_some_iff,Option.map_eq_some_iff] at hT; obtain ⟨_,_,_,_,e⟩:=hT; rw [← e] at hb; simp [SOp.pure] at hb
      · cases hT
    case indexAddr t x i =>
      simp only [Option.bind_eq_some_iff] at hT
      obtain ⟨_,_,_,_,hT⟩:=hT
      split at hT
      · simp only [Option.map_eq_some_iff] at hT; obtain ⟨_,_,e⟩:=hT; rw [← e] at hb; simp [SOp.pure] at hb
      · simp only [Option.map_eq_some_iff] at hT; obtain ⟨_,_,e⟩:=hT; rw [← e] at hb; simp [SOp.pure] at hb
      · cases hT
    case index t x i =>
      simp only [Option.bind_eq_some_iff] at hT
      obtain ⟨_,_,_,_,hT⟩:=hT
      split at hT
      · simp only [Option.bind_eq_some_iff,Option.map_eq_some_iff] at hT; obtain ⟨_,_,_,_,e⟩:=hT; rw [← e] at hb; simp [SOp.pure] at hb
      · simp only [Option.some.injEq] at hT; rw [← hT] at hb; simp [SOp.pure] at hb
      · cases hT
    case binOp op t x y yt =>
      simp only [Option.bind_eq_some_iff] at hT
      obtain ⟨_,_,_,_,hT⟩:=hT
      split at hT
      · split at hT
        all_goals first
          | (simp only [Option.some.injEq] at hT; rw [← hT] at hb; simp [SOp.pure] at hb; done)
          | (split at hT; cases hT; simp only [Option.map_eq_some_iff] at hT; obtain ⟨_,_,e⟩:=hT; rw [← e] at hb; simp [SOp.pure] at hb; done)
          | (split at hT <;> first | (cases hT; done) | (split at hT <;> first | (cases hT; done) | (split at hT <;> first | (cases hT; done) | (simp only [Option.some.injEq] at hT; rw [← hT] at hb; simp [SOp.pure] at hb; done))))
          | (cases hT; done)
      · split at hT
        all_goals first
          | (simp only [Option.some.injEq] at hT; rw [← hT] at hb; simp [SOp.pure] at hb; done)
          | (split at hT; cases hT; simp only [Option.map_eq_some_iff] at hT; obtain ⟨_,_,e⟩:=hT; rw [← e] at hb; simp [SOp.pure] at hb; done)
          | (split at hT <;> first | (cases hT; done) | (split at hT <;> first | (cases hT; done) | (split at hT <;> first | (cases hT; done) | (simp only [Option.some.injEq] at hT; rw [← hT] at hb; simp [SOp.pure] at hb; done))))
          | (cases hT; done)
      · simp only [Option.some.injEq] at hT; rw [← hT] at hb; simp [SOp.pure] at hb
    all_goals cases hT
end Go.Sh
