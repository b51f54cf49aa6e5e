import Derived.Test.YtepecbjlfekkaaaShVr
set_option linter.all false
set_option linter.unusedVariables false
set_option linter.unusedSimpArgs false
set_option autoImplicit false
namespace Go.Sh
theorem isSome_get {α:Type} (l:List α) (i:Nat):(l[i]?).isSome=decide (i < l.length):=by
  by_cases h:i < l.length <;> simp [h]
def Mem.has (m:Mem):Bk → Bool
  | .hp n v=>match m.heap[n]? with
    | some (w,_)=>decide (v ≤ w)
    | none=>false
  | .st d i=>(stkGet m.stk d i).isSome
theorem stkGet_lt:∀ {s:List (List SBk)} {d i:Nat} {x:SBk},stkGet s d i=some x → d < s.length
  | [],_,_,_,h=>by simp [stkGet] at h
  | f :: r,d,i,x,h=>by
    unfold stkGet at h
    split at h
    · simp; omega
    · have:=stkGet_lt h; simp; omega
theorem stkGet_set:∀ (s:List (List SBk)) (d i:Nat) (x:SBk) (e j:Nat),
    stkGet (stkSet s d i x) e j=if e=d ∧ j=i ∧ (stkGet s d i).isSome then some x else stkGet s e j
  | [],_,_,_,_,_=>by simp [stkSet,stkGet]
  | f :: r,d,i,x,e,j=>by
    have hl:∀ (s:List (List SBk)),(stkSet s d i x).length=s.length:=by
      intro s; induction s with
      | nil=>rfl
      | cons a s ih=>unfold stkSet; split <;> simp_all
    unfold stkSet
    by_cases hd:d=r.length
    · subst hd
      simp only [if_true,stkGet]
      by_cases he:e=r.length
      · subst he
        simp only [if_true,true_and]
        by_cases hj:j=i
        · subst hj
          by_cases hlt:j < f.length
          · simp [hlt]
          · simp [hlt]
        · have:¬ i=j:=fun h=>hj h.symm
          simp [hj,List.getElem?_set,this]
      · simp [he]
    · simp only [hd,if_false,stkGet,hl]
      by_cases he:e=r.length
      · subst he
        have:¬ r.length=d:=fun h=>hd h.symm
        simp [this]
      · simp only [he,if_false]
        exact stkGet_set r d i x e j
theorem stkSet_length (s:List (List SBk)) (d i:Nat) (x:SBk):(stkSet s d i x).length=s.length:=by
  induction s with
  | nil=>rfl
  | cons a s ih=>unfold stkSet; split <;> simp_all
theorem Mem.get_has {m:Mem} {b:Bk} {x:SBk} (h:m.get b=some x):m.has b=true:=by
  cases b with
  | hp n v =>
    simp only [Mem.get,Mem.has] at *
    cases hh:m.heap[n]? with
    | none=>simp [hh] at h
    | some y=>obtain ⟨w,z⟩:=y; simp [hh] at h ⊢; omega
  | st d i=>simp only [Mem.get,Mem.has] at *; simp [h]
theorem Mem.get_set {m:Mem} {b c:Bk} {x y:SBk} (h:m.get b=some y):(m.set b x).get c=if c=b then some x else m.get c:=by
  cases b with
  | hp n v =>
    have hn:∃ z,m.heap[n]? = some (v,z):=by
      simp only [Mem.get] at h
      cases hh:m.heap[n]? with
      | none=>simp [hh] at h
      | some p=>obtain ⟨w,z⟩:=p; simp [hh] at h; exact ⟨z,by rw [h.1]⟩
    obtain ⟨z,hz⟩:=hn
    have hlt:n < m.heap.length:=(List.getElem?_eq_some_iff.1 hz).1
    cases c with
    | hp k u =>
      simp only [Mem.set,Mem.get,Bk.hp.injEq]
      by_cases e:k=n
      · subst e
        have hz2:=(List.getElem?_eq_some_iff.1 hz).2
        simp [hlt]
        by_cases e2:u=v
        · simp [e2]
        · have:¬ v=u:=fun h=>e2 h.symm
          simp [e2,this,hz2]
      · have:¬ n=k:=fun h=>e h.symm
        simp [e,List.getElem?_set,this]
    | st d i=>simp [Mem.set,Mem.get]
  | st d i =>
    cases c with
    | hp k u=>simp [Mem.set,Mem.get]
    | st e j =>
      simp only [Mem.set,Mem.get,Bk.st.injEq] at *
      rw [stkGet_set]
      simp [h]
theorem Mem.has_set {m:Mem} {b c:Bk} {x y:SBk} (h:m.get b=some y):(m.set b x).has c=m.has c:=by
  cases b with
  | hp n v =>
    have hn:∃ z,m.heap[n]? = some (v,z):=by
      simp only [Mem.get] at h
      cases hh:m.heap[n]? with
      | none=>simp [hh] at h
      | some p=>obtain ⟨w,z⟩:=p; simp [hh] at h; exact ⟨z,by rw [h.1]⟩
    obtain ⟨z,hz⟩:=hn
    have hlt:n < m.heap.length:=(List.getElem?_eq_some_iff.1 hz).1
    cases c with
    | hp k u =>
      simp only [Mem.set,Mem.has]
      by_cases e:k=n
      · subst e; have hz2:=(List.getElem?_eq_some_iff.1 hz).2; simp [hlt,hz2]
      · have:¬ n=k:=fun h=>e h.symm
        simp [List.getElem?_set,this]
    | st d i=>simp [Mem.set,Mem.has]
  | st d i =>
    cases c with
    | hp k u=>simp [Mem.set,Mem.has]
    | st e j =>
      simp only [Mem.set,Mem.has,Mem.get] at *
      rw [stkGet_set]
      by_cases hc:e=d ∧ j=i
      · obtain ⟨rfl,rfl⟩:=hc; simp [h]
      · have:¬ (e=d ∧ j=i ∧ (stkGet m.stk d i).isSome=true):=fun hh=>hc ⟨hh.1,hh.2.1⟩
        simp [this]
theorem Mem.new_spec {m m':Mem} {st:Bool} {x:SBk} {b:Bk} (h:m.new st x=some (b,m')) :
    m.has b=false ∧ (∀ c,m'.get c=if c=b then some x else m.get c) ∧ (∀ c,m'.has c=true ↔ c=b ∨ m.has c=true) ∧
    m'.stk.length=m.stk.length ∧ m'.hb=m.hb ∧ m'.db=m.db ∧ m'.esc=m.esc ∧ m.heap.length ≤ m'.heap.length ∧
    (st=true → b=.st m.lvl.1 m.lvl.2 ∧ m'.heap=m.heap) ∧ (st=false → b=.hp m.heap.length 0 ∧ m'.heap=m.heap ++ [(0,x)] ∧ m'.stk=m.stk):=by
  cases st with
  | true =>
    simp only [Mem.new,if_true] at h
    cases hs:m.stk with
    | nil=>simp [hs] at h
    | cons f r =>
      simp only [hs,Option.some.injEq,Prod.mk.injEq] at h
      obtain ⟨rfl,rfl⟩:=h
      refine ⟨by simp [Mem.has,hs,stkGet],?_,?_,by simp,rfl,rfl,rfl,Nat.le_refl _,fun _=>⟨by simp [Mem.lvl,hs],rfl⟩,fun h=>by cases h⟩
      · intro c
        cases c with
        | hp n v=>simp [Mem.get]
        | st d i =>
          simp only [Mem.get,stkGet,hs,Bk.st.injEq]
          by_cases e:d=r.length
          · simp only [e,if_true,true_and,List.getElem?_append]
            by_cases hi:i < f.length
            · have:¬ i=f.length:=by omega
              simp [hi,this]
            · by_cases hi2:i=f.length
              · simp [hi2]
              · have:¬ i - f.length=0:=by omega
                simp only [hi,if_false,hi2]
                cases hz:i - f.length with
                | zero=>omega
                | succ k=>simp [List.getElem?_eq_none (by omega:f.length ≤ i)]
          · simp [e]
      · intro c
        cases c with
        | hp n v=>simp [Mem.has]
        | st d i =>
          simp only [Mem.has,stkGet,hs,Bk.st.injEq]
          by_cases e:d=r.length
          · simp only [e,if_true,true_and,isSome_get,List.length_append,List.length_singleton]
            simp
            omega
          · simp [e]
  | false =>
    simp only [Mem.new,Bool.false_eq_true,if_false,Option.some.injEq,Prod.mk.injEq] at h
    obtain ⟨rfl,rfl⟩:=h
    refine ⟨by simp [Mem.has],?_,?_,rfl,rfl,rfl,rfl,by simp,(fun h=>by cases h),fun _=>⟨rfl,rfl,rfl⟩⟩
    · intro c
      cases c with
      | st d i=>simp [Mem.get]
      | hp n v =>
        simp only [Mem.get,List.getElem?_append,Bk.hp.injEq]
        by_cases hn:n < m.heap.length
        · have:¬ n=m.heap.length:=by omega
          simp [hn,this]
        · by_cases hn2:n=m.heap.length
          · subst hn2
            by_cases hv:v=0
            · simp [hv]
            · have:¬ 0=v:=fun h=>hv h.symm
              simp [hv,this]
          · simp only [hn,if_false,hn2,false_and]
            cases hz:n - m.heap.length with
            | zero=>omega
            | succ k=>simp [List.getElem?_eq_none (by omega:m.heap.length ≤ n)]
    · intro c
      cases c with
      | st d i=>simp [Mem.has]
      | hp n v =>
        simp only [Mem.has,List.getElem?_append,Bk.hp.injEq]
        by_cases hn:n < m.heap.length
        · have:¬ n=m.heap.length:=by omega
          simp [hn,this]
        · by_cases hn2:n=m.heap.length
          · subst hn2; simp
          · simp only [hn,if_false,hn2,false_and,false_or]
            cases hz:n - m.heap.length with
            | zero=>omega
            | succ k=>simp [List.getElem?_eq_none (by omega:m.heap.length ≤ n)]
theorem Mem.has_lv {m:Mem} {b:Bk} (h:m.has b=true):b.lv m.lvl.1 m.lvl.2=true:=by
  cases b with
  | hp n v=>rfl
  | st d i =>
    simp only [Mem.has] at h
    cases hs:m.stk with
    | nil=>simp [hs,stkGet] at h
    | cons f r =>
      simp only [hs,stkGet] at h
      simp only [Mem.lvl,hs,Bk.lv]
      by_cases e:d=r.length
      · simp [e] at h ⊢; exact h
      · simp only [e,if_false] at h
        cases hg:stkGet r d i with
        | none=>simp [hg] at h
        | some x=>have:=stkGet_lt hg; simp; omega
theorem Mem.has_heap {m:Mem} {b:Bk} (h:m.has b=true):b.hx ≤ m.heap.length:=by
  cases b with
  | st d i=>simp [Bk.hx]
  | hp n v =>
    simp only [Mem.has] at h
    cases hh:m.heap[n]? with
    | none=>simp [hh] at h
    | some y=>have:=(List.getElem?_eq_some_iff.1 hh).1; simp [Bk.hx]; omega
def SBk.ro:SBk → Bool
  | .cells false _=>true
  | .iter=>true
  | _=>false
def Mem.wr (m:Mem) (b:Bk):Prop:=∃ y,m.get b=some y ∧ y.ro=false ∧ m.may b=true
def Bk.old (B D:Nat):Bk → Bool
  | .hp n _=>decide (n < B)
  | .st d _=>decide (d < D)
def SBk.names (p:Bk → Bool):SBk → Prop
  | .cells _ c=>SV.alls p c=true
  | .map es=>∀ e ∈ es,e.1.all p=true ∧ e.2.all p=true
  | .loop l=>∀ t,(l.fr.get t).all p=true
  | .iter=>True
def lowB (B:Nat) (b:Bk):Bool:=decide (b.hx ≤ B)
def Old (B D:Nat) (m:Mem):Prop:=∀ b y,b.old B D=true → m.get b=some y → y.names (lowB B)
def Mem.knows (m:Mem) (b c:Bk):Bool:=c.lv b.room.1 b.room.2 && m.has c
def MR (μ:Mu):List (SV × SV) → List MapEntry → Prop
  | [],[]=>True
  | (k,v) :: r,e :: s=>VR μ k e.key ∧ VR μ v e.val ∧ MR μ r s
  | _,_=>False
def BornOk (E:List MapEntry) (clock:Nat):Prop:=(∀ x ∈ E,x.born < clock) ∧ (E.map (·.born)).Nodup
def Jump.code:Jump → Code
  | .ret=>.ret
  | .exit id=>.exit id
def BR (P:Program) (μ:Mu) (w:World) (r base N:Nat):SBk → Prop
  | .cells rw c=>∃ C e lo hi,w.heap[r]? = some (.cells C e (lo,hi)) ∧ C.size=N ∧ base + c.length ≤ N ∧ VRs μ c ((C.toList.drop base).take c.length) ∧ (rw=true → lo=hi ∨ N ≤ lo)
  | .map es=>∃ E clock,w.heap[r]? = some (.map E clock) ∧ MR μ es E.toList ∧ BornOk E.toList clock
  | .loop l=>∃ L,w.heap[r]? = some (.loop L) ∧ L.state=l.state ∧ L.pending=l.pending.map Jump.code ∧ L.params.toList=l.params ∧ FrR μ l.fr L.tmps ∧
      ∃ oc nt,nt ≤ L.tmps.size ∧ (∀ t ∈ l.params,t < nt) ∧ codeT P oc nt L.assign=some l.assign.erase ∧ codeT P oc nt L.body=some l.body.erase
  | .iter=>∃ mi since seen c,w.heap[r]? = some (.mapIter mi since seen c)
theorem MR.sub {μ μ':Mu} (h:∀ b x,μ b=some x → μ' b=some x):∀ {es:List (SV × SV)} {E:List MapEntry},MR μ es E → MR μ' es E
  | [],[],_=>trivial
  | (_,_) :: _,_ :: _,⟨a,b,c⟩=>⟨a.sub h,b.sub h,MR.sub h c⟩
  | [],_ :: _,hh=>hh.elim
  | _ :: _,[],hh=>by cases hh
theorem BR.sub {P:Program} {μ μ':Mu} {w w':World} {r base N:Nat} {x:SBk} (hm:∀ b x,μ b=some x → μ' b=some x) (hw:w'.heap[r]? = w.heap[r]?) (h:BR P μ w r base N x) :
    BR P μ' w' r base N x:=by
  cases x with
  | cells rw c=>obtain ⟨C,e,lo,hi,h1,h2,h3,h4,h5⟩:=h; exact ⟨C,e,lo,hi,hw.trans h1,h2,h3,h4.sub hm,h5⟩
  | map es=>obtain ⟨E,cl,h1,h2,h3⟩:=h; exact ⟨E,cl,hw.trans h1,h2.sub hm,h3⟩
  | iter=>obtain ⟨a,b,c,d,h1⟩:=h; exact ⟨a,b,c,d,hw.trans h1⟩
  | loop l=>obtain ⟨L,h1,h2,h3,h4,h5,h6⟩:=h; exact ⟨L,hw.trans h1,h2,h3,h4,h5.sub hm,h6⟩
theorem MR.restrict {μ:Mu} (p:Bk → Bool):∀ {es:List (SV × SV)} {E:List MapEntry},MR μ es E → (∀ e ∈ es,e.1.all p=true ∧ e.2.all p=true) → MR (μ.on p) es E
  | [],[],_,_=>trivial
  | (_,_) :: _,_ :: _,⟨a,b,c⟩,h=>⟨a.restrict p (h _ List.mem_cons_self).1,b.restrict p (h _ List.mem_cons_self).2,MR.restrict p c fun e he=>h e (List.mem_cons_of_mem _ he)⟩
  | [],_ :: _,hh,_=>hh.elim
  | _ :: _,[],hh,_=>by cases hh
theorem BR.restrict {P:Program} {μ:Mu} {w:World} {r base N:Nat} {x:SBk} (p:Bk → Bool) (h:BR P μ w r base N x) (hp:x.names p):BR P (μ.on p) w r base N x:=by
  cases x with
  | cells rw c=>obtain ⟨C,e,lo,hi,h1,h2,h3,h4,h5⟩:=h; exact ⟨C,e,lo,hi,h1,h2,h3,h4.restrict p hp,h5⟩
  | map es=>obtain ⟨E,cl,h1,h2,h3⟩:=h; exact ⟨E,cl,h1,h2.restrict p hp,h3⟩
  | iter=>exact h
  | loop l=>obtain ⟨L,h1,h2,h3,h4,h5,h6⟩:=h; exact ⟨L,h1,h2,h3,h4,fun t=>(h5 t).restrict p (hp t),h6⟩
theorem MR.named {μ:Mu}:∀ {es:List (SV × SV)} {E:List MapEntry},MR μ es E → ∀ e ∈ es,e.1.all (fun b=>(μ b).isSome)=true ∧ e.2.all (fun b=>(μ b).isSome)=true
  | [],[],_=>fun e he=>by cases he
  | (_,_) :: _,_ :: _,⟨a,b,c⟩=>fun e he=>by
    rcases List.mem_cons.1 he with rfl | he
    · exact ⟨a.named,b.named⟩
    · exact MR.named c e he
  | [],_ :: _,hh=>hh.elim
  | _ :: _,[],hh=>by cases hh
theorem BR.named {P:Program} {μ:Mu} {w:World} {r base N:Nat} {x:SBk} (h:BR P μ w r base N x):x.names (fun b=>(μ b).isSome):=by
  cases x with
  | cells rw c=>obtain ⟨C,e,lo,hi,h1,h2,h3,h4,h5⟩:=h; exact h4.named
  | map es=>obtain ⟨E,cl,h1,h2,h3⟩:=h; exact h2.named
  | iter=>trivial
  | loop l=>obtain ⟨L,h1,h2,h3,h4,h5,h6⟩:=h; exact fun t=>(h5 t).named
theorem SBk.names_mono {p q:Bk → Bool} (h:∀ b,p b=true → q b=true) {x:SBk} (hx:x.names p):x.names q:=by
  cases x with
  | cells rw c=>exact SV.alls_mono h c hx
  | map es=>exact fun e he=>⟨SV.all_mono h _ (hx e he).1,SV.all_mono h _ (hx e he).2⟩
  | loop l=>exact fun t=>SV.all_mono h _ (hx t)
  | iter=>trivial
structure Sim (P:Program) (μ:Mu) (m:Mem) (w:World):Prop where
  dom:∀ b x,μ b=some x → m.has b=true ∧ x.1 < w.heap.size
  blk:∀ b r base N x,μ b=some (r,base,N) → m.get b=some x → BR P (μ.on (Bk.lv b.room.1 b.room.2)) w r base N x
  inj:∀ b c x z y u,μ b=some x → μ c=some z → x.1=z.1 → m.get b=some y → m.get c=some u → b ≠ c → y.ro=true ∧ u.ro=true
  cl:∀ b y,m.get b=some y → y.names (m.knows b)
structure MGo (m m':Mem):Prop where
  depth:m'.stk.length=m.stk.length
  hb:m'.hb=m.hb
  db:m'.db=m.db
  heap:m.heap.length ≤ m'.heap.length
  has:∀ b,m.has b=true → m'.has b=true
  loop:∀ b r,m.get b=some (.loop r) → ∃ r',m'.get b=some (.loop r')
  wr:∀ b,m.has b=true → m'.wr b → m.wr b
  esc:∀ B,escOk B m'.esc=true → escOk B m.esc=true
  same:∀ b,m.has b=true → m.may b=false → m'.get b=m.get b
structure Post (P:Program) (μ:Mu) (m:Mem) (w:World) (μ':Mu) (m':Mem) (w':World):Prop where
  sim:Sim P μ' m' w'
  go:MGo m m'
  keep:∀ b x,μ b=some x → μ' b=some x
  new:∀ b x,μ' b=some x → μ b=some x ∨ (m.has b=false ∧ (w.heap.size ≤ x.1 ∨ ∃ c y,μ c=some y ∧ y.1=x.1 ∧ m.wr c))
  frm:∀ r,r < w.heap.size → (∀ c y,μ c=some y → y.1=r → ¬ m.wr c) → w'.heap[r]? = w.heap[r]?
  os:w'.os=w.os
  tape:w'.tape=w.tape
  out:w'.output=w.output
  size:w.heap.size ≤ w'.heap.size
  old:∀ B D,B ≤ m.heap.length → D < m.stk.length → Old B D m → escOk B m'.esc=true → Old B D m'
theorem MGo.refl (m:Mem):MGo m m:=⟨rfl,rfl,rfl,Nat.le_refl _,fun _ h=>h,fun _ r h=>⟨r,h⟩,fun _ _ h=>h,fun _ h=>h,fun _ _ _=>rfl⟩
theorem MGo.trans {a b c:Mem} (h:MGo a b) (k:MGo b c):MGo a c :=
  ⟨k.depth.trans h.depth,k.hb.trans h.hb,k.db.trans h.db,Nat.le_trans h.heap k.heap,fun x hx=>k.has x (h.has x hx),fun x r hx=>let ⟨r',h'⟩:=h.loop x r hx; k.loop x r' h',
   fun x hx hw=>h.wr x hx (k.wr x (h.has x hx) hw),fun B hB=>h.esc B (k.esc B hB),fun x hx hm=>(k.same x (h.has x hx) (by rw [← hm]; cases x <;> simp [Mem.may,h.hb,h.db])).trans (h.same x hx hm)⟩
theorem Post.refl {P:Program} {μ:Mu} {m:Mem} {w:World} (h:Sim P μ m w):Post P μ m w μ m w :=
  ⟨h,.refl m,fun _ _ h=>h,fun _ _ h=>.inl h,fun _ _ _=>rfl,rfl,rfl,rfl,Nat.le_refl _,fun _ _ _ _ h _=>h⟩
theorem Post.trans {P:Program} {μ μ₁ μ₂:Mu} {m m₁ m₂:Mem} {w w₁ w₂:World} (h:Post P μ m w μ₁ m₁ w₁) (k:Post P μ₁ m₁ w₁ μ₂ m₂ w₂) (hs:Sim P μ m w):Post P μ m w μ₂ m₂ w₂ where
  sim:=k.sim
  go:=h.go.trans k.go
  keep b x hb:=k.keep b x (h.keep b x hb)
  new b x hb:=by
    rcases k.new b x hb with h1 | ⟨hn,h1⟩
    · exact h.new b x h1
    · have hn':m.has b=false:=by
        cases hh:m.has b with
        | false=>rfl
        | true=>rw [h.go.has b hh] at hn; cases hn
      rcases h1 with h1 | ⟨c,y,hc,hy,hw⟩
      · exact .inr ⟨hn',.inl (Nat.le_trans h.size h1)⟩
      · rcases h.new c y hc with h2 | ⟨_,h2⟩
        · exact .inr ⟨hn',.inr ⟨c,y,h2,hy,h.go.wr c (hs.dom c y h2).1 hw⟩⟩
        · rcases h2 with h2 | ⟨c',y',hc',hy',hw'⟩
          · exact .inr ⟨hn',.inl (hy ▸ h2)⟩
          · exact .inr ⟨hn',.inr ⟨c',y',hc',hy'.trans hy,hw'⟩⟩
  frm r hr hno:=by
    rw [k.frm r (Nat.lt_of_lt_of_le hr h.size) ?_,h.frm r hr hno]
    intro c y hc hy hw
    rcases h.new c y hc with h2 | ⟨_,h2⟩
    · exact hno c y h2 hy (h.go.wr c (hs.dom c y h2).1 hw)
    · rcases h2 with h2 | ⟨c',y',hc',hy',hw'⟩
      · omega
      · exact hno c' y' hc' (hy'.trans hy) hw'
  os:=k.os.trans h.os
  tape:=k.tape.trans h.tape
  out:=k.out.trans h.out
  size:=Nat.le_trans h.size k.size
  old B D hB hD ho he:=k.old B D (Nat.le_trans hB h.go.heap) (h.go.depth ▸ hD) (h.old B D hB hD ho (k.go.esc B he)) he
theorem Sim.drawn {P:Program} {μ:Mu} {m:Mem} {w:World} (n:Nat) (h:Sim P μ m w):Sim P μ m { w with drawn:=n } :=
  ⟨h.dom,fun b r base N x hb hx=>(h.blk b r base N x hb hx).sub (fun _ _ h=>h) rfl,h.inj,h.cl⟩
theorem Post.drawn {P:Program} {μ μ':Mu} {m m':Mem} {w w':World} (n:Nat) (h:Post P μ m w μ' m' w'):Post P μ m w μ' m' { w' with drawn:=n } :=
  ⟨h.sim.drawn n,h.go,h.keep,h.new,h.frm,h.os,h.tape,h.out,h.size,h.old⟩
theorem Sim.lv {P:Program} {μ:Mu} {m:Mem} {w:World} (h:Sim P μ m w) {v:SV} {u:Value} (hv:VR μ v u):v.all (Bk.lv m.lvl.1 m.lvl.2)=true :=
  SV.all_mono (fun b hb=>by cases hx:μ b with
    | none=>simp [hx] at hb
    | some x=>exact Mem.has_lv (h.dom b x hx).1) v hv.named
theorem Sim.oldNow {P:Program} {μ:Mu} {m:Mem} {w:World} (h:Sim P μ m w) (D:Nat):Old m.heap.length D m:=by
  intro b y _ hy
  refine SBk.names_mono (fun c hc=>?_) (h.cl b y hy)
  simp only [Mem.knows,Bool.and_eq_true] at hc
  simpa [lowB] using Mem.has_heap hc.2
theorem BR.knows {P:Program} {μ:Mu} {m:Mem} {w:World} {b:Bk} {r base N:Nat} {x:SBk} (h:BR P (μ.on (Bk.lv b.room.1 b.room.2)) w r base N x) (hm:∀ c z,μ c=some z → m.has c=true):x.names (m.knows b) :=
  SBk.names_mono (fun c hc=>by
    cases hx:(μ.on (Bk.lv b.room.1 b.room.2)) c with
    | none=>simp [hx] at hc
    | some z=>obtain ⟨h1,h2⟩:=Mu.on_some.1 hx; simp [Mem.knows,h1,hm c z h2]) h.named
theorem Mem.knows_mono {m m':Mem} {b:Bk} (h:∀ c,m.has c=true → m'.has c=true):∀ c,m.knows b c=true → m'.knows b c=true:=by
  intro c hc
  simp only [Mem.knows,Bool.and_eq_true] at hc ⊢
  exact ⟨hc.1,h c hc.2⟩
end Go.Sh
