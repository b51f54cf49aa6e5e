import Derived.Test.YtepecbjlfekkaaaShRun3
import Derived.Maps.RangeRun
set_option linter.all false
set_option linter.unusedVariables false
set_option linter.unusedSimpArgs false
set_option autoImplicit false
namespace Go.Sh
open Go.ChangeMaps (setBlock)
variable {P:Program}
theorem allI_some {α:Type} {n:Nat} {f:Nat → Option α} {r:α} (h:allI n f=some r):∀ i,i < n → f i=some r:=by
  unfold allI at h
  split at h
  · rename_i hex
    cases h
    exact Classical.choose_spec hex
  · cases h
theorem allI_intro {α:Type} {n:Nat} {f:Nat → Option α} {r:α} (hn:0 < n) (h:∀ i,i < n → f i=some r):allI n f=some r:=by
  unfold allI
  have hex:∃ r,∀ i,i < n → f i=some r:=⟨r,h⟩
  rw [dif_pos hex]
  have:=Classical.choose_spec hex 0 hn
  rw [h 0 hn] at this
  exact this.symm
theorem shutH_get (m:Mem) (b:Bk):m.shutH.get b=m.get b:=by cases b <;> rfl
theorem shutH_has (m:Mem) (b:Bk):m.shutH.has b=m.has b:=by cases b <;> rfl
theorem reopenH_get (m m₀:Mem) (b:Bk):(m.reopenH m₀).get b=m.get b:=by cases b <;> rfl
theorem reopenH_has (m m₀:Mem) (b:Bk):(m.reopenH m₀).has b=m.has b:=by cases b <;> rfl
theorem shutH_knows (m:Mem) (b c:Bk):m.shutH.knows b c=m.knows b c:=by simp [Mem.knows,shutH_has]
theorem reopenH_knows (m m₀:Mem) (b c:Bk):(m.reopenH m₀).knows b c=m.knows b c:=by simp [Mem.knows,reopenH_has]
theorem shutH_may {m:Mem} {n v:Nat} (h:m.has (.hp n v)=true):m.shutH.may (.hp n v)=false:=by
  simp only [Mem.has] at h
  cases hh:m.heap[n]? with
  | none=>simp [hh] at h
  | some y=>have:=(List.getElem?_eq_some_iff.1 hh).1; exact decide_eq_false (show ¬ m.heap.length ≤ n by omega)
theorem Sim.shutH {μ:Mu} {m:Mem} {w:World} (h:Sim P μ m w):Sim P μ m.shutH w :=
  ⟨fun b x hb=>by rw [shutH_has]; exact h.dom b x hb,fun b r base N x hb hx=>h.blk b r base N x hb (by rw [shutH_get] at hx; exact hx),
   fun b c x z y u hb hc e hy hu hne=>h.inj b c x z y u hb hc e (by rw [shutH_get] at hy; exact hy) (by rw [shutH_get] at hu; exact hu) hne,
   fun b y hy=>SBk.names_mono (fun c hc=>by rw [shutH_knows]; exact hc) (h.cl b y (by rw [shutH_get] at hy; exact hy))⟩
theorem shutH_wr {m:Mem} {b:Bk} (h:m.shutH.wr b):m.wr b:=by
  obtain ⟨y,hy,h1,h2⟩:=h
  rw [shutH_get] at hy
  refine ⟨y,hy,h1,?_⟩
  cases b with
  | hp n v=>rw [shutH_may (Mem.get_has hy)] at h2; cases h2
  | st d i=>exact h2
theorem shutH_may2 {m:Mem} {b:Bk} (hb:m.has b=true) (h:m.may b=false):m.shutH.may b=false:=by
  cases b with
  | hp n v=>exact shutH_may hb
  | st d i=>exact h
theorem Post.reopenH {μ μ':Mu} {m m':Mem} {w w':World} (hp:Post P μ m.shutH w μ' m' w'):Post P μ m w μ' (m'.reopenH m) w':=by
  have hsim:Sim P μ' (m'.reopenH m) w':=by
    refine ⟨fun b x hb=>?_,fun b r base N x hb hx=>?_,fun b c x z y u hb hc e hy hu hne=>?_,fun b y hy=>?_⟩
    · rw [reopenH_has]; exact hp.sim.dom b x hb
    · rw [reopenH_get] at hx; exact hp.sim.blk b r base N x hb hx
    · rw [reopenH_get] at hy hu; exact hp.sim.inj b c x z y u hb hc e hy hu hne
    · rw [reopenH_get] at hy; exact SBk.names_mono (fun c hc=>by rw [reopenH_knows]; exact hc) (hp.sim.cl b y hy)
  have hdb:m'.db=m.db:=hp.go.db
  have hsame:∀ b,m.has b=true → m.may b=false → (m'.reopenH m).get b=m.get b:=fun b hb hm=>by
    rw [reopenH_get,hp.go.same b (by rw [shutH_has]; exact hb) (shutH_may2 hb hm),shutH_get]
  have hgo:MGo m (m'.reopenH m):=by
    refine ⟨hp.go.depth,rfl,hdb,hp.go.heap,fun b hb=>?_,fun b r hb=>?_,fun b hb hwr=>?_,hp.go.esc,hsame⟩
    · rw [reopenH_has]; exact hp.go.has b (by rw [shutH_has]; exact hb)
    · obtain ⟨r',hr'⟩:=hp.go.loop b r (by rw [shutH_get]; exact hb)
      exact ⟨r',by rw [reopenH_get]; exact hr'⟩
    · obtain ⟨y,hy,h1,h2⟩:=hwr
      rw [reopenH_get] at hy
      have hmay:m.may b=true:=by rw [← h2]; exact (Mem.may_eq (m:=m) (m':=m'.reopenH m) rfl hdb b).symm
      cases b with
      | hp n v =>
        have:=hp.go.same (.hp n v) (by rw [shutH_has]; exact hb) (shutH_may hb)
        rw [shutH_get] at this
        exact ⟨y,by rw [← this]; exact hy,h1,hmay⟩
      | st d i =>
        have hw:m'.wr (.st d i):=⟨y,hy,h1,by rw [← h2]; rfl⟩
        exact shutH_wr (hp.go.wr (.st d i) (by rw [shutH_has]; exact hb) hw)
  refine ⟨hsim,hgo,hp.keep,fun b x hb=>?_,fun r hr hno=>hp.frm r hr fun c y hc hy hw=>hno c y hc hy (shutH_wr hw),hp.os,hp.tape,hp.out,hp.size,?_⟩
  · rcases hp.new b x hb with h1 | ⟨h1,h2⟩
    · exact .inl h1
    · rw [shutH_has] at h1
      rcases h2 with h2 | ⟨c,y,hc,hy,hw⟩
      · exact .inr ⟨h1,.inl h2⟩
      · exact .inr ⟨h1,.inr ⟨c,y,hc,hy,shutH_wr hw⟩⟩
  · intro B D hB hD ho he b y hb hy
    rw [reopenH_get] at hy
    refine hp.old B D hB hD (fun b y hb hy=>?_) he b y hb hy
    rw [shutH_get] at hy
    exact ho b y hb hy
theorem iter_set {w w1:World} {r:Nat} {x y:Obj} (hr:w.heap[r]? = some x) (h1:w1=w ∨ w1=w.drew) :
    (setBlock w1 r y).heap[r]? = some y ∧ (∀ i,i ≠ r → (setBlock w1 r y).heap[i]? = w.heap[i]?) ∧ (setBlock w1 r y).heap.size=w.heap.size ∧ (setBlock w1 r y).os=w.os ∧ (setBlock w1 r y).tape=w.tape ∧ (setBlock w1 r y).output=w.output:=by
  have hlt:r < w.heap.size:=(Array.getElem?_eq_some_iff.1 hr).1
  have e:w1.heap=w.heap:=by rcases h1 with rfl | rfl <;> rfl
  refine ⟨?_,fun i hi=>?_,?_,?_⟩
  · show (w1.heap.setIfInBounds r y)[r]? = _
    rw [e,Array.getElem?_setIfInBounds_self_of_lt hlt]
  · show (w1.heap.setIfInBounds r y)[i]? = _
    rw [e,Array.getElem?_setIfInBounds_ne (fun h=>hi h.symm)]
  · show (w1.heap.setIfInBounds r y).size=_
    rw [e,Array.size_setIfInBounds]
  · rcases h1 with rfl | rfl <;> exact ⟨rfl,rfl,rfl⟩
theorem Post.turnIter {μ₀ μ:Mu} {m₀ m:Mem} {w₀ w:World} (hp:Post P μ₀ m₀ w₀ μ m w) {r:Nat} {a:Option Nat} {s c:Nat} {q:Array Nat} (hr:w.heap[r]? = some (.mapIter a s q c)) (hrs:w₀.heap.size ≤ r) {w1:World} (h1:w1=w ∨ w1=w.drew) (a':Option Nat) (s' c':Nat) (q':Array Nat) :
    Post P μ₀ m₀ w₀ μ m (setBlock w1 r (.mapIter a' s' q' c')):=by
  obtain ⟨g1,g2,g3,g4,g5,g6⟩:=iter_set (y:=.mapIter a' s' q' c') hr h1
  refine { sim:=⟨fun b x hb=>?_,fun b k base N x hb hx=>?_,hp.sim.inj,hp.sim.cl⟩,go:=hp.go,keep:=hp.keep,new:=hp.new,frm:=fun k hk hno=>?_,os:=g4.trans hp.os,tape:=g5.trans hp.tape,out:=g6.trans hp.out,size:=by rw [g3]; exact hp.size,old:=hp.old }
  · have:=hp.sim.dom b x hb
    exact ⟨this.1,by rw [g3]; exact this.2⟩
  · have hB:=hp.sim.blk b k base N x hb hx
    by_cases hk:k=r
    · subst hk
      cases x with
      | cells rw c=>obtain ⟨C,e,lo,hi,h1,_⟩:=hB; rw [hr] at h1; cases h1
      | map es=>obtain ⟨E,cl,h1,_⟩:=hB; rw [hr] at h1; cases h1
      | loop l=>obtain ⟨L,h1,_⟩:=hB; rw [hr] at h1; cases h1
      | iter=>exact ⟨_,_,_,_,g1⟩
    · exact hB.sub (fun _ _ h=>h) (g2 k hk)
  · rw [g2 k (by omega)]
    exact hp.frm k hk hno
theorem MarksP.turnIter {B:Nat} {μ:Mu} {w w1:World} {ds:List Deferred} (h:MarksP B w μ ds) {r:Nat} {a:Option Nat} {s c:Nat} {q:Array Nat} (hr:w.heap[r]? = some (.mapIter a s q c)) (h1:w1=w ∨ w1=w.drew) (y:Obj):MarksP B (setBlock w1 r y) μ ds:=by
  obtain ⟨rs,e,nd,h3⟩:=h
  obtain ⟨_,g2,_⟩:=iter_set (y:=y) hr h1
  refine ⟨rs,e,nd,fun k hk=>⟨(h3 k hk).1,?_,(h3 k hk).2.2⟩⟩
  rw [g2 k (fun h=>by subst h; have:=(h3 k hk).2.1; rw [hr] at this; cases this)]
  exact (h3 k hk).2.1
theorem MR.get {μ:Mu}:∀ {es:List (SV × SV)} {L:List MapEntry} {i:Nat} {e:MapEntry},MR μ es L → L[i]? = some e → ∃ k v,es[i]? = some (k,v) ∧ VR μ k e.key ∧ VR μ v e.val
  | [],[],_,_,_,h=>by simp at h
  | [],_ :: _,_,_,hm,_=>hm.elim
  | _ :: _,[],_,_,_,h=>by simp at h
  | (k,v) :: _,x :: _,0,e,⟨h1,h2,_⟩,h=>by
    simp at h; subst h
    exact ⟨k,v,rfl,h1,h2⟩
  | (_,_) :: _,_ :: _,i + 1,e,⟨_,_,h3⟩,h=>by
    obtain ⟨k,v,q⟩:=MR.get h3 (i:=i) (by simpa using h)
    exact ⟨k,v,by simpa using q.1,q.2⟩
theorem MR.erase {μ:Mu}:∀ {es:List (SV × SV)} {L:List MapEntry} (i:Nat),MR μ es L → MR μ (es.eraseIdx i) (L.eraseIdx i)
  | [],[],_,_=>trivial
  | [],_ :: _,_,hm=>hm.elim
  | _ :: _,[],_,hm=>by cases hm
  | (_,_) :: _,_ :: _,0,⟨_,_,h3⟩=>h3
  | (_,_) :: _,_ :: _,i + 1,⟨h1,h2,h3⟩=>⟨h1,h2,MR.erase i h3⟩
theorem MR.nil_left {μ:Mu} {es:List (SV × SV)} (h:MR μ es []):es=[]:=by
  cases es with
  | nil=>rfl
  | cons x r=>cases h
theorem filter_erase {e:MapEntry}:∀ {L:List MapEntry} {i:Nat},(L.map (·.born)).Nodup → L[i]? = some e → L.filter (fun x=>!(x.born == e.born))=L.eraseIdx i
  | [],_,_,h=>by simp at h
  | x :: L,0,hn,h=>by
    simp at h; subst h
    simp only [List.map_cons,List.nodup_cons] at hn
    simp only [List.eraseIdx_cons_zero,List.filter_cons,beq_self_eq_true,Bool.not_true,Bool.false_eq_true,if_false]
    refine List.filter_eq_self.2 fun y hy=>?_
    have:y.born ≠ x.born:=fun h=>hn.1 (h ▸ List.mem_map.2 ⟨y,hy,rfl⟩)
    simp [this]
  | x :: L,i + 1,hn,h=>by
    simp only [List.map_cons,List.nodup_cons] at hn
    have hi:L[i]? = some e:=by simpa using h
    have hx:x.born ≠ e.born:=fun h=>hn.1 (h ▸ List.mem_map.2 ⟨e,List.mem_of_getElem? hi,rfl⟩)
    simp only [List.eraseIdx_cons_succ,List.filter_cons,show (x.born == e.born)=false from by simp [hx],Bool.not_false,if_true]
    rw [filter_erase hn.2 hi]
theorem left_erase {E:Array MapEntry} {seen:Array Nat} {i:Nat} {e:MapEntry} (hn:(E.toList.map (·.born)).Nodup) (h:(leftOf E seen).toList[i]? = some e):(leftOf E (seen.push e.born)).toList=(leftOf E seen).toList.eraseIdx i:=by
  have hl:∀ s,(leftOf E s).toList=E.toList.filter fun e=>!s.contains e.born:=fun s=>by unfold leftOf; rw [Array.toList_filter]
  have hnd:((leftOf E seen).toList.map (·.born)).Nodup:=by
    rw [hl]
    exact (List.filter_sublist.map _).nodup hn
  rw [← filter_erase hnd h,hl,hl,List.filter_filter]
  congr 1
  funext x
  rw [contains_push]
  cases seen.contains x.born <;> cases (x.born == e.born) <;> rfl
theorem on_on0 (μ:Mu) (d i:Nat):(μ.on (Bk.lv d i)).on (Bk.lv 0 0)=μ.on (Bk.lv 0 0):=by
  funext b
  cases b with
  | hp n v=>rfl
  | st e j=>simp [Mu.on,Bk.lv]
theorem FrR.subs {μ:Mu} {fr fr':Fr} {tmps:Array Value} (h:FrR μ fr tmps) (hs:∀ t,fr'.get t=fr.get t ∨ fr'.get t=.unk):FrR μ fr' tmps:=fun t=>by
  rcases hs t with e | e
  · rw [e]; exact h t
  · rw [e]; exact .unk _
theorem lvs_get {d i:Nat}:∀ {fr:Fr},SV.lvs d i (fr.map Prod.snd)=true → ∀ t,(fr.get t).lv d i=true
  | [],_,_=>rfl
  | (k,v) :: r,h,t=>by
    simp only [List.map_cons,SV.lvs,Bool.and_eq_true] at h
    simp only [Fr.get]
    split
    · exact h.1
    · exact lvs_get h.2 t
theorem FrR.onLv {μ:Mu} {fr:Fr} {tmps:Array Value} {d i:Nat} (h:FrR μ fr tmps) (hl:SV.lvs d i (fr.map Prod.snd)=true):FrR (μ.on (Bk.lv d i)) fr tmps:=fun t =>
  (h t).restrict _ (by rw [← SV.lv_all]; exact lvs_get hl t)
theorem hdFr_get {b:Bk} {it nx more:Nat} {ks:List Nat} {fr:Fr} (hp:isPtr b (fr.get it)=true) (t:Nat):(hdFr b it nx more ks fr).get t=fr.get t ∨ (hdFr b it nx more ks fr).get t=.unk:=by
  unfold hdFr
  simp only [Fr.get]
  split
  · rename_i e; subst e
    left
    unfold isPtr at hp
    split at hp
    · rename_i c o h
      simp only [Bool.and_eq_true,decide_eq_true_eq] at hp
      rw [h,hp.1,hp.2]
    · cases hp
  · split
    · exact .inr rfl
    · split
      · exact .inr rfl
      · rw [Fr.get_keep]
        split
        · exact .inl rfl
        · exact .inr rfl
theorem FrR.unk {μ:Mu} {fr:Fr} {tmps:Array Value} {t:Nat} {v:Value} (h:FrR μ fr tmps) (ht:fr.get t=.unk):FrR μ fr (tmps.setIfInBounds t v):=fun s=>by
  by_cases e:s=t
  · subst e; rw [ht]; exact .unk _
  · have:=h s
    rw [Array.getD_eq_getD_getElem?] at this ⊢
    rw [Array.getElem?_setIfInBounds_ne (fun h=>e h.symm)]
    exact this
theorem wanted_none {o:Oper} (h:o.guard=none) (f:Nat → Option Bool):Region.wanted o f=true:=by
  unfold Region.wanted; rw [h]
theorem getD_set_self {t:Array Value} {i:Nat} {v:Value} (h:i < t.size):(t.setIfInBounds i v).getD i undef=v:=by
  rw [Array.getD_eq_getD_getElem?,Array.getElem?_setIfInBounds_self_of_lt h]; rfl
theorem getD_set_ne {t:Array Value} {i j:Nat} {v:Value} (h:j ≠ i):(t.setIfInBounds i v).getD j undef=t.getD j undef:=by
  rw [Array.getD_eq_getD_getElem?,Array.getD_eq_getD_getElem?,Array.getElem?_setIfInBounds_ne (fun e=>h e.symm)]
abbrev rmBody (i1:Nat) (ops1:Array Oper) (more out next i2:Nat) (ops2:Array Oper) (cb:Code):Code :=
  .seq (.region i1 ops1 false) (.seq (.cond (.tmp more) .skip (.exit out)) (.block next (.seq (.region i2 ops2 false) cb)))
def SM (P:Program) (Tb:Tbl) (n:Nat):Prop :=
  ∀ b kk it nx more out next pair ks asg body es fr m e fr' m',runM Tb n b kk it nx more out next pair ks asg body es fr m=some (e,fr',m') →
    ∀ oc nt i1 i2 ops1 ops2 cb (o1 o2 o3:Oper) (rest:List Oper),ops1.toList=[o1,o2] → ops2.toList=o3 :: rest → o1.dst=some nx → o1.op=.next (.tmp it) false → o1.guard=none → o2.dst=some more → o2.op=.extract (.tmp nx) 0 → o2.guard=none → o3.dst=some pair → o3.op=.entry (.tmp it) → o3.guard=none →
      it ≠ nx → it ≠ more → it < nt → nx < nt → more < nt → pair < nt → opersT P nt ops2 rest=some (asg.map SOper.erase) → codeT P oc nt cb=some body.erase →
    ∀ F,Wide F → ∀ B k μ₀ m₀ w₀ μ w a sz r mb E clock since c0 seen,Sim P μ₀ m₀ w₀ → m₀.lvl.2 ≤ kk → b.lv m₀.lvl.1 kk=true → Post P μ₀ m₀ w₀ μ m w → FrR μ fr a.tmps → a.tmps.size=sz → nt ≤ sz → RoundOk F μ₀ m₀ → MarksP B w μ a.defers → B ≤ w₀.heap.size →
      μ b=some (r,0,0) → w.heap[r]? = some (.mapIter (some mb) since seen c0) → w₀.heap.size ≤ r → since ≤ c0 → since ≤ clock →
      w₀.heap[mb]? = some (.map E clock) → (∀ c y,μ₀ c=some y → y.1=mb → ¬ m₀.wr c) → (∀ x ∈ E.toList,x.born < since) → (E.toList.map (·.born)).Nodup → MR (μ.on (Bk.lv 0 0)) es (leftOf E seen).toList →
      (rmBody i1 ops1 more out next i2 ops2 cb).roundsIn F k P (Exit.inBlock out (QC P B μ₀ m₀ w₀ sz e fr' m')) n a w
theorem isIter_eq {x:Option SBk} (h:isIter x=true):x=some .iter:=by
  unfold isIter at h
  split at h
  · rfl
  · cases h
theorem sm_step {Tb:Tbl} {n:Nat} (hP:∀ n',n' < n → SP P Tb n') (hC:SC P Tb n) (hM:SM P Tb n):SM P Tb (n + 1):=by
  intro b kk it nx more out next pair ks asg body es fr m e fr' m' h oc nt i1 i2 ops1 ops2 cb o1 o2 o3 rest hops1 hops2 d1 p1 g1 d2 p2 g2 d3 p3 g3 n1 n2 l1 l2 l3 l4 hasg hbody F hw B k μ₀ m₀ w₀ μ w a sz r mb E clock since c0 seen hs hkk hbl hp hf hsz hnt hro hm hB hb hr hrs hsc hsk hmb hno hold hnd hes
  simp only [runM,Option.bind_eq_some_iff] at h
  obtain ⟨⟨frH,mH⟩,hhead,h⟩:=h
  unfold headM at hhead
  rw [Option.ite_none_right_eq_some] at hhead
  obtain ⟨hcond,hhead⟩:=hhead
  simp only [Option.some.injEq,Prod.mk.injEq] at hhead
  obtain ⟨e1,e2⟩:=hhead
  subst e1; subst e2
  simp only [Bool.and_eq_true] at hcond
  obtain ⟨⟨hptr,hlv⟩,hit⟩:=hcond
  have hit:=isIter_eq hit
  have hl1:m.lvl.1=m₀.lvl.1:=by rw [Mem.lvl_length,Mem.lvl_length,hp.go.depth]
  have hpH:=hp.trimK hs hkk
  have hfH:FrR (μ.on (Bk.lv m.lvl.1 kk)) (hdFr b it nx more ks fr) a.tmps:=(hf.subs (hdFr_get hptr)).onLv hlv
  have hbH:(μ.on (Bk.lv m.lvl.1 kk)) b=some (r,0,0):=Mu.on_some.2 ⟨by rw [hl1]; exact hbl,hb⟩
  have hmH:MarksP B w (μ.on (Bk.lv m.lvl.1 kk)) a.defers:=hm.on
  have hesH:MR ((μ.on (Bk.lv m.lvl.1 kk)).on (Bk.lv 0 0)) es (leftOf E seen).toList:=by rw [on_on0]; exact hes
  have hgit:(hdFr b it nx more ks fr).get it=.ptr b 0:=by simp [hdFr,Fr.get]
  have hgnx:(hdFr b it nx more ks fr).get nx=.unk:=by
    have:¬ nx=it:=fun h=>n1 h.symm
    simp only [hdFr,Fr.get,this,if_false]; split <;> simp
  have hgmo:(hdFr b it nx more ks fr).get more=.unk:=by
    have:¬ more=it:=fun h=>n2 h.symm
    simp [hdFr,Fr.get,this]
  generalize hfr:hdFr b it nx more ks fr=frH at *
  generalize hmu:μ.on (Bk.lv m.lvl.1 kk)=μH at *
  generalize hmm:m.trim kk=mH at *
  have hevit:a.tmps.getD it undef=.pointer (some ⟨r,0,none⟩):=by
    have:=hfH it
    rw [hgit] at this
    obtain ⟨r',base,N,q1,q2⟩:=this.ptr_inv
    rw [hbH] at q1
    cases q1
    exact q2
  have hmbw:w.heap[mb]? = some (.map E clock):=by
    rw [hp.frm mb (Array.getElem?_eq_some_iff.1 hmb).1 hno]; exact hmb
  rw [roundsIn_succ]
  refine wpIn_seq (wpIn_region_list ?_)
  rw [hops1]
  -- the step
  have step:∀ (u:Value) (t:Bool) (w2:World),(Instr.next (.pointer (some ⟨r,0,none⟩)) false o1.type).run P w=.ok u w2 → (Instr.extract u 0).run P w2=.ok (.bool t) w2 →
      ∀ Q:Exit → Act → World → Prop,(∀ a2:Act,a2.tmps=(a.tmps.setIfInBounds nx u).setIfInBounds more (.bool t) → a2.defers=a.defers → Q .normal a2 w2) → wpListIn F k P ops1 Q [o1,o2] a w:=by
    intro u t w2 hn he Q hQ
    simp only [wpListIn,wanted_none g1,wanted_none g2,if_true]
    refine ⟨fun f _=>hw.1 f,?_⟩
    rw [Oper.semAt_eq _ _ _ (by rw [p1]; simp)]
    have x1:(execOp a.eval o1).run P w=.ok (.value u) w2:=by
      simp [execOp,p1,Act.eval,hevit,hn]
    rw [x1]
    refine ⟨fun f _=>hw.1 f,?_⟩
    rw [Oper.semAt_eq _ _ _ (by rw [p2]; simp)]
    have x2:(execOp (a.put o1.dst u).eval o2).run P w2=.ok (.value (.bool t)) w2:=by
      simp [execOp,p2,d1,Act.eval,Act.put,getD_set_self (show nx < a.tmps.size by omega),he]
    rw [x2]
    exact hQ _ (by simp [d1,d2,Act.put]) (by simp [put_defers])
  have hput:∀ (u:Value) (t:Bool),FrR μH frH ((a.tmps.setIfInBounds nx u).setIfInBounds more (.bool t)):=fun u t=>(hfH.unk hgnx).unk hgmo
  rcases run_next_at (P:=P) w o1.type r mb since c0 seen E clock hr hmbw hold hsc with ⟨hz,hrun⟩ | ⟨x,hx,w1,hw1,hrun⟩
  · -- nothing is left
    have hnil:es=[]:=by
      have:(leftOf E seen).toList=[]:=by
        have:leftOf E seen=#[]:=Array.eq_empty_of_size_eq_zero hz
        rw [this]
      rw [this] at hesH
      exact hesH.nil_left
    subst hnil
    simp only [Option.some.injEq,Prod.mk.injEq] at h
    obtain ⟨rfl,rfl,rfl⟩:=h
    refine step _ false w hrun (by simp [Instr.extract]) _ fun a2 ha2 hd2=>?_
    refine wpIn_seq (wpIn_cond_split (t:=false) (by simp [Act.eval,ha2,getD_set_self (show more < (a.tmps.setIfInBounds nx (Value.tuple #[.bool false])).size by simp; omega)]) (fun ht=>by cases ht) fun _=>?_)
    refine wpIn_exit ?_
    show Exit.inBlock out _ (.exit out) a2 w
    simp only [Exit.inBlock,if_true]
    exact ⟨rfl,μH,hpH,by rw [ha2]; exact hput _ _,by rw [ha2]; simp [hsz],by rw [hd2]; exact hmH⟩
  · -- a round
    obtain ⟨i,hi⟩:=List.getElem?_of_mem hx
    obtain ⟨hxE,hxs⟩:=mem_left hx
    obtain ⟨key,val,hesi,hvk,hvv⟩:=hesH.get hi
    have hilt:i < es.length:=(List.getElem?_eq_some_iff.1 hesi).1
    cases es with
    | nil=>simp at hilt
    | cons y ys =>
    simp only at h
    have h:=allI_some h i (by simpa using hilt)
    rw [hesi] at h
    simp only [Option.bind_eq_some_iff] at h
    obtain ⟨⟨fr1,m1⟩,hrest,⟨e2,fr2,m2⟩,hrb,h⟩:=h
    have hset:=iter_set (y:=.mapIter (some mb) since (seen.push x.born) clock) hr hw1
    have hp2:=hpH.turnIter hr hrs hw1 (some mb) since clock (seen.push x.born)
    have hm2:=hmH.turnIter hr hw1 (.mapIter (some mb) since (seen.push x.born) clock)
    generalize hw2:setBlock w1 r (.mapIter (some mb) since (seen.push x.born) clock)=w2 at *
    have hmb2:w2.heap[mb]? = some (.map E clock):=by
      rw [hp2.frm mb (Array.getElem?_eq_some_iff.1 hmb).1 hno]; exact hmb
    refine step _ true w2 hrun (by simp [Instr.extract]) _ fun a2 ha2 hd2=>?_
    have hsz2:a2.tmps.size=sz:=by rw [ha2]; simp [hsz]
    have hit2:a2.tmps.getD it undef=.pointer (some ⟨r,0,none⟩):=by
      rw [ha2,getD_set_ne n2,getD_set_ne n1]; exact hevit
    refine wpIn_seq (wpIn_cond_split (t:=true) (by simp [Act.eval,ha2,getD_set_self (show more < (a.tmps.setIfInBounds nx (Value.tuple #[.bool true,x.key,x.val])).size by simp; omega)]) (fun _=>?_) fun ht=>by cases ht)
    refine wpIn_skip ?_
    show Code.wpIn F k P _ _ a2 w2
    refine wpIn_block (wpIn_seq (wpIn_region_list ?_))
    rw [hops2]
    simp only [wpListIn,wanted_none g3,if_true]
    refine ⟨fun f _=>hw.1 f,?_⟩
    rw [Oper.semAt_eq _ _ _ (by rw [p3]; simp)]
    have x3:(execOp a2.eval o3).run P w2=.ok (.value (.tuple #[x.key,x.val])) w2:=by
      have:=run_entry_at (P:=P) w2 r mb since seen E clock x hset.1 hmb2 hxE hnd
      simp [execOp,p3,Act.eval,hit2,this]
    rw [x3]
    have hf3:FrR μH ((pair,.tup [key,val]) :: frH) (a2.put o3.dst (.tuple #[x.key,x.val])).tmps:=by
      rw [d3]
      exact FrR.put (d:=some pair) (by rw [ha2]; exact hput _ _) (.tup (.cons (hvk.sub fun _ _ h=>(Mu.on_some.1 h).2) (.cons (hvv.sub fun _ _ h=>(Mu.on_some.1 h).2) .nil))) (fun t ht=>by cases ht; omega)
    have hsz3:(a2.put o3.dst (.tuple #[x.key,x.val])).tmps.size=sz:=by rw [put_size]; exact hsz2
    show wpListIn F k P ops2 _ rest _ w2
    rw [show rest=rest ++ [] from (List.append_nil _).symm]
    refine list_stepT hw n hP asg rest [] _ mH fr1 m1 hrest hasg μH w2 _ hp2.sim hf3 (by rw [hsz3]; exact hnt) ?_
    intro a4 w4 μ4 hp4 hf4 hsz4 hd4
    show Code.wpIn F k P cb _ a4 w4
    have hp04:=hp2.trans hp4 hs
    have hm4:MarksP B w4 μ4 a4.defers:=by rw [hd4,put_defers,hd2]; exact hm2.post hp4
    have hs4:a4.tmps.size=sz:=by rw [hsz4]; exact hsz3
    refine wpIn_mono (hC body fr1 m1 e2 fr2 m2 hrb cb oc nt hbody F hw B k μ4 w4 a4 hp4.sim hf4 (by rw [hs4]; exact hnt) (hro.post hp04) hm4 (Nat.le_trans hB hp04.size)) ?_
    intro ex a5 w5 hq
    obtain ⟨hex,μ5,hp5,hf5,hsz5,hm5⟩:=hq
    have hp25:=hp4.trans hp5 hp2.sim
    have hp05:=hp2.trans hp25 hs
    have hs5:a5.tmps.size=sz:=by rw [hsz5]; exact hs4
    have again:runM Tb n b kk it nx more out next pair ks asg body ((y :: ys).eraseIdx i) fr2 m2=some (e,fr',m') → (rmBody i1 ops1 more out next i2 ops2 cb).roundsIn F k P (Exit.inBlock out (QC P B μ₀ m₀ w₀ sz e fr' m')) n a5 w5:=fun hh=>by
      refine hM b kk it nx more out next pair ks asg body ((y :: ys).eraseIdx i) fr2 m2 e fr' m' hh oc nt i1 i2 ops1 ops2 cb o1 o2 o3 rest hops1 hops2 d1 p1 g1 d2 p2 g2 d3 p3 g3 n1 n2 l1 l2 l3 l4 hasg hbody F hw B k μ₀ m₀ w₀ μ5 w5 a5 sz r mb E clock since clock (seen.push x.born) hs hkk hbl hp05 hf5 hs5 hnt hro hm5 hB (hp25.keep b _ hbH) ?_ hrs hsk hsk hmb hno hold hnd ?_
      · rw [hp25.frm r (by rw [hset.2.2.1]; exact (Array.getElem?_eq_some_iff.1 hr).1) ?_]
        · exact hset.1
        · rintro c z hc hz ⟨u,hu,hro',_⟩
          by_cases e:c=b
          · subst e
            rw [hit] at hu; cases hu
            simp [SBk.ro] at hro'
          · have:=hp2.sim.inj c b z (r,0,0) u .iter hc hbH hz hu hit e
            rw [this.1] at hro'; cases hro'
      · rw [left_erase hnd hi]
        refine (hesH.erase i).sub fun c z hc=>?_
        obtain ⟨q1,q2⟩:=Mu.on_some.1 hc
        exact Mu.on_some.2 ⟨q1,hp25.keep c z q2⟩
    subst hex
    cases e2 with
    | normal=>exact again h
    | ret =>
      simp only [Option.some.injEq,Prod.mk.injEq] at h
      obtain ⟨rfl,rfl,rfl⟩:=h
      exact ⟨rfl,μ5,hp05,hf5,hs5,hm5⟩
    | exit id =>
      simp only at h
      show Exit.inBlock next _ (.exit id) a5 w5
      simp only [Exit.inBlock]
      by_cases hid:id=next
      · rw [if_pos hid] at h
        rw [if_pos hid]
        exact again h
      · rw [if_neg hid] at h
        rw [if_neg hid]
        simp only [Option.some.injEq,Prod.mk.injEq] at h
        obtain ⟨he,rfl,rfl⟩:=h
        show Exit.inBlock out _ (.exit id) a5 w5
        simp only [Exit.inBlock]
        by_cases ho:id=out
        · rw [if_pos ho] at he ⊢
          subst he
          exact ⟨rfl,μ5,hp05,hf5,hs5,hm5⟩
        · rw [if_neg ho] at he ⊢
          subst he
          exact ⟨rfl,μ5,hp05,hf5,hs5,hm5⟩
end Go.Sh
