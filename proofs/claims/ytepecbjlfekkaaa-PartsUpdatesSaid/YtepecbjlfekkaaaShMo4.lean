import Derived.Test.YtepecbjlfekkaaaShMo3
set_option linter.all false
set_option linter.unusedVariables false
set_option linter.unusedSimpArgs false
set_option autoImplicit false
namespace Go.Sh
variable {P:Program}
theorem list1 {μ:Mu} {fr:Fr} {x:Opd} {l:List Value} (h:VRs μ ([x].map (·.ev fr)) l):∃ u,l=[u] ∧ VR μ (x.ev fr) u:=by
  cases h with | cons h1 h2=>cases h2; exact ⟨_,rfl,h1⟩
theorem list2 {μ:Mu} {fr:Fr} {x y:Opd} {l:List Value} (h:VRs μ ([x,y].map (·.ev fr)) l):∃ u v,l=[u,v] ∧ VR μ (x.ev fr) u ∧ VR μ (y.ev fr) v:=by
  cases h with | cons h1 h2=>cases h2 with | cons h2 h3=>cases h3; exact ⟨_,_,rfl,h1,h2⟩
theorem nextcap_le (need old:Nat) (h:old < need):Builtin.nextslicecap need old ≤ 2 * need:=by
  unfold Builtin.nextslicecap
  split
  · omega
  · split
    · omega
    · simp only [Builtin.growBy]
      (repeat' split) <;> omega
theorem Sim.newDrawn {μ:Mu} {m m':Mem} {w:World} {st:Bool} {c:List SV} {x y:List Value} {b:Bk} (e:TypeId) (n:Nat) (h:Sim P μ m w) (hn:m.new st (.cells true c)=some (b,m'))
    (hx:VRs μ c x) (hc:SV.alls (Bk.lv b.room.1 b.room.2) c=true) :
    Post P μ m w (μ.up b (w.heap.size,0,(x ++ y).length)) m' (({ w with drawn:=n }:World).alloc (.cells ⟨x ++ y⟩ e)) ∧ μ.up b (w.heap.size,0,(x ++ y).length) b=some (w.heap.size,0,(x ++ y).length):=by
  have h1:=h.drawn n
  obtain ⟨hp,hb⟩:=h1.new (N:=(x ++ y).length) (o:=.cells ⟨x ++ y⟩ e) hn ⟨⟨x ++ y⟩,e,0,0,by show (w.heap.push _)[w.heap.size]? = _; simp,rfl,by rw [hx.length]; simp,by
    have:((x ++ y).drop 0).take c.length=x:=by rw [hx.length]; simp
    show VRs _ c (((x ++ y).drop 0).take c.length)
    rw [this]
    exact hx.restrict _ hc,fun _=>.inl rfl⟩
  exact ⟨⟨hp.sim,hp.go,hp.keep,hp.new,hp.frm,hp.os,hp.tape,hp.out,hp.size,hp.old⟩,hb⟩
theorem Sim.over {μ:Mu} {m m':Mem} {w w':World} {hx:Nat} (h:Sim P μ m w) {k v:Nat} {r base N:Nat} {c all:List SV} (hb:μ (.hp k v)=some (r,base,N)) (hg:m.get (.hp k v)=some (.cells true c)) (hmay:m.may (.hp k v)=true)
    (hm':m'=({ m with heap:=m.heap.set k (v + 1,.cells true all) }:Mem).note (.hp k v) hx) {x':Nat × Nat × Nat} (hx':x'.1=r ∨ w.heap.size ≤ x'.1) (hlt:x'.1 < w'.heap.size)
    (hBR:BR P (μ.on (Bk.lv 0 0)) w' x'.1 x'.2.1 x'.2.2 (.cells true all)) (hoth:∀ j,j < w.heap.size → j ≠ r → w'.heap[j]? = w.heap[j]?) (hsz:w.heap.size ≤ w'.heap.size)
    (hos:w'.os=w.os) (htape:w'.tape=w.tape) (hout:w'.output=w.output) (hnames:∀ B,hx ≤ B → SV.alls (lowB B) c=true → SV.alls (lowB B) all=true) :
    Post P μ m w (μ.up (.hp k (v + 1)) x') m' w' ∧ μ.up (.hp k (v + 1)) x' (.hp k (v + 1))=some x':=by
  have hk:∃ z,m.heap[k]? = some (v,z):=by
    simp only [Mem.get] at hg
    cases hh:m.heap[k]? with
    | none=>simp [hh] at hg
    | some p=>obtain ⟨w,z⟩:=p; simp [hh] at hg; exact ⟨z,by rw [hg.1]⟩
  obtain ⟨z,hz⟩:=hk
  have hklt:k < m.heap.length:=(List.getElem?_eq_some_iff.1 hz).1
  obtain ⟨n1,n2,n3,n4,n5,n6⟩:=Mem.note_spec ({ m with heap:=m.heap.set k (v + 1,.cells true all) }:Mem) (.hp k v) hx
  subst hm'
  have hget:∀ b,(({ m with heap:=m.heap.set k (v + 1,.cells true all) }:Mem).note (.hp k v) hx).get b=match b with
      | .hp n u=>if n=k then (if u=v + 1 then some (.cells true all) else none) else m.get (.hp n u)
      | .st d i=>m.get (.st d i):=by
    intro b
    rw [Mem.note_get]
    cases b with
    | st d i=>rfl
    | hp n u =>
      simp only [Mem.get]
      by_cases e:n=k
      · subst e
        simp [hklt]
        by_cases e2:u=v + 1
        · simp [e2]
        · have:¬ v + 1=u:=fun h=>e2 h.symm
          simp [e2,this]
      · have:¬ k=n:=fun h=>e h.symm
        simp [e,List.getElem?_set,this]
  have hhas:∀ b,(({ m with heap:=m.heap.set k (v + 1,.cells true all) }:Mem).note (.hp k v) hx).has b=match b with
      | .hp n u=>if n=k then decide (u ≤ v + 1) else m.has (.hp n u)
      | .st d i=>m.has (.st d i):=by
    intro b
    rw [Mem.note_has]
    cases b with
    | st d i=>rfl
    | hp n u =>
      simp only [Mem.has]
      by_cases e:n=k
      · subst e; simp [hklt]
      · have:¬ k=n:=fun h=>e h.symm
        simp [e,List.getElem?_set,this]
  have hmhas:∀ u,m.has (.hp k u)=decide (u ≤ v):=fun u=>by simp [Mem.has,hz]
  have hf:m.has (.hp k (v + 1))=false:=by rw [hmhas]; simp
  have hmu:μ (.hp k (v + 1))=none:=h.fresh hf
  have hkeep:=Mu.up_keep (x:=x') hmu
  have hlone:∀ c z u,μ c=some z → z.1=r → m.get c=some u → c=.hp k v:=by
    intro c z u hc hz hu
    by_cases e:c=.hp k v
    · exact e
    · have:=(h.inj c (.hp k v) z (r,base,N) u _ hc hb hz hu hg e).2
      simp [SBk.ro] at this
  have hget':∀ b y,(({ m with heap:=m.heap.set k (v + 1,.cells true all) }:Mem).note (.hp k v) hx).get b=some y → b ≠ .hp k (v + 1) → m.get b=some y ∧ b ≠ .hp k v:=by
    intro b y hy hne
    rw [hget] at hy
    cases b with
    | st d i=>exact ⟨hy,by simp⟩
    | hp n u =>
      dsimp only at hy
      split at hy
      · rename_i e; subst e
        split at hy
        · rename_i e2; subst e2; exact absurd rfl hne
        · cases hy
      · rename_i e; exact ⟨hy,fun e'=>e (by cases e'; rfl)⟩
  have hhasm:∀ b,m.has b=true → (({ m with heap:=m.heap.set k (v + 1,.cells true all) }:Mem).note (.hp k v) hx).has b=true:=by
    intro b hb'
    rw [hhas]
    cases b with
    | st d i=>exact hb'
    | hp n u =>
      dsimp only
      split
      · rename_i e; subst e; rw [hmhas] at hb'; simp at hb' ⊢; omega
      · exact hb'
  refine ⟨{ sim:=⟨?_,?_,?_,?_⟩,go:=⟨by rw [n1],by rw [n3],by rw [n4],by rw [n2]; simp,?_,?_,?_,fun B hB=>n5 B hB,?_⟩,keep:=hkeep,new:=?_,frm:=?_,os:=hos,tape:=htape,out:=hout,size:=hsz,old:=?_ },by simp [Mu.up]⟩
  · intro b y hy
    unfold Mu.up at hy
    split at hy
    · rename_i e; subst e; cases hy; exact ⟨by rw [hhas]; simp,hlt⟩
    · obtain ⟨d1,d2⟩:=h.dom b y hy
      refine ⟨?_,by omega⟩
      rw [hhas]
      cases b with
      | st d i=>exact d1
      | hp n u =>
        dsimp only
        split
        · rename_i e; subst e; rw [hmhas] at d1; simp at d1 ⊢; omega
        · exact d1
  · intro b r' base' M y hb' hy
    have hk':∀ d z,(μ.on (Bk.lv b.room.1 b.room.2)) d=some z → ((μ.up (.hp k (v + 1)) x').on (Bk.lv b.room.1 b.room.2)) d=some z:=fun d z hd=>by
      rw [Mu.on_some] at *; exact ⟨hd.1,hkeep _ _ hd.2⟩
    by_cases e:b=.hp k (v + 1)
    · subst e
      rw [hget] at hy
      simp at hy
      subst hy
      simp [Mu.up] at hb'
      subst hb'
      exact hBR.sub hk' rfl
    · obtain ⟨hy',hne⟩:=hget' b y hy e
      have hb2:μ b=some (r',base',M):=by unfold Mu.up at hb'; rw [if_neg e] at hb'; exact hb'
      refine (h.blk b r' base' M y hb2 hy').sub hk' (hoth r' (h.dom b _ hb2).2 fun er=>hne (hlone b _ y hb2 er hy'))
  · intro b d x z y u hb1 hd1 e hy hu hne
    by_cases e1:b=.hp k (v + 1) <;> by_cases e2:d=.hp k (v + 1)
    · exact absurd (e1.trans e2.symm) hne
    · exfalso
      obtain ⟨hu',hdne⟩:=hget' d u hu e2
      have hd2:μ d=some z:=by unfold Mu.up at hd1; rw [if_neg e2] at hd1; exact hd1
      subst e1
      simp [Mu.up] at hb1
      subst hb1
      rcases hx' with q | q
      · exact hdne (hlone d z u hd2 (by omega) hu')
      · have:=(h.dom d z hd2).2; omega
    · exfalso
      obtain ⟨hy',hbne⟩:=hget' b y hy e1
      have hb2:μ b=some x:=by unfold Mu.up at hb1; rw [if_neg e1] at hb1; exact hb1
      subst e2
      simp [Mu.up] at hd1
      subst hd1
      rcases hx' with q | q
      · exact hbne (hlone b x y hb2 (by omega) hy')
      · have:=(h.dom b x hb2).2; omega
    · have hb2:μ b=some x:=by unfold Mu.up at hb1; rw [if_neg e1] at hb1; exact hb1
      have hd2:μ d=some z:=by unfold Mu.up at hd1; rw [if_neg e2] at hd1; exact hd1
      exact h.inj b d x z y u hb2 hd2 e (hget' b y hy e1).1 (hget' d u hu e2).1 hne
  · intro b y hy
    by_cases e:b=.hp k (v + 1)
    · subst e
      rw [hget] at hy
      simp at hy
      subst hy
      exact BR.knows (b:=.hp k (v + 1)) hBR fun d z hd=>hhasm d (h.dom d z hd).1
    · exact SBk.names_mono (Mem.knows_mono hhasm) (h.cl b y (hget' b y hy e).1)
  · intro b hb'
    rw [hhas]
    cases b with
    | st d i=>exact hb'
    | hp n u =>
      dsimp only
      split
      · rename_i e; subst e; rw [hmhas] at hb'; simp at hb' ⊢; omega
      · exact hb'
  · intro b l hb'
    refine ⟨l,?_⟩
    rw [hget]
    cases b with
    | st d i=>exact hb'
    | hp n u =>
      dsimp only
      split
      · rename_i e; subst e
        have h1:=Mem.get_has hb'
        rw [hmhas] at h1
        simp [Mem.get,hz] at hb'
        simp [Mem.get,hz] at hg
        rw [hg] at hb'
        cases hb'.2
      · exact hb'
  · intro b hb' ⟨y,hy,h1,h2⟩
    have hne:b ≠ .hp k (v + 1):=fun e=>by subst e; rw [hf] at hb'; cases hb'
    exact ⟨y,(hget' b y hy hne).1,h1,(Mem.may_eq (m:=m) n3 n4 b) ▸ h2⟩
  · intro b hb' hm
    have hne:b ≠ .hp k v:=fun e=>by subst e; rw [hmay] at hm; cases hm
    rw [hget]
    cases b with
    | st d i=>rfl
    | hp n u =>
      dsimp only
      split
      · rename_i e; subst e
        have hbar:m.may (.hp n v)=m.may (.hp n u):=rfl
        rw [← hbar,hmay] at hm
        cases hm
      · rfl
  · intro b y hy
    unfold Mu.up at hy
    split at hy
    · rename_i e; subst e; cases hy
      refine .inr ⟨hf,?_⟩
      rcases hx' with q | q
      · exact .inr ⟨.hp k v,_,hb,q.symm,_,hg,rfl,hmay⟩
      · exact .inl q
    · exact .inl hy
  · intro j hj hno
    refine hoth j hj fun e=>?_
    subst e
    exact hno _ _ hb rfl ⟨_,hg,rfl,hmay⟩
  · intro B D hB hD ho he b y hold hy
    by_cases e:b=.hp k (v + 1)
    · subst e
      rw [hget] at hy
      simp at hy
      subst hy
      have hk:k < B:=by simpa [Bk.old] using hold
      refine hnames B (n6 B D (by simpa [Bk.old] using hk) hD he) ?_
      exact ho (.hp k v) _ (by simpa [Bk.old] using hk) hg
    · exact ho b y hold (hget' b y hy e).1
theorem mo_fz {src d:TypeId} {dst ty pos after guard} {x:Operand} {so:SOp} {fr:Fr} {m m':Mem} {v:SV} (hT:opT P (.convert src d x)=some so.base) (hnp:so.pure=false) (h:memop so fr m=some (v,m')):MemOk P ⟨dst,.convert src d x,ty,pos,after,guard⟩ fr m v m':=by
  intro μ w ρ hr hs
  simp only [opT,Option.bind_eq_some_iff] at hT
  obtain ⟨y,hy,hT⟩:=hT
  have rx:=hr x y (by simp [Op.operands]) hy
  split at hT
  · simp only [Option.some.injEq] at hT
    obtain rfl:=base_eq hT.symm rfl
    simp [SOp.pure] at hnp
  · rename_i e1 e2 hu1 hu2
    split at hT
    · rename_i hsd
      split at hT
      · rename_i he
        simp only [Option.some.injEq] at hT
        obtain rfl:=base_eq hT.symm rfl
        simp only [memop] at h
        split at h
        · rename_i b off n c z e
          rw [e] at rx
          split at h
          · rename_i cs hg
            split at h
            · rename_i hc
              simp only [Option.some.injEq,Prod.mk.injEq] at h
              obtain ⟨rfl,rfl⟩:=h
              obtain ⟨r,base,N,hmu,⟨k,hk,hk1,hk2,hk3⟩ | ⟨a,hk,rfl,hk2⟩⟩:=rx.sl_inv
              · obtain ⟨C,et,lo,hi,hh,hN,hbl,hvr,hfz⟩:=hs.row hmu hg
                have hlt:r < w.heap.size:=(hs.dom _ _ hmu).2
                have hfw:(w.freeze ⟨r,C.size,none⟩ 1)={ w with heap:=(w.freeze ⟨r,C.size,none⟩ 1).heap }:=by unfold World.freeze; rw [if_neg (by omega)]
                have hfr:(w.freeze ⟨r,C.size,none⟩ 1).heap[r]? = some (.cells C et (if lo == hi then (C.size,C.size + 1) else (min lo C.size,max hi (C.size + 1)))):=by
                  unfold World.freeze
                  rw [if_neg (by omega)]
                  dsimp only
                  rw [getElem?_modify_self hh]
                have hfo:∀ j,j ≠ r → (w.freeze ⟨r,C.size,none⟩ 1).heap[j]? = w.heap[j]? := by
                  intro j hj
                  unfold World.freeze
                  rw [if_neg (by omega)]
                  dsimp only
                  rw [Array.getElem?_modify,if_neg (fun e=>hj e.symm)]
                have hfs:(w.freeze ⟨r,C.size,none⟩ 1).heap.size=w.heap.size:=by
                  unfold World.freeze
                  rw [if_neg (by omega)]
                  simp
                refine ⟨.slice (some ⟨r,base + off,none⟩) n k,w.freeze ⟨r,C.size,none⟩ 1,μ,.inl ?_,.sl hmu hk1 hk2 hk3,?_⟩
                · have hsh:w.shape? r=some (et,C.size):=by simp [World.shape?,hh]
                  simp [execOp,convert,r_und hu1,r_und hu2,hk,hsd,r_und he,markStringish,hsh]
                · refine hs.turn (x:=.cells true cs) (m':=m) hmu hg rfl hc.2 (fun k=>?_) (fun _=>rfl) rfl rfl rfl rfl (fun _ h=>h) ⟨C,et,if lo == hi then C.size else min lo C.size,if lo == hi then C.size + 1 else max hi (C.size + 1),?_,hN,hbl,hvr,?_⟩ hfo hfs (by rw [hfw]) (by rw [hfw]) (by rw [hfw]) (fun l hl=>by cases hl) (fun _ _ _ _ _ h=>h)
                  · split
                    · rename_i e; subst e; exact hg
                    · rfl
                  · rw [hfr]
                    by_cases q:(lo == hi)=true <;> simp [q]
                  · intro _
                    have:=hfz rfl
                    by_cases q:lo=hi
                    · simp [q]; omega
                    · simp [q]; omega
              · omega
            · cases h
          · cases h
        · cases h
      · cases hT
    · cases hT
  · rename_i e1 hu1 hu2
    split at hT
    · rename_i he
      simp only [Option.some.injEq] at hT
      obtain rfl:=base_eq hT.symm rfl
      simp only [memop] at h
      have u8 : ∀ (f:Value → ByteArray → Sem (ForInStep ByteArray)),(∀ n s,f (.int .u8 n) s=pure (ForInStep.yield (s.push (UInt8.ofNat n.toNat)))) → ∀ (l:List SV) (x:List Value) (bs:List UInt8) (acc:ByteArray),u8s l=some bs → VRs μ l x →
          (forIn x acc f).run P w=.ok ⟨acc.data ++ bs.toArray⟩ w:=by
        intro f hf l
        induction l with
        | nil=>intro x bs acc h hx; cases hx; simp [u8s] at h; subst h; simp
        | cons a l ih =>
          intro x bs acc h hx
          cases hx with
          | cons h1 h2 =>
            cases a
            case int k n =>
              cases k
              case u8 =>
                simp only [u8s,Option.map_eq_some_iff] at h
                obtain ⟨bs',hb,rfl⟩:=h
                cases h1
                simp only [List.forIn_cons,hf,Sem.run_bind,Sem.run_pure,Result.andThen_ok]
                rw [ih _ bs' _ hb h2]
                simp [ByteArray.push]
              all_goals (simp [u8s] at h)
            all_goals (simp [u8s] at h)
      split at h
      · rename_i e
        rw [e] at rx
        simp only [Option.some.injEq,Prod.mk.injEq] at h
        obtain ⟨rfl,rfl⟩:=h
        exact ⟨.string .empty,w,μ,.inl (by simp [execOp,convert,r_und hu1,r_und hu2,rx.nils_inv,r_und he,Conv.bytesToString]),.str _,.refl hs⟩
      · rename_i b off n c z e
        rw [e] at rx
        simp only [Option.bind_eq_some_iff,Option.map_eq_some_iff,Prod.mk.injEq] at h
        obtain ⟨l,hl,bs,hbs,rfl,rfl⟩:=h
        obtain ⟨y',hy',hyr⟩:=elems_run hs hl rx (by simp [lenv])
        obtain ⟨a,k,hk⟩:∃ a k,ρ x=.slice (some a) n k:=by
          obtain ⟨r,base,N,hmu,⟨k,hk,_⟩ | ⟨a,hk,rfl,_⟩⟩:=rx.sl_inv
          · exact ⟨_,k,hk⟩
          · exact ⟨a,0,hk⟩
        have hy':=hy' w.drawn
        rw [hk] at hy'
        simp only [Builtin.firstCells,Nat.mul_one] at hy'
        have hy':(loadCells a n).run P w=.ok ⟨y'⟩ w:=hy'
        refine ⟨.string ⟨bs.toArray⟩,w,μ,.inl ?_,.str _,.refl hs⟩
        have:(Conv.bytesToString (.slice (some a) n k)).run P w=.ok (.string ⟨bs.toArray⟩) w:=by
          simp only [Conv.bytesToString,Sem.run_bind,hy',Result.andThen_ok]
          rw [← Array.forIn_toList,u8 _ (fun n s=>rfl) l y' bs .empty hbs hyr]
          simp
        simp [execOp,convert,r_und hu1,r_und hu2,hk,r_und he,this]
      · cases h
    · cases hT
  · cases hT
theorem lowB_split (B:Nat):∀ (a b:List SV),SV.alls (lowB B) (a ++ b)=(SV.alls (lowB B) a && SV.alls (lowB B) b)
  | [],b=>by simp [SV.alls]
  | x :: a,b=>by simp [SV.alls,lowB_split B a b,Bool.and_assoc]
theorem lowB_part (B:Nat) {a:List SV} (n k:Nat) (h:SV.alls (lowB B) a=true):SV.alls (lowB B) ((a.drop n).take k)=true:=by
  rw [← List.take_append_drop n a,lowB_split,Bool.and_eq_true] at h
  have h2:=h.2
  rw [← List.take_append_drop k (a.drop n),lowB_split,Bool.and_eq_true] at h2
  exact h2.1
theorem append_in {t u e:TypeId} {d:TypeDesc} {s by_ n sl sc:Nat} {zv:Value} {base:Option Addr} {ux:Value} {nw:List Value} {w:World} (ht:P.underlying t=some (.slice e)) (hu:P.underlying u=some d) (hd:∀ k,d ≠ .int k)
    (hs:szT P e=some s) (hb:byT P e=some by_) (hz:∀ w,(zeroValue e).run P w=.ok zv w) (hn:(Builtin.lenOf ux).run P w=.ok n w) (hnew:∀ dr,(Builtin.firstCells s n ux).run P ({ w with drawn:=dr }:World)=.ok ⟨nw⟩ ({ w with drawn:=dr }:World))
    (ty:TypeId) (hle:sl + n ≤ sc) :
    (Builtin.append_ #[t,u] ty #[.slice base sl sc,ux]).run P w=((match base with | some a=>storeCells (a.add (sl * s)) nw | none=>pure ()).bind fun _=>pure (.slice base (sl + n) sc):Sem Value).run P w:=by
  obtain ⟨inf,hinf0,hinfb⟩:∃ i,P.info? e=some i ∧ i.bytes=by_:=by
    unfold byT at hb
    cases hi:P.info? e with
    | none=>simp [hi] at hb
    | some i=>simp [hi] at hb; exact ⟨i,rfl,hb⟩
  have hinf:=fun w=>r_info (P:=P) hinf0 w
  have hnw:(Builtin.firstCells s n ux).run P w=.ok ⟨nw⟩ w:=hnew w.drawn
  have hz0:(match d with | .int _=>true | _=>false)=false:=by cases d <;> first | rfl | (exact absurd rfl (hd _))
  simp only [Builtin.append_]
  simp only [List.getElem?_toArray,List.getElem?_cons_zero,List.getElem?_cons_succ,Sem.run_bind,r_und ht,r_und hu,Result.andThen_ok,r_sz hs,Sem.run_pure]
  rw [if_neg Bool.false_ne_true]
  simp only [Sem.run_bind,hn,Result.andThen_ok]
  rw [if_pos hle]
  simp only [Bool.not_false,if_true,Sem.run_bind,hnw,Result.andThen_ok]
  cases base with
  | none=>rfl
  | some a=>rfl
theorem append_new {t u e:TypeId} {d:TypeDesc} {s by_ n sl sc:Nat} {zv:Value} {base:Option Addr} {ux:Value} {nw:List Value} {w:World} (ht:P.underlying t=some (.slice e)) (hu:P.underlying u=some d) (hd:∀ k,d ≠ .int k)
    (hs:szT P e=some s) (hb:byT P e=some by_) (hz:∀ w,(zeroValue e).run P w=.ok zv w) (hn:(Builtin.lenOf ux).run P w=.ok n w) (hnew:∀ dr,(Builtin.firstCells s n ux).run P ({ w with drawn:=dr }:World)=.ok ⟨nw⟩ ({ w with drawn:=dr }:World))
    {old:List Value} (hold:∀ dr,(Builtin.firstCells s sl (.slice base sl sc)).run P ({ w with drawn:=dr }:World)=.ok ⟨old⟩ ({ w with drawn:=dr }:World))
    (ty:TypeId) (hlim:sl + n ≤ two48) (hlim2:2 * (sl + n) * by_ ≤ two48) (hlt:sc < sl + n):∃ cap dr,sl + n ≤ cap ∧ (Builtin.append_ #[t,u] ty #[.slice base sl sc,ux]).run P w=.ok (.slice (some ⟨w.heap.size,0,none⟩) (sl + n) cap)
      (({ w with drawn:=dr }:World).alloc (.cells ⟨old ++ nw ++ (Builtin.zeroCells zv.cells (cap - (sl + n))).toList⟩ e)):=by
  obtain ⟨inf,hinf0,hinfb⟩:∃ i,P.info? e=some i ∧ i.bytes=by_:=by
    unfold byT at hb
    cases hi:P.info? e with
    | none=>simp [hi] at hb
    | some i=>simp [hi] at hb; exact ⟨i,rfl,hb⟩
  have hinf:=fun w=>r_info (P:=P) hinf0 w
  have hnw:(Builtin.firstCells s n ux).run P w=.ok ⟨nw⟩ w:=hnew w.drawn
  have hz0:(match d with | .int _=>true | _=>false)=false:=by cases d <;> first | rfl | (exact absurd rfl (hd _))
  have h1:¬ (((sl + n:Nat):Int) > IntKind.i64.max ∧ (false=true ∨ inf.bytes=0)):=by
    have:(IntKind.i64.max:Int)=9223372036854775807:=by rfl
    rw [this]; simp only [two48] at hlim; omega
  have h2:¬ (Builtin.nextslicecap (sl + n) sc * inf.bytes > 2 ^ 48):=by
    have:=Nat.mul_le_mul_right by_ (nextcap_le (sl + n) sc hlt)
    rw [hinfb]; simp only [two48] at hlim2; omega
  refine ⟨sl + n + (w.tape w.drawn (.appendCap (sl + n) sc e)) % (2 ^ 63 - (sl + n)),w.drawn + 1,by omega,?_⟩
  simp only [Builtin.append_]
  simp only [List.getElem?_toArray,List.getElem?_cons_zero,List.getElem?_cons_succ,Sem.run_bind,r_und ht,r_und hu,Result.andThen_ok,r_sz hs,Sem.run_pure]
  rw [if_neg Bool.false_ne_true]
  simp only [Sem.run_bind,hn,Result.andThen_ok]
  rw [if_neg (by omega)]
  simp only [Sem.run_bind,hinf,Result.andThen_ok]
  rw [if_neg h1]
  simp only [Sem.run_bind,Sem.run_pure,hinf,Result.andThen_ok]
  rw [if_neg h2]
  simp only [Sem.run_bind,Sem.run_pure,Result.andThen_ok,run_choose,Question.forced,Question.cut,Bool.false_eq_true,if_false,hinf,run_askRoom,hold,Bool.not_false,if_true,hnew,hz,newRow,run_newObj]
  simp only [World.alloc]
  congr 3
  simp
end Go.Sh
