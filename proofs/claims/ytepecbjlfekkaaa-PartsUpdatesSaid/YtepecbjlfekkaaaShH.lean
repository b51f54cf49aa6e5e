import Derived.Test.YtepecbjlfekkaaaShMp
set_option linter.all false
set_option linter.unusedVariables false
set_option linter.unusedSimpArgs false
set_option autoImplicit false
namespace Go.Sh
abbrev Hp:=List (Nat × SBk)
def Mem.hp (m:Mem) (H:Hp):Mem:={ m with heap:=H }
def Mem.es (m:Mem) (e:Option Nat):Mem:={ m with esc:=e }
abbrev Hm (H:Hp):Mem:=⟨[],H,0,0,none⟩
def hget (H:Hp) (n v:Nat):Option SBk:=match H[n]? with
  | some (w,x)=>if w=v then some x else none
  | none=>none
variable {F:Tbl} {K:List KI} {m X Z:Mem} {H H':Hp}
theorem hp_self (m:Mem):m.hp m.heap=m:=id rfl
theorem push_hp (m:Mem):m.push=(m.hp m.heap).fr [] none:=id rfl
theorem hp_heap:(m.hp H).heap=H:=id rfl
theorem es_heap (e:Option Nat):(m.es e).heap=m.heap:=id rfl
theorem hp_dep:(m.hp H).dep=m.dep:=id rfl
theorem hp_db:(m.hp H).db=m.db:=id rfl
theorem hp_hb:(m.hp H).hb=m.hb:=id rfl
theorem hp_hl:(m.hp H).hl=H.length:=id rfl
theorem hp_lvl:(m.hp H).lvl=m.lvl:=id rfl
theorem hp_esc:(m.hp H).esc=m.esc:=id rfl
theorem hp_wf (h:m.Wf):(m.hp H).Wf:=h
theorem es_dep (e:Option Nat):(m.es e).dep=m.dep:=id rfl
theorem es_db (e:Option Nat):(m.es e).db=m.db:=id rfl
theorem es_hb (e:Option Nat):(m.es e).hb=m.hb:=id rfl
theorem es_hl (e:Option Nat):(m.es e).hl=m.hl:=id rfl
theorem es_esc (e:Option Nat):(m.es e).esc=e:=id rfl
theorem es_wf (h:m.Wf) (e:Option Nat):(m.es e).Wf:=h
theorem frs_esc (f:List (List SBk)) (e:Option Nat):(m.frs f e).esc=e:=id rfl
theorem fr_hp (f:List SBk) (e:Option Nat):(m.fr f e).hp H=(m.hp H).fr f e:=id rfl
theorem frs_hp (f:List (List SBk)) (e:Option Nat):(m.frs f e).hp H=(m.hp H).frs f e:=id rfl
theorem hp_hp:(m.hp H).hp H'=m.hp H':=id rfl
theorem es_es (e e':Option Nat):(m.es e).es e'=m.es e':=id rfl
theorem fr_es (f:List SBk) (e e':Option Nat):(m.fr f e).es e'=m.fr f e':=id rfl
theorem frs_es (f:List (List SBk)) (e e':Option Nat):(m.frs f e).es e'=m.frs f e':=id rfl
theorem es_fr (f:List SBk) (e e':Option Nat):(m.es e).fr f e'=m.fr f e':=id rfl
theorem es_frs (f:List (List SBk)) (e e':Option Nat):(m.es e).frs f e'=m.frs f e':=id rfl
theorem hpes_hp (e:Option Nat):((m.hp H).es e).hp H'=(m.hp H').es e:=id rfl
theorem es_hp (e:Option Nat):(m.es e).hp H=(m.hp H).es e:=id rfl
theorem hp_get (n v:Nat):(m.hp H).get (.hp n v)=hget H n v:=id rfl
theorem hm_get (n v:Nat):(Hm H).get (.hp n v)=hget H n v:=id rfl
theorem hp_get_st (d i:Nat):(m.hp H).get (.st d i)=m.get (.st d i):=id rfl
theorem es_get (e:Option Nat) (b:Bk):(m.es e).get b=m.get b:=by cases b <;> rfl
def loadO (o:Option SBk) (off:Nat) (k:Option Nat):Option SV:=match o with
  | some (.cells _ c)=>partv c off k
  | _=>none
theorem loadO_cells (b:Bool) (c:List SV) (off:Nat) (k:Option Nat):loadO (some (.cells b c)) off k=partv c off k:=id rfl
theorem hp_load (n v off:Nat) (k:Option Nat):(m.hp H).load (.hp n v) off k=loadO (hget H n v) off k:=by
  rw [Mem.load,hp_get]; unfold loadO; rfl
theorem hp_load_st (d i off:Nat) (k:Option Nat):(m.hp H).load (.st d i) off k=m.load (.st d i) off k:=id rfl
theorem hp_set (n v:Nat) (x:SBk):(m.hp H).set (.hp n v) x=m.hp (H.set n (v,x)):=id rfl
theorem hp_set_st (d i:Nat) (x:SBk):(m.hp H).set (.st d i) x=(m.set (.st d i) x).hp H:=id rfl
def stqO (m:Mem) (H:Hp) (n v off:Nat) (vs:List SV) (o:Option SBk):Option Mem:=match o with
  | some (.cells true c)=>if off + vs.length ≤ c.length then some (m.hp (H.set n (v,.cells true (c.take off ++ vs ++ c.drop (off + vs.length))))) else none
  | _=>none
theorem stqO_cells (n v off:Nat) (vs c:List SV):stqO m H n v off vs (some (.cells true c))=if off + vs.length ≤ c.length then some (m.hp (H.set n (v,.cells true (c.take off ++ vs ++ c.drop (off + vs.length))))) else none:=id rfl
theorem hp_stq (n v off:Nat) (vs:List SV):(m.hp H).stq (.hp n v) off vs=if SV.cellsOk 0 0 vs then stqO m H n v off vs (hget H n v) else none:=by
  simp only [Mem.stq,hp_get,hp_set,Bk.room]; unfold stqO; rfl
theorem hp_stq_st (d i off:Nat) (vs:List SV):(m.hp H).stq (.st d i) off vs=(m.stq (.st d i) off vs).map fun m'=>m'.hp H:=by
  have:(m.hp H).get (.st d i)=m.get (.st d i):=id rfl
  simp only [Mem.stq,this,hp_set_st]
  split
  · cases m.get (.st d i) with
    | none=>rfl
    | some y =>
      cases y with
      | cells rw c =>
        cases rw with
        | false=>rfl
        | true=>simp only; split <;> rfl
      | _=>rfl
  · rfl
theorem fr_note (f:List SBk) (e:Option Nat) (n v h:Nat):(Z.fr f e).note (.hp n v) h=Z.fr f (if h ≤ n then e else escMin e (some n)):=by
  simp only [Mem.note]
  split <;> rfl
theorem may_hpG (n v:Nat):m.may (.hp n v)=decide (m.hb ≤ n):=id rfl
theorem hap0 (L:Hp):(X.hp H).hap L=X.hp (H ++ L):=id rfl
theorem hap1 (f:List SBk) (e:Option Nat) (L:Hp):((X.hp H).fr f e).hap L=(X.hp (H ++ L)).fr f e:=id rfl
theorem hap2 (f:List SBk) (e₀ e:Option Nat) (fs:List (List SBk)) (L:Hp):(((X.hp H).fr f e₀).frs fs e).hap L=((X.hp (H ++ L)).fr f e₀).frs fs e:=id rfl
theorem hap3 (f g:List SBk) (e₀ e u:Option Nat) (fs:List (List SBk)) (L:Hp):((((X.hp H).fr f e₀).frs fs e).fr g u).hap L=(((X.hp (H ++ L)).fr f e₀).frs fs e).fr g u:=id rfl
theorem hap4 (e:Option Nat) (fs:List (List SBk)) (L:Hp):((X.hp H).frs fs e).hap L=(X.hp (H ++ L)).frs fs e:=id rfl
theorem hap5 (g:List SBk) (e u:Option Nat) (fs:List (List SBk)) (L:Hp):(((X.hp H).frs fs e).fr g u).hap L=((X.hp (H ++ L)).frs fs e).fr g u:=id rfl
theorem hap6 (f g:List SBk) (e u:Option Nat) (L:Hp):(((X.hp H).fr f e).fr g u).hap L=((X.hp (H ++ L)).fr f e).fr g u:=id rfl
theorem hap_es (e:Option Nat) (L:Hp):((X.hp H).es e).hap L=(X.hp (H ++ L)).es e:=id rfl
theorem shut_es_reopen (e:Option Nat):((Z.shut.hp H).es e).reopen Z=(Z.hp H).es e:=id rfl
theorem shut_hp_reopen:(Z.shut.hp H).reopen Z=Z.hp H:=id rfl
theorem shut_esc:Z.shut.esc=Z.esc:=id rfl
theorem hpsub_hm:HpSub (Hm H) (X.hp H):=fun _ _ _ h=>h
theorem hpsub_hm' (h:HpSub (Hm H) (Hm H')):HpSub (Hm H) (X.hp H'):=fun k w x hx=>h k w x hx
theorem hpsub_es (h:HpSub Z m) (e:Option Nat):HpSub Z (m.es e):=fun k w x hx=>h k w x hx
theorem hpsub_self (X:Mem):HpSub (Hm X.heap) X:=fun _ _ _ h=>h
theorem escOk_none (n:Nat):escOk n none=true:=id rfl
theorem escOk_some {n k:Nat} (h:k < n):escOk n (some k)=false:=by simp [escOk]; omega
theorem back_H (g:List SBk) (u:Option Nat) (h:Nat):((X.hp H).fr g u).back X h=(X.hp (if h ≤ X.hl ∧ escOk X.hl u=true then H.take X.hl else H)).es (escMin X.esc u):=by
  unfold Mem.back Mem.hl; rfl
theorem back_HR (f f' g:List SBk) (fs:List (List SBk)) (e₀ e₀' e u:Option Nat) (h:Nat):((((X.hp H').fr f' e₀').frs fs e).fr g u).back (((X.hp H).fr f e₀).frs fs e) h =
    ((X.hp (if h ≤ H.length ∧ escOk H.length u=true then H'.take H.length else H')).fr f' e₀').frs fs (escMin e u):=by
  unfold Mem.back; rfl
theorem back_pure (hH:X.heap=H) (g:List SBk):((X.hp H).fr g none).back X 0=X:=by
  subst hH
  rw [hp_self,back_fr]
theorem back_pureL (hH:X.heap=H) (L:Hp) (g:List SBk):((X.hp (H ++ L)).fr g none).back X 0=X:=by
  subst hH
  rw [back_H]
  simp only [Nat.zero_le,escOk_none,and_self,if_true,Mem.hl,List.take_left,hp_self]
  cases X with
  | mk s hp hb db esc=>cases esc <;> rfl
theorem hpsub_app {Z:Mem} (h:HpSub Z X) (hH:X.heap=H) (L:Hp):HpSub Z (X.hp (H ++ L)):=by
  subst hH
  exact hpsub_hap h L
theorem hpsub_hp {Z:Mem} (h:HpSub Z X) (hH:X.heap=H):HpSub Z (X.hp H):=by subst hH; exact h
theorem hget_lt {n v:Nat} {x:SBk} (h:hget H n v=some x):n < H.length:=get_lt (m:=Hm H) h
theorem hget_app {n v:Nat} (L:Hp) (h:n < H.length):hget (H ++ L) n v=hget H n v:=by simp only [hget,List.getElem?_append_left h]
theorem hget_app_some {n v:Nat} {x:SBk} (L:Hp) (h:hget H n v=some x):hget (H ++ L) n v=some x:=by rw [hget_app L (hget_lt h)]; exact h
theorem hget_new {n v:Nat} (L:Hp) (i:Nat) (hn:n=H.length + i):hget (H ++ L) n v=hapGet L i v:=by
  subst hn
  simp only [hget,hapGet,List.getElem?_append_right (Nat.le_add_right _ i),Nat.add_sub_cancel_left]
  rfl
theorem hget_new0 (v:Nat) (L:Hp):hget (H ++ L) H.length v=hapGet L 0 v:=hget_new L 0 rfl
theorem hget_newi (i v:Nat) (L:Hp):hget (H ++ L) (H.length + i) v=hapGet L i v:=hget_new L i rfl
theorem hget_set_ne {n k v:Nat} {y:Nat × SBk} (h:¬ k=n):hget (H.set k y) n v=hget H n v:=by simp only [hget,List.getElem?_set_ne h]
theorem hget_set_eq {n v w:Nat} {x:SBk} (h:n < H.length):hget (H.set n (w,x)) n v=if w=v then some x else none:=by simp only [hget,List.getElem?_set_self h]
def lpO (m:Mem) (b:Bk) (st:LoopState) (pd:Option Jump) (o:Option SBk):Mem:=match o with
  | some (.loop r)=>m.set b (.loop { r with state:=st,pending:=pd })
  | _=>m
def Mem.lp (m:Mem) (b:Bk) (st:LoopState) (pd:Option Jump):Mem:=lpO m b st pd (m.get b)
theorem lp_get (m:Mem) (b:Bk) (st:LoopState) (pd:Option Jump):m.lp b st pd=lpO m b st pd (m.get b):=id rfl
theorem lpO_loop (m:Mem) (b:Bk) (st:LoopState) (pd:Option Jump) (r:LoopR):lpO m b st pd (some (.loop r))=m.set b (.loop { r with state:=st,pending:=pd }):=id rfl
def Mem.sc (m:Mem) (d i:Nat) (c:List SV):Mem:=m.set (.st d i) (.cells true c)
theorem sc_set (m:Mem) (d i:Nat) (c:List SV):m.sc d i c=m.set (.st d i) (.cells true c):=id rfl
attribute [go_sem] lp_get lpO_loop sc_set
def Keep (S:List Nat) (H H':Hp):Prop:=H.length ≤ H'.length ∧ ∀ n,n < H.length → n ∉ S → H'[n]? = H[n]?
theorem Keep.refl (S:List Nat) (H:Hp):Keep S H H:=⟨Nat.le_refl _,fun _ _ _=>rfl⟩
theorem Keep.trans {S:List Nat} {A B C:Hp} (h:Keep S A B) (k:Keep S B C):Keep S A C :=
  ⟨Nat.le_trans h.1 k.1,fun n h1 h2=>by rw [k.2 n (Nat.lt_of_lt_of_le h1 h.1) h2,h.2 n h1 h2]⟩
theorem Keep.weak {S T:List Nat} {A B:Hp} (h:Keep S A B) (hs:∀ n ∈ S,n < A.length → n ∈ T):Keep T A B:=⟨h.1,fun n h1 h2=>h.2 n h1 fun h3=>h2 (hs n h3 h1)⟩
theorem Keep.trans' {S T:List Nat} {A B C:Hp} (h:Keep S A B) (k:Keep T B C) (hs:∀ n ∈ T,n < A.length → n ∈ S):Keep S A C :=
  ⟨Nat.le_trans h.1 k.1,fun n h1 h2=>by rw [k.2 n (Nat.lt_of_lt_of_le h1 h.1) (fun h3=>h2 (hs n h3 h1)),h.2 n h1 h2]⟩
theorem Keep.app (S:List Nat) (H L:Hp):Keep S H (H ++ L):=⟨by simp,fun n h1 _=>by rw [List.getElem?_append_left h1]⟩
theorem Keep.set {S:List Nat} {n:Nat} (hn:n ∈ S) (H:Hp) (y:Nat × SBk):Keep S H (H.set n y):=⟨by simp,fun k _ h2=>by rw [List.getElem?_set_ne]; rintro rfl; exact h2 hn⟩
theorem Keep.take {S:List Nat} {A B:Hp} {n:Nat} (h:Keep S A B) (hn:A.length ≤ n):Keep S A (B.take n) :=
  ⟨by rw [List.length_take]; exact Nat.le_min.2 ⟨hn,h.1⟩,fun k h1 h2=>by rw [List.getElem?_take,if_pos (by omega),h.2 k h1 h2]⟩
theorem Keep.get {S:List Nat} {A B:Hp} (h:Keep S A B) {n v:Nat} {x:SBk} (hx:hget A n v=some x) (hn:n ∉ S):hget B n v=some x:=by
  have h1:=hget_lt hx
  unfold hget at *
  rw [h.2 n h1 hn]
  exact hx
theorem Keep.sub {A B:Hp} (h:Keep [] A B):HpSub (Hm A) (Hm B):=fun _ _ _ hx=>h.get hx (by simp)
theorem Keep.back {S:List Nat} {B:Hp} {h:Nat} {u:Option Nat} (k:Keep S X.heap B):Keep S X.heap (if h ≤ X.hl ∧ escOk X.hl u=true then B.take X.hl else B):=by
  split
  · exact k.take (Nat.le_refl _)
  · exact k
def slFp:SV → List Nat
  | .sl (.hp k _) _ _ _ _=>[k]
  | _=>[]
theorem Lies.keep {S:List Nat} {A B:Hp} {esz:Nat} {v:SV} {n:Nat} {cs:List SV} (h:Lies (Hm A) esz v n cs) (k:Keep S A B) (hd:∀ i ∈ slFp v,i ∉ S):Lies (Hm B) esz v n cs:=by
  refine ⟨h.1,?_⟩
  rcases h.2 with h | h | ⟨i,w,off,cap,c,rw,rfl,h1,h2,h3⟩
  · exact .inl h
  · exact .inr (.inl h)
  · exact .inr (.inr ⟨i,w,off,cap,c,rw,rfl,k.get h1 (hd i (by simp [slFp])),h2,h3⟩)
theorem LiesD.keep {α:Type} {d:Fl α} {S:List Nat} {A B:Hp} {v:SV} {l:List α} (h:LiesD d (Hm A) v l) (k:Keep S A B) (hd:∀ i ∈ slFp v,i ∉ S):LiesD d (Hm B) v l:=Lies.keep h k hd
theorem Lies.fp {esz:Nat} {v:SV} {n:Nat} {cs:List SV} {A:Hp} (h:Lies (Hm A) esz v n cs):∀ i ∈ slFp v,i < A.length:=by
  rcases h.2 with ⟨rfl,_⟩ | ⟨rfl,_⟩ | ⟨k,w,off,cap,c,rw,rfl,h1,_⟩
  · simp [slFp]
  · simp [slFp]
  · simp only [slFp,List.mem_singleton]; rintro _ rfl; exact hget_lt h1
theorem LiesD.fp {α:Type} {d:Fl α} {v:SV} {l:List α} {A:Hp} (h:LiesD d (Hm A) v l):∀ i ∈ slFp v,i < A.length:=Lies.fp h
def finB (m m':Mem) (o:Option (List SV)):Option (SV × Mem):=o.bind fun vs=>if SV.lvs m.dep 0 vs then some (pack vs,m'.back m (SV.hxs vs)) else none
theorem finB_ret (res:List SRes) (m:Mem) (fr:Fr) (m':Mem):fin res m (some (.ret,fr,m'))=finB m m' (resvs fr m' res):=id rfl
theorem finB_normal (res:List SRes) (m:Mem) (fr:Fr) (m':Mem):fin res m (some (.normal,fr,m'))=finB m m' (resvs fr m' res):=id rfl
theorem finB_some (m m':Mem) (vs:List SV):finB m m' (some vs)=if SV.lvs m.dep 0 vs then some (pack vs,m'.back m (SV.hxs vs)) else none:=id rfl
attribute [go_sem] finB_some
attribute [go_sem high] finB_ret finB_normal back_pure back_pureL
attribute [go_sem] eq_self hpsub_app hpsub_hp escOk_none List.take_length List.take_left
attribute [go_sem] hp_heap es_heap hp_dep hp_db hp_hb hp_hl hp_lvl hp_esc hp_wf es_dep es_db es_hb es_hl es_esc es_wf fr_esc frs_esc fr_hp frs_hp hp_hp es_es fr_es frs_es es_fr es_frs hpes_hp es_hp hp_get hm_get hp_get_st es_get loadO_cells hp_load hp_load_st hp_set hp_set_st stqO_cells hp_stq hp_stq_st fr_note may_hpG fr_hb frs_hb hap0 hap1 hap2 hap3 hap4 hap5 hap6 hap_es shut_es_reopen shut_hp_reopen shut_esc hpsub_hm hpsub_hm' hpsub_es hpsub_self hget_new0 hget_newi back_H back_HR
end Go.Sh
namespace Go.Sh
def Own {α:Type} (d:Fl α) (H:Hp) (v:SV) (l:List α):Prop :=
  (v=.nils ∧ l=[]) ∨ (v=.emp ∧ l=[]) ∨ ∃ k w off cap c,v=.sl (.hp k w) off l.length cap d.sz ∧ hget H k w=some (.cells true c) ∧ off + l.length * d.sz ≤ c.length ∧ (c.drop off).take (l.length * d.sz)=l.flatMap d.enc
variable {α:Type} {d:Fl α} {H H':Hp} {v y:SV} {l k:List α}
theorem Own.lies (hd:d.Even) (h:Own d H v l):LiesD d (Hm H) v l:=by
  refine ⟨flat_len hd l,?_⟩
  rcases h with ⟨rfl,rfl⟩ | ⟨rfl,rfl⟩ | ⟨k,w,off,cap,c,rfl,h1,h2,h3⟩
  · exact .inl ⟨rfl,rfl⟩
  · exact .inr (.inl ⟨rfl,rfl⟩)
  · exact .inr (.inr ⟨k,w,off,cap,c,true,rfl,h1,h2,h3⟩)
theorem Own.keep {S:List Nat} (h:Own d H v l) (k:Keep S H H') (hs:∀ i ∈ slFp v,i ∉ S):Own d H' v l:=by
  rcases h with h | h | ⟨n,w,off,cap,c,rfl,h1,h2,h3⟩
  · exact .inl h
  · exact .inr (.inl h)
  · exact .inr (.inr ⟨n,w,off,cap,c,rfl,k.get h1 (hs n (by simp [slFp])),h2,h3⟩)
theorem Own.nil (H:Hp):Own d H .nils []:=.inl ⟨rfl,rfl⟩
theorem Own.fp (h:Own d H v l):∀ i ∈ slFp v,i < H.length:=by
  rcases h with ⟨rfl,_⟩ | ⟨rfl,_⟩ | ⟨n,w,off,cap,c,rfl,h1,_⟩
  · simp [slFp]
  · simp [slFp]
  · simp only [slFp,List.mem_singleton]; rintro _ rfl; exact hget_lt h1
theorem own_new (hd:d.Even) (H:Hp) (l:List α) (cap:Option Nat):Own d (H ++ [(0,.cells true (l.flatMap d.enc))]) (.sl (.hp H.length 0) 0 l.length cap d.sz) l:=by
  refine .inr (.inr ⟨_,_,_,_,_,rfl,by rw [hget_new0]; rfl,?_,?_⟩)
  · rw [flat_len hd]; omega
  · rw [List.drop_zero,← flat_len hd,List.take_length]
def awF (v:SV) (aw:Bk → Bool):Bool:=match v with
  | .sl b _ _ _ _=>aw b
  | _=>true
def mayF (v:SV) (m:Mem):Bool:=match v with
  | .sl b _ _ _ _=>m.may b
  | _=>true
theorem app_ownY (hd:d.Even) (hp:0 < d.sz) (hok:∀ l:List α,SV.cellsOk 0 0 (l.flatMap d.enc)=true) (hx:∀ l:List α,SV.hxs (l.flatMap d.enc)=0) (hv:Own d H v l) (hy:LiesD d (Hm H) y k) {bytes:Nat} (hb:2 * (l.length + k.length) * bytes ≤ two48) (hb':l.length + k.length ≤ two48) (X:Mem) (hm:∀ i ∈ slFp v,X.hb ≤ i) :
    ∃ v' H',(∀ z:List SV,z.length=d.sz → ∀ aw,awF v aw=true → ∀ Y:Mem,Y.heap=H → Y.hb=X.hb → appV d.sz bytes z aw v y Y=some (v',Y.hp H')) ∧ Own d H' v' (l ++ k) ∧ Keep (slFp v) H H' ∧ (∀ i ∈ slFp v',i ∈ slFp v ∨ H.length ≤ i) ∧ (v'.cells=[v'] ∧ v'.known=true ∧ ∀ a b,SV.cell a b v'=true) ∧ H'.length ≤ H.length + 1:=by
  have hyl:∀ Y:Mem,Y.heap=H → Lies Y d.sz y k.length (k.flatMap d.enc):=fun Y hY=>Lies.sub (m:=Hm H) hy (fun _ _ _ h=>by subst hY; exact h)
  have hvl:∀ Y:Mem,Y.heap=H → Lies Y d.sz v l.length (l.flatMap d.enc):=fun Y hY=>Lies.sub (m:=Hm H) (hv.lies hd) (fun _ _ _ h=>by subst hY; exact h)
  by_cases hk:k=[]
  · subst hk
    refine ⟨v,H,fun z _ aw _ Y hY _=>by rw [app_none (hvl Y hY) (hyl Y hY),← hY]; rfl,by simpa using hv,Keep.refl _ _,fun i hi=>.inl hi,⟨(hv.lies hd).cells,(hv.lies hd).known,(hv.lies hd).cell⟩,Nat.le_succ _⟩
  · have hn:¬ k.length=0:=by simpa using hk
    have key:∀ z:List SV,z.length=d.sz → ∀ aw (Y:Mem),Y.heap=H → (v=.nils ∨ v=.emp ∨ ∃ b off c z',v=.sl b off l.length (some c) z' ∧ c < l.length + k.length) →
        appV d.sz bytes z aw v y Y=some (.sl (.hp H.length 0) 0 (l.length + k.length) none d.sz,Y.hp (H ++ [(0,.cells true (l.flatMap d.enc ++ k.flatMap d.enc))])):=by
      intro z hz aw Y hY hh
      have g1:=(hvl Y hY).lenS
      have g2:=(hvl Y hY).elems
      have hyq:=hyl Y hY
      subst hY
      rcases hv with ⟨rfl,rfl⟩ | ⟨rfl,rfl⟩ | ⟨n,w,off,cap,c,rfl,h1,h2,h3⟩
      · simp only [appV,g1,hyq.lenv,hyq.elems,Option.bind_some,if_neg hn]
        rw [if_pos ⟨hz,hp,hok k,hb',hb⟩,new_hp]
        simp only [Option.map_some,List.length_nil,Nat.zero_add,List.flatMap_nil,List.nil_append]
        rfl
      · simp only [appV,g1,hyq.lenv,hyq.elems,Option.bind_some,if_neg hn]
        rw [if_pos ⟨hz,hp,hok k,hb',hb⟩,new_hp]
        simp only [Option.map_some,List.length_nil,Nat.zero_add,List.flatMap_nil,List.nil_append]
        rfl
      · rcases hh with h | h | ⟨b,off',c',z',h,hc⟩
        · cases h
        · cases h
        · cases h
          simp only [appV,g1,hyq.lenv,hyq.elems,Option.bind_some,if_neg hn]
          rw [if_pos ⟨hz,hp,hok k,hb',hb⟩,g2]
          simp only [Option.bind_some]
          rw [if_pos ⟨hok l,trivial⟩,if_pos (by simp [noRoom]; omega),new_hp]
          rfl
    have hnew:Own d (H ++ [(0,.cells true (l.flatMap d.enc ++ k.flatMap d.enc))]) (.sl (.hp H.length 0) 0 (l.length + k.length) none d.sz) (l ++ k):=by
      have:=own_new hd H (l ++ k) none
      rw [List.flatMap_append,List.length_append] at this
      exact this
    rcases hv with ⟨rfl,rfl⟩ | ⟨rfl,rfl⟩ | ⟨n,w,off,cap,c,rfl,h1,h2,h3⟩
    · exact ⟨_,_,fun z hz aw _ Y hY _=>key z hz aw Y hY (.inl rfl),hnew,Keep.app _ _ _,fun i hi=>.inr (by simp [slFp] at hi; omega),⟨rfl,rfl,fun _ _=>rfl⟩,by simp⟩
    · exact ⟨_,_,fun z hz aw _ Y hY _=>key z hz aw Y hY (.inr (.inl rfl)),hnew,Keep.app _ _ _,fun i hi=>.inr (by simp [slFp] at hi; omega),⟨rfl,rfl,fun _ _=>rfl⟩,by simp⟩
    · by_cases hc:∃ c',cap=some c' ∧ c' < l.length + k.length
      · obtain ⟨c',rfl,hc⟩:=hc
        exact ⟨_,_,fun z hz aw _ Y hY _=>key z hz aw Y hY (.inr (.inr ⟨_,_,_,_,rfl,hc⟩)),hnew,Keep.app _ _ _,fun i hi=>.inr (by simp [slFp] at hi; omega),⟨rfl,rfl,fun _ _=>rfl⟩,by simp⟩
      · have hnr:noRoom cap (l.length + k.length)=false:=by
          cases cap with
          | none=>rfl
          | some c'=>simp only [noRoom,decide_eq_false_iff_not]; intro h; exact hc ⟨c',rfl,h⟩
        refine ⟨.sl (.hp n (w + 1)) 0 (l.length + k.length) none d.sz,H.set n (w + 1,.cells true (l.flatMap d.enc ++ k.flatMap d.enc)),?_,?_,Keep.set (by simp [slFp]) _ _,fun i hi=>.inl (by simpa [slFp] using hi),⟨rfl,rfl,fun _ _=>rfl⟩,by simp⟩
        · intro z hz aw haw Y hY hYb
          have g1:=(hvl Y hY).lenS
          have g2:=(hvl Y hY).elems
          have hyq:=hyl Y hY
          simp only [appV,g1,hyq.lenv,hyq.elems,Option.bind_some,if_neg hn]
          rw [if_pos ⟨hz,hp,hok k,hb',hb⟩,g2]
          simp only [Option.bind_some]
          rw [if_pos ⟨hok l,trivial⟩,hnr]
          have h4:Y.get (.hp n w)=some (.cells true c):=by subst hY; exact h1
          simp only [h4,Bool.false_eq_true,if_false]
          have h5:Y.may (.hp n w)=true:=decide_eq_true (by rw [hYb]; exact hm n (by simp [slFp]))
          rw [if_pos ⟨h5,haw⟩,hx k,← hY]
          rfl
        · have e1:(l ++ k).flatMap d.enc=l.flatMap d.enc ++ k.flatMap d.enc:=List.flatMap_append
          refine .inr (.inr ⟨n,w + 1,0,none,_,by rw [List.length_append],by rw [hget_set_eq (hget_lt h1),if_pos rfl],?_,?_⟩)
          · rw [← e1,flat_len hd]; omega
          · rw [← e1,List.drop_zero,← flat_len hd,List.take_length]
theorem app_own (hd:d.Even) (hp:0 < d.sz) (hok:∀ l:List α,SV.cellsOk 0 0 (l.flatMap d.enc)=true) (hx:∀ l:List α,SV.hxs (l.flatMap d.enc)=0) (hv:Own d H v l) (hy:LiesD d (Hm H) y k) {bytes:Nat} (hb:2 * (l.length + k.length) * bytes ≤ two48) (hb':l.length + k.length ≤ two48) (X:Mem) (hm:∀ i ∈ slFp v,X.hb ≤ i) :
    ∃ v' H',(∀ z:List SV,z.length=d.sz → ∀ aw,awF v aw=true → ∀ f e,appV d.sz bytes z aw v y ((X.hp H).fr f e)=some (v',(X.hp H').fr f e)) ∧ Own d H' v' (l ++ k) ∧ Keep (slFp v) H H' ∧ (∀ i ∈ slFp v',i ∈ slFp v ∨ H.length ≤ i) ∧ (v'.cells=[v'] ∧ v'.known=true ∧ ∀ a b,SV.cell a b v'=true) ∧ H'.length ≤ H.length + 1:=by
  obtain ⟨v',H',ha,h⟩:=app_ownY hd hp hok hx hv hy hb hb' X hm
  exact ⟨v',H',fun z hz aw haw f e=>ha z hz aw haw ((X.hp H).fr f e) rfl rfl,h⟩
theorem flat_set {l:List α} (hd:d.Even) {i:Nat} (hi:i < l.length) (a:α):(l.set i a).flatMap d.enc=(l.flatMap d.enc).take (i * d.sz) ++ d.enc a ++ (l.flatMap d.enc).drop (i * d.sz + d.sz):=by
  have e1:(l.flatMap d.enc).take (i * d.sz)=(l.take i).flatMap d.enc:=by
    conv=>lhs; rw [← List.take_append_drop i l,List.flatMap_append]
    rw [List.take_left']
    rw [flat_len hd,List.length_take,Nat.min_eq_left (by omega)]
  have e2:(l.flatMap d.enc).drop (i * d.sz + d.sz)=(l.drop (i + 1)).flatMap d.enc:=by
    rw [← flat_drop hd,Nat.add_mul,Nat.one_mul]
  rw [e1,e2,List.set_eq_take_append_cons_drop,if_pos hi,List.flatMap_append,List.flatMap_cons,List.append_assoc]
theorem store_own (hd:d.Even) (hp:0 < d.sz) (hok:∀ a:α,SV.cellsOk 0 0 (d.enc a)=true) (hx:∀ a:α,SV.hxs (d.enc a)=0) (hv:Own d H v l) {i:Nat} (hi:i < l.length) (X:Mem) (hm:∀ i ∈ slFp v,X.hb ≤ i) (a:α) :
    ∃ H',(∀ f e,((X.hp H).fr f e).store (.hp (slN v) (slW v)) (slO v + i * d.sz) (d.enc a)=some ((X.hp H').fr f e)) ∧ Own d H' v (l.set i a) ∧ Keep (slFp v) H H' ∧ H'.length=H.length:=by
  rcases hv with ⟨rfl,rfl⟩ | ⟨rfl,rfl⟩ | ⟨n,w,off,cap,c,rfl,h1,h2,h3⟩
  · simp at hi
  · simp at hi
  · have hle : (i + 1) * d.sz ≤ l.length * d.sz:=Nat.mul_le_mul_right _ hi
    rw [Nat.add_mul,Nat.one_mul] at hle
    refine ⟨H.set n (w,.cells true (c.take (off + i * d.sz) ++ d.enc a ++ c.drop (off + i * d.sz + d.sz))),?_,?_,Keep.set (by simp [slFp]) _ _,by simp⟩
    · intro f e
      have h4:((X.hp H).fr f e).get (.hp n w)=some (.cells true c):=h1
      have h5:((X.hp H).fr f e).may (.hp n w)=true:=decide_eq_true (hm n (by simp [slFp]))
      simp only [Mem.store,slN,slW,slO,h4,h5,Bk.room,hok a,true_and,if_true,hd.len,hx a]
      rw [if_pos (by omega)]
      rfl
    · refine .inr (.inr ⟨n,w,off,cap,_,by rw [List.length_set],by rw [hget_set_eq (hget_lt h1),if_pos rfl],?_,?_⟩)
      · simp only [List.length_append,List.length_take,List.length_drop,hd.len,List.length_set]; omega
      · have e0:((c.drop off).take (l.length * d.sz)).length=l.length * d.sz:=by rw [h3,flat_len hd]
        rw [List.length_set,flat_set hd hi,← h3]
        apply List.ext_getElem?
        intro j
        simp only [List.getElem?_take,List.getElem?_drop,List.getElem?_append,List.length_append,List.length_take,List.length_drop,hd.len]
        by_cases hj:j < l.length * d.sz
        · simp only [if_pos hj]
          by_cases q1:j < i * d.sz
          · rw [if_pos (by omega),if_pos (by omega),if_pos (by omega),if_pos (by omega),if_pos (by omega),if_pos (by omega)]
          · by_cases q2:j < i * d.sz + d.sz
            · rw [if_pos (by omega),if_neg (by omega),if_pos (by omega),if_neg (by omega)]
              congr 1
              omega
            · rw [if_neg (by omega),if_neg (by omega),if_pos (by omega)]
              congr 1
              omega
        · rw [if_neg hj]
          by_cases q0:d.enc a=[]
          · have:=hd.len a
            rw [q0] at this
            simp at this
            omega
          · rw [if_neg (by omega),if_neg (by omega)]
theorem Own.aw {aw:Bk → Bool} (hv:Own d H v l) (h:∀ k w,aw (.hp k w)=true):awF v aw=true:=by
  rcases hv with ⟨rfl,_⟩ | ⟨rfl,_⟩ | ⟨n,w,off,cap,c,rfl,h1,_⟩
  · rfl
  · rfl
  · exact h _ _
theorem hx_fp {v:SV} {i:Nat} (h:i ∈ slFp v):v.hx=i + 1:=by
  unfold slFp at h
  split at h
  · simp only [List.mem_singleton] at h; subst h; rfl
  · simp at h
theorem take_set (H:Hp) (i:Nat) (y:Nat × SBk):(H.set i y).take H.length=H.set i y:=List.take_of_length_le (by simp)
theorem take_set2 (H:Hp) (i j:Nat) (y z:Nat × SBk):((H.set i y).set j z).take H.length=(H.set i y).set j z:=List.take_of_length_le (by simp)
theorem hget_congr {A B:Hp} {n:Nat} (h:B[n]? = A[n]?) (v:Nat):hget B n v=hget A n v:=by simp only [hget,h]
theorem Lies.congr {A B:Hp} {esz:Nat} {v:SV} {n:Nat} {cs:List SV} (h:Lies (Hm A) esz v n cs) (hc:∀ i ∈ slFp v,B[i]? = A[i]?):Lies (Hm B) esz v n cs:=by
  refine ⟨h.1,?_⟩
  rcases h.2 with h | h | ⟨i,w,off,cap,c,rw,rfl,h1,h2,h3⟩
  · exact .inl h
  · exact .inr (.inl h)
  · exact .inr (.inr ⟨i,w,off,cap,c,rw,rfl,(hget_congr (hc i (by simp [slFp])) w).trans h1,h2,h3⟩)
theorem LiesD.congr {A B:Hp} (h:LiesD d (Hm A) v l) (hc:∀ i ∈ slFp v,B[i]? = A[i]?):LiesD d (Hm B) v l:=Lies.congr h hc
theorem Own.congr {A B:Hp} (h:Own d A v l) (hc:∀ i ∈ slFp v,B[i]? = A[i]?):Own d B v l:=by
  rcases h with h | h | ⟨n,w,off,cap,c,rfl,h1,h2,h3⟩
  · exact .inl h
  · exact .inr (.inl h)
  · exact .inr (.inr ⟨n,w,off,cap,c,rfl,(hget_congr (hc n (by simp [slFp])) w).trans h1,h2,h3⟩)
theorem fin_keep0 {X:Mem} {A:Hp} {u:Option Nat} {i:Nat} (hn:i < X.hl ∨ escOk X.hl u=false):(if escOk X.hl u=true then A.take X.hl else A)[i]? = A[i]? := by
  split
  · rcases hn with hn | hn
    · rw [List.getElem?_take,if_pos hn]
    · rename_i hc; rw [hc] at hn; cases hn
  · rfl
theorem Keep.back0 {S:List Nat} {X:Mem} {B:Hp} {u:Option Nat} (k:Keep S X.heap B):Keep S X.heap (if escOk X.hl u=true then B.take X.hl else B):=by
  split
  · exact k.take (Nat.le_refl _)
  · exact k
theorem slFp_nodup (v:SV):(slFp v).Nodup:=by
  unfold slFp
  split <;> simp
theorem nodup_new {A:List Nat} {v v':SV} {n:Nat} (h:(A ++ slFp v).Nodup) (hA:∀ i ∈ A,i < n) (hv:∀ i ∈ slFp v',i ∈ slFp v ∨ n ≤ i):(A ++ slFp v').Nodup:=by
  rw [List.nodup_append] at h ⊢
  refine ⟨h.1,slFp_nodup v',fun a ha b hb e=>?_⟩
  subst e
  rcases hv a hb with h1 | h1
  · exact h.2.2 a ha a h1 rfl
  · have:=hA a ha; omega
structure IsSl (v:SV):Prop where
  c:v.cells=[v]
  k:v.known=true
  o:∀ a b,SV.cell a b v=true
  l:∀ a b,SV.lv a b v=true
  xs:v.hx=match slFp v with | []=>0 | i :: _=>i + 1
theorem LiesD.isSl {m:Mem} {v:SV} {l:List α} (h:LiesD d m v l):IsSl v:=by
  refine ⟨h.cells,h.known,h.cell,h.lv,?_⟩
  rcases h.2 with ⟨rfl,_⟩ | ⟨rfl,_⟩ | ⟨k,w,off,cap,c,rw,rfl,_⟩ <;> rfl
theorem Own.isSl {v:SV} {l:List α} (hd:d.Even) (h:Own d H v l):IsSl v:=(h.lies hd).isSl
theorem mkslV_own (hd:d.Even) (H:Hp) (z:α) (n:Nat):Own d (H ++ [(0,.cells true (List.replicate n (d.enc z)).flatten)]) (.sl (.hp H.length 0) 0 n (some n) d.sz) (List.replicate n z):=by
  have:=own_new hd H (List.replicate n z) (some n)
  rw [List.length_replicate] at this
  rw [show (List.replicate n (d.enc z)).flatten=(List.replicate n z).flatMap d.enc by simp [List.flatMap]]
  exact this
def mkslV (z:List SV) (bytes:Nat) (l c:SV) (m:Mem):Option (SV × Mem):=match l,c with
  | .int .i64 l,.int .i64 c=>if 0 ≤ l ∧ l ≤ c ∧ c < 9223372036854775808 ∧ bytes * c ≤ (two48:Int) ∧ SV.cellsOk 0 0 z then
      (m.new false (.cells true (List.replicate c.toNat z).flatten)).map fun (b,m)=>(.sl b 0 l.toNat (some c.toNat) z.length,m) else none
  | _,_=>none
theorem RP_mkslV (F:Tbl) {m:Mem} {fr:Fr} {z bytes} {l c:Opd}:RP F (.mkslice z bytes l c) fr m=mkslV z bytes (l.ev fr) (c.ev fr) m:=by
  rw [RP_mem _ _ _ rfl]
  rfl
theorem mkslV_int (z:List SV) (bytes:Nat) (l c:Int) (m:Mem):mkslV z bytes (.int .i64 l) (.int .i64 c) m=if 0 ≤ l ∧ l ≤ c ∧ c < 9223372036854775808 ∧ bytes * c ≤ (two48:Int) ∧ SV.cellsOk 0 0 z then
      (m.new false (.cells true (List.replicate c.toNat z).flatten)).map fun (b,m)=>(.sl b 0 l.toNat (some c.toNat) z.length,m) else none:=id rfl
attribute [go_sem] RP_mkslV mkslV_int
theorem hp_es_self (X:Mem) (H:Hp):(X.hp H).es X.esc=X.hp H:=id rfl
theorem es_self (X:Mem):X.es X.esc=X:=id rfl
theorem fin_keep1 {X:Mem} {A:Hp} {h i:Nat} (hn:i < X.hl ∨ X.hl < h):(if h ≤ X.hl then A.take X.hl else A)[i]? = A[i]? := by
  split
  · rw [List.getElem?_take,if_pos (by omega)]
  · rfl
theorem Keep.back1 {S:List Nat} {X:Mem} {B:Hp} {h:Nat} (k:Keep S X.heap B):Keep S X.heap (if h ≤ X.hl then B.take X.hl else B):=by
  split
  · exact k.take (Nat.le_refl _)
  · exact k
attribute [go_sem] hp_es_self es_self
theorem fr_heap' (m:Mem) (f:List SBk) (e:Option Nat):(m.fr f e).heap=m.heap:=id rfl
theorem frs_heap' (m:Mem) (f:List (List SBk)) (e:Option Nat):(m.frs f e).heap=m.heap:=id rfl
attribute [go_sem] fr_heap' frs_heap'
theorem escOk_zero (n:Nat):escOk n (some 0)=false:=by simp [escOk]; omega
theorem Own.hx0 {v:SV} {l:List α} (h:Own d H v l) (hl:l ≠ []):(v.hx=0)=False:=by
  rcases h with ⟨_,rfl⟩ | ⟨_,rfl⟩ | ⟨n,w,off,cap,c,rfl,_⟩
  · exact absurd rfl hl
  · exact absurd rfl hl
  · exact eq_false (by show n + 1 ≠ 0; omega)
attribute [go_sem] escOk_zero
attribute [go_sem] take_set take_set2
attribute [go_sem_proc] reduceIte reduceCtorEq Nat.reduceEqDiff Nat.reduceAdd Nat.reduceMul Nat.reduceSub Nat.reduceLeDiff Nat.reduceLT Nat.reduceBEq Int.reduceToNat Int.reduceEq Int.reduceLT Int.reduceLE Int.reduceAdd Int.reduceSub Int.reduceMul Int.reduceNeg
end Go.Sh
