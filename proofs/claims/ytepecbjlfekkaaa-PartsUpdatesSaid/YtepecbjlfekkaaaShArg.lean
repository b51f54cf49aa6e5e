import Derived.Test.YtepecbjlfekkaaaShIter
import Derived.ProofKit
import Derived.WalkKit
import Derived.OpenShut
import Derived.Below
import Derived.SizedLaws
import Derived.Deep.Slices
set_option linter.all false
set_option linter.unusedVariables false
set_option linter.unusedSimpArgs false
set_option autoImplicit false
namespace Go.Sh
open Go.RowKit Go.WideShapes
abbrev In:=List ((Nat × Nat × Nat) × List SV)
def In.mu (l:In):Mu:=fun b=>match b with
  | .hp n 0=>(l[n]?).map (·.1)
  | _=>none
def In.mem (l:In):Mem:=⟨[],l.map fun x=>(0,.cells false x.2),0,0,none⟩
def In.Ok (P:Program) (W:World) (l:In):Prop:=∀ (i:Nat) (x:(Nat × Nat × Nat) × List SV),l[i]? = some x → BR P l.mu W x.1.1 x.1.2.1 x.1.2.2 (.cells false x.2)
theorem In.mu_some {l:In} {b:Bk} {z:Nat × Nat × Nat} (h:l.mu b=some z):∃ n x,b=.hp n 0 ∧ l[n]? = some x ∧ x.1=z:=by
  unfold In.mu at h
  split at h
  · rename_i n
    simp only [Option.map_eq_some_iff] at h
    obtain ⟨x,h1,h2⟩:=h
    exact ⟨n,x,rfl,h1,h2⟩
  · cases h
theorem In.mu_app {l k:In} {b:Bk} {z:Nat × Nat × Nat} (h:l.mu b=some z):In.mu (l ++ k) b=some z:=by
  obtain ⟨n,x,rfl,h1,h2⟩:=In.mu_some h
  have:(l ++ k)[n]? = some x:=by rw [List.getElem?_append_left (List.getElem?_eq_some_iff.1 h1).1]; exact h1
  simp [In.mu,this,h2]
theorem In.get {l:In} {n:Nat} {x:(Nat × Nat × Nat) × List SV} (h:l[n]? = some x):l.mem.get (.hp n 0)=some (.cells false x.2):=by
  simp [In.mem,Mem.get,h]
theorem In.get_some {l:In} {b:Bk} {y:SBk} (h:l.mem.get b=some y):∃ n x,b=.hp n 0 ∧ l[n]? = some x ∧ y=.cells false x.2:=by
  cases b with
  | st d i=>simp [In.mem,Mem.get,stkGet] at h
  | hp n v =>
    simp only [In.mem,Mem.get,List.getElem?_map] at h
    cases hx:l[n]? with
    | none=>simp [hx] at h
    | some x =>
      simp only [hx,Option.map_some] at h
      split at h
      · rename_i hv
        cases h
        exact ⟨n,x,by rw [hv],hx,rfl⟩
      · cases h
theorem In.on {l:In}:l.mu.on (Bk.lv 0 0)=l.mu:=by
  funext b
  cases b with
  | hp n v=>simp [Mu.on,Bk.lv]
  | st d i=>simp [Mu.on,Bk.lv,In.mu]
theorem In.sim {P:Program} {W:World} {l:In} (h:l.Ok P W):Sim P l.mu l.mem W:=by
  refine ⟨?_,?_,?_,?_⟩
  · intro b z hz
    obtain ⟨n,x,rfl,h1,rfl⟩:=In.mu_some hz
    obtain ⟨C,e,lo,hi,h2,_⟩:=h n x h1
    refine ⟨?_,?_⟩
    · simp [In.mem,Mem.has,h1]
    · exact (Array.getElem?_eq_some_iff.1 h2).1
  · intro b r base N y hz hg
    obtain ⟨n,x,rfl,h1,h2⟩:=In.mu_some hz
    obtain ⟨n',x',e,h3,rfl⟩:=In.get_some hg
    cases e
    rw [h1] at h3
    cases h3
    have:=h n x h1
    rw [h2] at this
    simp only [Bk.room]
    rw [In.on]
    exact this
  · intro b c x z y u hb hc _ hgb hgc _
    obtain ⟨_,_,_,_,rfl⟩:=In.get_some hgb
    obtain ⟨_,_,_,_,rfl⟩:=In.get_some hgc
    exact ⟨rfl,rfl⟩
  · intro b y hg
    obtain ⟨n,x,rfl,h1,rfl⟩:=In.get_some hg
    have:=(h n x h1).named
    refine SBk.names_mono ?_ this
    intro c hc
    cases hz:l.mu c with
    | none=>simp [hz] at hc
    | some z =>
      obtain ⟨k,x',rfl,h3,_⟩:=In.mu_some hz
      simp [Mem.knows,Bk.lv,In.mem,Mem.has,h3]
theorem In.wf (l:In):l.mem.Wf:=Nat.le_refl _
theorem In.below {P:Program} {l:In} {μ':Mu} {m':Mem} {w w':World} (h:Post P l.mu l.mem w μ' m' w'):Below w.heap.size w w' :=
  ⟨h.os,h.tape,h.out,h.size,fun k hk=>h.frm k hk fun c z hc _ hw=>by
    obtain ⟨n,x,rfl,h1,_⟩:=In.mu_some hc
    simp [Mem.wr,In.get h1,SBk.ro] at hw⟩
structure Fl (α:Type) where
  sz:Nat
  enc:α → List SV
def Fl.int (k:IntKind):Fl Int:=⟨1,fun n=>[.int k n]⟩
def Fl.bool:Fl Bool:=⟨1,fun b=>[.bool b]⟩
def Fl.pair {α β:Type} (d:Fl α) (e:Fl β):Fl (α × β):=⟨d.sz + e.sz,fun x=>d.enc x.1 ++ e.enc x.2⟩
def Fl.rep {α:Type} (d:Fl α) (n:Nat):Fl (List α):=⟨n * d.sz,fun l=>l.flatMap d.enc⟩
structure FReads {α:Type} (P:Program) (t:TypeId) (d:Fl α) (ok:α → Prop):Prop where
  out:∀ {H:Type} (enc:TypeId × Value → H) (W:World) (base:Nat) (spare:Nat → Bool) (held:Bool) (fuel:Nat) (cs:List Value) (x:DataW H × List MemPlace),
    DataW.trod enc P W base spare held fuel t cs=some x → ∃ a,ok a ∧ (d.enc a).length=d.sz ∧ ∀ μ,VRs μ (d.enc a) cs
structure FFits {α:Type} (P:Program) (off:Nat) (fs:List Field) (d:Fl α) (ok:α → Prop):Prop where
  out:∀ {H:Type} (enc:TypeId × Value → H) (W:World) (base:Nat) (spare:Nat → Bool) (held:Bool) (fuel:Nat) (cs:List Value) (xs:List (DataW H × List MemPlace)),
    fs.mapM (fun f=>DataW.trod enc P W base spare held fuel f.type ((cs.drop f.offset).take (P.cellsOf f.type)))=some xs →
    ∃ a,ok a ∧ (d.enc a).length=d.sz ∧ ∀ μ,VRs μ (d.enc a) ((cs.drop off).take d.sz)
def inR (k:IntKind) (n:Int):Prop:=(Lit.int k n).wf=true
theorem reads_int {P:Program} {t:TypeId} {k:IntKind} (ht:P.underlying t=some (.int k)):FReads P t (Fl.int k) (inR k):=by
  constructor
  intro H enc W base spare held fuel cs x hx
  cases fuel with
  | zero=>simp [DataW.trod] at hx
  | succ fuel =>
    rcases cs with _ | ⟨c,_ | ⟨c2,cs⟩⟩
    · simp [DataW.trod,ht] at hx
    · cases c <;> simp [DataW.trod,ht] at hx
      rename_i k' n
      obtain ⟨⟨rfl,hwf⟩,_⟩:=hx
      exact ⟨n,hwf,rfl,fun μ=>.cons (.int _ _) .nil⟩
    · simp [DataW.trod,ht] at hx
theorem reads_bool {P:Program} {t:TypeId} (ht:P.underlying t=some .bool):FReads P t Fl.bool (fun _=>True):=by
  constructor
  intro H enc W base spare held fuel cs x hx
  cases fuel with
  | zero=>simp [DataW.trod] at hx
  | succ fuel =>
    rcases cs with _ | ⟨c,_ | ⟨c2,cs⟩⟩
    · simp [DataW.trod,ht] at hx
    · cases c <;> simp [DataW.trod,ht] at hx
      rename_i b
      exact ⟨b,trivial,rfl,fun μ=>.cons (.bool _) .nil⟩
    · simp [DataW.trod,ht] at hx
theorem ffits_one {α:Type} {P:Program} {off:Nat} {f:Field} {d:Fl α} {ok:α → Prop} (ho:f.offset=off) (hs:P.cellsOf f.type=d.sz) (hd:FReads P f.type d ok):FFits P off [f] d ok:=by
  constructor
  intro H enc W base spare held fuel cs xs hx
  simp only [List.mapM_cons,List.mapM_nil,Option.bind_eq_bind,Option.pure_def] at hx
  obtain ⟨x,h1,h2⟩:=Option.bind_eq_some_iff.1 hx
  rw [ho,hs] at h1
  exact hd.out enc W base spare held fuel _ x h1
theorem ffits_cons {α β:Type} {P:Program} {off:Nat} {f:Field} {fs:List Field} {d:Fl α} {e:Fl β} {ok:α → Prop} {ok':β → Prop} (ho:f.offset=off) (hs:P.cellsOf f.type=d.sz) (hd:FReads P f.type d ok) (hr:FFits P (off + d.sz) fs e ok'):FFits P off (f :: fs) (Fl.pair d e) (fun x=>ok x.1 ∧ ok' x.2):=by
  constructor
  intro H enc W base spare held fuel cs xs hx
  simp only [List.mapM_cons,Option.bind_eq_bind,Option.pure_def] at hx
  obtain ⟨x,h1,h2⟩:=Option.bind_eq_some_iff.1 hx
  obtain ⟨ys,h3,h4⟩:=Option.bind_eq_some_iff.1 h2
  rw [ho,hs] at h1
  obtain ⟨a,o1,l1,k1⟩:=hd.out enc W base spare held fuel _ x h1
  obtain ⟨b,o2,l2,k2⟩:=hr.out enc W base spare held fuel cs ys h3
  refine ⟨(a,b),⟨o1,o2⟩,by simp [Fl.pair,l1,l2],fun μ=>?_⟩
  show VRs μ (d.enc a ++ e.enc b) ((cs.drop off).take (d.sz + e.sz))
  rw [List.take_add,List.drop_drop]
  exact (k1 μ).append (k2 μ)
theorem reads_struct {α:Type} {P:Program} {t:TypeId} {fs:Array Field} {d:Fl α} {ok:α → Prop} (ht:P.underlying t=some (.struct fs)) (hs:P.cellsOf t=d.sz) (hf:FFits P 0 fs.toList d ok):FReads P t d ok:=by
  constructor
  intro H enc W base spare held fuel cs x hx
  cases fuel with
  | zero=>simp [DataW.trod] at hx
  | succ fuel =>
    simp only [DataW.trod,ht] at hx
    split at hx
    · rename_i hl
      obtain ⟨xs,h1,h2⟩:=Option.map_eq_some_iff.1 hx
      obtain ⟨a,o1,l1,k1⟩:=hf.out enc W base spare held fuel cs xs h1
      refine ⟨a,o1,l1,fun μ=>?_⟩
      have:=k1 μ
      rw [List.drop_zero,← hs,← hl,List.take_length] at this
      exact this
    · simp at hx
structure Sl (α:Type) where
  l:List α
  cap:Option Nat
structure Rd (α:Type) where
  sz:Nat
  cells:α → Nat → List SV
  blks:α → Nat → List (List SV)
def Rd.flat {α:Type} (d:Fl α):Rd α:=⟨d.sz,fun a _=>d.enc a,fun _ _=>[]⟩
def Rd.pair {α β:Type} (d:Rd α) (e:Rd β):Rd (α × β) :=
  ⟨d.sz + e.sz,fun x n=>d.cells x.1 n ++ e.cells x.2 (n + (d.blks x.1 n).length),fun x n=>d.blks x.1 n ++ e.blks x.2 (n + (d.blks x.1 n).length)⟩
def slV {α:Type} (d:Fl α) (s:Sl α) (n:Nat):SV:=match s.cap with
  | none=>.nils
  | some 0=>.emp
  | some c=>.sl (.hp n 0) 0 s.l.length (some c) d.sz
def slB {α:Type} (d:Fl α) (s:Sl α):List (List SV):=match s.cap with
  | none=>[]
  | some 0=>[]
  | some _=>[s.l.flatMap d.enc]
def Rd.slice {α:Type} (d:Fl α):Rd (Sl α):=⟨1,fun s n=>[slV d s n],fun s _=>slB d s⟩
structure Reads {α:Type} (P:Program) (t:TypeId) (d:Rd α) (ok:α → Prop):Prop where
  out:∀ {H:Type} (enc:TypeId × Value → H) (W:World) (base:Nat) (spare:Nat → Bool) (held:Bool) (fuel:Nat) (cs:List Value) (x:DataW H × List MemPlace),
    (∀ b,spare b=true) → DataW.trod enc P W base spare held fuel t cs=some x → (∀ n ∈ x.1.weights P t,n ≤ reachBytes) →
    ∃ a,ok a ∧ (∀ n,(d.cells a n).length=d.sz) ∧ ∀ pre:In,pre.Ok P W → ∃ new:In,new.map (·.2)=d.blks a pre.length ∧ In.Ok P W (pre ++ new) ∧ VRs (In.mu (pre ++ new)) (d.cells a pre.length) cs
structure RFits {α:Type} (P:Program) (off:Nat) (fs:List Field) (d:Rd α) (ok:α → Prop):Prop where
  out:∀ {H:Type} (enc:TypeId × Value → H) (W:World) (base:Nat) (spare:Nat → Bool) (held:Bool) (fuel:Nat) (cs:List Value) (xs:List (DataW H × List MemPlace)),
    (∀ b,spare b=true) → fs.mapM (fun f=>DataW.trod enc P W base spare held fuel f.type ((cs.drop f.offset).take (P.cellsOf f.type)))=some xs → (∀ n ∈ DataW.weightsEach P (fs.map (·.type)) (xs.map (·.1)),n ≤ reachBytes) →
    ∃ a,ok a ∧ (∀ n,(d.cells a n).length=d.sz) ∧ ∀ pre:In,pre.Ok P W → ∃ new:In,new.map (·.2)=d.blks a pre.length ∧ In.Ok P W (pre ++ new) ∧ VRs (In.mu (pre ++ new)) (d.cells a pre.length) ((cs.drop off).take d.sz)
theorem Reads.flat {α:Type} {P:Program} {t:TypeId} {d:Fl α} {ok:α → Prop} (h:FReads P t d ok):Reads P t (Rd.flat d) ok:=by
  constructor
  intro H enc W base spare held fuel cs x _ hx _
  obtain ⟨a,o,l,k⟩:=h.out enc W base spare held fuel cs x hx
  exact ⟨a,o,fun _=>l,fun pre hp=>⟨[],rfl,by simpa using hp,by simpa [Rd.flat] using k _⟩⟩
theorem In.Ok.sub {P:Program} {W:World} {l k:In} (h:l.Ok P W):∀ (i:Nat) (x:(Nat × Nat × Nat) × List SV),l[i]? = some x → BR P (In.mu (l ++ k)) W x.1.1 x.1.2.1 x.1.2.2 (.cells false x.2) :=
  fun i x hi=>(h i x hi).sub (fun _ _ hb=>In.mu_app hb) rfl
theorem addr_add (a:Addr) (x i:Nat):(a.add x).add i=a.add (x + i):=by
  unfold Addr.add
  by_cases h:x=0
  · subst h
    simp
  · by_cases h2:i=0
    · subst h2
      simp [h]
    · simp [h,h2,show x + i ≠ 0 by omega,Nat.add_assoc]
theorem cell_app {W:World} {a:Addr} {v:Value} (h:W.cell? a=some v):∃ C e p,W.heap[a.block]? = some (.cells C e p) ∧ C[a.off]? = some v ∧ a.spot=none:=by
  unfold World.cell? at h
  split at h
  · rename_i C e p hh
    split at h
    · cases h
    · rename_i hs
      exact ⟨C,e,p,hh,h,by simpa using hs⟩
  · cases h
def slOk {α:Type} (P:Program) (e:TypeId) (ok:α → Prop) (s:Sl α):Prop :=
  s.l.length ≤ maxLen ∧ s.l.length * P.bytesOf e ≤ reachBytes ∧ (∀ a ∈ s.l,ok a) ∧ (∀ c,s.cap=some c → s.l.length ≤ c) ∧ (s.cap=none → s.l=[])
theorem reads_slice {α:Type} {P:Program} {t e:TypeId} {d:Fl α} {ok:α → Prop} (ht:P.underlying t=some (.slice e)) (hs:P.cellsOf e=d.sz) (hpos:0 < d.sz) (hd:FReads P e d ok) :
    Reads P t (Rd.slice d) (slOk P e ok):=by
  constructor
  intro H enc W base spare held fuel cs x hsp hx hw
  rcases Deep.open_slice ht hx with ⟨rfl,rfl⟩ | ⟨a,len,cap,m,n,D,Pl,rfl,hb,hl,hm,hmm,rfl,hel⟩
  · refine ⟨⟨[],none⟩,⟨by simp,by simp,by simp,by simp,by simp⟩,fun _=>rfl,fun pre hp=>⟨[],rfl,by simpa using hp,?_⟩⟩
    exact .cons .nils .nil
  · have hmc : m=cap:=by rw [hmm,if_pos (hsp _)]
    subst hmc
    have hsz:(m * P.bytesOf e) ≤ reachBytes:=by
      apply hw
      simp only [DataW.weights,ht]
      refine List.mem_cons.2 (.inl ?_)
      simp
      congr 1
      omega
    have hlist:∀ j,j ≤ m → ∃ l:List α,l.length=j ∧ (∀ a ∈ l,ok a) ∧ (l.flatMap d.enc).length=j * d.sz ∧ ∃ vs:List Value,(∀ i,i < j * d.sz → W.cell? (a.add i)=vs[i]?) ∧ vs.length=j * d.sz ∧ ∀ μ,VRs μ (l.flatMap d.enc) vs:=by
      intro j
      induction j with
      | zero=>exact fun _=>⟨[],rfl,by simp,by simp,[],fun i hi=>by omega,by simp,fun μ=>.nil⟩
      | succ j ih =>
        intro hj
        obtain ⟨l,q1,q2,q3,vs,q4,q5,q6⟩:=ih (by omega)
        obtain ⟨c,h1,h2⟩:=hel j (by omega)
        obtain ⟨b,o1,l1,k1⟩:=hd.out enc W base spare held n c _ h2
        obtain ⟨_,hclen,hc⟩:=World.cells?_some h1
        rw [hs] at hclen
        refine ⟨l ++ [b],by simp [q1],?_,?_,vs ++ c,?_,?_,fun μ=>?_⟩
        · intro z hz
          rcases List.mem_append.1 hz with hz | hz
          · exact q2 z hz
          · simp at hz; subst hz; exact o1
        · simp only [List.flatMap_append,List.length_append,q3,List.flatMap_cons,List.flatMap_nil,List.append_nil,l1]
          rw [Nat.add_mul,Nat.one_mul]
        · intro i hi
          by_cases hlt:i < j * d.sz
          · rw [List.getElem?_append_left (by omega)]; exact q4 i hlt
          · rw [List.getElem?_append_right (by omega),q5]
            have hi2:i - j * d.sz < c.length:=by
              rw [hclen]; rw [Nat.add_mul,Nat.one_mul] at hi; omega
            have:=hc (i - j * d.sz) (by rw [hs]; omega)
            rw [addr_add,hs,show j * d.sz + (i - j * d.sz)=i by omega] at this
            exact this
        · rw [List.length_append,q5,hclen,Nat.add_mul,Nat.one_mul]
        · rw [List.flatMap_append]
          simp only [List.flatMap_cons,List.flatMap_nil,List.append_nil]
          exact (q6 μ).append (k1 μ)
    obtain ⟨l,q1,q2,q3,vs,q4,q5,q6⟩:=hlist len hl
    have hlen2:len * P.bytesOf e ≤ reachBytes:=Nat.le_trans (Nat.mul_le_mul_right _ hl) hsz
    refine ⟨⟨l,some m⟩,⟨by show l.length ≤ maxLen; omega,by show l.length * _ ≤ _; rw [q1]; exact hlen2,q2,fun c hc=>(by cases hc; show l.length ≤ _; omega),fun h=>(by cases h)⟩,fun _=>rfl,fun pre hp=>?_⟩
    cases m with
    | zero =>
      refine ⟨[],rfl,by simpa using hp,?_⟩
      have h0:len=0:=by omega
      subst h0
      exact .cons (.emp a) .nil
    | succ c =>
      -- the block
      have hfirst:∃ v,W.cell? (a.add 0)=some v:=by
        obtain ⟨cc,h1,_⟩:=hel 0 (by omega)
        obtain ⟨_,hclen,hc⟩:=World.cells?_some h1
        have:=hc 0 (by rw [hs]; exact hpos)
        rw [addr_add] at this
        simp only [Nat.zero_mul] at this
        rw [List.getElem?_eq_getElem (by rw [hclen,hs]; exact hpos)] at this
        exact ⟨_,this⟩
      obtain ⟨v0,hv0⟩:=hfirst
      obtain ⟨C,ee,pp,hh,hv0',hspot⟩:=cell_app hv0
      have ha0:a.add 0=a:=rfl
      rw [ha0] at hh hspot hv0'
      have hbl:∀ i v,W.cell? (a.add i)=some v → C[a.off + i]? = some v:=by
        intro i v hv
        obtain ⟨C',_,_,h1,h2,_⟩:=cell_app hv
        have eb:(a.add i).block=a.block:=by unfold Addr.add; split <;> rfl
        have eo:(a.add i).off=a.off + i:=by
          unfold Addr.add
          split
          · rename_i h0; rw [h0]; rfl
          · rfl
        rw [eb,hh] at h1
        cases h1
        rw [eo] at h2
        exact h2
      -- the whole room lies in the block
      have hroom:a.off + (c + 1) * d.sz ≤ C.size:=by
        obtain ⟨cc,h1,_⟩:=hel c (by omega)
        obtain ⟨_,hclen,hc⟩:=World.cells?_some h1
        have:=hc (d.sz - 1) (by rw [hs]; omega)
        rw [addr_add,hs,List.getElem?_eq_getElem (by rw [hclen,hs]; omega)] at this
        have h3:=(Array.getElem?_eq_some_iff.1 (hbl _ _ this)).1
        rw [Nat.add_mul,Nat.one_mul]
        omega
      refine ⟨[((a.block,a.off,C.size),l.flatMap d.enc)],rfl,?_,?_⟩
      · intro i x hi
        by_cases hlt:i < pre.length
        · rw [List.getElem?_append_left hlt] at hi
          exact hp.sub i x hi
        · rw [List.getElem?_append_right (by omega)] at hi
          have:i - pre.length=0:=by
            rcases Nat.eq_zero_or_pos (i - pre.length) with h | h
            · exact h
            · rw [List.getElem?_eq_none (by simp; omega)] at hi; cases hi
          rw [this] at hi
          simp only [List.getElem?_cons_zero,Option.some.injEq] at hi
          subst hi
          refine ⟨C,ee,pp.1,pp.2,hh,rfl,?_,?_,fun h=>by cases h⟩
          · rw [q3]
            have:len * d.sz ≤ (c + 1) * d.sz:=Nat.mul_le_mul_right _ hl
            show a.off + len * d.sz ≤ C.size
            omega
          · rw [q3]
            have e1:(C.toList.drop a.off).take (len * d.sz)=vs:=by
              apply List.ext_getElem?
              intro i
              by_cases hi:i < len * d.sz
              · rw [List.getElem?_take,if_pos hi,List.getElem?_drop]
                have hv:=q4 i hi
                have hlt:i < vs.length:=by omega
                rw [List.getElem?_eq_getElem hlt] at hv ⊢
                have:=hbl i _ hv
                simpa using this
              · rw [List.getElem?_eq_none (by simp; omega),List.getElem?_eq_none (by omega)]
            show VRs _ _ ((C.toList.drop a.off).take (len * d.sz))
            rw [e1]
            exact q6 _
      · refine .cons ?_ .nil
        have hmu:In.mu (pre ++ [((a.block,a.off,C.size),l.flatMap d.enc)]) (.hp pre.length 0)=some (a.block,a.off,C.size):=by
          simp [In.mu]
        have:=VR.sl (off:=0) (len:=l.length) (c:=c + 1) (z:=d.sz) (cap:=some (c + 1)) hmu (by omega) (fun k hk=>by cases hk; rfl) (by simpa using hroom)
        rw [Nat.add_zero,q1] at this
        have ea:a=⟨a.block,a.off,none⟩:=by
          clear this
          obtain ⟨ab,ao,asp⟩:=a
          simp only at hspot
          rw [hspot]
        rw [ea]
        simp only [slV,q1]
        exact this
theorem weightsEach_app {H:Type} {P:Program} {t:TypeId} {d:DataW H} {ts:List TypeId} {ds:List (DataW H)} (n:Nat):n ∈ DataW.weightsEach P (t :: ts) (d :: ds) ↔ n ∈ d.weights P t ∨ n ∈ DataW.weightsEach P ts ds:=by
  simp only [DataW.weightsEach,List.mem_append]
theorem rfits_one {α:Type} {P:Program} {off:Nat} {f:Field} {d:Rd α} {ok:α → Prop} (ho:f.offset=off) (hs:P.cellsOf f.type=d.sz) (hd:Reads P f.type d ok):RFits P off [f] d ok:=by
  constructor
  intro H enc W base spare held fuel cs xs hsp hx hw
  simp only [List.mapM_cons,List.mapM_nil,Option.bind_eq_bind,Option.pure_def] at hx
  obtain ⟨x,h1,h2⟩:=Option.bind_eq_some_iff.1 hx
  obtain ⟨ys,h3,h4⟩:=Option.bind_eq_some_iff.1 h2
  simp only [Option.some.injEq] at h3 h4
  subst h3
  subst h4
  rw [ho,hs] at h1
  exact hd.out enc W base spare held fuel _ x hsp h1 (fun n hn=>hw n (by simp only [List.map_cons]; exact (weightsEach_app n).2 (.inl hn)))
theorem rfits_cons {α β:Type} {P:Program} {off:Nat} {f:Field} {fs:List Field} {d:Rd α} {e:Rd β} {ok:α → Prop} {ok':β → Prop} (ho:f.offset=off) (hs:P.cellsOf f.type=d.sz) (hd:Reads P f.type d ok) (hr:RFits P (off + d.sz) fs e ok'):RFits P off (f :: fs) (Rd.pair d e) (fun x=>ok x.1 ∧ ok' x.2):=by
  constructor
  intro H enc W base spare held fuel cs xs hsp hx hw
  simp only [List.mapM_cons,Option.bind_eq_bind,Option.pure_def] at hx
  obtain ⟨x,h1,h2⟩:=Option.bind_eq_some_iff.1 hx
  obtain ⟨ys,h3,h4⟩:=Option.bind_eq_some_iff.1 h2
  simp only [Option.some.injEq] at h4
  subst h4
  rw [ho,hs] at h1
  obtain ⟨a,o1,l1,k1⟩:=hd.out enc W base spare held fuel _ x hsp h1 (fun n hn=>hw n (by simp only [List.map_cons]; exact (weightsEach_app n).2 (.inl hn)))
  obtain ⟨b,o2,l2,k2⟩:=hr.out enc W base spare held fuel cs ys hsp h3 (fun n hn=>hw n (by simp only [List.map_cons]; exact (weightsEach_app n).2 (.inr hn)))
  refine ⟨(a,b),⟨o1,o2⟩,fun n=>by simp [Rd.pair,l1,l2],fun pre hp=>?_⟩
  obtain ⟨n1,e1,p1,r1⟩:=k1 pre hp
  obtain ⟨n2,e2,p2,r2⟩:=k2 (pre ++ n1) p1
  have hlen:(pre ++ n1).length=pre.length + (d.blks a pre.length).length:=by rw [List.length_append,← e1,List.length_map]
  rw [hlen] at e2 r2
  refine ⟨n1 ++ n2,by simp [Rd.pair,e1,e2],by rw [← List.append_assoc]; exact p2,?_⟩
  show VRs _ (d.cells a pre.length ++ e.cells b _) ((cs.drop off).take (d.sz + e.sz))
  rw [List.take_add,List.drop_drop,← List.append_assoc]
  exact (r1.sub fun _ _ h=>In.mu_app h).append r2
theorem reads_rstruct {α:Type} {P:Program} {t:TypeId} {fs:Array Field} {d:Rd α} {ok:α → Prop} (ht:P.underlying t=some (.struct fs)) (hs:P.cellsOf t=d.sz) (hf:RFits P 0 fs.toList d ok):Reads P t d ok:=by
  constructor
  intro H enc W base spare held fuel cs x hsp hx hw
  cases fuel with
  | zero=>simp [DataW.trod] at hx
  | succ fuel =>
    simp only [DataW.trod,ht] at hx
    split at hx
    · rename_i hl
      obtain ⟨xs,h1,h2⟩:=Option.map_eq_some_iff.1 hx
      subst h2
      obtain ⟨a,o1,l1,k1⟩:=hf.out enc W base spare held fuel cs xs hsp h1 (fun n hn=>hw n (by simp only [DataW.weights,ht]; exact hn))
      refine ⟨a,o1,l1,fun pre hp=>?_⟩
      obtain ⟨new,e1,p1,r1⟩:=k1 pre hp
      rw [List.drop_zero,← hs,← hl,List.take_length] at r1
      exact ⟨new,e1,p1,r1⟩
    · simp at hx
theorem arg_agg {P:Program} {W:World} {r:Reach} {base:Nat} {t:TypeId} {v:Value} {μ:Mu} {l:List SV} {fs:Array Field} (ht:P.underlying t=some (.struct fs)) (hv:Value.okWide P W r base t v) (h:VRs μ l v.cells.toList):VR μ (.agg l) v:=by
  simp only [Value.okWide,ht] at hv
  obtain ⟨⟨cs⟩,rfl,_⟩:=hv
  exact .agg h
theorem arg_slice {P:Program} {W:World} {r:Reach} {base:Nat} {t e:TypeId} {v:Value} {μ:Mu} {x:SV} (ht:P.underlying t=some (.slice e)) (hv:Value.okWide P W r base t v) (h:VRs μ [x] v.cells.toList):VR μ x v:=by
  obtain ⟨a,n,c,rfl⟩:=okWide_slice ht hv
  cases h with | cons h _=>exact h
theorem inR_u8 {n:Int} (h:inR .u8 n):0 ≤ n ∧ n ≤ 255:=by
  simp [inR,Lit.wf,IntKind.min,IntKind.max,IntKind.signed,IntKind.bits] at h
  omega
theorem In.Ok.nil (P:Program) (W:World):In.Ok P W []:=fun i x h=>by simp at h
end Go.Sh
