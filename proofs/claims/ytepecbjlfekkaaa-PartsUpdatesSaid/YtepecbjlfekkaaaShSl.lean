import Derived.Test.YtepecbjlfekkaaaShArg
set_option linter.all false
set_option linter.unusedVariables false
set_option linter.unusedSimpArgs false
set_option autoImplicit false
namespace Go.Sh
variable {F:Tbl} {K:List KI} {m:Mem}
def slN:SV → Nat
  | .sl (.hp n _) _ _ _ _=>n
  | _=>0
def slW:SV → Nat
  | .sl (.hp _ w) _ _ _ _=>w
  | _=>0
def slO:SV → Nat
  | .sl _ o _ _ _=>o
  | _=>0
def Lies (m:Mem) (esz:Nat) (v:SV) (n:Nat) (cs:List SV):Prop :=
  cs.length=n * esz ∧ ((v=.nils ∧ n=0) ∨ (v=.emp ∧ n=0) ∨ ∃ k w off cap c rw,v=.sl (.hp k w) off n cap esz ∧ m.get (.hp k w)=some (.cells rw c) ∧ off + n * esz ≤ c.length ∧ (c.drop off).take (n * esz)=cs)
def lenV (v:SV) (m:Mem):Option (SV × Mem):=match v with
  | .nils=>some (.i 0,m)
  | .sl _ _ n _ _=>some (.i n,m)
  | .emp=>some (.i 0,m)
  | _=>none
theorem lenV_sl (b o n c z) (m:Mem):lenV (.sl b o n c z) m=some (.i n,m):=rfl
theorem lenV_nils (m:Mem):lenV .nils m=some (.i 0,m):=rfl
theorem RP_lenV (F:Tbl) {fr:Fr} {x:Opd}:RP F (.len x) fr m=lenV (x.ev fr) m:=by
  rw [RP_len]; unfold lenV; generalize x.ev fr=v; cases v <;> rfl
theorem Lies.len {esz:Nat} {v:SV} {n:Nat} {cs:List SV} (h:Lies m esz v n cs) (m':Mem):lenV v m'=some (.i n,m'):=by
  rcases h.2 with ⟨rfl,rfl⟩ | ⟨rfl,rfl⟩ | ⟨k,w,off,cap,c,rw,rfl,_⟩ <;> rfl
def iaddrV (esz:Nat) (v i:SV) (m:Mem):Option (SV × Mem):=match v,i with
  | .sl b off len _ _,.int _ i=>if inB i len then some (.ptr b (off + i.toNat * esz),m) else none
  | _,_=>none
theorem RP_iaddrV (F:Tbl) {fr:Fr} {esz:Nat} {x i:Opd}:RP F (.iaddr esz x i) fr m=iaddrV esz (x.ev fr) (i.ev fr) m:=by
  rw [RP_iaddr]; unfold iaddrV
  generalize x.ev fr=v
  generalize i.ev fr=j
  cases v <;> first | rfl | (cases j <;> rfl)
theorem inB_nat {i n:Nat} (h:i < n):inB (i:Int) n=true:=by simp [inB]; omega
theorem Lies.iaddr {esz:Nat} {v:SV} {n:Nat} {cs:List SV} (h:Lies m esz v n cs) {i:Nat} (hi:i < n) (k:IntKind) (m':Mem):iaddrV esz v (.int k (i:Int)) m'=some (.ptr (.hp (slN v) (slW v)) (slO v + i * esz),m'):=by
  rcases h.2 with ⟨rfl,rfl⟩ | ⟨rfl,rfl⟩ | ⟨k',w,off,cap,c,rw,rfl,_⟩
  · omega
  · omega
  · simp only [iaddrV,inB_nat hi,if_true,Int.toNat_natCast]; rfl
theorem Lies.get {esz:Nat} {v:SV} {n:Nat} {cs:List SV} (h:Lies m esz v n cs) (hn:0 < n):∃ cap c rw,v=.sl (.hp (slN v) (slW v)) (slO v) n cap esz ∧ m.get (.hp (slN v) (slW v))=some (.cells rw c) ∧ slO v + n * esz ≤ c.length ∧ (c.drop (slO v)).take (n * esz)=cs:=by
  rcases h.2 with ⟨rfl,rfl⟩ | ⟨rfl,rfl⟩ | ⟨k,w,off,cap,c,rw,rfl,h1,h2,h3⟩
  · omega
  · omega
  · exact ⟨cap,c,rw,rfl,h1,h2,h3⟩
theorem Lies.lt {esz:Nat} {v:SV} {n:Nat} {cs:List SV} (h:Lies m esz v n cs) (hn:0 < n):slN v < m.hl:=by
  obtain ⟨_,_,_,_,h1,_⟩:=h.get hn
  exact get_lt h1
theorem Lies.loadN {esz:Nat} {v:SV} {n:Nat} {cs:List SV} (h:Lies m esz v n cs) {o k:Nat} (hk:0 < k) (ho:o + k ≤ n * esz):m.load (.hp (slN v) (slW v)) (slO v + o) (some k)=some (.agg ((cs.drop o).take k)):=by
  have hn:0 < n:=by
    rcases Nat.eq_zero_or_pos n with h | h
    · subst h; omega
    · exact h
  obtain ⟨cap,c,rw,_,h1,h2,h3⟩:=h.get hn
  rw [load_get,h1]
  simp only [partv]
  rw [if_pos (by omega),← h3]
  congr 2
  rw [List.drop_take,List.take_take,List.drop_drop]
  congr 1
  omega
theorem Lies.load1 {esz:Nat} {v:SV} {n:Nat} {cs:List SV} (h:Lies m esz v n cs) {o:Nat} (ho:o < n * esz):m.load (.hp (slN v) (slW v)) (slO v + o) none=cs[o]? := by
  have hn:0 < n:=by
    rcases Nat.eq_zero_or_pos n with h | h
    · subst h; omega
    · exact h
  obtain ⟨cap,c,rw,_,h1,h2,h3⟩:=h.get hn
  rw [load_get,h1]
  simp only [partv]
  rw [← h3,List.getElem?_take,if_pos ho,List.getElem?_drop]
theorem Lies.mono {m m':Mem} {esz:Nat} {v:SV} {n:Nat} {cs:List SV} (h:Lies m esz v n cs) (hg:∀ k w x,m.get (.hp k w)=some x → m'.get (.hp k w)=some x):Lies m' esz v n cs:=by
  refine ⟨h.1,?_⟩
  rcases h.2 with h | h | ⟨k,w,off,cap,c,rw,h0,h1,h2,h3⟩
  · exact .inl h
  · exact .inr (.inl h)
  · exact .inr (.inr ⟨k,w,off,cap,c,rw,h0,hg _ _ _ h1,h2,h3⟩)
theorem Lies.hap {esz:Nat} {v:SV} {n:Nat} {cs:List SV} (h:Lies m esz v n cs) (l:List (Nat × SBk)):Lies (m.hap l) esz v n cs :=
  h.mono fun _ w _ hx=>by rw [get_hap_lt m l w (get_lt hx)]; exact hx
theorem load_hp_hap_fr (m:Mem) (l:List (Nat × SBk)) (f:List SBk) (e:Option Nat) (k v off:Nat) (n:Option Nat):((m.fr f e).hap l).load (.hp k v) off n=(m.hap l).load (.hp k v) off n:=rfl
theorem load_hp_hap_frs (m:Mem) (l:List (Nat × SBk)) (f:List (List SBk)) (e:Option Nat) (k v off:Nat) (n:Option Nat):((m.frs f e).hap l).load (.hp k v) off n=(m.hap l).load (.hp k v) off n:=rfl
def LiesD {α:Type} (d:Fl α) (m:Mem) (v:SV) (l:List α):Prop:=Lies m d.sz v l.length (l.flatMap d.enc)
structure Fl.Even {α:Type} (d:Fl α):Prop where
  len:∀ a,(d.enc a).length=d.sz
theorem flat_drop {α:Type} {d:Fl α} (hd:d.Even):∀ (l:List α) (i:Nat),(l.flatMap d.enc).drop (i * d.sz)=(l.drop i).flatMap d.enc
  | l,0=>by simp
  | [],i + 1=>by simp
  | a :: l,i + 1=>by
    rw [List.flatMap_cons,List.drop_succ_cons,← flat_drop hd l i,Nat.add_mul,Nat.one_mul,Nat.add_comm,← List.drop_drop]
    congr 1
    rw [← hd.len a]
    simp
theorem flat_at {α:Type} {d:Fl α} (hd:d.Even) {l:List α} {i:Nat} {a:α} (h:l[i]? = some a):((l.flatMap d.enc).drop (i * d.sz)).take d.sz=d.enc a:=by
  rw [flat_drop hd]
  obtain ⟨hi,rfl⟩:=List.getElem?_eq_some_iff.1 h
  rw [List.drop_eq_getElem_cons hi,List.flatMap_cons,← hd.len l[i]]
  simp
theorem flat_len {α:Type} {d:Fl α} (hd:d.Even) (l:List α):(l.flatMap d.enc).length=l.length * d.sz:=by
  induction l with
  | nil=>simp
  | cons a l ih=>rw [List.flatMap_cons,List.length_append,ih,hd.len,List.length_cons,Nat.add_mul,Nat.one_mul,Nat.add_comm]
theorem LiesD.load {α:Type} {d:Fl α} (hd:d.Even) (hp:0 < d.sz) {v:SV} {l:List α} (h:LiesD d m v l) {i:Nat} {a:α} (hi:l[i]? = some a):m.load (.hp (slN v) (slW v)) (slO v + i * d.sz) (some d.sz)=some (.agg (d.enc a)):=by
  have hlt:=(List.getElem?_eq_some_iff.1 hi).1
  have:(i + 1) * d.sz ≤ l.length * d.sz:=Nat.mul_le_mul_right _ hlt
  rw [Nat.add_mul,Nat.one_mul] at this
  have h1:Lies m d.sz v l.length (l.flatMap d.enc):=h
  rw [h1.loadN hp this,flat_at hd hi]
theorem LiesD.load1 {α:Type} {d:Fl α} (hd:d.Even) {v:SV} {l:List α} (h:LiesD d m v l) {i j:Nat} {a:α} (hi:l[i]? = some a) (hj:j < d.sz):m.load (.hp (slN v) (slW v)) (slO v + i * d.sz + j) none=(d.enc a)[j]? := by
  have hlt:=(List.getElem?_eq_some_iff.1 hi).1
  have:(i + 1) * d.sz ≤ l.length * d.sz:=Nat.mul_le_mul_right _ hlt
  rw [Nat.add_mul,Nat.one_mul] at this
  have h1:Lies m d.sz v l.length (l.flatMap d.enc):=h
  rw [Nat.add_assoc,h1.load1 (by omega),← flat_at hd hi,List.getElem?_take,if_pos hj,List.getElem?_drop]
theorem LiesD.nil {α:Type} (d:Fl α) (m:Mem):LiesD d m .nils []:=⟨by simp,.inl ⟨rfl,rfl⟩⟩
theorem lies_in {α:Type} {d:Fl α} (hd:d.Even) {s:Sl α} {n:Nat} (hc:∀ c,s.cap=some c → s.l.length ≤ c) (hn:s.cap=none → s.l=[]) (h:slB d s=[] ∨ ∃ cs,slB d s=[cs] ∧ m.get (.hp n 0)=some (.cells false cs)):LiesD d m (slV d s n) s.l:=by
  obtain ⟨l,cap⟩:=s
  refine ⟨flat_len hd l,?_⟩
  cases cap with
  | none=>exact .inl ⟨rfl,by simp at hn; simp [hn]⟩
  | some c =>
    cases c with
    | zero=>have:=hc 0 rfl; exact .inr (.inl ⟨rfl,by simpa using this⟩)
    | succ c =>
      rcases h with h | ⟨cs,h1,h2⟩
      · simp [slB] at h
      · simp only [slB,List.cons.injEq,and_true] at h1
        subst h1
        refine .inr (.inr ⟨n,0,0,_,_,_,rfl,h2,?_,?_⟩)
        · simp only; rw [flat_len hd,Nat.zero_add]; exact Nat.le_refl _
        · simp only [List.drop_zero]
          rw [← flat_len hd l,List.take_length]
def sliceV (esz:Nat) (v:SV) (lo hi mx:Option Int):Option SV:=match v with
  | .nils=>(bnds 0 (some 0) lo hi mx).map fun _=>.nils
  | .sl b off len cap z=>if z=esz then (bnds len cap lo hi mx).map fun (l,h,c)=>.sl b (off + l * esz) (h - l) c z else none
  | .emp=>(bnds 0 (some 0) lo hi mx).map fun _=>.emp
  | _=>none
def optS (o:Option SV):Option (Option Int):=match o with
  | none=>some none
  | some v=>(idxv v).map some
def sliceO (esz:Nat) (v:SV) (lo hi mx:Option SV):Option SV:=match optS lo,optS hi,optS mx with
  | some lo,some hi,some mx=>sliceV esz v lo hi mx
  | _,_,_=>none
theorem RP_sliceO (F:Tbl) {fr:Fr} {esz:Nat} {x:Opd} {lo hi mx:Option Opd}:RP F (.slice esz x lo hi mx) fr m=(sliceO esz (x.ev fr) (lo.map (·.ev fr)) (hi.map (·.ev fr)) (mx.map (·.ev fr))).map fun v=>(v,m):=by
  rw [RP_slice]
  congr 1
  simp only [pev,sliceO]
  have e:∀ o:Option Opd,optI fr o=optS (o.map (·.ev fr)):=by intro o; cases o <;> rfl
  rw [e,e,e]
  cases optS (lo.map (·.ev fr)) <;> cases optS (hi.map (·.ev fr)) <;> cases optS (mx.map (·.ev fr)) <;> first | rfl | (simp only [sliceV]; cases x.ev fr <;> rfl)
theorem sliceO_lo (esz:Nat) (v:SV) (k:IntKind) (i:Int):sliceO esz v (some (.int k i)) none none=sliceV esz v (some i) none none:=rfl
theorem sliceO_hi (esz:Nat) (v:SV) (k:IntKind) (i:Int):sliceO esz v none (some (.int k i)) none=sliceV esz v none (some i) none:=rfl
theorem sliceO_lohi (esz:Nat) (v:SV) (k k':IntKind) (i j:Int):sliceO esz v (some (.int k i)) (some (.int k' j)) none=sliceV esz v (some i) (some j) none:=rfl
theorem sliceO_himx (esz:Nat) (v:SV) (k k':IntKind) (i j:Int):sliceO esz v none (some (.int k i)) (some (.int k' j))=sliceV esz v none (some i) (some j):=rfl
def dropV (esz lo:Nat):SV → SV
  | .sl b off len cap z=>.sl b (off + lo * esz) (len - lo) (cap.map (· - lo)) z
  | v=>v
def takeV (hi:Nat):SV → SV
  | .sl b off _ cap z=>.sl b off hi cap z
  | v=>v
def zeroV:SV → SV
  | .sl b off _ _ z=>.sl b off 0 (some 0) z
  | v=>v
theorem Lies.dropS {esz:Nat} {v:SV} {n:Nat} {cs:List SV} (h:Lies m esz v n cs) {lo:Nat} (hl:lo ≤ n):sliceV esz v (some (lo:Int)) none none=some (dropV esz lo v):=by
  rcases h.2 with ⟨rfl,rfl⟩ | ⟨rfl,rfl⟩ | ⟨k,w,off,cap,c,rw,rfl,g1,g2,g3⟩
  · simp [sliceV,bnds,dropV]; omega
  · simp [sliceV,bnds,dropV]; omega
  · have:(0:Int) ≤ lo ∧ (lo:Int) ≤ (n:Int):=by omega
    simp [sliceV,bnds,dropV,hl]
theorem Lies.takeS {esz:Nat} {v:SV} {n:Nat} {cs:List SV} (h:Lies m esz v n cs) {hi:Nat} (hl:hi ≤ n) (hc:∀ b off cap z,v=.sl b off n cap z → hi ≤ cap.getD n):sliceV esz v none (some (hi:Int)) none=some (takeV hi v):=by
  rcases h.2 with ⟨rfl,rfl⟩ | ⟨rfl,rfl⟩ | ⟨k,w,off,cap,c,rw,rfl,g1,g2,g3⟩
  · simp [sliceV,bnds,takeV]; omega
  · simp [sliceV,bnds,takeV]; omega
  · have:=hc _ _ _ _ rfl
    simp [sliceV,bnds,takeV,this]
theorem Lies.drop {esz:Nat} {v:SV} {n:Nat} {cs:List SV} (h:Lies m esz v n cs) {lo:Nat} (hl:lo ≤ n):Lies m esz (dropV esz lo v) (n - lo) (cs.drop (lo * esz)):=by
  have hm:lo * esz ≤ n * esz:=Nat.mul_le_mul_right _ hl
  have e:(n - lo) * esz=n * esz - lo * esz:=Nat.sub_mul _ _ _
  refine ⟨by rw [List.length_drop,h.1,e],?_⟩
  rcases h.2 with ⟨rfl,rfl⟩ | ⟨rfl,rfl⟩ | ⟨k,w,off,cap,c,rw,rfl,g1,g2,g3⟩
  · exact .inl ⟨rfl,by omega⟩
  · exact .inr (.inl ⟨rfl,by omega⟩)
  · refine .inr (.inr ⟨k,w,_,_,c,rw,rfl,g1,by omega,?_⟩)
    rw [← g3,List.drop_take,List.drop_drop,e]
theorem Lies.take {esz:Nat} {v:SV} {n:Nat} {cs:List SV} (h:Lies m esz v n cs) {hi:Nat} (hl:hi ≤ n):Lies m esz (takeV hi v) hi (cs.take (hi * esz)):=by
  have hm:hi * esz ≤ n * esz:=Nat.mul_le_mul_right _ hl
  refine ⟨by rw [List.length_take,h.1]; omega,?_⟩
  rcases h.2 with ⟨rfl,rfl⟩ | ⟨rfl,rfl⟩ | ⟨k,w,off,cap,c,rw,rfl,g1,g2,g3⟩
  · exact .inl ⟨rfl,by omega⟩
  · exact .inr (.inl ⟨rfl,by omega⟩)
  · refine .inr (.inr ⟨k,w,_,_,c,rw,rfl,g1,by omega,?_⟩)
    rw [← g3,List.take_take,Nat.min_eq_left hm]
theorem Lies.zero {esz:Nat} {v:SV} {n:Nat} {cs:List SV} (h:Lies m esz v n cs):Lies m esz (zeroV v) 0 []:=by
  refine ⟨by simp,?_⟩
  rcases h.2 with ⟨rfl,rfl⟩ | ⟨rfl,rfl⟩ | ⟨k,w,off,cap,c,rw,rfl,g1,g2,g3⟩
  · exact .inl ⟨rfl,rfl⟩
  · exact .inr (.inl ⟨rfl,rfl⟩)
  · exact .inr (.inr ⟨k,w,_,_,c,rw,rfl,g1,by omega,by simp⟩)
theorem LiesD.drop {α:Type} {d:Fl α} (hd:d.Even) {v:SV} {l:List α} (h:LiesD d m v l) {lo:Nat} (hl:lo ≤ l.length):LiesD d m (dropV d.sz lo v) (l.drop lo):=by
  have:=Lies.drop h hl
  rw [flat_drop hd] at this
  simpa [LiesD] using this
theorem Lies.elems {esz:Nat} {v:SV} {n:Nat} {cs:List SV} (h:Lies m esz v n cs):m.elems esz n v=some cs:=by
  rcases h.2 with ⟨rfl,rfl⟩ | ⟨rfl,rfl⟩ | ⟨k,w,off,cap,c,rw,rfl,g1,g2,g3⟩
  · have:cs=[]:=List.eq_nil_of_length_eq_zero (by rw [h.1]; simp)
    rw [this]; rfl
  · have:cs=[]:=List.eq_nil_of_length_eq_zero (by rw [h.1]; simp)
    rw [this]; rfl
  · simp only [Mem.elems,g1]
    rw [if_pos g2,g3]
theorem Lies.lenS {esz:Nat} {v:SV} {n:Nat} {cs:List SV} (h:Lies m esz v n cs):lenS v=some n:=by
  rcases h.2 with ⟨rfl,rfl⟩ | ⟨rfl,rfl⟩ | ⟨k,w,off,cap,c,rw,rfl,_⟩ <;> rfl
theorem Lies.lenv {esz:Nat} {v:SV} {n:Nat} {cs:List SV} (h:Lies m esz v n cs):lenv v=some n:=by
  rcases h.2 with ⟨rfl,rfl⟩ | ⟨rfl,rfl⟩ | ⟨k,w,off,cap,c,rw,rfl,_⟩ <;> rfl
def appV (esz bytes:Nat) (z:List SV) (away:Bk → Bool) (x y:SV) (m:Mem):Option (SV × Mem) :=
  match lenS x,lenv y with
  | some sl, some n =>
    (m.elems esz n y).bind fun new =>
      if n=0 then some (x,m) else
      if z.length=esz ∧ 0 < esz ∧ SV.cellsOk 0 0 new ∧ sl + n ≤ two48 ∧ 2 * (sl + n) * bytes ≤ two48 then
      match x with
      | .nils=>(m.new false (.cells true new)).map fun (b,m)=>(.sl b 0 n none esz,m)
      | .emp=>(m.new false (.cells true new)).map fun (b,m)=>(.sl b 0 n none esz,m)
      | .sl b off len cap z' =>
        (m.elems esz sl (.sl b off len cap z')).bind fun old =>
          if SV.cellsOk 0 0 old ∧ z'=esz then
            if noRoom cap (sl + n) then
              (m.new false (.cells true (old ++ new))).map fun (b,m)=>(.sl b 0 (sl + n) none esz,m)
            else
              match b,m.get b with
              | .hp k v,some (.cells true _) =>
                if m.may (.hp k v) ∧ away (.hp k v) then
                  some (.sl (.hp k (v + 1)) 0 (sl + n) none esz,({ m with heap:=m.heap.set k (v + 1,.cells true (old ++ new)) }).note (.hp k v) (SV.hxs new))
                else none
              | _,_=>none
          else none
      | _=>none
      else none
  | _,_=>none
theorem RP_appV (F:Tbl) {fr:Fr} {esz bytes:Nat} {z:List SV} {loose:List Opd} {x y:Opd}:RP F (.append esz bytes z loose x y) fr m=appV esz bytes z (fun b=>awayL fr b loose) (x.ev fr) (y.ev fr) m:=by
  rw [RP_mem _ _ _ rfl]
  rfl
theorem app_none {esz bytes:Nat} {z:List SV} {aw:Bk → Bool} {x y:SV} {n:Nat} {ox:List SV} (hx:Lies m esz x n ox) (hy:Lies m esz y 0 []):appV esz bytes z aw x y m=some (x,m):=by
  simp only [appV,hx.lenS,hy.lenv,hy.elems,Option.bind_some,if_true]
theorem cellsOk_flat {α:Type} {d:Fl α} (h:∀ a,SV.cellsOk 0 0 (d.enc a)=true) (l:List α):SV.cellsOk 0 0 (l.flatMap d.enc)=true:=by
  induction l with
  | nil=>rfl
  | cons a l ih =>
    rw [List.flatMap_cons]
    simp only [SV.cellsOk,List.all_append,Bool.and_eq_true] at *
    exact ⟨h a,ih⟩
def HpSub (m X:Mem):Prop:=∀ k w x,m.get (.hp k w)=some x → X.get (.hp k w)=some x
theorem hpsub_refl (m:Mem):HpSub m m:=fun _ _ _ h=>h
theorem hpsub_fr {m X:Mem} (h:HpSub m X) (f:List SBk) (e:Option Nat):HpSub m (X.fr f e):=fun k w x hx=>h k w x hx
theorem hpsub_frs {m X:Mem} (h:HpSub m X) (f:List (List SBk)) (e:Option Nat):HpSub m (X.frs f e):=fun k w x hx=>h k w x hx
theorem hpsub_shut {m X:Mem} (h:HpSub m X):HpSub m X.shut:=fun k w x hx=>by rw [shut_get]; exact h k w x hx
theorem hpsub_hap {m X:Mem} (h:HpSub m X) (l:List (Nat × SBk)):HpSub m (X.hap l):=fun k w x hx=>by rw [get_hap_lt X l w (get_lt (h k w x hx))]; exact h k w x hx
theorem HpSub.trans {a b c:Mem} (h:HpSub a b) (k:HpSub b c):HpSub a c:=fun n w x hx=>k n w x (h n w x hx)
theorem Lies.sub {m X:Mem} {esz:Nat} {v:SV} {n:Nat} {cs:List SV} (h:Lies m esz v n cs) (hX:HpSub m X):Lies X esz v n cs:=h.mono hX
theorem LiesD.sub {α:Type} {d:Fl α} {m X:Mem} {v:SV} {l:List α} (h:LiesD d m v l) (hX:HpSub m X):LiesD d X v l:=Lies.mono h hX
theorem LiesD.loadX {α:Type} {d:Fl α} (hd:d.Even) (hp:0 < d.sz) {v:SV} {l:List α} (h:LiesD d m v l) {i:Nat} {a:α} (hi:l[i]? = some a) {X:Mem} (hX:HpSub m X):X.load (.hp (slN v) (slW v)) (slO v + i * d.sz) (some d.sz)=some (.agg (d.enc a)):=LiesD.load hd hp (h.sub hX) hi
theorem LiesD.len {α:Type} {d:Fl α} {v:SV} {l:List α} (h:LiesD d m v l) (m':Mem):lenV v m'=some (.i l.length,m'):=Lies.len h m'
theorem LiesD.iaddr {α:Type} {d:Fl α} {v:SV} {l:List α} (h:LiesD d m v l) {i:Nat} (hi:i < l.length) (k:IntKind) (m':Mem):iaddrV d.sz v (.int k (i:Int)) m'=some (.ptr (.hp (slN v) (slW v)) (slO v + i * d.sz),m'):=Lies.iaddr h hi k m'
theorem hl_add (m:Mem) (a b:Nat):m.hl + a + b=m.hl + (a + b):=Nat.add_assoc _ _ _
theorem shut_hap_reopen (m:Mem) (l:List (Nat × SBk)):(m.shut.hap l).reopen m=m.hap l:=rfl
theorem shut_hl (m:Mem):m.shut.hl=m.hl:=by simp [Mem.shut,Mem.hl]
theorem Lies.lv {esz:Nat} {v:SV} {n:Nat} {cs:List SV} (h:Lies m esz v n cs) (d i:Nat):v.lv d i=true:=by
  rcases h.2 with ⟨rfl,rfl⟩ | ⟨rfl,rfl⟩ | ⟨k,w,off,cap,c,rw,rfl,_⟩ <;> rfl
theorem Lies.cell {esz:Nat} {v:SV} {n:Nat} {cs:List SV} (h:Lies m esz v n cs) (d i:Nat):SV.cell d i v=true:=by
  rcases h.2 with ⟨rfl,rfl⟩ | ⟨rfl,rfl⟩ | ⟨k,w,off,cap,c,rw,rfl,_⟩ <;> rfl
theorem LiesD.lv {α:Type} {d:Fl α} {v:SV} {l:List α} (h:LiesD d m v l) (e i:Nat):v.lv e i=true:=Lies.lv h e i
theorem LiesD.cell {α:Type} {d:Fl α} {v:SV} {l:List α} (h:LiesD d m v l) (e i:Nat):SV.cell e i v=true:=Lies.cell h e i
theorem LiesD.known {α:Type} {d:Fl α} {v:SV} {l:List α} (h:LiesD d m v l):v.known=true:=by
  rcases h.2 with ⟨rfl,_⟩ | ⟨rfl,_⟩ | ⟨k,w,off,cap,c,rw,rfl,_⟩ <;> rfl
theorem LiesD.cells {α:Type} {d:Fl α} {v:SV} {l:List α} (h:LiesD d m v l):v.cells=[v]:=by
  rcases h.2 with ⟨rfl,_⟩ | ⟨rfl,_⟩ | ⟨k,w,off,cap,c,rw,rfl,_⟩ <;> rfl
def cellF:Fl (Int × Int):=Fl.pair (Fl.int .i64) (Fl.int .i64)
theorem cellF_even:cellF.Even:=⟨fun _=>rfl⟩
theorem cellF_ok (l:List (Int × Int)):SV.cellsOk 0 0 (l.flatMap cellF.enc)=true:=cellsOk_flat (fun _=>rfl) l
theorem LiesD.iaddrC {v:SV} {l:List (Int × Int)} (h:LiesD cellF m v l) {i:Nat} (hi:i < l.length) (k:IntKind) (m':Mem):iaddrV 2 v (.int k (i:Int)) m'=some (.ptr (.hp (slN v) (slW v)) (slO v + i * 2),m'):=Lies.iaddr h hi k m'
theorem LiesD.loadC {v:SV} {l:List (Int × Int)} (h:LiesD cellF m v l) {i:Nat} {a:Int × Int} (hi:l[i]? = some a) {X:Mem} (hX:HpSub m X):X.load (.hp (slN v) (slW v)) (slO v + i * 2) (some 2)=some (.agg [.int .i64 a.1,.int .i64 a.2]):=LiesD.loadX cellF_even (by decide) h hi hX
theorem hpsub_hf {m X:Mem} {L:List (Nat × SBk)} (h:HpSub m (X.hap L)) (f:List SBk) (e:Option Nat):HpSub m ((X.fr f e).hap L):=fun k w x hx=>h k w x hx
theorem hpsub_hfs {m X:Mem} {L:List (Nat × SBk)} (h:HpSub m (X.hap L)) (f:List (List SBk)) (e:Option Nat):HpSub m ((X.frs f e).hap L):=fun k w x hx=>h k w x hx
def copyV (h n esz:Nat):SV:=if n=0 then .sl (.hp h 0) 0 0 (some 0) esz else .sl (.hp (h + 1) 0) 0 n none esz
def copyL (n:Nat) (cs:List SV):List (Nat × SBk):=if n=0 then [(0,.cells true [])] else [(0,.cells true []),(0,.cells true cs)]
theorem cells_copy (h n z:Nat):SV.cells (copyV h n z)=[copyV h n z]:=by unfold copyV; split <;> rfl
theorem cell_copy (d i h n z:Nat):SV.cell d i (copyV h n z)=true:=by unfold copyV; split <;> rfl
theorem lv_copy (d i h n z:Nat):SV.lv d i (copyV h n z)=true:=by unfold copyV; split <;> rfl
theorem known_copy (h n z:Nat):SV.known (copyV h n z)=true:=by unfold copyV; split <;> rfl
theorem copy_hx (h n z:Nat):((copyV h n z).hx ≤ h)=False:=by
  unfold copyV
  split <;> simp only [SV.hx,hx_hp,eq_iff_iff,iff_false] <;> omega
attribute [go_sem] hl_add hpsub_hf hpsub_hfs cells_copy cell_copy lv_copy known_copy copy_hx hpsub_refl hpsub_fr hpsub_frs hpsub_shut hpsub_hap shut_hap_reopen shut_hl
attribute [go_sem] load_hp_hap_fr load_hp_hap_frs Int.toNat_natCast
attribute [go_sem] RP_lenV RP_iaddrV RP_sliceO sliceO_lo sliceO_hi sliceO_lohi sliceO_himx RP_appV lenV_sl lenV_nils
end Go.Sh
