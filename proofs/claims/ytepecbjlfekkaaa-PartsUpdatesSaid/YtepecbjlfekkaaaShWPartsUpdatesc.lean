import Derived.Test.YtepecbjlfekkaaaShWPartsUpdatesb
import Derived.Test.YtepecbjlfekkaaaShArg
set_option linter.all false
set_option linter.unusedVariables false
set_option linter.unusedSimpArgs false
set_option autoImplicit false
namespace Go.Sh.T
open Go.Sh
set_option maxHeartbeats 8000000
set_option maxRecDepth 20000
def nbC (W:Wd) (cl sz:Int) (c d:Nat):Option Nat:=if W.steps cl sz ((c % W.w.toNat:Nat):Int) ((c / W.w.toNat:Nat):Int) (d:Int)=true then some (ixC W (((c % W.w.toNat:Nat):Int) + turnX d) (((c / W.w.toNat:Nat):Int) + turnY d)) else none
theorem ix_cell {W:Wd} (i:Nat):ixC W ((i % W.w.toNat:Nat):Int) ((i / W.w.toNat:Nat):Int)=i:=by
  unfold ixC
  rw [Int.toNat_natCast,Int.toNat_natCast,Nat.mul_comm]
  exact Nat.div_add_mod i W.w.toNat
theorem nb_ok {W:Wd} {cl sz:Int} {rt:Nat → Nat} (w1:1 ≤ W.w ∧ W.w ≤ 128) (w2:1 ≤ W.h ∧ W.h ≤ 128) (hr:∀ x y,x < W.w.toNat * W.h.toNat → y < W.w.toNat * W.h.toNat → (rt x=rt y ↔ Lnk (EL W cl sz (W.w.toNat * W.h.toNat)) x y)):NbOk (W.w.toNat * W.h.toNat) (stI W cl sz) rt (nbC W cl sz):=by
  have hw:0 < W.w.toNat:=by omega
  refine ⟨fun c d b hc h=>?_,fun P a b ha hb hab hPa hcl hsa hsb=>?_⟩
  · unfold nbC at h
    split at h
    · rename_i hs
      simp only [Option.some.injEq] at h
      have hl:=link_step (cl:=cl) (sz:=sz) w1.1 hs
      rw [h,ix_cell] at hl
      simp only [Wd.steps,Bool.and_eq_true] at hs
      have b2:=stands_bx7 hs.1.2
      obtain ⟨q1,q2,q3⟩:=ix_in (W:=W) w1.1 b2
      rw [h] at q1
      refine ⟨hs.1.1.2,?_,q1,(hr _ _ hc q1).2 hl⟩
      rw [← h]
      exact (stI_ix w1.1 b2).trans hs.1.2
    · cases h
  · have hl := (hr a b ha hb).1 hab
    have one:∀ x y d,(d:Nat) < 4 → x < W.w.toNat * W.h.toNat → P x → stI W cl sz x=true → stI W cl sz y=true → cellI W y=mvC (cellI W x) d → P y:=fun x y d hd hx hP s1 s2 he=>by
      have h1:=congrArg Prod.fst he
      have h2:=congrArg Prod.snd he
      simp only [mvC,cellI] at h1 h2
      have hk:=side_ok (W:=W) (cl:=cl) (sz:=sz) w1 w2 (d:=(d:Int)) (by omega) (x:=(cellI W x).1) (y:=(cellI W x).2) s1 (by
        show W.stands cl sz _ _=true
        simp only [cellI]
        rw [← h1,← h2]; exact s2)
      simp only [okR,okS,Bool.and_eq_true] at hk
      refine hcl x d y (by omega) hx hP ?_
      unfold nbC
      rw [if_pos (show W.steps cl sz ((x % W.w.toNat:Nat):Int) ((x / W.w.toNat:Nat):Int) (d:Int)=true from hk.1.2),← h1,← h2,ix_cell]
    have key:∀ {x y},Lnk (EL W cl sz (W.w.toNat * W.h.toNat)) x y → P x → P y:=fun {x y} h=>by
      induction h with
      | refl=>exact id
      | @step b c hbc e ih =>
        intro hx
        have hPb:=ih hx
        rcases e with ⟨k1,s1,s2,e⟩ | ⟨k1,s1,s2,e⟩
        · rcases e with ⟨e1,e2⟩ | e1
          · obtain ⟨q1,q2⟩:=cell_left hw e1
            have:c=b - 1:=by omega
            subst this
            refine one b _ 2 (by omega) k1 hPb s1 s2 ?_
            simp only [cellI,mvC,q1,q2]
            exact Prod.ext (show _=_ + (-1:Int) by dsimp only; omega) (show _=_ + (0:Int) by dsimp only; omega)
          · obtain ⟨q1,q2,q3⟩:=cell_up hw (b:=b) (by omega)
            have:c=b - W.w.toNat:=by omega
            subst this
            refine one b _ 3 (by omega) k1 hPb s1 s2 ?_
            simp only [cellI,mvC,q1,q2]
            exact Prod.ext (show _=_ + (0:Int) by dsimp only; omega) (show _=_ + (-1:Int) by dsimp only; omega)
        · rcases e with ⟨e1,e2⟩ | e1
          · obtain ⟨q1,q2⟩:=cell_left hw e1
            have:b=c - 1:=by omega
            subst this
            refine one _ c 0 (by omega) (by omega) hPb s2 s1 ?_
            simp only [cellI,mvC,q1,q2]
            exact Prod.ext (show _=_ + (1:Int) by dsimp only; omega) (show _=_ + (0:Int) by dsimp only; omega)
          · obtain ⟨q1,q2,q3⟩:=cell_up hw (b:=c) (by omega)
            have:b=c - W.w.toNat:=by omega
            subst this
            refine one _ c 1 (by omega) (by omega) hPb s2 s1 ?_
            simp only [cellI,mvC,q1,q2]
            exact Prod.ext (show _=_ + (0:Int) by dsimp only; omega) (show _=_ + (1:Int) by dsimp only; omega)
    exact key hl hPa
theorem appK {H:Hp} {v y:SV} {l k:List (Int × Int)} (ow:Own cellF H v l) (hy:LiesD cellF (Hm H) y k) (cp:capL v=true) (hb:l.length + k.length ≤ 1000000) (X:Mem) (hm:∀ i ∈ slFp v,X.hb ≤ i) :
    ∃ v' H',(∀ f e,appV 2 16 [.int .i64 0,.int .i64 0] (fun _=>true) v y ((X.hp H).fr f e)=some (v',(X.hp H').fr f e)) ∧ Own cellF H' v' (l ++ k) ∧ Keep (slFp v) H H' ∧ (∀ i ∈ slFp v',i ∈ slFp v ∨ H.length ≤ i) ∧ capL v'=true:=by
  obtain ⟨v',H2,ha,o1,o2,o3,-,-⟩:=app_own cellF_even (by decide) cellF_ok hxs_cell ow hy (bytes:=16) (by simp only [two48]; omega) (by simp only [two48]; omega) X hm
  have ha':=ha [.int .i64 0,.int .i64 0] rfl (fun _=>true) (ow.aw (fun _ _=>rfl))
  exact ⟨v',H2,ha',o1,o2,o3,app_capL (ha' [] none) cp⟩
def zc:List Nat → Nat
  | []=>0
  | x :: l=>(if x=0 then 1 else 0) + zc l
theorem zc_le:∀ l:List Nat,zc l ≤ l.length:=by
  intro l
  induction l with
  | nil=>exact Nat.le_refl _
  | cons x l ih=>simp only [zc,List.length_cons]; split <;> omega
theorem zc_set:∀ (l:List Nat) (b m:Nat),b < l.length → l.getD b 0=0 → m ≠ 0 → zc (l.set b m) + 1=zc l:=by
  intro l
  induction l with
  | nil=>intro b m h; simp at h
  | cons x l ih =>
    intro b m h h0 hm
    cases b with
    | zero =>
      have hx:x=0:=h0
      simp only [List.set_cons_zero,zc,hx,if_neg hm,if_true]
      omega
    | succ b =>
      have:=ih b m (by simp at h; omega) h0 hm
      simp only [List.set_cons_succ,zc]
      omega
theorem own_popC {H:Hp} {v:SV} {l:List (Int × Int)} {x:Int × Int} (ow:Own cellF H v (l ++ [x])) (cp:capL v=true):sliceV 2 v none (some (l.length:Int)) none=some (takeV l.length v) ∧ Own cellF H (takeV l.length v) l ∧ slFp (takeV l.length v)=slFp v ∧ capL (takeV l.length v)=true:=by
  rcases ow with ⟨rfl,h⟩ | ⟨rfl,h⟩ | ⟨k,w,off,cap,c,rfl,h1,h2,h3⟩
  · simp at h
  · simp at h
  · have hlen:(l ++ [x]).length=l.length + 1:=by simp
    rw [hlen] at cp h2 h3 ⊢
    have hq:l.length ≤ cap.getD (l.length + 1):=by
      cases cap with
      | none=>simp
      | some q=>simp only [capL,decide_eq_true_eq] at cp; simp only [Option.getD_some]; omega
    have hz:cellF.sz=2:=rfl
    rw [hz] at h2 h3
    refine ⟨?_,.inr (.inr ⟨k,w,off,cap,c,rfl,h1,by rw [hz]; omega,?_⟩),rfl,?_⟩
    · have a1:(0:Int) ≤ (l.length:Int) ∧ (l.length:Int) ≤ (cap.getD (l.length + 1):Nat):=by omega
      simp only [sliceV,bnds,hz,if_true,if_pos a1,Option.map_some,takeV,Int.toNat_natCast,Nat.zero_mul,Nat.add_zero,Nat.sub_zero]
    · rw [hz]
      have:=congrArg (List.take (l.length * 2)) h3
      rw [List.take_take,Nat.min_eq_left (by omega)] at this
      rw [this,List.flatMap_append,List.take_append_of_le_length (by rw [flat_len cellF_even]; exact Nat.le_refl _),← hz,← flat_len cellF_even,List.take_length]
    · cases cap with
      | none=>rfl
      | some q=>simp only [capL,decide_eq_true_eq] at cp ⊢; simp only [takeV,capL,decide_eq_true_eq]; omega
theorem r_ref08_Labels {X:Mem} {v:SV} {W:Wd} {cl sz:Int} {rt:Nat → Nat} (hv:LiesD boolF (Hm X.heap) v (W.gr cl sz)) (w1:1 ≤ W.w ∧ W.w ≤ 128) (w2:1 ≤ W.h ∧ W.h ≤ 128) (hN:NbOk (W.w.toNat * W.h.toNat) (stI W cl sz) rt (nbC W cl sz)) (hw:X.Wf) (hhb:X.hb ≤ X.hl) :
    ∃ H' v' L n,RF tb f_ref08_Ground_Labels [grV W.w W.h v] X=some (v',X.hp H') ∧ Own natF H' v' L ∧ Out (W.w.toNat * W.h.toNat) (stI W cl sz) rt (W.w.toNat * W.h.toNat) L n ∧ Keep [] X.heap H' ∧ ∀ i ∈ slFp v',X.hl ≤ i:=by
  rw [RF_go t_ref08_Ground_Labels _ _ rfl,push_hp]
  generalize hH:X.heap=H at *
  have hHl:X.hl=H.length:=by rw [← hH]; rfl
  obtain ⟨N,hNn⟩:∃ N,W.w.toNat * W.h.toNat=N:=⟨_,rfl⟩
  rw [hNn] at hN ⊢
  have hwh:W.w * W.h=(N:Int):=by rw [← hNn,Int.natCast_mul,Int.toNat_of_nonneg (by omega),Int.toNat_of_nonneg (by omega)]
  have hn2:N ≤ 16384:=by rw [← hNn]; exact Nat.mul_le_mul (show W.w.toNat ≤ 128 by omega) (show W.h.toNat ≤ 128 by omega)
  have wn:IntKind.wrap .i64 (W.w * W.h)=(N:Int):=by rw [wrap_small (by omega) (by omega),hwh]
  have hv2:((8:Int) * (N:Int) ≤ (two48:Int))=True:=by simp [two48]; omega
  have hv3:((N:Int) < 9223372036854775808)=True:=by simp; omega
  have hv4:((0:Int) ≤ (N:Int))=True:=by simp
  have sv:=hv.isSl
  simp (maxDischargeDepth:=8) only [go_sem,s_ref08_Ground_Labels,grV,hw,hH,wn,hv2,hv3,hv4,Int.le_refl,sv.l,sv.c,sv.k,sv.o]
  obtain ⟨H1,hH1⟩:∃ H1,H ++ [(0,SBk.cells true (List.replicate N [SV.int .i64 0]).flatten)]=H1:=⟨_,rfl⟩
  have own:Own natF H1 (.sl (.hp H.length 0) 0 N (some N) 1) (List.replicate N 0):=by rw [← hH1]; exact mkslV_own natF_even H 0 N
  have k1:Keep [] H H1:=by rw [← hH1]; exact Keep.app _ _ _
  rw [hH1]
  have fp:∀ i ∈ slFp (.sl (.hp H.length 0) 0 N (some N) 1),i=H.length:=by simp [slFp]
  have hx:(SV.sl (.hp H.length 0) 0 N (some N) 1).hx=H.length + 1:=rfl
  generalize (SV.sl (.hp H.length 0) 0 N (some N) 1)=ov at *
  have so:=own.isSl natF_even
  rw [KL_keep _ _ _ (by simp (maxDischargeDepth:=8) only [go_sem,so.l])]
  simp (maxDischargeDepth:=8) only [go_sem]
  refine KL_ind (R:=fun z=>∃ H' v' L n,fin [.t 2] X z=some (v',X.hp H') ∧ Own natF H' v' L ∧ Out N (stI W cl sz) rt N L n ∧ Keep [] H H' ∧ ∀ i ∈ slFp v',X.hl ≤ i)
    (α:=Nat × Nat × List Nat × Hp) (fun q=>N - q.1) (fun q=>[(1,.ptr (.st X.dep 0) 0),(3,ov),(4,.int .i64 (q.2.1:Int)),(5,.int .i64 (q.1:Int))]) (fun q=>(X.hp q.2.2.2).fr [.cells true [.int .i64 W.w,.int .i64 W.h,v]] none)
    (fun q=>q.1 ≤ N ∧ Own natF q.2.2.2 ov q.2.2.1 ∧ Keep [] H q.2.2.2 ∧ H.length < q.2.2.2.length ∧ Out N (stI W cl sz) rt q.1 q.2.2.1 q.2.1 ∧ q.2.1 ≤ q.1) ?_ (0,0,List.replicate N 0,H1) ⟨Nat.zero_le _,own,k1,by rw [← hH1]; simp,out_zero _ _ _,Nat.le_refl _⟩
  clear own k1 hH1
  rintro ⟨i,n,L,Hc⟩ ⟨hi,ow,kH,hlt1,hO,hni⟩ ih
  dsimp only at hi ow kH hlt1 hO hni ⊢
  have lo:=ow.lies natF_even
  have hLl:=hO.len
  have hv':LiesD boolF (Hm Hc) v (W.gr cl sz):=hv.keep kH (by simp)
  by_cases hlt:i < N
  · have hgi : (W.gr cl sz)[i]? = some (stI W cl sz i):=by unfold Wd.gr; rw [hNn,List.getElem?_map,List.getElem?_range hlt]; rfl
    have hgl:(W.gr cl sz).length=N:=by rw [gr_len,hNn]
    have hLi:L[i]? = some (L.getD i 0):=by rw [List.getD_eq_getElem?_getD,List.getElem?_eq_getElem (by omega)]; rfl
    have hit:=fun (k:IntKind) (m':Mem)=>hv'.iaddrT (i:=(i:Int)) (by omega) (by omega) k m'
    simp only [Int.toNat_natCast] at hit
    have base:=fun (l:List SV)=>so.l
    by_cases hsk:stI W cl sz i=false ∨ L.getD i 0 ≠ 0
    · have hc1:(!stI W cl sz i || decide ((L.getD i 0:Int) > 0))=true:=by
        rcases hsk with h | h
        · rw [h]; rfl
        · rw [show decide ((L.getD i 0:Int) > 0)=true from decide_eq_true (by omega)]; simp
      cases hst:stI W cl sz i with
      | false =>
        rw [hst] at hgi
        simp (maxDischargeDepth:=8) only [go_sem,hw,so.l,lo.len,hLl,show decide ((i:Int) < (N:Int))=true from decide_eq_true (by omega),hit,hv'.loadT hgi,wrap_succ (show i ≤ 4611686018427387903 by omega)]
        rw [KL_keep _ _ _ (by simp (maxDischargeDepth:=8) only [go_sem,so.l])]
        simp (maxDischargeDepth:=8) only [go_sem]
        exact ih (i + 1,n,L,Hc) ⟨by dsimp only; omega,ow,kH,hlt1,hO.skip hlt hsk,by dsimp only; omega⟩ (by dsimp only; omega)
      | true =>
        rw [hst] at hgi
        have hne:L.getD i 0 ≠ 0:=by
          rcases hsk with h | h
          · rw [hst] at h; cases h
          · exact h
        simp (maxDischargeDepth:=8) only [go_sem,hw,so.l,lo.len,hLl,show decide ((i:Int) < (N:Int))=true from decide_eq_true (by omega),hit,hv'.loadT hgi,lo.iaddrN (i:=i) (by omega),lo.loadN' hLi,show decide ((L.getD i 0:Int) > 0)=true from decide_eq_true (by omega),wrap_succ (show i ≤ 4611686018427387903 by omega)]
        rw [KL_keep _ _ _ (by simp (maxDischargeDepth:=8) only [go_sem,so.l])]
        simp (maxDischargeDepth:=8) only [go_sem]
        exact ih (i + 1,n,L,Hc) ⟨by dsimp only; omega,ow,kH,hlt1,hO.skip hlt hsk,by dsimp only; omega⟩ (by dsimp only; omega)
    · have hst : stI W cl sz i=true:=by
        cases h:stI W cl sz i with
        | false=>exact absurd (.inl h) hsk
        | true=>rfl
      have h0:L.getD i 0=0:=by
        rcases Nat.eq_zero_or_pos (L.getD i 0) with h | h
        · exact h
        · exact absurd (.inr (by omega)) hsk
      rw [hst] at hgi
      rw [h0] at hLi
      have tmw:(i:Int).tmod W.w=((i % W.w.toNat:Nat):Int):=by rw [Int.tmod_eq_emod_of_nonneg (by omega),Int.natCast_emod,Int.toNat_of_nonneg (by omega)]
      have tdw:IntKind.wrap .i64 ((i:Int).tdiv W.w)=((i / W.w.toNat:Nat):Int):=by
        have:(i:Int).tdiv W.w=((i / W.w.toNat:Nat):Int):=by rw [Int.tdiv_eq_ediv_of_nonneg (by omega),Int.natCast_ediv,Int.toNat_of_nonneg (by omega)]
        have h9:i / W.w.toNat ≤ i:=Nat.div_le_self _ _
        rw [this]
        generalize i / W.w.toNat=q at *
        exact wrap_small (by omega) (by omega)
      obtain ⟨H2,st2,o2,k2,n2⟩:=storeN ow (i:=i) (by omega) X (fun j hj=>by have:=fp j hj; omega) (n + 1)
      simp (maxDischargeDepth:=8) only [go_sem,hw,so.l,lo.len,hLl,show decide ((i:Int) < (N:Int))=true from decide_eq_true (by omega),hit,hv'.loadT hgi,lo.iaddrN (i:=i) (by omega),lo.loadN' hLi,show decide ((0:Int) > 0)=false from by decide,wrap_succ (show n ≤ 4611686018427387903 by omega),st2,show (W.w=0)=False from eq_false (by omega),tmw,tdw]
      obtain ⟨H3,hH3⟩:∃ H3,H2 ++ [(0,SBk.cells true [.int .i64 ((i % W.w.toNat:Nat):Int),.int .i64 ((i / W.w.toNat:Nat):Int)])]=H3:=⟨_,rfl⟩
      have k3:Keep [] H2 H3:=by rw [← hH3]; exact Keep.app _ _ _
      have l3:H3.length=H2.length + 1:=by rw [← hH3,List.length_append]; rfl
      have ot:Own cellF H3 (.sl (.hp H2.length 0) 0 1 (some 1) 2) ([i].map (cellI W)):=by rw [← hH3]; exact own_new cellF_even H2 [cellI W i] (some 1)
      have o3:Own natF H3 ov (L.set i (n + 1)):=o2.keep k3 (by simp)
      have kk3:Keep [] H H3:=(kH.trans' k2 (fun m hm hl=>by have:=fp m hm; omega)).trans k3
      have hz0:=zc_set L i (n + 1) (by omega) h0 (by omega)
      have hzl:=zc_le L
      rw [hH3]
      have st6:=ot.isSl cellF_even
      rw [KL_keep _ _ _ (by simp (maxDischargeDepth:=8) only [go_sem,so.l,st6.l])]
      simp (maxDischargeDepth:=8) only [go_sem]
      refine KL_ind (R:=(fun z=>∃ H' v' L n,fin [.t 2] X z=some (v',X.hp H') ∧ Own natF H' v' L ∧ Out N (stI W cl sz) rt N L n ∧ Keep [] H H' ∧ ∀ i ∈ slFp v',X.hl ≤ i))
        (α:=List Nat × List Nat × SV × Hp) (fun q=>2 * zc q.1 + q.2.1.length) (fun q=>[(1,.ptr (.st X.dep 0) 0),(3,ov),(4,.int .i64 ((n + 1:Nat):Int)),(5,.int .i64 (i:Int)),(6,q.2.2.1)]) (fun q=>(X.hp q.2.2.2).fr [.cells true [.int .i64 W.w,.int .i64 W.h,v]] none)
        (fun q=>Own natF q.2.2.2 ov q.1 ∧ Own cellF q.2.2.2 q.2.2.1 (q.2.1.map (cellI W)) ∧ capL q.2.2.1=true ∧ (∀ j ∈ slFp q.2.2.1,H.length < j) ∧ Keep [] H q.2.2.2 ∧ H.length < q.2.2.2.length ∧ 2 * zc q.1 + q.2.1.length ≤ 2 * N ∧ ∃ c d,Flo N (stI W cl sz) rt (nbC W cl sz) L i (n + 1) q.1 q.2.1 c d ∧ (∀ e b,e < 8 → nbC W cl sz c e=some b → c ∉ q.2.1 → q.1.getD b 0 ≠ 0))
        ?_ (L.set i (n + 1),[i],.sl (.hp H2.length 0) 0 1 (some 1) 2,H3) ⟨o3,ot,by simp [capL],by simp [slFp]; omega,kk3,by show H.length < H3.length; omega,by show 2 * zc (L.set i (n + 1)) + 1 ≤ 2 * N; omega,i,0,flo_begin hO hlt hst h0,fun e b _ _ hc=>absurd (by simp) hc⟩
      clear o3 ot kk3 st6
      rintro ⟨M,T,tv,Hd⟩ ⟨om,ot,cp,tf,kd,hd1,hmu,c0,d0,hF,hdn⟩ ih2
      dsimp only at om ot cp tf kd hd1 hmu hF hdn ⊢
      have st:=ot.isSl cellF_even
      have lt:=ot.lies cellF_even
      have htl:(T.map (cellI W)).length=T.length:=List.length_map _
      rcases List.eq_nil_or_concat T with rfl | ⟨T',x,rfl⟩
      · simp (maxDischargeDepth:=8) only [go_sem,hw,so.l,st.l,lt.len,htl,show decide ((0:Int) > 0)=false from by decide,List.length_nil]
        rw [KL_keep _ _ _ (by simp (maxDischargeDepth:=8) only [go_sem,so.l])]
        simp (maxDischargeDepth:=8) only [go_sem,wrap_succ (show i ≤ 4611686018427387903 by omega)]
        have hOut:=hF.fin hN hO hlt hst (fun e b he hn=>hdn e b he hn (by simp))
        exact ih (i + 1,n + 1,M,Hd) ⟨by dsimp only; omega,om,kd,hd1,hOut,by dsimp only; omega⟩ (by dsimp only; omega)
      · rw [List.concat_eq_append] at *
        have hF2:=hF.pop hdn
        rw [List.map_append,List.map_cons,List.map_nil] at ot lt
        have hTl:(T'.map (cellI W)).length=T'.length:=List.length_map _
        obtain ⟨p1,p2,p3,p4⟩:=own_popC ot cp
        rw [hTl] at p1 p2 p3 p4
        have htl2:(T'.map (cellI W) ++ [cellI W x]).length=T'.length + 1:=by simp
        have hgx:(T'.map (cellI W) ++ [cellI W x])[T'.length]? = some (cellI W x):=by rw [List.getElem?_append_right (by simp)]; simp
        have hmu2:2 * zc M + T'.length + 1 ≤ 2 * N:=by simp at hmu; omega
        have wT:IntKind.wrap .i64 (((T'.length + 1:Nat):Int) - 1)=(T'.length:Int):=by rw [wrap_small (by omega) (by omega)]; omega
        have sp:=p2.isSl cellF_even
        simp (maxDischargeDepth:=8) only [go_sem,hw,so.l,st.l,lt.len,htl2,show decide (((T'.length + 1:Nat):Int) > 0)=true from decide_eq_true (by omega),wT,lt.iaddrC (i:=T'.length) (by omega),lt.loadC hgx,p1]
        rw [KL_keep _ _ _ (by simp (maxDischargeDepth:=8) only [go_sem,so.l,sp.l])]
        simp (maxDischargeDepth:=8) only [go_sem]
        refine KL_ind (R:=(fun z=>∃ H' v' L n,fin [.t 2] X z=some (v',X.hp H') ∧ Own natF H' v' L ∧ Out N (stI W cl sz) rt N L n ∧ Keep [] H H' ∧ ∀ i ∈ slFp v',X.hl ≤ i))
          (α:=Nat × List Nat × List Nat × SV × Hp) (fun q=>8 - q.1) (fun q=>[(1,.ptr (.st X.dep 0) 0),(3,ov),(4,.int .i64 ((n + 1:Nat):Int)),(5,.int .i64 (i:Int)),(6,q.2.2.2.1),(7,.ptr (.st X.dep 1) 0),(8,.int .i64 (q.1:Int))]) (fun q=>(X.hp q.2.2.2.2).fr [.cells true [.int .i64 W.w,.int .i64 W.h,v],.cells true [.int .i64 (cellI W x).1,.int .i64 (cellI W x).2]] none)
          (fun q=>q.1 ≤ 8 ∧ Own natF q.2.2.2.2 ov q.2.1 ∧ Own cellF q.2.2.2.2 q.2.2.2.1 (q.2.2.1.map (cellI W)) ∧ capL q.2.2.2.1=true ∧ (∀ j ∈ slFp q.2.2.2.1,H.length < j) ∧ Keep [] H q.2.2.2.2 ∧ H.length < q.2.2.2.2.length ∧ 2 * zc q.2.1 + q.2.2.1.length + 1 ≤ 2 * zc M + (T' ++ [x]).length ∧ Flo N (stI W cl sz) rt (nbC W cl sz) L i (n + 1) q.2.1 q.2.2.1 x q.1)
          ?_ (0,M,T',takeV T'.length tv,Hd) ⟨Nat.zero_le _,om,p2,p4,by rw [p3]; exact tf,kd,hd1,by show 2 * zc M + T'.length + 1 ≤ 2 * zc M + (T' ++ [x]).length; rw [List.length_append,List.length_singleton]; omega,hF2⟩
        clear p2 p4 sp hF2
        rintro ⟨d,M2,T2,tv2,He⟩ ⟨hd8,om2,ot2,cp2,tf2,ke,he1,hmu3,hG⟩ ih3
        dsimp only at hd8 om2 ot2 cp2 tf2 ke he1 hmu3 hG ⊢
        have st2:=ot2.isSl cellF_even
        have lt2:=ot2.lies cellF_even
        by_cases hd9:d < 8
        · have hve:LiesD boolF (Hm He) v (W.gr cl sz):=hv.keep ke (by simp)
          have hS:=fun f e=>r_ref08_Ground_Steps (X:=(X.hp He).fr f e) hve w1 w2 (hpsub_refl _) (fr_wf (hp_wf hw) f e) (cellI W x).1 (cellI W x).2 (d:Int)
          unfold grV cellV at hS
          have wd:=wrap_succ (show d ≤ 4611686018427387903 by omega)
          cases hs:W.steps cl sz (cellI W x).1 (cellI W x).2 (d:Int) with
          | false =>
            simp only [hs,Bool.false_eq_true,if_false] at hS
            simp (maxDischargeDepth:=8) only [go_sem,hw,so.l,st2.l,sv.l,sv.c,sv.k,sv.o,show decide ((d:Int) < 8)=true from decide_eq_true (by omega),hS,wd]
            rw [KL_keep _ _ _ (by simp (maxDischargeDepth:=8) only [go_sem,so.l,st2.l])]
            simp (maxDischargeDepth:=8) only [go_sem]
            have hnb:nbC W cl sz x d=none:=by unfold nbC; rw [if_neg (by rw [show W.steps cl sz ((x % W.w.toNat:Nat):Int) ((x / W.w.toNat:Nat):Int) (d:Int)=false from hs]; decide)]
            exact ih3 (d + 1,M2,T2,tv2,He) ⟨by dsimp only; omega,om2,ot2,cp2,tf2,ke,he1,hmu3,hG.no (fun b hb=>by rw [hnb] at hb; cases hb)⟩ (by dsimp only; omega)
          | true =>
            simp only [hs,if_true] at hS
            obtain ⟨tx,htx⟩:∃ tx,(cellI W x).1 + turnX (d:Int)=tx:=⟨_,rfl⟩
            obtain ⟨ty,hty⟩:∃ ty,(cellI W x).2 + turnY (d:Int)=ty:=⟨_,rfl⟩
            rw [htx,hty] at hS
            have hsS:W.stands cl sz tx ty=true:=by
              have:=hs
              simp only [Wd.steps,Bool.and_eq_true,htx,hty] at this
              exact this.1.2
            have b1:=stands_bx7 hsS
            obtain ⟨q1,q2,q3⟩:=ix_in (W:=W) w1.1 b1
            have hnb:nbC W cl sz x d=some (ixC W tx ty):=by
              unfold nbC
              rw [if_pos (show W.steps cl sz ((x % W.w.toNat:Nat):Int) ((x / W.w.toNat:Nat):Int) (d:Int)=true from hs),← htx,← hty]; rfl
            rw [hNn] at q1
            have e6:ty * W.w=((ty.toNat * W.w.toNat:Nat):Int):=by rw [Int.natCast_mul,Int.toNat_of_nonneg (by omega),Int.toNat_of_nonneg (by omega)]
            have e5:ixC W tx ty=ty.toNat * W.w.toNat + tx.toNat:=rfl
            have e7:IntKind.wrap .i64 (ty * W.w)=((ty.toNat * W.w.toNat:Nat):Int):=by rw [e6,wrap_small (by omega) (by omega)]
            have e8:IntKind.wrap .i64 (((ty.toNat * W.w.toNat:Nat):Int) + tx)=((ixC W tx ty:Nat):Int):=by rw [wrap_small (by omega) (by omega)]; omega
            have lM:=om2.lies natF_even
            have hMl:=hG.len
            have hgb:M2[ixC W tx ty]? = some (M2.getD (ixC W tx ty) 0):=by rw [List.getD_eq_getElem?_getD,List.getElem?_eq_getElem (by omega)]; rfl
            by_cases hb0:M2.getD (ixC W tx ty) 0=0
            · rw [hb0] at hgb
              obtain ⟨H5,st5,o5,k5,n5⟩:=storeN om2 (i:=ixC W tx ty) (by omega) X (fun j hj=>by have:=fp j hj; omega) (n + 1)
              have kk5:Keep [] H H5:=ke.trans' k5 (fun m hm hl=>by have:=fp m hm; omega)
              have ot5:Own cellF H5 tv2 (T2.map (cellI W)):=ot2.keep k5 (fun j hj hc=>by have:=tf2 j hj; have:=fp j hc; omega)
              obtain ⟨H6,hH6⟩:∃ H6,H5 ++ [(0,SBk.cells true [.int .i64 tx,.int .i64 ty])]=H6:=⟨_,rfl⟩
              have k6:Keep [] H5 H6:=by rw [← hH6]; exact Keep.app _ _ _
              have y6:LiesD cellF (Hm H6) (.sl (.hp H5.length 0) 0 1 (some 1) 2) [(tx,ty)]:=by rw [← hH6]; exact (own_new cellF_even H5 [(tx,ty)] (some 1)).lies cellF_even
              have l6:H6.length=H5.length + 1:=by rw [← hH6,List.length_append]; rfl
              obtain ⟨tv3,H7,a7,o7,k7,f7,c7⟩:=appK (ot5.keep k6 (by simp)) y6 cp2 (by rw [List.length_map]; simp; simp at hmu3; omega) X (fun j hj=>by have:=tf2 j hj; omega)
              simp (maxDischargeDepth:=8) only [go_sem,hw,so.l,st2.l,sv.l,sv.c,sv.k,sv.o,show decide ((d:Int) < 8)=true from decide_eq_true (by omega),hS,wd,e7,e8,lM.iaddrN (i:=ixC W tx ty) (by omega),lM.loadN' hgb,show ((0:Int) == 0)=true from rfl,st5,hH6,a7]
              rw [KL_keep _ _ _ (by simp (maxDischargeDepth:=8) only [go_sem,so.l,(o7.isSl cellF_even).l])]
              simp (maxDischargeDepth:=8) only [go_sem]
              have hcell:cellI W (ixC W tx ty)=(tx,ty):=Prod.ext q2 q3
              have hzs:=zc_set M2 (ixC W tx ty) (n + 1) (by omega) hb0 (by omega)
              refine ih3 (d + 1,M2.set (ixC W tx ty) (n + 1),T2 ++ [ixC W tx ty],tv3,H7) ⟨by dsimp only; omega,(o5.keep k6 (by simp)).keep k7 (fun j hj hc=>by have:=tf2 j hc; have:=fp j hj; omega),?_,c7,fun j hj=>?_,(kk5.trans k6).trans' k7 (fun m hm hl=>by have:=tf2 m hm; omega),?_,?_,hG.yes hN (by omega) hnb hb0⟩ (by dsimp only; omega)
              · dsimp only; rw [List.map_append,List.map_cons,List.map_nil,hcell]; exact o7
              · rcases f7 j hj with h | h
                · exact tf2 j h
                · omega
              · have:=k7.1; show H.length < H7.length; omega
              · show 2 * zc (M2.set (ixC W tx ty) (n + 1)) + (T2 ++ [ixC W tx ty]).length + 1 ≤ _
                rw [List.length_append,List.length_singleton]; omega
            · simp (maxDischargeDepth:=8) only [go_sem,hw,so.l,st2.l,sv.l,sv.c,sv.k,sv.o,show decide ((d:Int) < 8)=true from decide_eq_true (by omega),hS,wd,e7,e8,lM.iaddrN (i:=ixC W tx ty) (by omega),lM.loadN' hgb,show ((M2.getD (ixC W tx ty) 0:Int) == 0)=false from beq_eq_false_iff_ne.2 (by omega)]
              rw [KL_keep _ _ _ (by simp (maxDischargeDepth:=8) only [go_sem,so.l,st2.l])]
              simp (maxDischargeDepth:=8) only [go_sem]
              exact ih3 (d + 1,M2,T2,tv2,He) ⟨by dsimp only; omega,om2,ot2,cp2,tf2,ke,he1,hmu3,hG.no (fun b hb=>by rw [hnb] at hb; cases hb; exact hb0)⟩ (by dsimp only; omega)
        · have hd0:d=8:=by omega
          subst hd0
          simp (maxDischargeDepth:=8) only [go_sem,hw,so.l,st2.l,show decide (((8:Nat):Int) < 8)=false from by decide]
          rw [KL_keep _ _ _ (by simp (maxDischargeDepth:=8) only [go_sem,so.l,st2.l])]
          simp (maxDischargeDepth:=8) only [go_sem]
          exact ih2 (M2,T2,tv2,He) ⟨om2,ot2,cp2,tf2,ke,he1,by dsimp only at hmu ⊢; omega,x,8,hG,fun e b he hn _=>hG.part e b he hn⟩ (by dsimp only at hmu3 ⊢; omega)
  · have ei:i=N:=by omega
    subst ei
    simp (maxDischargeDepth:=8) only [go_sem,hw,so.l,lo.len,hLl,show decide ((i:Int) < (i:Int))=false from decide_eq_false (by omega)]
    rw [hx,if_neg (by omega)]
    exact ⟨Hc,ov,L,n,rfl,ow,hO,kH,fun j hj=>by have:=fp j hj; omega⟩
theorem canon_mx {N:Nat} {st:Nat → Bool} {R:Nat → Nat → Prop} {f:Nat → Nat} (h:Canon N st R f):∀ i,i ≤ N → mxP f i=cntF st R i ∧ (fsP f i).length=cntF st R i:=by
  intro i
  induction i with
  | zero=>intro _; exact ⟨rfl,rfl⟩
  | succ i ih =>
    intro hi
    obtain ⟨h1,h2⟩:=ih (by omega)
    cases hs:st i with
    | false =>
      have e:=(h i (by omega)).1 hs
      rw [cntF_no (fun hf=>by have:=hf.1; rw [hs] at this; cases this)]
      simp only [mxP,fsP,e,if_neg (Nat.not_lt_zero _)]
      exact ⟨h1,h2⟩
    | true =>
      rcases (h i (by omega)).2 hs with ⟨j,j1,j2,j3,j4⟩ | ⟨j1,j2⟩
      · rw [cntF_no (fun hf=>hf.2 j j1 j2 j3)]
        have:=le_mxP (f:=f) i j j1
        simp only [mxP,fsP,if_neg (show ¬ mxP f i < f i by omega)]
        exact ⟨h1,h2⟩
      · rw [cntF_fst ⟨hs,j1⟩]
        simp only [mxP,fsP,if_pos (show mxP f i < f i by omega)]
        exact ⟨j2,by rw [List.length_append,h2]; rfl⟩
theorem canon_next {N:Nat} {st:Nat → Bool} {R:Nat → Nat → Prop} {f:Nat → Nat} (h:Canon N st R f) {i:Nat} (hi:i < N) (hlt:mxP f i < f i):f i=mxP f i + 1:=by
  have e:=canon_mx h i (by omega)
  cases hs:st i with
  | false=>have:=(h i hi).1 hs; omega
  | true =>
    rcases (h i hi).2 hs with ⟨j,j1,j2,j3,j4⟩ | ⟨j1,j2⟩
    · have:=le_mxP (f:=f) i j j1; omega
    · omega
def MFst (f:Nat → Nat) (i:Nat) (M:List (Int × Int)):Prop:=∀ n,n < (fsP f i).length → alGet ((n + 1:Nat):Int) M=some (((fsP f i).getD n 0:Nat):Int)
def MSiz (f:Nat → Nat) (i:Nat) (M:List (Int × Int)):Prop:=∀ n:Nat,(alGet (n:Int) M).getD 0=(cnP f n i:Int)
theorem mFst_zero (f:Nat → Nat):MFst f 0 []:=fun n h=>absurd h (Nat.not_lt_zero _)
theorem mSiz_zero (f:Nat → Nat):MSiz f 0 []:=fun n=>rfl
theorem MFst.no {f:Nat → Nat} {i:Nat} {M:List (Int × Int)} (h:MFst f i M) (hn:¬ mxP f i < f i):MFst f (i + 1) M:=by
  intro n; simp only [fsP,if_neg hn]; exact h n
theorem MFst.yes {N:Nat} {st:Nat → Bool} {R:Nat → Nat → Prop} {f:Nat → Nat} (hc:Canon N st R f) {i:Nat} {M:List (Int × Int)} (h:MFst f i M) (hi:i < N) (hn:mxP f i < f i):MFst f (i + 1) (alSet (f i:Int) (i:Int) M):=by
  have e:=canon_next hc hi hn
  obtain ⟨e1,e2⟩:=canon_mx hc i (by omega)
  intro n
  simp only [fsP,if_pos hn,List.length_append,List.length_singleton]
  intro hl
  rw [alGet_set]
  by_cases en:n=(fsP f i).length
  · rw [if_pos (by omega),en,List.getD_eq_getElem?_getD,List.getElem?_append_right (Nat.le_refl _),Nat.sub_self]; rfl
  · rw [if_neg (by omega),h n (by omega),List.getD_eq_getElem?_getD,List.getD_eq_getElem?_getD,List.getElem?_append_left (by omega)]
theorem MSiz.set {f:Nat → Nat} {i:Nat} {M:List (Int × Int)} (h:MSiz f i M):MSiz f (i + 1) (alSet (f i:Int) ((cnP f (f i) i + 1:Nat):Int) M):=by
  intro n
  rw [alGet_set]
  simp only [cnP]
  by_cases e:n=f i
  · subst e; rw [if_pos rfl,if_pos rfl]; rfl
  · rw [if_neg (by omega),if_neg (fun h=>e h.symm)]; exact h n
theorem cnP_le (f:Nat → Nat) (q:Nat):∀ j,cnP f q j ≤ j:=fun j=>by
  induction j with
  | zero=>exact Nat.le_refl _
  | succ j ih=>simp only [cnP]; split <;> omega
theorem mxP_le' {N:Nat} {st:Nat → Bool} {R:Nat → Nat → Prop} {f:Nat → Nat} (h:Canon N st R f):∀ i,i ≤ N → mxP f i ≤ i:=by
  have hc:∀ i,cntF st R i ≤ i:=fun i=>by
    induction i with
    | zero=>exact Nat.le_refl _
    | succ i ih=>simp only [cntF]; split <;> omega
  intro i hi
  rw [(canon_mx h i hi).1]; exact hc i
theorem fsP_lt (f:Nat → Nat):∀ i,∀ x ∈ fsP f i,x < i:=by
  intro i
  induction i with
  | zero=>intro x hx; simp [fsP] at hx
  | succ i ih =>
    intro x hx
    simp only [fsP] at hx
    split at hx
    · rcases List.mem_append.1 hx with h | h
      · have:=ih x h; omega
      · simp at h; omega
    · have:=ih x hx; omega
theorem list_ext0 {A B:List Nat} {N:Nat} (ha:A.length=N) (hb:B.length=N) (h:∀ i,i < N → A.getD i 0=B.getD i 0):A=B:=by
  apply List.ext_getElem (by omega)
  intro i h1 h2
  have:=h i (by omega)
  rw [List.getD_eq_getElem?_getD,List.getD_eq_getElem?_getD,List.getElem?_eq_getElem h1,List.getElem?_eq_getElem h2] at this
  exact this
theorem labels_of {X:Mem} {v:SV} {W:Wd} {cl sz:Int} {rt:Nat → Nat} {z:Option (SV × Mem)} (hz:RF tb f_ref08_Ground_Labels [grV W.w W.h v] X=z) (hv:LiesD boolF (Hm X.heap) v (W.gr cl sz)) (w1:1 ≤ W.w ∧ W.w ≤ 128) (w2:1 ≤ W.h ∧ W.h ≤ 128) (hN:NbOk (W.w.toNat * W.h.toNat) (stI W cl sz) rt (nbC W cl sz)) (hw:X.Wf) (hhb:X.hb ≤ X.hl) :
    ∃ H' v' L n,z=some (v',X.hp H') ∧ Own natF H' v' L ∧ Out (W.w.toNat * W.h.toNat) (stI W cl sz) rt (W.w.toNat * W.h.toNat) L n ∧ Keep [] X.heap H' ∧ ∀ i ∈ slFp v',X.hl ≤ i:=by
  subst hz; exact r_ref08_Labels hv w1 w2 hN hw hhb
theorem canon_eq {N:Nat} {st:Nat → Bool} {rt:Nat → Nat} {A B:List Nat} (ha:A.length=N) (hb:B.length=N) (h1:Canon N st (fun x y=>rt x=rt y) (fun i=>A.getD i 0)) (h2:Canon N st (fun x y=>rt x=rt y) (fun i=>B.getD i 0)):A=B :=
  list_ext0 ha hb (fun i hi=>h1.uniq h2 (fun _ _ h=>h.symm) (fun _ _ _ h k=>h.trans k) (i + 1) i (Nat.lt_succ_self _) hi)
theorem r_law08_right {X:Mem} {kp:Nat} {q:QP} {W:Wd} {bl:List Bld} {cl sz:Int} {rt:Nat → Nat} {L:List Nat} {F:List (Int × Int)} {Z:List Nat} {num:Nat → Nat} (hP:PA (Hm X.heap) kp W L F Z) (hB:Lab (W.w.toNat * W.h.toNat) (stI W cl sz) rt (fun i=>(((i % W.w.toNat:Nat):Int),((i / W.w.toNat:Nat):Int))) (W.w.toNat * W.h.toNat) L F Z num) (hr:∀ x y,x < W.w.toNat * W.h.toNat → y < W.w.toNat * W.h.toNat → (rt x=rt y ↔ Lnk (EL W cl sz (W.w.toNat * W.h.toNat)) x y)) (hR:RefOwn X.heap q W bl) (ho:∀ a b,(atL bl a b).isSome=(atL W.bl a b).isSome) (hg:W.Good) (hw:X.Wf) (hhb:X.hb ≤ X.hl) :
    ∃ H',RF tb f_law08_right [.ptr (.hp kp 0) 0,.ptr (.hp q.k 0) 0,.agg [.int .i64 cl,.int .i64 sz]] X=some (.bool true,X.hp H') ∧ Keep [] X.heap H':=by
  rw [RF_go t_law08_right _ _ rfl,push_hp]
  generalize hH:X.heap=H at *
  have hHl:X.hl=H.length:=by rw [← hH]; rfl
  obtain ⟨N,hNn⟩:∃ N,W.w.toNat * W.h.toNat=N:=⟨_,rfl⟩
  have w1:=hP.w1
  have w2:=hP.h1
  have hwp:0 < W.w.toNat:=by omega
  have hn2:N ≤ 16384:=by rw [← hNn]; exact Nat.mul_le_mul (show W.w.toNat ≤ 128 by omega) (show W.h.toNat ≤ 128 by omega)
  simp (maxDischargeDepth:=8) only [go_sem,s_law08_right,hw,hH]
  generalize hz:RF tb f_ref08_Of _ _=z
  obtain ⟨gv,H1,rfl,og,fg,k1⟩:=gr_of (cl:=cl) (sz:=sz) hz (show RefOwn H q W bl from hR) ho hg (fr_wf (hp_wf hw) _ _) (by show X.hb ≤ H.length; omega)
  change Keep [] H H1 at k1
  have sg:=og.isSl boolF_even
  have hl1:=k1.1
  simp (maxDischargeDepth:=8) only [go_sem,hw,grV,sg.l,sg.c,sg.k,sg.o]
  generalize hz:RF tb f_ref08_Ground_Labels _ _=z
  obtain ⟨H2,lv,Lr,nn,rfl,ol,hOut,k2,fl⟩:=labels_of (rt:=rt) (cl:=cl) (sz:=sz) (W:=W) hz (og.lies boolF_even) w1 w2 (nb_ok w1 w2 hr) (fr_wf (hp_wf hw) _ _) (by show X.hb ≤ H1.length; omega)
  change Keep [] H1 H2 at k2
  have sl:=ol.isSl natF_even
  have hl2:=k2.1
  have hcan:=hB.ca
  obtain rfl:=canon_eq hOut.len hB.len hOut.canon hcan
  simp (maxDischargeDepth:=8) only [go_sem,hw]
  obtain ⟨H3,hH3⟩:∃ H3,H2 ++ [(0,SBk.map [])]=H3:=⟨_,rfl⟩
  have k3:Keep [] H2 H3:=by rw [← hH3]; exact Keep.app _ _ _
  have l3:H3.length=H2.length + 1:=by rw [← hH3,List.length_append]; rfl
  obtain ⟨H4,hH4⟩:∃ H4,H3 ++ [(0,SBk.map [])]=H4:=⟨_,rfl⟩
  have k4:Keep [] H3 H4:=by rw [← hH4]; exact Keep.app _ _ _
  have l4:H4.length=H3.length + 1:=by rw [← hH4,List.length_append]; rfl
  rw [hH3]
  simp (maxDischargeDepth:=8) only [go_sem,hw,hH4]
  rw [hNn] at hB hOut hcan hr
  obtain ⟨f,hf⟩:∃ f:Nat → Nat,f=(fun i=>Lr.getD i 0):=⟨_,rfl⟩
  have hfi:∀ i,f i=Lr.getD i 0:=fun i=>by rw [hf]
  rw [← hf] at hcan
  have hLl:Lr.length=N:=hB.len
  have hkp:kp < H.length:=by
    obtain ⟨p,cl,sz,kf,lv,fv,zv,ep,ha,hl,hf,hz⟩:=hP.ex
    exact hget_lt (show hget H kp 0=_ from ha)
  have hkA:Keep [] H H4:=((k1.trans k2).trans k3).trans k4
  have ol4:Own natF H4 lv Lr:=(ol.keep k3 (by simp)).keep k4 (by simp)
  have m13:hget H4 H2.length 0=some (.map (alV intV intV [])):=k4.get (by rw [← hH3]; exact hget_new0 0 _) (by simp)
  have m14:hget H4 H3.length 0=some (.map (alV intV intV [])):=by rw [← hH4]; exact hget_new0 0 _
  have fpl:∀ j ∈ slFp lv,H1.length ≤ j ∧ j < H2.length:=fun j hj=>⟨fl j hj,ol.fp j hj⟩
  have ll:=ol4.lies natF_even
  have lw:IntKind.wrap .i64 (0:Int)=0:=by decide
  rw [KL_keep _ _ _ (by simp (maxDischargeDepth:=8) only [go_sem,sl.l])]
  simp (maxDischargeDepth:=8) only [go_sem]
  refine KL_ind (R:=fun z=>∃ H',fin [.t 6] X z=some (.bool true,X.hp H') ∧ Keep [] H H')
    (α:=Nat × List (Int × Int) × List (Int × Int) × Hp) (fun q=>N - q.1) (fun q=>[(0,.ptr (.hp kp 0) 0),(7,.ptr (.st X.dep 1) 0),(8,lv),(9,.map (.hp H2.length 0)),(10,.map (.hp H3.length 0)),(11,.int .i64 (mxP f q.1:Int)),(12,.int .i64 (q.1:Int))]) (fun q=>(X.hp q.2.2.2).fr [.cells true [.int .i64 cl,.int .i64 sz],.cells true [.int .i64 W.w,.int .i64 W.h,gv]] none)
    (fun q=>q.1 ≤ N ∧ Keep [H2.length,H3.length] H4 q.2.2.2 ∧ hget q.2.2.2 H2.length 0=some (.map (alV intV intV q.2.2.1)) ∧ hget q.2.2.2 H3.length 0=some (.map (alV intV intV q.2.1)) ∧ MFst f q.1 q.2.1 ∧ MSiz f q.1 q.2.2.1) ?_ (0,[],[],H4) ⟨Nat.zero_le _,Keep.refl _ _,m13,m14,mFst_zero f,mSiz_zero f⟩
  rintro ⟨i,M1,M2,Hc⟩ ⟨hi,kc,g2,g1,hM1,hM2⟩ ih
  dsimp only at hi kc g2 g1 hM1 hM2 ⊢
  have hlc:=kc.1
  have kHc:Keep [] H Hc:=hkA.trans' kc (fun m hm hl=>by simp at hm; omega)
  have hPc:PA (Hm Hc) kp W Lr F Z:=hP.sub kHc.sub
  have oc:Own natF Hc lv Lr:=ol4.keep kc (fun j hj hc=>by have:=(fpl j hj); simp at hc; omega)
  have lc:=oc.lies natF_even
  by_cases hlt:i < N
  · have hLi:Lr[i]? = some (f i):=by rw [hfi,List.getD_eq_getElem?_getD,List.getElem?_eq_getElem (by omega)]; rfl
    have tmw:(i:Int).tmod W.w=((i % W.w.toNat:Nat):Int):=by rw [Int.tmod_eq_emod_of_nonneg (by omega),Int.natCast_emod,Int.toNat_of_nonneg (by omega)]
    have tdw:IntKind.wrap .i64 ((i:Int).tdiv W.w)=((i / W.w.toNat:Nat):Int):=by
      have:(i:Int).tdiv W.w=((i / W.w.toNat:Nat):Int):=by rw [Int.tdiv_eq_ediv_of_nonneg (by omega),Int.natCast_ediv,Int.toNat_of_nonneg (by omega)]
      have h9:i / W.w.toNat ≤ i:=Nat.div_le_self _ _
      rw [this]
      generalize i / W.w.toNat=q at *
      exact wrap_small (by omega) (by omega)
    have hat:∀ {Y:Mem},HpSub (Hm Hc) Y → Y.Wf → RF tb f_parts_Parts_At [.ptr (.hp kp 0) 0,.agg [.int .i64 ((i % W.w.toNat:Nat):Int),.int .i64 ((i / W.w.toNat:Nat):Int)]] Y=some (.int .i64 (f i:Int),Y):=fun hY hwY=>by
      have:=r_parts_At hPc hY hwY ((i % W.w.toNat:Nat):Int) ((i / W.w.toNat:Nat):Int)
      have e3:i / W.w.toNat < W.h.toNat:=by rw [Nat.div_lt_iff_lt_mul hwp,Nat.mul_comm]; omega
      have e2:=Nat.mod_lt i hwp
      have e1:=Nat.div_add_mod i W.w.toNat
      unfold cellV at this
      rw [this]
      unfold atP
      rw [if_pos (show hasB 0 0 W.w W.h ((i % W.w.toNat:Nat):Int) ((i / W.w.toNat:Nat):Int)=true from (has_w w1 w2 (W:=W)).2 ⟨Int.natCast_nonneg _,by generalize i % W.w.toNat=q at *; omega,Int.natCast_nonneg _,by generalize i / W.w.toNat=q at *; omega⟩),Int.toNat_natCast,Int.toNat_natCast,hfi,Nat.mul_comm,e1]
    have hneq:(((f i:Nat):Int) != ((f i:Nat):Int))=false:=by simp
    have hcn:=cnP_le f (f i) i
    have eget:∀ (x:Option Int),((x.map intV).getD (.int .i64 0))=.int .i64 (x.getD 0):=fun x=>by cases x <;> rfl
    have esz:=hM2 (f i)
    have eset2:assocSet (.int .i64 (f i:Int)) (.int .i64 ((cnP f (f i) i + 1:Nat):Int)) (alV intV intV M2)=alV intV intV (alSet (f i:Int) ((cnP f (f i) i + 1:Nat):Int) M2):=set_al seq_int _ _ _
    have wc:=wrap_succ (show cnP f (f i) i ≤ 4611686018427387903 by omega)
    have wi:=wrap_succ (show i ≤ 4611686018427387903 by omega)
    have b2:(X.hb ≤ H2.length)=True:=eq_true (by omega)
    have b3:(X.hb ≤ H3.length)=True:=eq_true (by omega)
    have as2:assoc (.int .i64 (f i:Int)) (alV intV intV M2)=some ((alGet (f i:Int) M2).map intV):=assoc_int _ _ _
    by_cases hmx:mxP f i < f i
    · have as1:assoc (.int .i64 (f i:Int)) (alV intV intV M1)=some ((alGet (f i:Int) M1).map intV):=assoc_int _ _ _
      have eset1:assocSet (.int .i64 (f i:Int)) (.int .i64 (i:Int)) (alV intV intV M1)=alV intV intV (alSet (f i:Int) (i:Int) M1):=set_al seq_int _ _ _
      obtain ⟨Hd,hHd⟩:∃ Hd,Hc.set H3.length (0,SBk.map (alV intV intV (alSet (f i:Int) (i:Int) M1)))=Hd:=⟨_,rfl⟩
      have nd:Hd.length=Hc.length:=by rw [← hHd,List.length_set]
      have kd:Keep [H3.length] Hc Hd:=by rw [← hHd]; exact Keep.set (by simp) _ _
      have g1d:hget Hd H3.length 0=some (.map (alV intV intV (alSet (f i:Int) (i:Int) M1))):=by rw [← hHd,hget_set_eq (by omega),if_pos rfl]
      have g2d:=kd.get g2 (by simp; omega)
      obtain ⟨He,hHe⟩:∃ He,Hd.set H2.length (0,SBk.map (alV intV intV (alSet (f i:Int) ((cnP f (f i) i + 1:Nat):Int) M2)))=He:=⟨_,rfl⟩
      have ne:He.length=Hd.length:=by rw [← hHe,List.length_set]
      have ke:Keep [H2.length] Hd He:=by rw [← hHe]; exact Keep.set (by simp) _ _
      have g2e:hget He H2.length 0=some (.map (alV intV intV (alSet (f i:Int) ((cnP f (f i) i + 1:Nat):Int) M2))):=by rw [← hHe,hget_set_eq (by omega),if_pos rfl]
      have g1e:=ke.get g1d (by simp; omega)
      have od:Own natF Hd lv Lr:=oc.keep kd (fun j hj hc=>by have:=(fpl j hj); simp at hc; omega)
      have ld:=od.lies natF_even
      simp (maxDischargeDepth:=8) only [go_sem,hw,sl.l,lc.len,hLl,show decide ((i:Int) < (N:Int))=true from decide_eq_true (by omega),show (W.w=0)=False from eq_false (by omega),tmw,tdw,lc.iaddrN (i:=i) (by omega),lc.loadN' hLi,hat,hneq,show decide ((f i:Int) > (mxP f i:Int))=true from decide_eq_true (by omega),b3,g1,as1,eset1,hHd,b2,ld.loadN' hLi,g2d,as2,eget,esz,wc,eset2,hHe,wi]
      rw [KL_keep _ _ _ (by simp (maxDischargeDepth:=8) only [go_sem,sl.l])]
      simp (maxDischargeDepth:=8) only [go_sem]
      have hmq:mxP f (i + 1)=f i:=by simp only [mxP,if_pos hmx]
      have:=ih (i + 1,_,_,He) ⟨by dsimp only; omega,(kc.trans' kd (fun m hm hl=>by simp at hm; simp [hm])).trans' ke (fun m hm hl=>by simp at hm; simp [hm]),g2e,g1e,hM1.yes hcan hlt hmx,hM2.set⟩ (by dsimp only; omega)
      dsimp only at this
      rw [hmq] at this
      exact this
    · obtain ⟨He,hHe⟩:∃ He,Hc.set H2.length (0,SBk.map (alV intV intV (alSet (f i:Int) ((cnP f (f i) i + 1:Nat):Int) M2)))=He:=⟨_,rfl⟩
      have ne:He.length=Hc.length:=by rw [← hHe,List.length_set]
      have ke:Keep [H2.length] Hc He:=by rw [← hHe]; exact Keep.set (by simp) _ _
      have g2e:hget He H2.length 0=some (.map (alV intV intV (alSet (f i:Int) ((cnP f (f i) i + 1:Nat):Int) M2))):=by rw [← hHe,hget_set_eq (by omega),if_pos rfl]
      have g1e:=ke.get g1 (by simp; omega)
      simp (maxDischargeDepth:=8) only [go_sem,hw,sl.l,lc.len,hLl,show decide ((i:Int) < (N:Int))=true from decide_eq_true (by omega),show (W.w=0)=False from eq_false (by omega),tmw,tdw,lc.iaddrN (i:=i) (by omega),lc.loadN' hLi,hat,hneq,show decide ((f i:Int) > (mxP f i:Int))=false from decide_eq_false (by omega),b2,g2,as2,eget,esz,wc,eset2,hHe,wi]
      rw [KL_keep _ _ _ (by simp (maxDischargeDepth:=8) only [go_sem,sl.l])]
      simp (maxDischargeDepth:=8) only [go_sem]
      have hmq:mxP f (i + 1)=mxP f i:=by simp only [mxP,if_neg hmx]
      have:=ih (i + 1,_,_,He) ⟨by dsimp only; omega,kc.trans' ke (fun m hm hl=>by simp at hm; simp [hm]),g2e,g1e,hM1.no hmx,hM2.set⟩ (by dsimp only; omega)
      dsimp only at this
      rw [hmq] at this
      exact this
  · have hiN:i=N:=by omega
    subst hiN
    have hFl:F.length=mxP f i:=by rw [hB.mx,hf]
    have hmi:=mxP_le' hcan i (Nat.le_refl _)
    obtain ⟨mm,hmm⟩:∃ mm,mxP f i=mm:=⟨_,rfl⟩
    rw [hmm] at hFl hmi ⊢
    simp (maxDischargeDepth:=8) only [go_sem,hw,sl.l,lc.len,hLl,show decide ((i:Int) < (i:Int))=false from decide_eq_false (by omega)]
    rw [KL_keep _ _ _ (by simp (maxDischargeDepth:=8) only [go_sem])]
    simp (maxDischargeDepth:=8) only [go_sem]
    have hrt:∀ j,j < i → decide (¬ j=j)=false:=fun j _=>by simp
    refine KL_ind (R:=fun z=>∃ H',fin [.t 6] X z=some (.bool true,X.hp H') ∧ Keep [] H H')
      (α:=Nat) (fun q=>mm - q) (fun q=>[(0,.ptr (.hp kp 0) 0),(7,.ptr (.st X.dep 1) 0),(9,.map (.hp H2.length 0)),(10,.map (.hp H3.length 0)),(11,.int .i64 (mm:Int)),(13,.int .i64 ((q + 1:Nat):Int))]) (fun q=>(X.hp Hc).fr [.cells true [.int .i64 cl,.int .i64 sz],.cells true [.int .i64 W.w,.int .i64 W.h,gv]] none)
      (fun q=>q ≤ mm) ?_ 0 (Nat.zero_le _)
    intro n hn ih2
    by_cases hlt2:n < mm
    · have hg:=hM1 n (by rw [(canon_mx hcan i (Nat.le_refl _)).2,← (canon_mx hcan i (Nat.le_refl _)).1]; omega)
      obtain ⟨j,hj⟩:∃ j,(fsP f i).getD n 0=j:=⟨_,rfl⟩
      rw [hj] at hg
      have hFs:=fun {Y:Mem} (hY:HpSub (Hm Hc) Y) (hwY:Y.Wf)=>r_parts_First hPc (by omega) hY hwY ((n + 1:Nat):Int)
      have hSz:=fun {Y:Mem} (hY:HpSub (Hm Hc) Y) (hwY:Y.Wf)=>r_parts_Size hPc (by omega) hY hwY ((n + 1:Nat):Int)
      have as1:assoc (.int .i64 ((n + 1:Nat):Int)) (alV intV intV M1)=some (some (.int .i64 (j:Int))):=by rw [assoc_int,hg]; rfl
      have as2:assoc (.int .i64 ((n + 1:Nat):Int)) (alV intV intV M2)=some ((alGet ((n + 1:Nat):Int) M2).map intV):=assoc_int _ _ _
      have eget:∀ (x:Option Int),((x.map intV).getD (.int .i64 0))=.int .i64 (x.getD 0):=fun x=>by cases x <;> rfl
      have esz:=hM2 (n + 1)
      have cond:(1:Int) ≤ ((n + 1:Nat):Int) ∧ ((n + 1:Nat):Int) ≤ (F.length:Int):=by omega
      have eF:F.getD (((n + 1:Nat):Int).toNat - 1) (0,0)=(((j % W.w.toNat:Nat):Int),((j / W.w.toNat:Nat):Int)):=by
        rw [hB.fs,← hf,Int.toNat_natCast,Nat.add_sub_cancel,List.getD_eq_getElem?_getD,List.getElem?_map]
        have:(fsP f i)[n]? = some j:=by
          rw [List.getD_eq_getElem?_getD] at hj
          rw [List.getElem?_eq_getElem (by rw [(canon_mx hcan i (Nat.le_refl _)).2,← (canon_mx hcan i (Nat.le_refl _)).1]; omega)] at hj ⊢
          exact congrArg some hj
        rw [this]; rfl
      have eZ:Z.getD (((n + 1:Nat):Int).toNat - 1) 0=cnP f (n + 1) i:=by
        rw [hB.zs,← hf,Int.toNat_natCast,Nat.add_sub_cancel,List.getD_eq_getElem?_getD,List.getElem?_map,List.getElem?_range (by omega)]; rfl
      have hji:j < i:=fsP_lt f i j (by rw [← hj,List.getD_eq_getElem?_getD,List.getElem?_eq_getElem (by rw [(canon_mx hcan i (Nat.le_refl _)).2,← (canon_mx hcan i (Nat.le_refl _)).1]; omega)]; exact List.getElem_mem _)
      have tmw:(j:Int).tmod W.w=((j % W.w.toNat:Nat):Int):=by rw [Int.tmod_eq_emod_of_nonneg (by omega),Int.natCast_emod,Int.toNat_of_nonneg (by omega)]
      have tdw:IntKind.wrap .i64 ((j:Int).tdiv W.w)=((j / W.w.toNat:Nat):Int):=by
        have:(j:Int).tdiv W.w=((j / W.w.toNat:Nat):Int):=by rw [Int.tdiv_eq_ediv_of_nonneg (by omega),Int.natCast_ediv,Int.toNat_of_nonneg (by omega)]
        have h9:j / W.w.toNat ≤ j:=Nat.div_le_self _ _
        rw [this]
        generalize j / W.w.toNat=q at *
        exact wrap_small (by omega) (by omega)
      simp only [if_pos cond,decide_eq_true cond,eF] at hFs
      simp only [if_pos cond,eZ] at hSz
      unfold cellV at hFs
      have hneq:∀ p:Nat,(((p:Nat):Int) != ((p:Nat):Int))=false:=fun p=>by simp
      have wn:=wrap_succ (show n + 1 ≤ 4611686018427387903 by omega)
      simp (maxDischargeDepth:=8) only [go_sem,hw,show decide (((n + 1:Nat):Int) ≤ (mm:Int))=true from decide_eq_true (by omega),hFs,hSz,g1,g2,as1,as2,eget,esz,tmw,tdw,Option.getD_some,show (W.w=0)=False from eq_false (by omega),hneq,wn,shut_get]
      rw [KL_keep _ _ _ (by simp (maxDischargeDepth:=8) only [go_sem])]
      simp (maxDischargeDepth:=8) only [go_sem]
      exact ih2 (n + 1) (by omega) (by omega)
    · have hnm:n=mm:=by omega
      subst hnm
      have hcan2:=canon_mx hcan i (Nat.le_refl _)
      have f1:=fun {Y:Mem} (hY:HpSub (Hm Hc) Y) (hwY:Y.Wf)=>r_parts_First hPc (by omega) hY hwY ((n + 1:Nat):Int)
      have f2:=fun {Y:Mem} (hY:HpSub (Hm Hc) Y) (hwY:Y.Wf)=>r_parts_First hPc (by omega) hY hwY 0
      have s1:=fun {Y:Mem} (hY:HpSub (Hm Hc) Y) (hwY:Y.Wf)=>r_parts_Size hPc (by omega) hY hwY ((n + 1:Nat):Int)
      have s2:=fun {Y:Mem} (hY:HpSub (Hm Hc) Y) (hwY:Y.Wf)=>r_parts_Size hPc (by omega) hY hwY 0
      have hL:=fun {Y:Mem} (hY:HpSub (Hm Hc) Y) (hwY:Y.Wf)=>r_parts_Len hPc hY hwY
      have a1:=fun {Y:Mem} (hY:HpSub (Hm Hc) Y) (hwY:Y.Wf)=>r_parts_At hPc hY hwY (-1) 0
      have a2:=fun {Y:Mem} (hY:HpSub (Hm Hc) Y) (hwY:Y.Wf)=>r_parts_At hPc hY hwY W.w 0
      have c1:¬ ((1:Int) ≤ ((n + 1:Nat):Int) ∧ ((n + 1:Nat):Int) ≤ (F.length:Int)):=by omega
      have c2:¬ ((1:Int) ≤ 0 ∧ (0:Int) ≤ (F.length:Int)):=by omega
      have z1:atP W Lr (-1) 0=0:=if_neg (fun h=>by have:=(has_w w1 w2 (W:=W)).1 h; omega)
      have z2:atP W Lr W.w 0=0:=if_neg (fun h=>by have:=(has_w w1 w2 (W:=W)).1 h; omega)
      simp only [if_neg c1,decide_eq_false c1] at f1 s1
      simp only [if_neg c2,decide_eq_false c2] at f2 s2
      simp only [z1] at a1
      simp only [z2] at a2
      rw [hFl] at hL
      unfold cellV at f1 f2 a1 a2
      have wn:=wrap_succ (show n ≤ 4611686018427387903 by omega)
      have beq0:((((0:Nat)):Int) == 0)=true:=by decide
      have beqn:(((n:Nat):Int) == ((n:Nat):Int))=true:=by simp
      simp (maxDischargeDepth:=8) only [go_sem,hw,show decide (((n + 1:Nat):Int) ≤ (n:Int))=false from decide_eq_false (by omega),wn,f1,f2,s1,s2,hL,a1,a2,beq0,beqn]
      have kt:=(show Keep [] X.heap Hc by rw [hH]; exact kHc).back0 (u:=none)
      rw [hH] at kt
      simp only [escOk_none,if_true] at kt
      exact ⟨_,rfl,kt⟩
theorem right08 {X:Mem} {kp:Nat} {q:QP} {W:Wd} {bl:List Bld} {cl sz:Int} {rt:Nat → Nat} {L:List Nat} {F:List (Int × Int)} {Z:List Nat} {num:Nat → Nat} {z:Option (SV × Mem)} (hz:RF tb f_law08_right [.ptr (.hp kp 0) 0,.ptr (.hp q.k 0) 0,.agg [.int .i64 cl,.int .i64 sz]] X=z) (hP:PA (Hm X.heap) kp W L F Z) (hB:Lab (W.w.toNat * W.h.toNat) (stI W cl sz) rt (fun i=>(((i % W.w.toNat:Nat):Int),((i / W.w.toNat:Nat):Int))) (W.w.toNat * W.h.toNat) L F Z num) (hr:∀ x y,x < W.w.toNat * W.h.toNat → y < W.w.toNat * W.h.toNat → (rt x=rt y ↔ Lnk (EL W cl sz (W.w.toNat * W.h.toNat)) x y)) (hR:RefOwn X.heap q W bl) (ho:∀ a b,(atL bl a b).isSome=(atL W.bl a b).isSome) (hg:W.Good) (hw:X.Wf) (hhb:X.hb ≤ X.hl) :
    ∃ H',z=some (.bool true,X.hp H') ∧ Keep [] X.heap H':=by
  subst hz; exact r_law08_right hP hB hr hR ho hg hw hhb
def Wd.raze (W:Wd) (id:Int):Wd:=match alGet id W.bl with
  | some r=>{ W with bl:=alDel id W.bl,dirty:=W.dirty ++ [r] }
  | none=>W
def Wd.does (W:Wd) (rz:Bool) (b:Bld):Wd:=if rz then W.raze b.1 else W.place b
structure BlOk (W:Wd):Prop where
  nd:(W.bl.map Prod.fst).Nodup
  dj:∀ a ∈ W.bl,∀ b ∈ W.bl,a.1 ≠ b.1 → meetR a.2 b.2=false
  ok:∀ a ∈ W.bl,bmayB a W.all=true
  dd:∀ r ∈ W.dirty,∃ id,bmayB (id,r) W.all=true
theorem meetR_comm (a b:Rc):meetR a b=meetR b a:=by
  rw [Bool.eq_iff_iff,meet_iff,meet_iff]
  exact ⟨fun ⟨x,y,h1,h2⟩=>⟨x,y,h2,h1⟩,fun ⟨x,y,h1,h2⟩=>⟨x,y,h2,h1⟩⟩
theorem chkGo_ok {q:Rc}:∀ {r pre:List Bld},chkGo q pre r=true → pre.Pairwise (fun a b=>a.1 < b.1 ∧ meetR a.2 b.2=false) → (∀ a ∈ pre,rmayB a q=true) → (pre ++ r).Pairwise (fun a b=>a.1 < b.1 ∧ meetR a.2 b.2=false) ∧ ∀ a ∈ pre ++ r,rmayB a q=true
  | [],pre,_,h1,h2=>by rw [List.append_nil]; exact ⟨h1,h2⟩
  | b :: r,pre,h,h1,h2=>by
    rw [chkGo_cons] at h
    simp only [Bool.and_eq_true,List.all_eq_true,decide_eq_true_eq,Bool.not_eq_true'] at h
    obtain ⟨⟨h3,h4⟩,h5⟩:=h
    have:=chkGo_ok (r:=r) (pre:=pre ++ [b]) h5 (by
      rw [List.pairwise_append]
      exact ⟨h1,List.pairwise_singleton _ _,fun a ha c hc=>by simp at hc; subst hc; exact h4 a ha⟩) (fun a ha=>by
      rcases List.mem_append.1 ha with ha | ha
      · exact h2 a ha
      · simp at ha; subst ha; exact h3)
    rw [List.append_assoc] at this
    exact this
theorem BlOk.new {w h:Int} {tiles:List Int} {bl:List Bld} (hc:chkB w h tiles bl=true):BlOk ⟨w,h,tiles,bl,[]⟩:=by
  obtain ⟨p1,p2⟩:=chkGo_ok (pre:=[]) (chk_in hc).2.2.2.2.2 .nil (by simp)
  rw [List.nil_append] at p1 p2
  refine ⟨?_,?_,fun a ha=>rmay_b (p2 a ha),by simp⟩
  · rw [List.Nodup,List.pairwise_map]
    exact p1.imp fun h e=>by have:=h.1; omega
  · have key:∀ l:List Bld,l.Pairwise (fun a b=>a.1 < b.1 ∧ meetR a.2 b.2=false) → ∀ a ∈ l,∀ b ∈ l,a.1 ≠ b.1 → meetR a.2 b.2=false:=by
      intro l
      induction l with
      | nil=>intro _ a ha; cases ha
      | cons x l ih =>
        intro hp a ha b hb hne
        obtain ⟨q1,q2⟩:=List.pairwise_cons.1 hp
        rcases List.mem_cons.1 ha with rfl | ha'
        · rcases List.mem_cons.1 hb with rfl | hb
          · exact absurd rfl hne
          · exact (q1 b hb).2
        · rcases List.mem_cons.1 hb with rfl | hb
          · rw [meetR_comm]; exact (q1 a ha').2
          · exact ih q2 a ha' b (by assumption) hne
    exact key bl p1
theorem alGet_in {α β:Type} [DecidableEq α] {k:α} {x:β} {l:List (α × β)} (h:alGet k l=some x):(k,x) ∈ l:=by
  induction l with
  | nil=>cases h
  | cons y r ih =>
    obtain ⟨a,b⟩:=y
    unfold alGet at h
    split at h
    · rename_i e; cases h; subst e; exact List.mem_cons_self
    · exact List.mem_cons_of_mem _ (ih h)
theorem alGet_no1 {α β:Type} [DecidableEq α] {k:α} {l:List (α × β)} (h:alGet k l=none):∀ a ∈ l,a.1 ≠ k:=by
  induction l with
  | nil=>intro a ha; cases ha
  | cons y r ih =>
    obtain ⟨a,b⟩:=y
    unfold alGet at h
    split at h
    · cases h
    · rename_i e
      intro c hc
      rcases List.mem_cons.1 hc with rfl | hc
      · exact fun e'=>e e'.symm
      · exact ih h c hc
theorem alDel_sub {α β:Type} [DecidableEq α] (k:α) (l:List (α × β)):(alDel k l).Sublist l:=by
  induction l with
  | nil=>exact .slnil
  | cons y r ih =>
    obtain ⟨a,v⟩:=y
    simp only [alDel]
    split
    · exact .cons _ (List.Sublist.refl _)
    · exact .cons_cons _ ih
theorem alDel_perm {α β:Type} [DecidableEq α] {k:α} {x:β} {l:List (α × β)} (h:alGet k l=some x):l.Perm ((k,x) :: alDel k l):=by
  induction l with
  | nil=>cases h
  | cons y r ih =>
    obtain ⟨a,b⟩:=y
    simp only [alGet] at h
    simp only [alDel]
    split at h
    · rename_i e; cases h; subst e; rw [if_pos rfl]
    · rename_i e
      rw [if_neg e]
      exact ((ih h).cons _).trans (.swap _ _ _)
theorem alDel_ne {α β:Type} [DecidableEq α] {k:α} {l:List (α × β)} (h:(l.map Prod.fst).Nodup):∀ a ∈ alDel k l,a.1 ≠ k:=by
  apply alGet_no1
  rw [alDel_get k k l h,if_pos rfl]
theorem BlOk.uniq {W:Wd} (h:BlOk W) {x y:Int} {a b:Bld} (ha:a ∈ W.bl) (hb:b ∈ W.bl) (h1:hasR a.2 x y=true) (h2:hasR b.2 x y=true):a.1=b.1:=by
  by_cases e:a.1=b.1
  · exact e
  · have:=h.dj a ha b hb e
    rw [meet_iff.2 ⟨x,y,h1,h2⟩] at this
    cases this
theorem atL_del {W:Wd} (h:BlOk W) {id:Int} {r:Rc} (hg:alGet id W.bl=some r) (x y:Int):atL (alDel id W.bl) x y=if hasR r x y then none else atL W.bl x y:=by
  by_cases hr:hasR r x y=true
  · rw [if_pos hr]
    have:∀ a ∈ alDel id W.bl,hasR a.2 x y=false:=fun a ha=>by
      cases hh:hasR a.2 x y with
      | false=>rfl
      | true=>exact absurd (h.uniq ((alDel_sub _ _).subset ha) (alGet_in hg) hh hr) (alDel_ne h.nd a ha)
    unfold atL
    rw [List.find?_eq_none.2 (fun a ha=>by rw [this a ha]; simp)]
    rfl
  · rw [if_neg hr]
    have hr':hasR r x y=false:=by simpa using hr
    have key:∀ l:List Bld,alGet id l=some r → (alDel id l).find? (fun a=>hasR a.2 x y)=l.find? fun a=>hasR a.2 x y:=by
      intro l
      induction l with
      | nil=>intro h; cases h
      | cons z l ih =>
        obtain ⟨a,v⟩:=z
        intro h
        simp only [alGet] at h
        simp only [alDel]
        split at h
        · rename_i e
          cases h
          rw [if_pos e,List.find?_cons]
          simp only [hr']
        · rename_i e
          rw [if_neg e,List.find?_cons,List.find?_cons,ih h]
    unfold atL
    rw [key _ hg]
def onDel (l:List (Int × Int)) (on:List ((Int × Int) × Int)):List ((Int × Int) × Int):=l.foldl (fun o c=>alDel c o) on
theorem onDel_keys:∀ (l:List (Int × Int)) (on:List ((Int × Int) × Int)),(on.map Prod.fst).Nodup → ((onDel l on).map Prod.fst).Nodup
  | [],_,h=>h
  | a :: l,on,h=>onDel_keys l _ (alDel_keys a on h)
theorem onDel_get (c:Int × Int):∀ (l:List (Int × Int)) (on:List ((Int × Int) × Int)),(on.map Prod.fst).Nodup → alGet c (onDel l on)=if c ∈ l then none else alGet c on
  | [],on,_=>by simp [onDel]
  | a :: l,on,h=>by
    show alGet c (onDel l (alDel a on))=_
    rw [onDel_get c l _ (alDel_keys a on h),alDel_get a c on h]
    by_cases h1:c ∈ l
    · simp [h1]
    · by_cases h2:c=a
      · simp [h2]
      · simp [h1,h2]
theorem onDel_succ {l:List (Int × Int)} {k:Nat} {c:Int × Int} (h:l[k]? = some c) (on:List ((Int × Int) × Int)):onDel (l.take (k + 1)) on=alDel c (onDel (l.take k) on):=by
  unfold onDel
  rw [List.take_add_one,h]
  simp
theorem on_raze {W:Wd} (h:BlOk W) {on:List ((Int × Int) × Int)} (hk:(on.map Prod.fst).Nodup) (ho:∀ a c,alGet (a,c) on=atL W.bl a c) {id:Int} {r:Rc} (hg:alGet id W.bl=some r) (a c:Int):alGet (a,c) (onDel (cellsP r.1 r.2.1 r.2.2.1 r.2.2.2) on)=atL (alDel id W.bl) a c:=by
  rw [onDel_get _ _ _ hk,atL_del h hg,ho]
  by_cases hh:hasR r a c=true
  · rw [if_pos (cellsP_mem.2 hh),if_pos hh]
  · rw [if_neg hh,if_neg (fun hc=>hh (cellsP_mem.1 hc))]
theorem raze_some {W:Wd} {id:Int} {r:Rc} (h:alGet id W.bl=some r):W.raze id={ W with bl:=alDel id W.bl,dirty:=W.dirty ++ [r] }:=by unfold Wd.raze; rw [h]
theorem raze_none {W:Wd} {id:Int} (h:alGet id W.bl=none):W.raze id=W:=by unfold Wd.raze; rw [h]
theorem place_ok {W:Wd} {b:Bld} (h:W.may b=0):W.place b={ W with bl:=W.bl ++ [b],dirty:=W.dirty ++ [b.2] }:=if_pos h
theorem place_no {W:Wd} {b:Bld} (h:¬ W.may b=0):W.place b=W:=if_neg h
theorem does_same (W:Wd) (rz:Bool) (b:Bld):(W.does rz b).w=W.w ∧ (W.does rz b).h=W.h ∧ (W.does rz b).tiles=W.tiles:=by
  unfold Wd.does
  split
  · unfold Wd.raze; split <;> exact ⟨rfl,rfl,rfl⟩
  · unfold Wd.place; split <;> exact ⟨rfl,rfl,rfl⟩
theorem does_good {W:Wd} (h:W.Good) (rz:Bool) (b:Bld):(W.does rz b).Good:=by
  unfold Wd.Good
  rw [(does_same W rz b).2.2]; exact h
theorem does_dirty (W:Wd) (rz:Bool) (b:Bld):(W.does rz b).dirty.length ≤ W.dirty.length + 1:=by
  unfold Wd.does
  split
  · unfold Wd.raze; split <;> simp
  · unfold Wd.place; split <;> simp
theorem does_ok {W:Wd} (h:BlOk W) (rz:Bool) (b:Bld):BlOk (W.does rz b):=by
  unfold Wd.does
  split
  · cases hg:alGet b.1 W.bl with
    | none=>rw [raze_none hg]; exact h
    | some r =>
      rw [raze_some hg]
      have sub:=alDel_sub b.1 W.bl
      refine ⟨(sub.map _).nodup h.nd,fun a ha c hc=>h.dj a (sub.subset ha) c (sub.subset hc),fun a ha=>h.ok a (sub.subset ha),fun q hq=>?_⟩
      rcases List.mem_append.1 hq with hq | hq
      · exact h.dd q hq
      · simp at hq; subst hq
        exact ⟨b.1,h.ok _ (alGet_in hg)⟩
  · by_cases hm:W.may b=0
    · rw [place_ok hm]
      obtain ⟨m1,m2,m3,m4⟩:=may0 hm
      refine ⟨?_,fun a ha c hc hne=>?_,fun a ha=>?_,fun q hq=>?_⟩
      · show ((W.bl ++ [b]).map Prod.fst).Nodup
        rw [List.map_append,List.nodup_append]
        refine ⟨h.nd,by simp,fun i hi j hj e=>?_⟩
        simp at hj; subst hj; subst e
        obtain ⟨a,ha,e⟩:=List.mem_map.1 hi
        exact alGet_no1 m2 a ha e
      · have nof:∀ a ∈ W.bl,meetR a.2 b.2=false:=fun a ha=>by
          cases hh:meetR a.2 b.2 with
          | false=>rfl
          | true=>rw [full_iff.2 ⟨a,ha,hh⟩] at m4; cases m4
        rcases List.mem_append.1 ha with ha' | ha <;> rcases List.mem_append.1 hc with hc' | hc
        · exact h.dj a ha' c hc' hne
        · obtain rfl:=List.mem_singleton.1 hc; exact nof a (by assumption)
        · obtain rfl:=List.mem_singleton.1 ha; rw [meetR_comm]; exact nof c (by assumption)
        · simp at ha hc; subst ha; subst hc; exact absurd rfl hne
      · rcases List.mem_append.1 ha with ha | ha
        · exact h.ok a ha
        · simp at ha; subst ha; exact m1
      · rcases List.mem_append.1 hq with hq | hq
        · exact h.dd q hq
        · simp at hq; subst hq; exact ⟨b.1,m1⟩
    · rw [place_no hm]; exact h
structure Since (O N:Wd) (rs:List Rc):Prop where
  w:N.w=O.w
  h:N.h=O.h
  t:N.tiles=O.tiles
  d:N.dirty=O.dirty ++ rs
  a:∀ x y,(∀ r ∈ rs,hasR r x y=false) → (atL N.bl x y).isSome=(atL O.bl x y).isSome
theorem Since.refl (O:Wd):Since O O []:=⟨rfl,rfl,rfl,by simp,fun _ _ _=>rfl⟩
theorem Since.step {O N:Wd} {rs:List Rc} (h:Since O N rs) (hB:BlOk N) (rz:Bool) (b:Bld):∃ rs',Since O (N.does rz b) rs':=by
  unfold Wd.does
  split
  · cases hg:alGet b.1 N.bl with
    | none=>rw [raze_none hg]; exact ⟨rs,h⟩
    | some r =>
      rw [raze_some hg]
      refine ⟨rs ++ [r],h.w,h.h,h.t,by simp [h.d],fun x y hr=>?_⟩
      show (atL (alDel b.1 N.bl) x y).isSome=_
      rw [atL_del hB hg,if_neg (by rw [hr r (by simp)]; simp)]
      exact h.a x y fun q hq=>hr q (List.mem_append_left _ hq)
  · by_cases hm:N.may b=0
    · rw [place_ok hm]
      refine ⟨rs ++ [b.2],h.w,h.h,h.t,by simp [h.d],fun x y hr=>?_⟩
      show (atL (N.bl ++ [b]) x y).isSome=_
      rw [atL_app,hr b.2 (by simp),← h.a x y fun q hq=>hr q (List.mem_append_left _ hq)]
      cases atL N.bl x y <;> rfl
    · rw [place_no hm]; exact ⟨rs,h⟩
def Wd.rec1 (W:Wd) (cl:Int) (L:List Int) (x y:Int):Int:=if W.stands cl 1 x y then 1 + mnI (mnI (mnI (W.at' L (x + 1) y) (W.at' L x (y + 1))) (W.at' L (x + 1) (y + 1))) 3 else 0
def Rng (L:List Int):Prop:=∀ v ∈ L,0 ≤ v ∧ v ≤ 4
theorem rng_at {L:List Int} (h:Rng L) (W:Wd) (x y:Int):0 ≤ W.at' L x y ∧ W.at' L x y ≤ 4:=by
  unfold Wd.at'
  split
  · rw [List.getD_eq_getElem?_getD]
    cases hg:L[(y * W.w + x).toNat]? with
    | none=>decide
    | some v=>exact h v (List.mem_of_getElem? hg)
  · decide
theorem rec1_in {L:List Int} (h:Rng L) (W:Wd) (cl x y:Int):0 ≤ W.rec1 cl L x y ∧ W.rec1 cl L x y ≤ 4:=by
  have c1:=rng_at h W (x + 1) y
  have c2:=rng_at h W x (y + 1)
  have c3:=rng_at h W (x + 1) (y + 1)
  have e1:=mnI_eqF (W.at' L (x + 1) y) (W.at' L x (y + 1))
  have e2:=mnI_eqF (mnI (W.at' L (x + 1) y) (W.at' L x (y + 1))) (W.at' L (x + 1) (y + 1))
  have e3:=mnI_eqF (mnI (mnI (W.at' L (x + 1) y) (W.at' L x (y + 1))) (W.at' L (x + 1) (y + 1))) 3
  unfold Wd.rec1
  split <;> omega
theorem rng_clrs (W:Wd) (cl:Int):Rng (W.clrs cl):=by
  intro v hv
  simp only [Wd.clrs,List.mem_map] at hv
  obtain ⟨n,-,rfl⟩:=hv
  exact clr_in _ _ _ _
theorem rng_set {L:List Int} (h:Rng L) (i:Nat) {v:Int} (hv:0 ≤ v ∧ v ≤ 4):Rng (L.set i v):=by
  intro u hu
  rcases List.mem_or_eq_of_mem_set hu with hu | rfl
  · exact h u hu
  · exact hv
theorem dm1 {w x y:Nat} (h:x < w):(y * w + x) % w=x:=by rw [Nat.mul_comm,Nat.mul_add_mod,Nat.mod_eq_of_lt h]
theorem dm2 {w x y:Nat} (h:x < w):(y * w + x) / w=y:=by rw [Nat.mul_comm,Nat.mul_add_div (by omega),Nat.div_eq_of_lt h,Nat.add_zero]
theorem at_set {W:Wd} (w1:1 ≤ W.w ∧ W.w ≤ 128) (w2:1 ≤ W.h ∧ W.h ≤ 128) {L:List Int} (hlen:L.length=W.w.toNat * W.h.toNat) {a b:Nat} (ha:a < W.w.toNat) (hb:b < W.h.toNat) (v x y:Int) :
    W.at' (L.set (b * W.w.toNat + a) v) x y=if x=a ∧ y=b then v else W.at' L x y:=by
  have hh:W.has a b=true:=(has_w w1 w2).2 (by omega)
  obtain ⟨i1,i2,i3,i4,i5,i6,i7,i8⟩:=idx_in w1 w2 hh
  simp only [Int.toNat_natCast] at i7 i8
  unfold Wd.at'
  by_cases hx:W.has x y=true
  · obtain ⟨j1,j2,j3,j4,j5,j6,j7,j8⟩:=idx_in w1 w2 hx
    rw [if_pos hx,if_pos hx,List.getD_eq_getElem?_getD,List.getD_eq_getElem?_getD,List.getElem?_set,j7]
    by_cases he:x=a ∧ y=b
    · obtain ⟨rfl,rfl⟩:=he
      simp only [Int.toNat_natCast]
      rw [if_pos trivial,if_pos (by omega),if_pos ⟨trivial,trivial⟩]
      rfl
    · rw [if_neg he,if_neg]
      intro h5
      apply he
      have e1:(b * W.w.toNat + a) % W.w.toNat=(y.toNat * W.w.toNat + x.toNat) % W.w.toNat:=by rw [h5]
      have e2:(b * W.w.toNat + a) / W.w.toNat=(y.toNat * W.w.toNat + x.toNat) / W.w.toNat:=by rw [h5]
      rw [dm1 ha,dm1 (by omega)] at e1
      rw [dm2 ha,dm2 (by omega)] at e2
      omega
  · rw [if_neg hx,if_neg hx,if_neg]
    rintro ⟨rfl,rfl⟩
    exact hx hh
structure Rk (W:Wd) (cl:Int) (P:Int → Int → Prop) (L L':List Int):Prop where
  len:L'.length=L.length
  rg:Rng L'
  inn:∀ x y,W.has x y=true → P x y → W.at' L' x y=W.rec1 cl L' x y
  out:∀ x y,¬ P x y → W.at' L' x y=W.at' L x y
theorem Rk.refl {W:Wd} {cl:Int} {P:Int → Int → Prop} {L:List Int} (h:Rng L) (hP:∀ x y,W.has x y=true → ¬ P x y):Rk W cl P L L:=⟨rfl,h,fun x y h1 h2=>absurd h2 (hP x y h1),fun _ _ _=>rfl⟩
theorem Rk.to {W:Wd} {cl:Int} {P Q:Int → Int → Prop} {L L':List Int} (h:Rk W cl P L L') (hP:∀ x y,P x y ↔ Q x y):Rk W cl Q L L' :=
  ⟨h.len,h.rg,fun x y h1 h2=>h.inn x y h1 ((hP x y).2 h2),fun x y h1=>h.out x y fun h2=>h1 ((hP x y).1 h2)⟩
theorem Rk.step {W:Wd} (w1:1 ≤ W.w ∧ W.w ≤ 128) (w2:1 ≤ W.h ∧ W.h ≤ 128) {cl:Int} {P Q:Int → Int → Prop} {L L':List Int} (h:Rk W cl P L L') (hlen:L.length=W.w.toNat * W.h.toNat) {a b:Nat} (ha:a < W.w.toNat) (hb:b < W.h.toNat)
    (hQ:∀ x y,Q x y ↔ P x y ∨ (x=a ∧ y=b)) (hP:∀ x y,P x y ∨ (x=a ∧ y=b) → ¬ (x + 1=a ∧ y=b) ∧ ¬ (x=a ∧ y + 1=b) ∧ ¬ (x + 1=a ∧ y + 1=b)) (hn:¬ P a b):Rk W cl Q L (L'.set (b * W.w.toNat + a) (W.rec1 cl L' a b)):=by
  have hs:=at_set w1 w2 (h.len.trans hlen) ha hb (W.rec1 cl L' a b)
  have hr:∀ x y,(P x y ∨ (x=a ∧ y=b)) → W.rec1 cl (L'.set (b * W.w.toNat + a) (W.rec1 cl L' a b)) x y=W.rec1 cl L' x y:=by
    intro x y hp
    obtain ⟨p1,p2,p3⟩:=hP x y hp
    rw [Wd.rec1,hs,hs,hs,if_neg p1,if_neg p2,if_neg p3]
    rfl
  refine ⟨by rw [List.length_set]; exact h.len,rng_set h.rg _ (rec1_in h.rg _ _ _ _),fun x y h1 h2=>?_,fun x y h1=>?_⟩
  · have h3:=(hQ x y).1 h2
    rw [hr x y h3,hs]
    split
    · rename_i he; obtain ⟨rfl,rfl⟩:=he; rfl
    · rename_i he
      exact h.inn x y h1 (h3.resolve_right he)
  · rw [hs,if_neg fun he=>h1 ((hQ x y).2 (.inr he))]
    exact h.out x y fun hp=>h1 ((hQ x y).2 (.inl hp))
def Miss (rs:List Rc) (x y s:Int):Prop:=∀ r ∈ rs,∀ a b,x ≤ a → a < x + s → y ≤ b → b < y + s → hasR r a b=false
def GoodL (W:Wd) (cl:Int) (L:List Int) (rs:List Rc):Prop:=∀ x y s,1 ≤ s → s ≤ 4 → Miss rs x y s → (s ≤ W.at' L x y ↔ W.stands cl s x y=true)
theorem GoodL.init {O N:Wd} {rs:List Rc} (h:Since O N rs) (w1:1 ≤ O.w ∧ O.w ≤ 128) (w2:1 ≤ O.h ∧ O.h ≤ 128) (cl:Int):GoodL N cl (O.clrs cl) rs:=by
  intro x y s s1 s4 hm
  have e:N.at' (O.clrs cl) x y=O.at' (O.clrs cl) x y:=by unfold Wd.at' Wd.has; rw [h.w,h.h]
  rw [e,clrs_get w1 w2,← clr_iff s1 s4,stands_iff w1 w2,stands_iff (by rw [h.w]; exact w1) (by rw [h.h]; exact w2),h.w,h.h]
  have hf:∀ a b,x ≤ a → a < x + s → y ≤ b → b < y + s → O.free cl a b=N.free cl a b:=by
    intro a b a1 a2 b1 b2
    have:=h.a a b fun r hr=>hm r hr a b a1 a2 b1 b2
    unfold Wd.free Wd.has Wd.tile
    rw [h.w,h.h,h.t]
    cases e1:atL N.bl a b <;> cases e2:atL O.bl a b <;> rw [e1,e2] at this <;> simp at this ⊢
  constructor
  · rintro ⟨h1,h2,h3,h4⟩
    exact ⟨h1,h2,h3,fun a b a1 a2 b1 b2=>by rw [← hf a b a1 a2 b1 b2]; exact h4 a b a1 a2 b1 b2⟩
  · rintro ⟨h1,h2,h3,h4⟩
    exact ⟨h1,h2,h3,fun a b a1 a2 b1 b2=>by rw [hf a b a1 a2 b1 b2]; exact h4 a b a1 a2 b1 b2⟩
theorem GoodL.done {W:Wd} {cl:Int} {L:List Int} (w1:1 ≤ W.w ∧ W.w ≤ 128) (w2:1 ≤ W.h ∧ W.h ≤ 128) (h:GoodL W cl L []) (hlen:L.length=W.w.toNat * W.h.toNat) (hr:Rng L):L=W.clrs cl:=by
  refine knows_all w1.1 hlen fun a b ha hb=>?_
  have hh:W.has a b=true:=(has_w w1 w2).2 (by omega)
  obtain ⟨i1,i2,i3,i4,i5,i6,i7,i8⟩:=idx_in w1 w2 hh
  simp only [Int.toNat_natCast] at i7 i8
  have e:=clr_uniq (rng_at hr W a b) fun s s1 s4=>(h a b s s1 s4 (by intro r hr; cases hr)).symm
  rw [e]
  unfold Wd.at'
  rw [if_pos hh,List.getD_eq_getElem?_getD,i7,List.getElem?_eq_getElem (by omega)]
  rfl
def wideP (r:Rc) (x y:Int):Prop:=(0 ≤ x ∧ r.1 - 3 ≤ x ∧ x < r.1 + r.2.2.1) ∧ (0 ≤ y ∧ r.2.1 - 3 ≤ y ∧ y < r.2.1 + r.2.2.2)
theorem wide_miss {r:Rc} {x y s:Int} (h:¬ wideP r x y) (h0:0 ≤ x ∧ 0 ≤ y) (hs:s ≤ 4) (a b:Int) (a1:x ≤ a) (a2:a < x + s) (b1:y ≤ b) (b2:b < y + s):hasR r a b=false:=by
  cases hh:hasR r a b with
  | false=>rfl
  | true =>
    have:=has_iff.1 hh
    exact absurd (show wideP r x y by unfold wideP; omega) h
theorem GoodL.step {W:Wd} (w1:1 ≤ W.w ∧ W.w ≤ 128) (w2:1 ≤ W.h ∧ W.h ≤ 128) {cl:Int} {L L':List Int} {r:Rc} {rs:List Rc} (h:GoodL W cl L (r :: rs)) (hk:Rk W cl (wideP r) L L'):GoodL W cl L' rs:=by
  have key : ∀ n:Nat,∀ x y s,((W.w - x).toNat + (W.h - y).toNat ≤ n) → 1 ≤ s → s ≤ 4 → Miss rs x y s → (s ≤ W.at' L' x y ↔ W.stands cl s x y=true):=by
    intro n
    induction n with
    | zero =>
      intro x y s hn s1 s4 _
      have hh:W.has x y=false:=by
        cases hh:W.has x y with
        | false=>rfl
        | true=>have:=(has_w w1 w2).1 hh; omega
      have e0:W.at' L' x y=0:=by unfold Wd.at'; rw [hh]; rfl
      rw [e0]
      exact ⟨fun h=>by omega,fun h=>by rw [stands_has h] at hh; cases hh⟩
    | succ n ih =>
      intro x y s hn s1 s4 hm
      cases hh:W.has x y with
      | false =>
        have e0:W.at' L' x y=0:=by unfold Wd.at'; rw [hh]; rfl
        rw [e0]
        exact ⟨fun h=>by omega,fun h=>by rw [stands_has h] at hh; cases hh⟩
      | true =>
        have hi:=(has_w w1 w2).1 hh
        by_cases hP:wideP r x y
        · rw [hk.inn x y hh hP,Wd.rec1]
          have c1:=rng_at hk.rg W (x + 1) y
          have c2:=rng_at hk.rg W x (y + 1)
          have c3:=rng_at hk.rg W (x + 1) (y + 1)
          have e1:=mnI_eqF (W.at' L' (x + 1) y) (W.at' L' x (y + 1))
          have e2:=mnI_eqF (mnI (W.at' L' (x + 1) y) (W.at' L' x (y + 1))) (W.at' L' (x + 1) (y + 1))
          have e3:=mnI_eqF (mnI (mnI (W.at' L' (x + 1) y) (W.at' L' x (y + 1))) (W.at' L' (x + 1) (y + 1))) 3
          cases hs:W.stands cl 1 x y with
          | false =>
            exact ⟨fun h=>by have:s ≤ 0:=h; omega,fun h=>by rw [stands_small h ⟨by decide,s1⟩] at hs; cases hs⟩
          | true =>
            rw [if_pos rfl]
            by_cases hs1:s=1
            · subst hs1
              exact ⟨fun _=>hs,fun _=>by omega⟩
            · have hg:=stands_grow w1 w2 (cl:=cl) (t:=s - 1) (x:=x) (y:=y) (by omega)
              rw [show s - 1 + 1=s by omega] at hg
              have i1:=ih (x + 1) y (s - 1) (by omega) (by omega) (by omega) fun q hq a b a1 a2 b1 b2=>hm q hq a b (by omega) (by omega) (by omega) (by omega)
              have i2:=ih x (y + 1) (s - 1) (by omega) (by omega) (by omega) fun q hq a b a1 a2 b1 b2=>hm q hq a b (by omega) (by omega) (by omega) (by omega)
              have i3:=ih (x + 1) (y + 1) (s - 1) (by omega) (by omega) (by omega) fun q hq a b a1 a2 b1 b2=>hm q hq a b (by omega) (by omega) (by omega) (by omega)
              rw [hg,← i1,← i2,← i3]
              constructor
              · intro g; exact ⟨hs,by omega,by omega,by omega⟩
              · rintro ⟨_,g1,g2,g3⟩; omega
        · rw [hk.out x y hP]
          refine h x y s s1 s4 fun q hq=>?_
          rcases List.mem_cons.1 hq with rfl | hq
          · exact wide_miss hP (by omega) s4
          · exact hm q hq
  exact fun x y s=>key _ x y s (Nat.le_refl _)
def cntK (W:Wd) (L0 L1:List Int) (K:List (Int × Int)):Nat:=K.countP fun c=>W.at' L1 c.1 c.2 != W.at' L0 c.1 c.2
def cntJ (L0 L1:List Int):Nat:=(List.range L0.length).countP fun j=>L1.getD j 0 != L0.getD j 0
theorem has_nat {W:Wd} (w1:1 ≤ W.w ∧ W.w ≤ 128) (w2:1 ≤ W.h ∧ W.h ≤ 128) {a b:Nat} (ha:a < W.w.toNat) (hb:b < W.h.toNat):W.has a b=true:=(has_w w1 w2).2 (by omega)
theorem at_getD {W:Wd} (w1:1 ≤ W.w ∧ W.w ≤ 128) (w2:1 ≤ W.h ∧ W.h ≤ 128) (L:List Int) {j:Nat} (hj:j < W.w.toNat * W.h.toNat):W.has ((j % W.w.toNat:Nat):Int) ((j / W.w.toNat:Nat):Int)=true ∧ W.at' L ((j % W.w.toNat:Nat):Int) ((j / W.w.toNat:Nat):Int)=L.getD j 0:=by
  have h1:j % W.w.toNat < W.w.toNat:=Nat.mod_lt _ (by omega)
  have h2:j / W.w.toNat < W.h.toNat:=Nat.div_lt_of_lt_mul hj
  have h3:j / W.w.toNat * W.w.toNat + j % W.w.toNat=j:=by rw [Nat.mul_comm]; exact Nat.div_add_mod _ _
  have hh:=has_nat w1 w2 h1 h2
  obtain ⟨i1,i2,i3,i4,i5,i6,i7,i8⟩:=idx_in w1 w2 hh
  simp only [Int.toNat_natCast] at i7
  refine ⟨hh,?_⟩
  unfold Wd.at'
  rw [if_pos hh,i7,h3]
theorem cnt_same {W:Wd} (w1:1 ≤ W.w ∧ W.w ≤ 128) (w2:1 ≤ W.h ∧ W.h ≤ 128) {L0 L1:List Int} {K:List (Int × Int)} (hK:K.Nodup) (hin:∀ c ∈ K,W.has c.1 c.2=true) (hch:∀ x y,W.at' L1 x y ≠ W.at' L0 x y → (x,y) ∈ K) (hlen:L0.length=W.w.toNat * W.h.toNat):cntK W L0 L1 K=cntJ L0 L1:=by
  unfold cntK cntJ
  rw [List.countP_eq_length_filter,List.countP_eq_length_filter,← List.length_map (f:=fun c:Int × Int=>c.2.toNat * W.w.toNat + c.1.toNat)]
  apply List.Perm.length_eq
  rw [List.perm_ext_iff_of_nodup]
  · intro j
    simp only [List.mem_map,List.mem_filter,List.mem_range,bne_iff_ne,hlen]
    constructor
    · rintro ⟨⟨x,y⟩,⟨h1,h2⟩,rfl⟩
      have hh:=hin _ h1
      obtain ⟨i1,i2,i3,i4,i5,i6,i7,i8⟩:=idx_in w1 w2 hh
      dsimp only at *
      refine ⟨i8,?_⟩
      unfold Wd.at' at h2
      rw [if_pos hh,if_pos hh,i7] at h2
      exact h2
    · rintro ⟨h1,h2⟩
      obtain ⟨g1,g2⟩:=at_getD w1 w2 L0 h1
      obtain ⟨-,g3⟩:=at_getD w1 w2 L1 h1
      have hne:W.at' L1 ((j % W.w.toNat:Nat):Int) ((j / W.w.toNat:Nat):Int) ≠ W.at' L0 ((j % W.w.toNat:Nat):Int) ((j / W.w.toNat:Nat):Int):=by rw [g2,g3]; exact h2
      refine ⟨(_,_),⟨hch _ _ hne,hne⟩,?_⟩
      simp only [Int.toNat_natCast]
      rw [Nat.mul_comm]; exact Nat.div_add_mod _ _
  · rw [List.Nodup,List.pairwise_map]
    refine (hK.filter _).imp_of_mem fun {a b} ha hb hne e=>hne ?_
    have ha':=(has_w w1 w2).1 (hin a (List.mem_filter.1 ha).1)
    have hb':=(has_w w1 w2).1 (hin b (List.mem_filter.1 hb).1)
    have e1:(a.2.toNat * W.w.toNat + a.1.toNat) % W.w.toNat=(b.2.toNat * W.w.toNat + b.1.toNat) % W.w.toNat:=by rw [e]
    have e2:(a.2.toNat * W.w.toNat + a.1.toNat) / W.w.toNat=(b.2.toNat * W.w.toNat + b.1.toNat) / W.w.toNat:=by rw [e]
    rw [dm1 (by omega),dm1 (by omega)] at e1
    rw [dm2 (by omega),dm2 (by omega)] at e2
    obtain ⟨a1,a2⟩:=a
    obtain ⟨b1,b2⟩:=b
    dsimp only at *
    rw [show a1=b1 by omega,show a2=b2 by omega]
  · exact List.nodup_range.filter _
abbrev inP (a0 b0 ww hh:Nat) (x y:Int):Prop:=((a0:Int) ≤ x ∧ x < (a0:Int) + ww) ∧ ((b0:Int) ≤ y ∧ y < (b0:Int) + hh)
abbrev rowP (a0 b0 ww hh yn:Nat) (x y:Int):Prop:=((a0:Int) ≤ x ∧ x < (a0:Int) + ww) ∧ ((b0:Int) + yn ≤ y ∧ y < (b0:Int) + hh)
abbrev celP (a0 b0 ww hh yk xn:Nat) (x y:Int):Prop:=(((a0:Int) ≤ x ∧ x < (a0:Int) + ww) ∧ ((b0:Int) + yk + 1 ≤ y ∧ y < (b0:Int) + hh)) ∨ (y=(b0:Int) + yk ∧ (a0:Int) + xn ≤ x ∧ x < (a0:Int) + ww)
theorem r_clear_reckonR {X:Mem} {k:Nat} {p:WP} {W:Wd} {cl:Int} {lv:SV} {ep:Int} {L:List Int} (a0 b0 ww hh:Nat) (ha:a0 + ww ≤ W.w.toNat) (hb:b0 + hh ≤ W.h.toNat) (hk:hget X.heap k 0=some (.cells true (fieldC p W cl lv ep))) (ho:Own iF X.heap lv L) (hlen:L.length=W.w.toNat * W.h.toNat) (hr:Rng L) (hkn:k ∉ slFp lv) (hpn:∀ i ∈ p.fp,i ∉ slFp lv) (hm:∀ i ∈ slFp lv,X.hb ≤ i) (hO:WorldOwn X.heap p W) (hg:W.Good) (hw:X.Wf) :
    ∃ (n:Int) (H':Hp) (L':List Int),RF tb f_clear_Field_reckon [.ptr (.hp k 0) 0,rect a0 b0 ww hh] X=some (.int .i64 n,X.hp H') ∧ Own iF H' lv L' ∧ Rk W cl (inP a0 b0 ww hh) L L' ∧ Keep (slFp lv) X.heap H' ∧ H'.length=X.heap.length:=by
  rw [RF_go t_clear_Field_reckon _ _ rfl,push_hp]
  generalize hH:X.heap=H at *
  have hHl:X.hl=H.length:=by rw [← hH]; rfl
  have w1:=hO.at_.w1
  have w2:=hO.at_.h1
  simp (maxDischargeDepth:=8) only [go_sem,s_clear_Field_reckon,rect,hw,hH,wrap_small (x:=(b0:Int) + (hh:Int)) (by omega) (by omega),wrap_small (x:=(b0:Int) + (hh:Int) - 1) (by omega) (by omega)]
  rw [KL_keep _ _ _ (by simp (maxDischargeDepth:=8) only [go_sem])]
  simp (maxDischargeDepth:=8) only [go_sem]
  refine KL_ind (R:=fun z=>∃ (n:Int) (H':Hp) (L':List Int),fin [.t 4] X z=some (.int .i64 n,X.hp H') ∧ Own iF H' lv L' ∧ Rk W cl (inP a0 b0 ww hh) L L' ∧ Keep (slFp lv) H H' ∧ H'.length=H.length) (α:=Nat × Int × Hp × List Int) (fun q=>q.1)
    (fun q=>[(0,.ptr (.hp k 0) 0),(3,.ptr (.st X.dep 0) 0),(5,.int .i64 q.2.1),(6,.int .i64 ((b0:Int) + (q.1:Int) - 1))])
    (fun q=>(X.hp q.2.2.1).fr [.cells true [.int .i64 a0,.int .i64 b0,.int .i64 ww,.int .i64 hh]] none)
    (fun q=>q.1 ≤ hh ∧ Own iF q.2.2.1 lv q.2.2.2 ∧ Rk W cl (rowP a0 b0 ww hh q.1) L q.2.2.2 ∧ Keep (slFp lv) H q.2.2.1 ∧ q.2.2.1.length=H.length) ?_ (hh,0,H,L) ⟨Nat.le_refl _,ho,Rk.refl hr (fun x y _ h=>by simp only at h; omega),Keep.refl _ _,rfl⟩
  rintro ⟨yn,n,Hk,Lk⟩ ⟨hy,ow,rk,kk,hkl⟩ ih
  dsimp only at hy ow rk kk hkl ⊢
  simp (maxDischargeDepth:=8) only [go_sem,hw]
  by_cases hy0:0 < yn
  · obtain ⟨yk,rfl⟩:∃ i,yn=i + 1:=⟨yn - 1,by omega⟩
    rw [show (b0:Int) + ((yk + 1:Nat):Int) - 1=((b0 + yk:Nat):Int) from by omega]
    simp (maxDischargeDepth:=8) only [go_sem,show decide (((b0 + yk:Nat):Int) ≥ (b0:Int))=true from decide_eq_true (by omega),hw,wrap_small (x:=(a0:Int) + (ww:Int)) (by omega) (by omega),wrap_small (x:=(a0:Int) + (ww:Int) - 1) (by omega) (by omega)]
    rw [KL_keep _ _ _ (by simp (maxDischargeDepth:=8) only [go_sem])]
    simp (maxDischargeDepth:=8) only [go_sem]
    have h48:W.w.toNat * W.h.toNat ≤ 128 * 128:=Nat.mul_le_mul (by omega) (by omega)
    refine KL_ind (R:=fun z=>∃ (n:Int) (H':Hp) (L':List Int),fin [.t 4] X z=some (.int .i64 n,X.hp H') ∧ Own iF H' lv L' ∧ Rk W cl (inP a0 b0 ww hh) L L' ∧ Keep (slFp lv) H H' ∧ H'.length=H.length) (α:=Nat × Int × Hp × List Int) (fun q=>q.1)
      (fun q=>[(0,.ptr (.hp k 0) 0),(3,.ptr (.st X.dep 0) 0),(5,.int .i64 q.2.1),(6,.int .i64 ((b0 + yk:Nat):Int)),(7,.int .i64 ((a0:Int) + (q.1:Int) - 1))])
      (fun q=>(X.hp q.2.2.1).fr [.cells true [.int .i64 a0,.int .i64 b0,.int .i64 ww,.int .i64 hh]] none)
      (fun q=>q.1 ≤ ww ∧ Own iF q.2.2.1 lv q.2.2.2 ∧ Rk W cl (celP a0 b0 ww hh yk q.1) L q.2.2.2 ∧ Keep (slFp lv) H q.2.2.1 ∧ q.2.2.1.length=H.length) ?_ (ww,n,Hk,Lk) ⟨Nat.le_refl _,ow,rk.to (fun x y=>by (try simp only); omega),kk,hkl⟩
    clear ow rk kk hkl
    rintro ⟨xn,n,Hk,Lk⟩ ⟨hx,ow,rk,kk,hkl⟩ ih'
    dsimp only at hx ow rk kk hkl ⊢
    simp (maxDischargeDepth:=8) only [go_sem,hw]
    by_cases hx0:0 < xn
    · obtain ⟨xk,rfl⟩:∃ i,xn=i + 1:=⟨xn - 1,by omega⟩
      rw [show (a0:Int) + ((xk + 1:Nat):Int) - 1=((a0 + xk:Nat):Int) from by omega]
      have hO':=hO.keep kk hpn
      have hln:=rk.len.trans hlen
      have hF:FieldAt (Hm Hk) k p W cl lv ep Lk:=⟨kk.get hk hkn,ow.lies iF_even,hln,w1,w2⟩
      have hset:Rk W cl (celP a0 b0 ww hh yk xk) L (Lk.set ((b0 + yk) * W.w.toNat + (a0 + xk)) (W.rec1 cl Lk ((a0 + xk:Nat):Int) ((b0 + yk:Nat):Int))) :=
        rk.step w1 w2 hlen (a:=a0 + xk) (b:=b0 + yk) (by omega) (by omega) (fun x y=>by (try simp only); omega) (fun x y=>by (try simp only); omega) (by (try simp only); omega)
      have e6:W.w.toNat * (b0 + yk + 1) ≤ W.w.toNat * W.h.toNat:=Nat.mul_le_mul_left _ (by omega)
      rw [Nat.mul_add,Nat.mul_comm,Nat.mul_one] at e6
      have e5:((b0 + yk:Nat):Int) * W.w=(((b0 + yk) * W.w.toNat:Nat):Int):=by rw [Int.natCast_mul,Int.toNat_of_nonneg (show 0 ≤ W.w by omega)]
      have hv:=rec1_in rk.rg W cl ((a0 + xk:Nat):Int) ((b0 + yk:Nat):Int)
      have ea:((a0 + xk:Nat):Int) ≤ 128:=by omega
      have eb:((b0 + yk:Nat):Int) ≤ 128:=by omega
      have hax:((a0 + xk:Nat):Int) - 1=(a0:Int) + (xk:Int) - 1:=by omega
      have hga:decide (((a0 + xk:Nat):Int) ≥ (a0:Int))=true:=decide_eq_true (by omega)
      have hidx:(((b0 + yk:Nat):Int) * W.w + ((a0 + xk:Nat):Int)).toNat=(b0 + yk) * W.w.toNat + (a0 + xk):=by omega
      have hlt:(b0 + yk) * W.w.toNat + (a0 + xk) < Lk.length:=by omega
      have hgo:=fun n' H' (L':List Int) (o:Own iF H' lv L') (r':Rk W cl (celP a0 b0 ww hh yk xk) L L') (k':Keep (slFp lv) H H') (l':H'.length=H.length)=>ih' (xk,n',H',L') ⟨by dsimp only; omega,o,r',k',l'⟩ (by dsimp only; omega)
      clear ih' ih
      dsimp only at hgo
      rw [← hax] at hgo
      generalize hA:a0 + xk=A at *
      generalize hB:b0 + yk=B at *
      obtain ⟨c,hel'⟩:∃ c,Lk[B * W.w.toNat + A]? = some c:=⟨_,List.getElem?_eq_getElem hlt⟩
      have hel:Lk[((B:Int) * W.w + A).toNat]? = some c:=by rw [hidx]; exact hel'
      simp (maxDischargeDepth:=8) only [go_sem,hga,hw,r_clear_tile hF hO'.at_ hg]
      cases hs:W.stands cl 1 (A:Int) (B:Int) with
      | false =>
        have hrc:W.rec1 cl Lk A B=0:=by unfold Wd.rec1; rw [hs]; rfl
        rw [hrc] at hset
        simp (maxDischargeDepth:=8) only [go_sem,hw,hF.ld,fieldC,wrap_small (x:=(B:Int) * W.w) (by omega) (by omega),wrap_small (x:=(B:Int) * W.w + A) (by omega) (by omega),LiesD.iaddrI hF.ll (i:=(B:Int) * W.w + A) (by omega) (by omega),hF.ll.loadI hel]
        by_cases hc:c=(0:Int)
        · rw [set_self (by rw [hel',hc])] at hset
          simp (maxDischargeDepth:=8) only [go_sem,hw,show (c != (0:Int))=false from by simpa using hc,wrap_small (x:=(A:Int) - 1) (by omega) (by omega)]
          rw [KL_keep _ _ _ (by simp (maxDischargeDepth:=8) only [go_sem])]
          simp (maxDischargeDepth:=8) only [go_sem]
          exact hgo n Hk Lk ow hset kk hkl
        · obtain ⟨H2,hst1,o1,k1',hl1⟩:=storeI ow (i:=B * W.w.toNat + A) (by omega) X hm (0:Int)
          simp (maxDischargeDepth:=8) only [go_sem,hw,hF.ld,fieldC,show (c != (0:Int))=true from by simpa using hc,wrap_small (x:=(B:Int) * W.w) (by omega) (by omega),wrap_small (x:=(B:Int) * W.w + A) (by omega) (by omega),LiesD.iaddrI hF.ll (i:=(B:Int) * W.w + A) (by omega) (by omega),hidx,hst1,wrap_small (x:=(A:Int) - 1) (by omega) (by omega)]
          rw [KL_keep _ _ _ (by simp (maxDischargeDepth:=8) only [go_sem])]
          simp (maxDischargeDepth:=8) only [go_sem]
          exact hgo _ H2 _ o1 hset (kk.trans k1') (by omega)
      | true =>
        have hrc:W.rec1 cl Lk A B=1 + mnI (mnI (mnI (W.at' Lk ((A:Int) + 1) B) (W.at' Lk A ((B:Int) + 1))) (W.at' Lk ((A:Int) + 1) ((B:Int) + 1))) 3:=by unfold Wd.rec1; rw [hs]; rfl
        rw [hrc] at hset hv
        simp (maxDischargeDepth:=8) only [go_sem,hw,hF.ld,fieldC,r_clear_At hF,wrap_small (x:=(A:Int) + 1) (by omega) (by omega),wrap_small (x:=(B:Int) + 1) (by omega) (by omega)]
        generalize mnI (mnI (mnI (W.at' Lk ((A:Int) + 1) B) (W.at' Lk A ((B:Int) + 1))) (W.at' Lk ((A:Int) + 1) ((B:Int) + 1))) 3=M at *
        simp (maxDischargeDepth:=8) only [go_sem,hw,hF.ld,fieldC,wrap_small (x:=1 + M) (by omega) (by omega),wrap_small (x:=(B:Int) * W.w) (by omega) (by omega),wrap_small (x:=(B:Int) * W.w + A) (by omega) (by omega),LiesD.iaddrI hF.ll (i:=(B:Int) * W.w + A) (by omega) (by omega),hF.ll.loadI hel]
        by_cases hc:c=1 + M
        · rw [set_self (by rw [hel',hc])] at hset
          simp (maxDischargeDepth:=8) only [go_sem,hw,show (c != 1 + M)=false from by simpa using hc,wrap_small (x:=(A:Int) - 1) (by omega) (by omega)]
          rw [KL_keep _ _ _ (by simp (maxDischargeDepth:=8) only [go_sem])]
          simp (maxDischargeDepth:=8) only [go_sem]
          exact hgo n Hk Lk ow hset kk hkl
        · obtain ⟨H2,hst1,o1,k1',hl1⟩:=storeI ow (i:=B * W.w.toNat + A) (by omega) X hm (1 + M)
          simp (maxDischargeDepth:=8) only [go_sem,hw,hF.ld,fieldC,show (c != 1 + M)=true from by simpa using hc,wrap_small (x:=(B:Int) * W.w) (by omega) (by omega),wrap_small (x:=(B:Int) * W.w + A) (by omega) (by omega),LiesD.iaddrI hF.ll (i:=(B:Int) * W.w + A) (by omega) (by omega),hidx,hst1,wrap_small (x:=(A:Int) - 1) (by omega) (by omega)]
          rw [KL_keep _ _ _ (by simp (maxDischargeDepth:=8) only [go_sem])]
          simp (maxDischargeDepth:=8) only [go_sem]
          exact hgo _ H2 _ o1 hset (kk.trans k1') (by omega)
    · obtain rfl:xn=0:=by omega
      simp (maxDischargeDepth:=8) only [go_sem,show decide ((a0:Int) + 0 - 1 ≥ (a0:Int))=false from decide_eq_false (by omega),show decide ((a0:Int) - 1 ≥ (a0:Int))=false from decide_eq_false (by omega),hw,show IntKind.wrap .i64 (((b0 + yk:Nat):Int) - 1)=(b0:Int) + (yk:Int) - 1 from by rw [wrap_small (by omega) (by omega)]; omega]
      rw [KL_keep _ _ _ (by simp (maxDischargeDepth:=8) only [go_sem])]
      simp (maxDischargeDepth:=8) only [go_sem]
      exact ih (yk,n,Hk,Lk) ⟨by dsimp only; omega,ow,rk.to (fun x y=>by (try simp only); omega),kk,hkl⟩ (by dsimp only; omega)
  · obtain rfl:yn=0:=by omega
    simp (maxDischargeDepth:=8) only [go_sem,show decide ((b0:Int) + 0 - 1 ≥ (b0:Int))=false from decide_eq_false (by omega),show decide ((b0:Int) - 1 ≥ (b0:Int))=false from decide_eq_false (by omega),hw]
    rw [List.take_of_length_le (by omega)]
    exact ⟨_,_,_,rfl,ow,rk.to (fun x y=>by (try simp only); omega),kk,hkl⟩
theorem reckonR_of {X:Mem} {k:Nat} {p:WP} {W:Wd} {cl:Int} {lv:SV} {ep:Int} {L:List Int} {z:Option (SV × Mem)} (a0 b0 ww hh:Nat) (hz:RF tb f_clear_Field_reckon [.ptr (.hp k 0) 0,rect a0 b0 ww hh] X=z) (ha:a0 + ww ≤ W.w.toNat) (hb:b0 + hh ≤ W.h.toNat) (hk:hget X.heap k 0=some (.cells true (fieldC p W cl lv ep))) (ho:Own iF X.heap lv L) (hlen:L.length=W.w.toNat * W.h.toNat) (hr:Rng L) (hkn:k ∉ slFp lv) (hpn:∀ i ∈ p.fp,i ∉ slFp lv) (hm:∀ i ∈ slFp lv,X.hb ≤ i) (hO:WorldOwn X.heap p W) (hg:W.Good) (hw:X.Wf) :
    ∃ (n:Int) (H':Hp) (L':List Int),z=some (.int .i64 n,X.hp H') ∧ Own iF H' lv L' ∧ Rk W cl (inP a0 b0 ww hh) L L' ∧ Keep (slFp lv) X.heap H' ∧ H'.length=X.heap.length:=by
  subst hz; exact r_clear_reckonR a0 b0 ww hh ha hb hk ho hlen hr hkn hpn hm hO hg hw
theorem r_grid_World_Raze_no {m:Mem} {p:WP} {W:Wd} (hW:WorldAt m p W) {X:Mem} (hX:HpSub m X) (hw:X.Wf) (id:Int) (hg:alGet id W.bl=none) :
    RF tb f_grid_World_Raze [.ptr (.hp p.k 0) 0,.int .i64 id] X=some (.tup [.agg [.int .i64 0,.int .i64 0,.int .i64 0,.int .i64 0],.int .i64 4],X):=by
  have asr:assoc (.int .i64 id) (alV intV rectR W.bl)=some none:=by rw [assoc_int,hg]; rfl
  rw [RF_go t_grid_World_Raze _ _ rfl]
  simp (maxDischargeDepth:=8) only [go_sem,s_grid_World_Raze,hw,hX,hW.ld,r_grid_World_is hW,hW.gb,asr,Option.getD_none,Option.isSome_none]
theorem r_grid_World_Raze {X:Mem} {p:WP} {W:Wd} (hO:WorldOwn X.heap p W) (hB:BlOk W) (hw:X.Wf) (hhb:∀ n ∈ p.fp,X.hb ≤ n) (hd:W.dirty.length ≤ 1073741824) (id x y w hh:Int) (hg:alGet id W.bl=some (x,y,w,hh)) :
    ∃ H' u p',RF tb f_grid_World_Raze [.ptr (.hp p.k 0) 0,.int .i64 id] X=some (.tup [.agg [.int .i64 x,.int .i64 y,.int .i64 w,.int .i64 hh],.int .i64 0],(X.hp H').es (escMin X.esc u)) ∧ WorldOwn H' p' (W.raze id) ∧ Keep p.fp X.heap H' ∧ p'.k=p.k ∧ (∀ i ∈ p'.fp,i ∈ p.fp ∨ X.heap.length ≤ i) ∧ (u=none ∨ u=some p.k):=by
  obtain ⟨hW,hdo⟩:=hO
  rw [RF_go t_grid_World_Raze _ _ rfl,push_hp]
  generalize hH:X.heap=H at *
  have ap:=WP.apart hW.nd
  have ghd:hget H p.k 0=_:=hW.hd
  have gbt:hget H p.kb 0=_:=hW.bt
  have got:hget H p.ko 0=_:=hW.ot
  have b1:X.hb ≤ p.kb:=hhb _ (by simp [WP.fp])
  have b3:X.hb ≤ p.ko:=hhb _ (by simp [WP.fp])
  have edel:assocDel (.int .i64 id) (alV intV rectR W.bl)=alV intV rectR (alDel id W.bl):=del_al (g:=rectR) seq_int id W.bl
  have asr:assoc (.int .i64 id) (alV intV rectR W.bl)=some (some (rect x y w hh)):=by rw [assoc_int,hg]; rfl
  obtain ⟨H1,hH1⟩:∃ H1,H.set p.kb (0,SBk.map (alV intV rectR (alDel id W.bl)))=H1:=⟨_,rfl⟩
  have len1:H1.length=H.length:=by rw [← hH1,List.length_set]
  have g2:hget H1 p.kb 0=some (SBk.map (alV intV rectR (alDel id W.bl))):=by rw [← hH1,hget_set_eq (hget_lt gbt)]; rfl
  have k1:Keep [p.kb] H H1:=by rw [← hH1]; exact Keep.set (by simp) _ _
  have g1:=k1.get ghd (by simp [ap.a'])
  have g3:=k1.get got (by simp [ap.d])
  simp (maxDischargeDepth:=8) only [go_sem,s_grid_World_Raze,hw,hH,r_grid_World_is hW,ghd,gbt,asr,Option.getD_some,Option.isSome_some,edel,b1,hH1,r_cell_Cells]
  generalize hcs:(SBk.cells true [SV.int IntKind.i64 x,SV.int IntKind.i64 y,SV.int IntKind.i64 w,SV.int IntKind.i64 hh])=box
  generalize hz:RF tb f_cell_Cells_1 _ _=z
  refine cells_rangeZ hz x y w hh (d:=X.dep + 1)
    (fun M k m u=>u=none ∧ ∃ Hk,m=M.hp Hk ∧ hget Hk p.ko 0=some (.map (alV cellW intV (onDel ((cellsP x y w hh).take k) p.on))) ∧ Keep [p.ko] (H1 ++ [(0,box)]) Hk ∧ Hk.length=H1.length + 1) (fun _ _ _ _=>False) (Nat.lt_succ_self _) ?_ ?_ ?_ ?_
  · refine ⟨rfl,by simp (maxDischargeDepth:=8) only [go_sem,hw],?_⟩; subst hcs; simp (maxDischargeDepth:=8) only [go_sem,hapGet]
  · exact ⟨rfl,_,rfl,hget_app_some _ g3,Keep.refl _ _,by show (H1 ++ [(0,box)]).length=_; rw [List.length_append]; rfl⟩
  · rintro k a b m u hk ⟨rfl,Hk,hm,f1,f2,f3⟩
    have g1':=f2.get (hget_app_some [(0,box)] g1) (by simp [ap.b'])
    have hbx:hget Hk H1.length 0=some box:=f2.get (by rw [hget_new0]; rfl) (by simp; have:=hget_lt g3; omega)
    have lko:p.ko < H1.length:=hget_lt g3
    have eS:assocDel (.agg [.int .i64 a,.int .i64 b]) (alV cellW intV (onDel ((cellsP x y w hh).take k) p.on))=alV cellW intV (onDel ((cellsP x y w hh).take (k + 1)) p.on):=by
      rw [onDel_succ hk]
      exact del_al (g:=intV) seq_cell (a,b) _
    refine ⟨m.hp (Hk.set p.ko (0,.map (alV cellW intV (onDel ((cellsP x y w hh).take (k + 1)) p.on)))),none,true,?_,?_,.inl ?_,fun _=>⟨rfl,_,by rw [hm]; rfl,?_,?_,?_⟩,fun h=>by cases h⟩
    · subst hm
      intro fs e
      rw [RV_go (l:=⟨.ready,none,_,_,_,_⟩) _ _ _ (by simp (maxDischargeDepth:=8) only [go_sem]; rfl) rfl rfl (by simp (maxDischargeDepth:=8) only [go_sem,hw])]
      simp (maxDischargeDepth:=8) only [go_sem,hw,hH,g1',f1,assoc_cell,eS,b3]
    · subst hm
      refine ⟨by simp (maxDischargeDepth:=8) only [go_sem],by simp (maxDischargeDepth:=8) only [go_sem,hw],?_⟩
      subst hcs
      simp (maxDischargeDepth:=8) only [go_sem,hget_set_ne (Nat.ne_of_lt lko),hbx]
    · subst hm; simp (maxDischargeDepth:=8) only [go_sem,f3]; simp [f3]
    · rw [hget_set_eq (by omega)]; rfl
    · exact f2.trans (Keep.set (by simp) _ _)
    · rw [List.length_set,f3]
  · rintro M' U rfl hb hn (⟨rfl,Hk,hm,f1,f2,f3⟩ | ⟨_,_,h⟩)
    · subst hm
      have g1':=f2.get (hget_app_some [(0,box)] g1) (by simp [ap.b'])
      rw [List.take_length] at f1
      have g2':=f2.get (hget_app_some [(0,box)] g2) (by simp [ap.c])
      have kk:Keep [p.kb,p.ko] H (Hk ++ [(0,.cells true [.int .i64 x,.int .i64 y,.int .i64 w,.int .i64 hh])]):=((k1.weak (by simp)).trans ((Keep.app _ _ _).trans (f2.weak (by simp)))).trans (Keep.app _ _ _)
      have hdo':Own rectF (Hk ++ [(0,.cells true [.int .i64 x,.int .i64 y,.int .i64 w,.int .i64 hh])]) p.dv W.dirty:=hdo.keep kk (fun i hi=>by have:=ap.e i hi; simp [this.2])
      have hy:LiesD rectF (Hm (Hk ++ [(0,.cells true [.int .i64 x,.int .i64 y,.int .i64 w,.int .i64 hh])])) (.sl (.hp Hk.length 0) 0 1 (some 1) 4) [(x,y,w,hh)]:=(own_new rectF_even Hk [(x,y,w,hh)] (some 1)).lies rectF_even
      obtain ⟨v',H2,ha,o1,o2,o3,⟨o4,o5,o6⟩,o7⟩:=app_own rectF_even (by decide) rectF_ok (fun l=>by induction l with | nil=>rfl | cons a l ih=>simp only [List.flatMap_cons]; exact ih) hdo' hy (bytes:=32) (by simp only [List.length_singleton,two48]; omega) (by simp only [List.length_singleton,two48]; omega) X (fun i hi=>hhb i (by simp [WP.fp,hi]))
      have ha':=ha [.int .i64 0,.int .i64 0,.int .i64 0,.int .i64 0] rfl _ (hdo.aw (aw:=fun b=>decide ¬Bk.st X.dep 0=b) (by simp))
      change ∀ f e,appV 4 32 _ _ _ _ _=_ at ha'
      have g1'':=o2.get (hget_app_some [(0,.cells true [.int .i64 x,.int .i64 y,.int .i64 w,.int .i64 hh])] g1') (fun hi=>(ap.e _ hi).1 rfl)
      have b0:X.hb ≤ p.k:=hhb _ (by simp [WP.fp])
      subst hcs
      simp (maxDischargeDepth:=8) only [go_sem,hw,g1',ha',o4,o5,o6,g1'',b0]
      obtain ⟨H3,hH3⟩:∃ H3,H2.set p.k (0,SBk.cells true [.int .i64 W.w,.int .i64 W.h,p.tv,.map (.hp p.kb 0),.map (.hp p.ko 0),v'])=H3:=⟨_,rfl⟩
      rw [hH3]
      have K3:Keep (p.k :: slFp p.dv) (Hk ++ [(0,.cells true [.int .i64 x,.int .i64 y,.int .i64 w,.int .i64 hh])]) H3:=(o2.weak (fun n hn _=>List.mem_cons_of_mem _ hn)).trans (by rw [← hH3]; exact Keep.set (by simp) _ _)
      have KK:Keep p.fp H H3:=(kk.weak (by simp [WP.fp])).trans' K3 (by intro n hn _; simp only [List.mem_cons] at hn; simp only [WP.fp,List.mem_append,List.mem_cons]; rcases hn with rfl | hn <;> simp [*])
      have KT:Keep ([p.k,p.kb,p.ko] ++ slFp p.dv) H H3:=(kk.weak (by simp)).trans' K3 (by intro n hn _; simp only [List.mem_cons] at hn; simp only [List.mem_append,List.mem_cons]; rcases hn with rfl | hn <;> simp [*])
      have hHl:X.hl=H.length:=by rw [← hH]; rfl
      have lfp:=hW.lt
      have l0:=lfp p.k (by simp [WP.fp])
      have lk:H.length ≤ (Hk ++ [(0,SBk.cells true [.int .i64 x,.int .i64 y,.int .i64 w,.int .i64 hh])]).length:=by simp [f3]; omega
      have o3':∀ i ∈ slFp v',i ∈ slFp p.dv ∨ H.length ≤ i:=fun i hi=>(o3 i hi).imp_right fun h=>Nat.le_trans lk h
      have kv:∀ i ∈ slFp v',¬ i=p.k:=by
        intro i hi e
        rcases o3' i hi with h1 | h1
        · exact (ap.e i h1).1 e
        · omega
      have hH2l:p.k < H2.length:=hget_lt g1''
      have nd':({ p with dv:=v',on:=onDel (cellsP x y w hh) p.on }:WP).fp.Nodup:=nodup_new hW.nd (fun i hi=>lfp i (by simp only [WP.fp,List.mem_append]; exact .inl (by simpa [or_assoc] using hi))) o3'
      have epl:W.raze id={ W with bl:=alDel id W.bl,dirty:=W.dirty ++ [(x,y,w,hh)] }:=raze_some hg
      have W3:WorldOwn H3 { p with dv:=v',on:=onDel (cellsP x y w hh) p.on } (W.raze id):=by
        rw [epl]
        have ow:Own rectF H3 v' (W.dirty ++ [(x,y,w,hh)]):=by
          rw [← hH3]
          exact o1.keep (Keep.set (S:=[p.k]) (by simp) _ _) (fun i hi=>by simpa using kv i hi)
        exact ⟨⟨by rw [← hH3]; exact (hget_set_eq hH2l).trans (if_pos rfl),K3.get (hget_app_some _ g2') (by simp only [List.mem_cons,not_or]; exact ⟨ap.a,fun hi=>(ap.e _ hi).2.1 rfl⟩),
          K3.get (hget_app_some _ f1) (by simp only [List.mem_cons,not_or]; exact ⟨ap.b,fun hi=>(ap.e _ hi).2.2 rfl⟩),
          hW.tl.keep KT (fun i hi=>by
            have:=ap.t i hi
            simp only [List.mem_append,List.mem_cons,List.not_mem_nil,or_false,not_or]
            exact ⟨⟨this.1,this.2.1,this.2.2.1⟩,this.2.2.2⟩),ow.lies rectF_even,on_raze hB hW.ond hW.on hg,hW.w1,hW.h1,hW.len,nd',onDel_keys _ _ hW.ond⟩,ow⟩
      refine ⟨_,_,{ p with dv:=v',on:=onDel (cellsP x y w hh) p.on },rfl,W3.congr fun i hi=>fin_keep0 ?_,(by rw [← hH] at KK ⊢; exact KK.back0),rfl,?_,?_⟩
      · by_cases hi':i < X.hl
        · exact .inl hi'
        · right
          have hiv:i ∈ slFp v':=by
            simp only [WP.fp,List.mem_append,List.mem_cons,List.not_mem_nil,or_false] at hi
            rcases hi with (h | h) | h
            · have:i ∈ p.fp:=by simp only [WP.fp,List.mem_append,List.mem_cons,List.not_mem_nil,or_false]; exact .inl (.inl h)
              have:=lfp i this; omega
            · have:i ∈ p.fp:=by simp only [WP.fp,List.mem_append,List.mem_cons,List.not_mem_nil,or_false]; exact .inl (.inr h)
              have:=lfp i this; omega
            · exact h
          rw [hx_fp hiv,if_neg (by omega)]
          exact escOk_some (by omega)
      · intro i hi
        simp only [WP.fp,List.mem_append,List.mem_cons,List.not_mem_nil,or_false] at hi ⊢
        rcases hi with h | h
        · exact .inl (.inl h)
        · exact (o3' i h).imp_left .inr
      · split <;> simp
    · cases h
theorem r_ref04_place {m:Mem} {q:QP} {W:Wd} {bl:List Bld} (hV:RefAt m q W bl) {X:Mem} (hX:HpSub m X) (hw:X.Wf) (id:Int) :
    ∃ r,RF tb f_ref04_place [.ptr (.hp q.k 0) 0,.int .i64 id] X=some (.int .i64 r,X) ∧ ((r=-1 ∧ ∀ a ∈ bl,a.1 ≠ id) ∨ ∃ (i:Nat) (a:Bld),r=(i:Int) ∧ bl[i]? = some a ∧ a.1=id):=by
  have few:=hV.few
  rw [RF_go t_ref04_place _ _ rfl]
  simp (maxDischargeDepth:=8) only [go_sem,s_ref04_place,hw]
  rw [KL_keep _ _ _ (by simp (maxDischargeDepth:=8) only [go_sem])]
  simp (maxDischargeDepth:=8) only [go_sem]
  refine KL_ind (R:=fun z=>∃ r,fin [.t 4] X z=some (.int .i64 r,X) ∧ ((r=-1 ∧ ∀ a ∈ bl,a.1 ≠ id) ∨ ∃ (i:Nat) (a:Bld),r=(i:Int) ∧ bl[i]? = some a ∧ a.1=id)) (α:=Nat) (fun i=>bl.length - i) (fun i=>[(0,.ptr (.hp q.k 0) 0),(1,.int .i64 id),(5,.int .i64 (i:Int))]) (fun _=>X.fr [] none) (fun i=>i ≤ bl.length ∧ ∀ j a,j < i → bl[j]? = some a → a.1 ≠ id) ?_ 0 ⟨Nat.zero_le _,fun j a hj=>by omega⟩
  rintro i ⟨hi,hI⟩ ih
  simp (maxDischargeDepth:=8) only [go_sem,hw,hX,hV.ld,hV.bt.len]
  by_cases hlt:i < bl.length
  · obtain ⟨a,ha⟩:∃ a,bl[i]? = some a:=⟨_,List.getElem?_eq_getElem hlt⟩
    by_cases he:a.1=id
    · simp (maxDischargeDepth:=8) only [go_sem,show decide ((i:Int) < (bl.length:Int))=true from decide_eq_true (by omega),hw,hX,hV.ld,hV.bt.iaddr5 hlt,hV.bt.load5i ha,show (a.1 == id)=true from by simp [he]]
      exact ⟨_,rfl,.inr ⟨i,a,rfl,ha,he⟩⟩
    · simp (maxDischargeDepth:=8) only [go_sem,show decide ((i:Int) < (bl.length:Int))=true from decide_eq_true (by omega),hw,hX,hV.ld,hV.bt.iaddr5 hlt,hV.bt.load5i ha,show (a.1 == id)=false from by simp [he],wrap_succ (show i ≤ 4611686018427387903 by omega)]
      rw [KL_keep _ _ _ (by simp (maxDischargeDepth:=8) only [go_sem])]
      simp (maxDischargeDepth:=8) only [go_sem]
      refine ih (i + 1) ⟨by omega,fun j b hj hb=>?_⟩ (by omega)
      rcases Nat.lt_or_ge j i with h | h
      · exact hI j b h hb
      · rw [show j=i by omega,ha] at hb
        cases hb; exact he
  · simp (maxDischargeDepth:=8) only [go_sem,show decide ((i:Int) < (bl.length:Int))=false from decide_eq_false (by omega),hw]
    refine ⟨_,rfl,.inl ⟨rfl,fun a ha=>?_⟩⟩
    obtain ⟨j,hj⟩:=List.getElem?_of_mem ha
    exact hI j a (by have:=(List.getElem?_eq_some_iff.1 hj).1; omega) hj
theorem rmay_eq (b:Bld) (q:Rc):rmayB b q=bmayB b q:=by
  rw [Bool.eq_iff_iff]
  exact ⟨rmay_b,fun h=>(bmay_in h).2⟩
theorem alGet_perm {l k:List Bld} (hp:l.Perm k) (id:Int):(alGet id k).isSome=true ↔ ∃ a ∈ l,a.1=id:=by
  constructor
  · intro h
    obtain ⟨r,hr⟩:=Option.isSome_iff_exists.1 h
    exact ⟨_,hp.mem_iff.2 (alGet_in hr),rfl⟩
  · rintro ⟨a,ha,e⟩
    cases hg:alGet id k with
    | some r=>rfl
    | none=>exact absurd e (alGet_no1 hg a (hp.mem_iff.1 ha))
theorem r_ref04_May {m:Mem} {q:QP} {W:Wd} {bl:List Bld} (hV:RefAt m q W bl) (hp:bl.Perm W.bl) {X:Mem} (hX:HpSub m X) (hw:X.Wf) (id x y w hh:Int) :
    RF tb f_ref04_May [.ptr (.hp q.k 0) 0,bldV (id,x,y,w,hh)] X=some (.int .i64 (W.may (id,x,y,w,hh)),X):=by
  have few:=hV.few
  have hlen:=hp.length_eq
  rw [RF_go t_ref04_May _ _ rfl]
  have rm:=rmay_eq (id,x,y,w,hh) (0,0,W.w,W.h)
  obtain ⟨r,pl,hr⟩:=r_ref04_place hV (X:=X.fr [.cells true [.int .i64 id,.int .i64 x,.int .i64 y,.int .i64 w,.int .i64 hh]] none) (by simp (maxDischargeDepth:=8) only [go_sem,hX]) (fr_wf hw _ _) id
  unfold Wd.may
  cases h1:bmayB (id,x,y,w,hh) (0,0,W.w,W.h) with
  | false =>
    rw [h1] at rm
    simp (maxDischargeDepth:=8) only [go_sem,s_ref04_May,hw,hX,r_ref04_All hV,rect,shut_get,r_ref04_MayBe,rm]
    rw [if_pos (show bmayB (id,x,y,w,hh) W.all=false from h1)]
  | true =>
    rw [h1] at rm
    rw [if_neg (by rw [show bmayB (id,x,y,w,hh) W.all=true from h1]; simp)]
    rcases hr with ⟨rfl,hno⟩ | ⟨i,a,rfl,ha,he⟩
    · have h2 : (alGet id W.bl).isSome=false:=by
        cases hg:(alGet id W.bl).isSome with
        | false=>rfl
        | true=>obtain ⟨a,ha,e⟩:=(alGet_perm hp id).1 hg; exact absurd e (hno a ha)
      rw [if_neg (show ¬ (alGet (id,x,y,w,hh).1 W.bl).isSome=true by rw [show (alGet (id,x,y,w,hh).1 W.bl).isSome=false from h2]; simp)]
      by_cases h3:bl.length ≥ 256
      · rw [if_pos (by omega)]
        simp (maxDischargeDepth:=8) only [go_sem,s_ref04_May,hw,hX,r_ref04_All hV,rect,shut_get,r_ref04_MayBe,rm,pl,show decide ((-1:Int) ≥ 0)=false from rfl,hV.ld,hV.bt.len,show decide ((bl.length:Int) ≥ 256)=true from decide_eq_true (by omega)]
      · rw [if_neg (by omega)]
        simp (maxDischargeDepth:=8) only [go_sem,s_ref04_May,hw,hX,r_ref04_All hV,rect,shut_get,r_ref04_MayBe,rm,pl,show decide ((-1:Int) ≥ 0)=false from rfl,hV.ld,hV.bt.len,show decide ((bl.length:Int) ≥ 256)=false from decide_eq_false (by omega)]
        rw [KL_keep _ _ _ (by simp (maxDischargeDepth:=8) only [go_sem])]
        simp (maxDischargeDepth:=8) only [go_sem]
        refine KL_indE (α:=Nat) (fun i=>bl.length - i) (fun i=>[(0,.ptr (.hp q.k 0) 0),(3,.ptr (.st X.dep 0) 0),(5,.int .i64 (i:Int))]) (fun _=>X.fr [.cells true [.int .i64 id,.int .i64 x,.int .i64 y,.int .i64 w,.int .i64 hh]] none) (fun i=>i ≤ bl.length ∧ ∀ j a,j < i → bl[j]? = some a → meetR a.2 (x,y,w,hh)=false) ?_ 0 ⟨Nat.zero_le _,fun j a hj=>by omega⟩
        rintro i ⟨hi,hI⟩ ih
        simp (maxDischargeDepth:=8) only [go_sem,hw,hX,hV.ld,hV.bt.len]
        by_cases hlt:i < bl.length
        · obtain ⟨a,ha⟩:∃ a,bl[i]? = some a:=⟨_,List.getElem?_eq_getElem hlt⟩
          obtain ⟨ai,ax,ay,aw,ah⟩:=a
          cases hm:meetB ax ay aw ah x y w hh with
          | true =>
            have hf:W.full (id,x,y,w,hh).2=true:=full_iff.2 ⟨(ai,ax,ay,aw,ah),hp.mem_iff.1 (List.mem_of_getElem? ha),hm⟩
            rw [if_pos hf]
            simp (maxDischargeDepth:=8) only [go_sem,show decide ((i:Int) < (bl.length:Int))=true from decide_eq_true (by omega),hw,hX,hV.ld,hV.bt.iaddr5 hlt,hV.bt.load5r ha,shut_get,r_ref04_share,hm]
          | false =>
            simp (maxDischargeDepth:=8) only [go_sem,show decide ((i:Int) < (bl.length:Int))=true from decide_eq_true (by omega),hw,hX,hV.ld,hV.bt.iaddr5 hlt,hV.bt.load5r ha,shut_get,r_ref04_share,hm,wrap_succ (show i ≤ 4611686018427387903 by omega)]
            rw [KL_keep _ _ _ (by simp (maxDischargeDepth:=8) only [go_sem])]
            simp (maxDischargeDepth:=8) only [go_sem]
            refine ih (i + 1) ⟨by omega,fun j b hj hb=>?_⟩ (by omega)
            rcases Nat.lt_or_ge j i with h | h
            · exact hI j b h hb
            · rw [show j=i by omega,ha] at hb
              cases hb; exact hm
        · have hf:W.full (id,x,y,w,hh).2=false:=by
            cases hf:W.full (id,x,y,w,hh).2 with
            | false=>rfl
            | true =>
              obtain ⟨a,ha,hm⟩:=full_iff.1 hf
              obtain ⟨j,hj⟩:=List.getElem?_of_mem (hp.mem_iff.2 ha)
              rw [hI j a (by have:=(List.getElem?_eq_some_iff.1 hj).1; omega) hj] at hm
              cases hm
          rw [if_neg (by rw [hf]; simp)]
          simp (maxDischargeDepth:=8) only [go_sem,show decide ((i:Int) < (bl.length:Int))=false from decide_eq_false (by omega),hw]
    · have h2:(alGet id W.bl).isSome=true:=(alGet_perm hp id).2 ⟨a,List.mem_of_getElem? ha,he⟩
      rw [if_pos h2]
      simp (maxDischargeDepth:=8) only [go_sem,s_ref04_May,hw,hX,r_ref04_All hV,rect,shut_get,r_ref04_MayBe,rm,pl,show decide ((i:Int) ≥ 0)=true from decide_eq_true (by omega)]
abbrev bldC (b:Bld):List SV:=[.int .i64 b.1,.int .i64 b.2.1,.int .i64 b.2.2.1,.int .i64 b.2.2.2.1,.int .i64 b.2.2.2.2]
theorem r_ref04_Place_no {m:Mem} {q:QP} {W:Wd} {bl:List Bld} (hV:RefAt m q W bl) (hp:bl.Perm W.bl) {X:Mem} (hX:HpSub m X) (hw:X.Wf) (id x y w hh:Int) (h0:¬ W.may (id,x,y,w,hh)=0) :
    RF tb f_ref04_Place [.ptr (.hp q.k 0) 0,bldV (id,x,y,w,hh)] X=some (.int .i64 (W.may (id,x,y,w,hh)),X):=by
  rw [RF_go t_ref04_Place _ _ rfl]
  simp (maxDischargeDepth:=8) only [go_sem,s_ref04_Place,hw,hX,r_ref04_May hV hp,show (W.may (id,x,y,w,hh) != 0)=true from bne_iff_ne.2 h0]
structure QP.Apart (q:QP):Prop where
  t:∀ i ∈ slFp q.tv,i ≠ q.k ∧ i ∉ slFp q.bv ∧ i ∉ slFp q.ev
  b:∀ i ∈ slFp q.bv,i ≠ q.k ∧ i ∉ slFp q.ev
  e:∀ i ∈ slFp q.ev,i ≠ q.k
theorem QP.apart {q:QP} (h:q.fp.Nodup):q.Apart:=by
  simp only [QP.fp,List.nodup_append,List.mem_append,List.mem_singleton] at h
  obtain ⟨⟨⟨_,_,h2⟩,_,h4⟩,_,h6⟩:=h
  exact ⟨fun i hi=>⟨fun e=>h2 _ rfl _ hi e.symm,fun hc=>h4 i (.inr hi) i hc rfl,fun hc=>h6 i (.inl (.inr hi)) i hc rfl⟩,fun i hi=>⟨fun e=>h4 _ (.inl rfl) _ hi e.symm,fun hc=>h6 i (.inr hi) i hc rfl⟩,fun i hi e=>h6 _ (.inl (.inl rfl)) _ hi e.symm⟩
theorem escOk_left {n:Nat} {a b:Option Nat} (h:escOk n a=false):escOk n (escMin a b)=false:=by
  cases hh:escOk n (escMin a b) with
  | false=>rfl
  | true=>rw [(escMin_ok hh).1] at h; cases h
theorem escOk_right {n:Nat} {a b:Option Nat} (h:escOk n b=false):escOk n (escMin a b)=false:=by
  cases hh:escOk n (escMin a b) with
  | false=>rfl
  | true=>rw [(escMin_ok hh).2] at h; cases h
theorem esc_two {a:Nat} {e1:Option Nat} (h:e1=none ∨ e1=some a) {c:Prop} [Decidable c]:(if c then e1 else escMin e1 (some a))=none ∨ (if c then e1 else escMin e1 (some a))=some a:=by
  rcases h with rfl | rfl
  · split
    · exact .inl rfl
    · exact .inr rfl
  · split
    · exact .inr rfl
    · exact .inr (by simp [escMin])
theorem edits_add {X:Mem} {H Hk:Hp} {q:QP} {W W':Wd} {bl:List Bld} {v':SV} {L:List Bld} (r:Rc) (hA:RefAt (Hm H) q W bl) (hnd:q.fp.Nodup) (hoe:Own rectF H q.ev W.dirty) (hHl:X.hl=H.length)
    (gk:hget Hk q.k 0=some (.cells true [.int .i64 W.w,.int .i64 W.h,q.tv,v',q.ev])) (oL:Own bldF Hk v' L) (kHk:Keep (q.k :: slFp q.bv) H Hk) (fv:∀ i ∈ slFp v',i ∈ slFp q.bv ∨ H.length ≤ i) (few:L.length ≤ 256) (cp:capL v'=true)
    (hW1:W'.w=W.w) (hW2:W'.h=W.h) (hW3:W'.tiles=W.tiles) (hW4:W'.dirty=W.dirty ++ [r]) (hd:W.dirty.length ≤ 1073741824) (hhb:∀ n ∈ q.fp,X.hb ≤ n) {e1:Option Nat} (hE:∀ j ∈ slFp v',X.hl ≤ j → escOk X.hl e1=false) :
    ∃ v'' H4 H5,(∀ f e,appV 4 32 [.int .i64 0,.int .i64 0,.int .i64 0,.int .i64 0] (fun _=>true) q.ev (.sl (.hp Hk.length 0) 0 1 (some 1) 4) ((X.hp (Hk ++ [(0,.cells true [.int .i64 r.1,.int .i64 r.2.1,.int .i64 r.2.2.1,.int .i64 r.2.2.2])])).fr f e)=some (v'',(X.hp H4).fr f e)) ∧ IsSl v'' ∧
      hget H4 q.k 0=some (.cells true [.int .i64 W.w,.int .i64 W.h,q.tv,v',q.ev]) ∧ H4.set q.k (0,SBk.cells true [.int .i64 W.w,.int .i64 W.h,q.tv,v',v''])=H5 ∧
      ∀ Hf,(if escOk X.hl (if v''.hx ≤ q.k then e1 else escMin e1 (some q.k))=true then H5.take X.hl else H5)=Hf → RefOwn Hf { q with bv:=v',ev:=v'' } W' L ∧ Keep q.fp H Hf ∧ ∀ i ∈ ({ q with bv:=v',ev:=v'' }:QP).fp,i ∈ q.fp ∨ H.length ≤ i:=by
  have ap:=QP.apart hnd
  have ghd:hget H q.k 0=_:=hA.hd
  have lk:=hget_lt ghd
  have kb:Keep [] Hk (Hk ++ [(0,SBk.cells true [.int .i64 r.1,.int .i64 r.2.1,.int .i64 r.2.2.1,.int .i64 r.2.2.2])]):=Keep.app _ _ _
  have lHk:=kHk.1
  have efr:∀ i ∈ slFp q.ev,i ∉ q.k :: slFp q.bv:=fun i hi hc=>by
    rcases List.mem_cons.1 hc with h | h
    · exact ap.e i hi h
    · exact (ap.b i h).2 hi
  have ok:Own rectF Hk q.ev W.dirty:=hoe.keep kHk efr
  have hy:LiesD rectF (Hm (Hk ++ [(0,.cells true [.int .i64 r.1,.int .i64 r.2.1,.int .i64 r.2.2.1,.int .i64 r.2.2.2])])) (.sl (.hp Hk.length 0) 0 1 (some 1) 4) [r]:=(own_new rectF_even Hk [r] (some 1)).lies rectF_even
  obtain ⟨v'',H4,ha,o1,o2,o3,⟨o4,o5,o6⟩,o7⟩:=app_own rectF_even (by decide) rectF_ok hxs_rect (ok.keep kb (by simp)) hy (bytes:=32) (by simp only [List.length_singleton,two48]; omega) (by simp only [List.length_singleton,two48]; omega) X (fun i hi=>hhb i (by simp [QP.fp,hi]))
  have ha':=ha [.int .i64 0,.int .i64 0,.int .i64 0,.int .i64 0] rfl (fun _=>true) (hoe.aw (fun _ _=>rfl))
  change ∀ f e,appV 4 32 _ _ _ _ _=_ at ha'
  have g4:=o2.get (kb.get gk (by simp)) (fun hi=>ap.e _ hi rfl)
  obtain ⟨H5,hH5⟩:∃ H5,H4.set q.k (0,SBk.cells true [.int .i64 W.w,.int .i64 W.h,q.tv,v',v''])=H5:=⟨_,rfl⟩
  have l4:Hk.length + 1 ≤ H4.length:=by have:=o2.1; simp at this; omega
  have l5:H5.length=H4.length:=by rw [← hH5,List.length_set]
  have k5:Keep [q.k] H4 H5:=by rw [← hH5]; exact Keep.set (by simp) _ _
  have g5:hget H5 q.k 0=some (.cells true [.int .i64 W.w,.int .i64 W.h,q.tv,v',v'']):=by rw [← hH5]; exact (hget_set_eq (hget_lt g4)).trans (if_pos rfl)
  have fe:∀ i ∈ slFp v'',i ∈ slFp q.ev ∨ H.length ≤ i:=fun i hi=>(o3 i hi).imp_right fun h=>by simp at h; omega
  have nv:∀ i ∈ slFp v',i ≠ q.k ∧ i ∉ slFp q.ev:=fun i hi=>by
    rcases fv i hi with h | h
    · exact ap.b i h
    · exact ⟨by omega,fun hc=>by have:=hoe.fp i hc; omega⟩
  have ne:∀ i ∈ slFp v'',i ≠ q.k:=fun i hi=>by
    rcases fe i hi with h | h
    · exact ap.e i h
    · omega
  have k45:Keep (q.k :: slFp q.ev) Hk H5:=((kb.weak (T:=q.k :: slFp q.ev) (by simp)).trans (o2.weak (fun n hn _=>List.mem_cons_of_mem _ hn))).trans (k5.weak (fun n hn _=>by simp at hn; simp [hn]))
  have kAll:Keep ([q.k] ++ slFp q.bv ++ slFp q.ev) H H5:=(kHk.weak (fun n hn _=>by simp only [List.mem_cons] at hn; simp only [List.mem_append,List.mem_singleton]; rcases hn with h | h <;> simp [h])).trans (k45.weak (fun n hn _=>by simp only [List.mem_cons] at hn; simp only [List.mem_append,List.mem_singleton]; rcases hn with h | h <;> simp [h]))
  have oL5:Own bldF H5 v' L:=oL.keep k45 (fun i hi hc=>by
    rcases List.mem_cons.1 hc with h | h
    · exact (nv i hi).1 h
    · exact (nv i hi).2 h)
  have oe5:Own rectF H5 v'' W'.dirty:=by
    rw [hW4]
    exact o1.keep k5 (fun i hi hc=>by simp at hc; exact ne i hi hc)
  have lt:=oL.fp
  have tl5:LiesD byteF (Hm H5) q.tv W.tiles:=hA.tl.keep kAll (fun i hi hc=>by
    have:=ap.t i hi
    simp only [List.mem_append,List.mem_singleton] at hc
    rcases hc with (h | h) | h
    · exact this.1 h
    · exact this.2.1 h
    · exact this.2.2 h)
  have R5 : RefOwn H5 { q with bv:=v',ev:=v'' } W' L:=by
    refine ⟨⟨by rw [hW1,hW2]; exact g5,by rw [hW3]; exact tl5,oL5.lies bldF_even,oe5.lies rectF_even,by rw [hW1]; exact hA.w1,by rw [hW2]; exact hA.h1,by rw [hW1,hW2,hW3]; exact hA.len,few⟩,oL5,oe5,?_,cp⟩
    · have nd1:([q.k] ++ slFp q.tv ++ slFp v').Nodup:=by
        have h0:([q.k] ++ slFp q.tv ++ slFp q.bv).Nodup:=by
          have:=hnd
          simp only [QP.fp] at this
          exact (List.nodup_append.1 this).1
        exact nodup_new h0 (n:=H.length) (fun i hi=>by
          simp only [List.mem_append,List.mem_singleton] at hi
          rcases hi with rfl | hi
          · exact lk
          · exact hA.tl.fp i hi) fv
      show ([q.k] ++ slFp q.tv ++ slFp v' ++ slFp v'').Nodup
      rw [List.nodup_append]
      refine ⟨nd1,slFp_nodup _,fun a ha b hb e=>?_⟩
      subst e
      simp only [List.mem_append,List.mem_singleton] at ha
      rcases ha with (rfl | h) | h
      · exact ne _ hb rfl
      · rcases fe a hb with h2 | h2
        · exact (ap.t a h).2.2 h2
        · have:=hA.tl.fp a h; omega
      · rcases o3 a hb with h2 | h2
        · exact (nv a h).2 h2
        · have:=lt a h; simp at h2; omega
  refine ⟨v'',H4,H5,ha',o1.isSl rectF_even,g4,hH5,fun Hf hHf=>⟨?_,?_,?_⟩⟩
  · refine R5.congr fun i hi=>?_
    rw [← hHf]
    refine fin_keep0 ?_
    by_cases hi':i < X.hl
    · exact .inl hi'
    · right
      simp only [QP.fp,List.mem_append,List.mem_singleton] at hi
      rcases hi with ((h | h) | h) | h
      · omega
      · have:=hA.tl.fp i h; omega
      · split
        · exact hE i h (by omega)
        · exact escOk_left (hE i h (by omega))
      · rw [hx_fp h,if_neg (by omega)]
        exact escOk_right (escOk_some (by omega))
  · rw [← hHf]
    have kA:Keep q.fp H H5:=kAll.weak (fun n hn _=>by simp only [QP.fp,List.mem_append,List.mem_singleton] at hn ⊢; rcases hn with (h | h) | h <;> simp [h])
    by_cases hc:escOk X.hl (if v''.hx ≤ q.k then e1 else escMin e1 (some q.k))=true
    · rw [if_pos hc]; exact kA.take (by omega)
    · rw [if_neg hc]; exact kA
  · intro i hi
    simp only [QP.fp,List.mem_append,List.mem_singleton] at hi ⊢
    rcases hi with ((h | h) | h) | h
    · exact .inl (.inl (.inl (.inl h)))
    · exact .inl (.inl (.inl (.inr h)))
    · rcases fv i h with h2 | h2
      · exact .inl (.inl (.inr h2))
      · exact .inr h2
    · rcases fe i h with h2 | h2
      · exact .inl (.inr h2)
      · exact .inr h2
theorem set2_perm {l:List Bld} {n:Nat} {a b:Bld} (ha:l[n]? = some a) (hb:l[n + 1]? = some b):((l.set (n + 1) a).set n b).Perm l:=by
  have h1:=(List.getElem?_eq_some_iff.1 ha).1
  have h2:=(List.getElem?_eq_some_iff.1 hb).1
  have e1:=(List.getElem?_eq_some_iff.1 ha).2
  have e2:=(List.getElem?_eq_some_iff.1 hb).2
  have:=List.set_set_perm (as:=l) h2 h1
  rw [e1,e2] at this
  exact this
theorem r_ref04_Place {X:Mem} {q:QP} {W:Wd} {bl:List Bld} (hO:RefOwn X.heap q W bl) (hp:bl.Perm W.bl) (hw:X.Wf) (hhb:∀ n ∈ q.fp,X.hb ≤ n) (hd:W.dirty.length ≤ 1073741824) (id x y w hh:Int) (h0:W.may (id,x,y,w,hh)=0) :
    ∃ H' u q' bl',RF tb f_ref04_Place [.ptr (.hp q.k 0) 0,bldV (id,x,y,w,hh)] X=some (.int .i64 0,(X.hp H').es (escMin X.esc u)) ∧ RefOwn H' q' (W.place (id,x,y,w,hh)) bl' ∧ bl'.Perm (W.place (id,x,y,w,hh)).bl ∧ Keep q.fp X.heap H' ∧ q'.k=q.k ∧ (∀ i ∈ q'.fp,i ∈ q.fp ∨ X.heap.length ≤ i) ∧ (u=none ∨ u=some q.k):=by
  obtain ⟨hA,hob,hoe,hnd,hcp⟩:=hO
  rw [RF_go t_ref04_Place _ _ rfl,push_hp]
  generalize hH:X.heap=H at *
  have ghd:hget H q.k 0=_:=hA.hd
  have b0:X.hb ≤ q.k:=hhb _ (by simp [QP.fp])
  have few:=hA.few
  have lt256:=(may0 h0).2.2.1
  have hlen:=hp.length_eq
  have ap:=QP.apart hnd
  have lk:=hget_lt ghd
  have kb:Keep [] H (H ++ [(0,SBk.cells true (bldC (id,x,y,w,hh)))]):=Keep.app _ _ _
  have hy:LiesD bldF (Hm (H ++ [(0,.cells true (bldC (id,x,y,w,hh)))])) (.sl (.hp H.length 0) 0 1 (some 1) 5) [(id,x,y,w,hh)]:=(own_new bldF_even H [(id,x,y,w,hh)] (some 1)).lies bldF_even
  obtain ⟨v',H2,ha,o1,o2,o3,⟨o4,o5,o6⟩,o7⟩:=app_own bldF_even (by decide) bldF_ok hxs_bld (hob.keep kb (by simp)) hy (bytes:=40) (by simp only [List.length_singleton,two48]; omega) (by simp only [List.length_singleton,two48]; omega) X (fun i hi=>hhb i (by simp [QP.fp,hi]))
  have ha':=ha [.int .i64 0,.int .i64 0,.int .i64 0,.int .i64 0,.int .i64 0] rfl (fun _=>true) (hob.aw (fun _ _=>rfl))
  change ∀ f e,appV 5 40 _ _ _ _ _=_ at ha'
  have cpv:capL v'=true:=app_capL (ha' [] none) hcp
  have g2:=o2.get (kb.get ghd (by simp)) (fun hi=>(ap.b _ hi).1 rfl)
  simp (maxDischargeDepth:=8) only [go_sem,s_ref04_Place,hw,hH,r_ref04_May hA hp,h0,ghd,shut_get,ha',o4,o5,o6,g2,b0]
  obtain ⟨H3,hH3⟩:∃ H3,H2.set q.k (0,SBk.cells true [SV.int IntKind.i64 W.w,SV.int IntKind.i64 W.h,q.tv,v',q.ev])=H3:=⟨_,rfl⟩
  rw [hH3]
  have hHl:X.hl=H.length:=by rw [← hH]; rfl
  have l2:H.length ≤ H2.length:=by have:=o2.1; simp at this; omega
  have l3:H3.length=H2.length:=by rw [← hH3,List.length_set]
  have k3:Keep [q.k] H2 H3:=by rw [← hH3]; exact Keep.set (by simp) _ _
  have g3:hget H3 q.k 0=some (.cells true [.int .i64 W.w,.int .i64 W.h,q.tv,v',q.ev]):=by rw [← hH3]; exact (hget_set_eq (hget_lt g2)).trans (if_pos rfl)
  have fv:∀ i ∈ slFp v',i ∈ slFp q.bv ∨ H.length ≤ i:=fun i hi=>(o3 i hi).imp_right fun h=>by simp at h; omega
  have nk:q.k ∉ slFp v':=fun hc=>by
    rcases fv _ hc with h | h
    · exact (ap.b _ h).1 rfl
    · omega
  have o3':Own bldF H3 v' (bl ++ [(id,x,y,w,hh)]):=o1.keep k3 (fun i hi hc=>by simp at hc; subst hc; exact nk hi)
  have kH3:Keep (q.k :: slFp q.bv) H H3:=((kb.weak (T:=q.k :: slFp q.bv) (by simp)).trans (o2.weak (fun n hn _=>List.mem_cons_of_mem _ hn))).trans (k3.weak (fun n hn _=>by simp at hn; simp [hn]))
  have hE:∀ j ∈ slFp v',X.hl ≤ j → escOk X.hl (if v'.hx ≤ q.k then none else some q.k)=false:=fun j hj hl=>by
    rw [hx_fp hj,if_neg (by omega)]
    exact escOk_some (by omega)
  have he1:(if v'.hx ≤ q.k then none else some q.k)=none ∨ (if v'.hx ≤ q.k then none else some q.k)=some q.k:=by split <;> simp
  generalize (if v'.hx ≤ q.k then none else some q.k)=e1 at hE he1 ⊢
  have hbv:∀ i ∈ slFp v',X.hb ≤ i:=fun i hi=>by
    rcases fv i hi with h | h
    · exact hhb i (by simp [QP.fp,h])
    · omega
  have s3:=o3'.lies bldF_even
  have hln:(bl ++ [(id,x,y,w,hh)]).length=bl.length + 1:=by simp
  simp (maxDischargeDepth:=8) only [go_sem,hw,g3,s3.len,hln,show IntKind.wrap .i64 (((bl.length + 1:Nat):Int) - 1)=(bl.length:Int) from by rw [wrap_small (by omega) (by omega)]; omega]
  rw [KL_keep _ _ _ (by simp (maxDischargeDepth:=8) only [go_sem])]
  simp (maxDischargeDepth:=8) only [go_sem]
  refine KL_ind (R:=fun z=>∃ H' u q' bl',fin [.t 4] X z=some (.int .i64 0,(X.hp H').es (escMin X.esc u)) ∧ RefOwn H' q' (W.place (id,x,y,w,hh)) bl' ∧ bl'.Perm (W.place (id,x,y,w,hh)).bl ∧ Keep q.fp H H' ∧ q'.k=q.k ∧ (∀ i ∈ q'.fp,i ∈ q.fp ∨ H.length ≤ i) ∧ (u=none ∨ u=some q.k)) (α:=Nat × Hp × List Bld) (fun a=>a.1)
    (fun a=>[(0,.ptr (.hp q.k 0) 0),(3,.ptr (.st X.dep 0) 0),(6,.int .i64 (a.1:Int))]) (fun a=>(X.hp a.2.1).fr [.cells true (bldC (id,x,y,w,hh))] e1)
    (fun a=>a.1 ≤ bl.length ∧ a.2.2.Perm (bl ++ [(id,x,y,w,hh)]) ∧ Own bldF a.2.1 v' a.2.2 ∧ Keep (slFp v') H3 a.2.1 ∧ a.2.1.length=H3.length) ?_ (bl.length,H3,bl ++ [(id,x,y,w,hh)]) ⟨Nat.le_refl _,.refl _,o3',Keep.refl _ _,rfl⟩
  rintro ⟨n,Hk,L⟩ ⟨hn,hL,oL,kL,lL⟩ ih
  dsimp only at hn hL oL kL lL ⊢
  have gk:=kL.get g3 nk
  have lsL:=oL.lies bldF_even
  have lenL:L.length=bl.length + 1:=by rw [hL.length_eq,hln]
  have kHk:Keep (q.k :: slFp q.bv) H Hk:=kH3.trans' kL (fun m hm hl=>by
    rcases fv m hm with h | h
    · exact List.mem_cons_of_mem _ h
    · omega)
  have epl:=place_ok h0
  obtain ⟨v'',H4,H5,ap4,⟨p4,p5,p6,p7,p8⟩,g4,hH5,hfin⟩:=edits_add (X:=X) (W':=W.place (id,x,y,w,hh)) (x,y,w,hh) hA hnd hoe hHl gk oL kHk fv (by omega) cpv (by rw [epl]) (by rw [epl]) (by rw [epl]) (by rw [epl]) hd hhb hE
  have hLp:L.Perm (W.place (id,x,y,w,hh)).bl:=by rw [epl]; exact hL.trans (hp.append_right _)
  by_cases hz:n=0
  · subst hz
    simp (maxDischargeDepth:=8) only [go_sem,hw,show decide ((0:Int) > 0)=false from rfl,gk,shut_get,ap4,p4,p5,p6,p7,g4,b0,hH5]
    obtain ⟨f1,f2,f3⟩:=hfin _ rfl
    exact ⟨_,_,{ q with bv:=v',ev:=v'' },L,rfl,f1,hLp,f2,rfl,f3,esc_two he1⟩
  · obtain ⟨m,rfl⟩:∃ m,n=m + 1:=⟨n - 1,by omega⟩
    obtain ⟨a,ha1⟩:∃ a,L[m]? = some a:=⟨_,List.getElem?_eq_getElem (by omega)⟩
    obtain ⟨b,hb1⟩:∃ b,L[m + 1]? = some b:=⟨_,List.getElem?_eq_getElem (by omega)⟩
    have wm:IntKind.wrap .i64 (((m + 1:Nat):Int) - 1)=(m:Int):=by rw [wrap_small (by omega) (by omega)]; omega
    by_cases hlt:b.1 < a.1
    · simp (maxDischargeDepth:=8) only [go_sem,hw,show decide (((m + 1:Nat):Int) > 0)=true from decide_eq_true (by omega),gk,wm,lsL.iaddr5 (show m < L.length by omega),lsL.iaddr5 (show m + 1 < L.length by omega),lsL.load5i ha1,lsL.load5i hb1,lsL.load5 ha1,lsL.load5 hb1,shut_get,show decide (b.1 < a.1)=true from decide_eq_true hlt]
      obtain ⟨K1,st1,w1,kk1,ll1⟩:=store_own bldF_even (by decide) (fun _=>rfl) (fun _=>rfl) oL (i:=m + 1) (by omega) X hbv a
      obtain ⟨K2,st2,w2,kk2,ll2⟩:=store_own bldF_even (by decide) (fun _=>rfl) (fun _=>rfl) w1 (i:=m) (by simp; omega) X hbv b
      change ∀ f e,((X.hp Hk).fr f e).store (.hp (slN v') (slW v')) (slO v' + (m + 1) * 5) (bldC a)=_ at st1
      change ∀ f e,((X.hp K1).fr f e).store (.hp (slN v') (slW v')) (slO v' + m * 5) (bldC b)=_ at st2
      have ls1:=w1.lies bldF_even
      simp (maxDischargeDepth:=8) only [go_sem,hw,st1,st2,lsL.iaddr5 (show m < L.length by omega),wm]
      rw [KL_keep _ _ _ (by simp (maxDischargeDepth:=8) only [go_sem])]
      simp (maxDischargeDepth:=8) only [go_sem]
      exact ih (m,K2,(L.set (m + 1) a).set m b) ⟨by dsimp only; omega,(set2_perm ha1 hb1).trans hL,w2,(kL.trans kk1).trans kk2,by dsimp only; omega⟩ (by dsimp only; omega)
    · simp (maxDischargeDepth:=8) only [go_sem,hw,show decide (((m + 1:Nat):Int) > 0)=true from decide_eq_true (by omega),gk,wm,lsL.iaddr5 (show m < L.length by omega),lsL.iaddr5 (show m + 1 < L.length by omega),lsL.load5i ha1,lsL.load5i hb1,shut_get,show decide (b.1 < a.1)=false from decide_eq_false hlt,ap4,p4,p5,p6,p7,g4,b0,hH5]
      obtain ⟨f1,f2,f3⟩:=hfin _ rfl
      exact ⟨_,_,{ q with bv:=v',ev:=v'' },L,rfl,f1,hLp,f2,rfl,f3,esc_two he1⟩
theorem r_ref04_Raze_no {m:Mem} {q:QP} {W:Wd} {bl:List Bld} (hV:RefAt m q W bl) (hp:bl.Perm W.bl) {X:Mem} (hX:HpSub m X) (hw:X.Wf) (id:Int) (hg:alGet id W.bl=none) :
    RF tb f_ref04_Raze [.ptr (.hp q.k 0) 0,.int .i64 id] X=some (.tup [.agg [.int .i64 0,.int .i64 0,.int .i64 0,.int .i64 0],.int .i64 4],X):=by
  rw [RF_go t_ref04_Raze _ _ rfl]
  obtain ⟨r,pl,hr⟩:=r_ref04_place hV (X:=X.fr [.cells true [.int .i64 0,.int .i64 0,.int .i64 0,.int .i64 0]] none) (by simp (maxDischargeDepth:=8) only [go_sem,hX]) (fr_wf hw _ _) id
  rcases hr with ⟨rfl,hno⟩ | ⟨i,a,rfl,ha,he⟩
  · simp (maxDischargeDepth:=8) only [go_sem,s_ref04_Raze,hw,pl,show decide ((-1:Int) < 0)=true from rfl]
  · exact absurd he (alGet_no1 hg a (hp.mem_iff.1 (List.mem_of_getElem? ha)))
theorem erase_perm {l:List Bld} {i:Nat} {a:Bld} (h:l[i]? = some a):l.Perm (a :: l.eraseIdx i):=by
  induction l generalizing i with
  | nil=>simp at h
  | cons b l ih =>
    cases i with
    | zero=>simp at h; subst h; exact .refl _
    | succ i =>
      simp only [List.getElem?_cons_succ] at h
      simp only [List.eraseIdx_cons_succ]
      exact ((ih h).cons _).trans (.swap _ _ _)
theorem uniq_bl {W:Wd} (h:BlOk W) {a b:Bld} (ha:a ∈ W.bl) (hb:b ∈ W.bl) (e:a.1=b.1):a=b:=by
  have key:∀ l:List Bld,(l.map Prod.fst).Nodup → a ∈ l → b ∈ l → a=b:=by
    intro l
    induction l with
    | nil=>intro _ h; cases h
    | cons x l ih =>
      intro hn h1 h2
      simp only [List.map_cons,List.nodup_cons] at hn
      rcases List.mem_cons.1 h1 with rfl | h1'
      · rcases List.mem_cons.1 h2 with rfl | h2'
        · rfl
        · exact absurd (List.mem_map.2 ⟨b,h2',e.symm⟩) hn.1
      · rcases List.mem_cons.1 h2 with rfl | h2'
        · exact absurd (List.mem_map.2 ⟨a,h1',e⟩) hn.1
        · exact ih hn.2 h1' h2'
  exact key _ h.nd ha hb
theorem r_ref04_Raze {X:Mem} {q:QP} {W:Wd} {bl:List Bld} (hO:RefOwn X.heap q W bl) (hp:bl.Perm W.bl) (hB:BlOk W) (hw:X.Wf) (hhb:∀ n ∈ q.fp,X.hb ≤ n) (hd:W.dirty.length ≤ 1073741824) (id x y w hh:Int) (hg:alGet id W.bl=some (x,y,w,hh)) :
    ∃ H' u q' bl',RF tb f_ref04_Raze [.ptr (.hp q.k 0) 0,.int .i64 id] X=some (.tup [.agg [.int .i64 x,.int .i64 y,.int .i64 w,.int .i64 hh],.int .i64 0],(X.hp H').es (escMin X.esc u)) ∧ RefOwn H' q' (W.raze id) bl' ∧ bl'.Perm (W.raze id).bl ∧ Keep q.fp X.heap H' ∧ q'.k=q.k ∧ (∀ i ∈ q'.fp,i ∈ q.fp ∨ X.heap.length ≤ i) ∧ (u=none ∨ u=some q.k):=by
  obtain ⟨hA,hob,hoe,hnd,hcp⟩:=hO
  rw [RF_go t_ref04_Raze _ _ rfl,push_hp]
  generalize hH:X.heap=H at *
  have ghd:hget H q.k 0=_:=hA.hd
  have b0:X.hb ≤ q.k:=hhb _ (by simp [QP.fp])
  have few:=hA.few
  have hHl:X.hl=H.length:=by rw [← hH]; rfl
  have ap:=QP.apart hnd
  have lk:=hget_lt ghd
  obtain ⟨r,pl,hr⟩:=r_ref04_place hA (X:=(X.hp H).fr [.cells true [.int .i64 0,.int .i64 0,.int .i64 0,.int .i64 0]] none) (by simp (maxDischargeDepth:=8) only [go_sem]) (fr_wf (hp_wf hw) _ _) id
  rcases hr with ⟨rfl,hno⟩ | ⟨i,a,rfl,hai,he⟩
  · exact absurd rfl (hno _ (hp.mem_iff.2 (alGet_in hg)))
  · have ha:a=(id,x,y,w,hh):=uniq_bl hB (hp.mem_iff.1 (List.mem_of_getElem? hai)) (alGet_in hg) he
    subst ha
    have hi:i < bl.length:=(List.getElem?_eq_some_iff.1 hai).1
    have lb:=hA.bt
    have tkS:sliceV 5 q.bv none (some (i:Int)) none=some (takeV i q.bv):=Lies.takeS lb (Nat.le_of_lt hi) (fun b off cap z e=>by
      cases cap with
      | none=>simp only [Option.getD_none]; omega
      | some c =>
        have:=hcp
        rw [e] at this
        simp only [capL,decide_eq_true_eq] at this
        simp only [Option.getD_some]; omega)
    have dpS:sliceV 5 q.bv (some ((i + 1:Nat):Int)) none none=some (dropV 5 (i + 1) q.bv):=Lies.dropS lb (by omega)
    have lt1:LiesD bldF (Hm H) (takeV i q.bv) (bl.take i):=by
      have h1:(bl.take i).length=i:=by rw [List.length_take]; omega
      have h2:(bl.take i).flatMap bldF.enc=(bl.flatMap bldF.enc).take (i * 5):=by
        conv=>rhs; rw [← List.take_append_drop i bl,List.flatMap_append]
        rw [List.take_left']
        rw [flat_len bldF_even,h1]; rfl
      have:=Lies.take lb (Nat.le_of_lt hi)
      show Lies _ _ _ _ _
      rw [h1,h2]; exact this
    have lt2:LiesD bldF (Hm H) (dropV 5 (i + 1) q.bv) (bl.drop (i + 1)):=LiesD.drop bldF_even lb (by omega)
    have st1:=lt1.isSl
    have st2:=lt2.isSl
    obtain ⟨v1,H1,ha1,o1,k1,f1,⟨c1,c2,c3⟩,n1⟩:=app_own bldF_even (by decide) bldF_ok hxs_bld (Own.nil H) lt1 (bytes:=40) (by simp only [List.length_nil,List.length_take,two48]; omega) (by simp only [List.length_nil,List.length_take,two48]; omega) X (by simp [slFp])
    have ha1':=ha1 [.int .i64 0,.int .i64 0,.int .i64 0,.int .i64 0,.int .i64 0] rfl (fun _=>true) rfl
    change ∀ f e,appV 5 40 _ _ _ _ _=_ at ha1'
    rw [List.nil_append] at o1
    have k1':Keep [] H H1:=k1.weak (by simp [slFp])
    have s1:=o1.isSl bldF_even
    have f1':∀ j ∈ slFp v1,H.length ≤ j:=fun j hj=>by
      rcases f1 j hj with h | h
      · simp [slFp] at h
      · exact h
    obtain ⟨v2,H2,ha2,o2,k2,f2,⟨d1,d2,d3⟩,n2⟩:=app_own bldF_even (by decide) bldF_ok hxs_bld o1 (lt2.keep k1' (by simp)) (bytes:=40) (by simp only [List.length_drop,List.length_take,two48]; omega) (by simp only [List.length_drop,List.length_take,two48]; omega) X (fun j hj=>by have:=f1' j hj; omega)
    have ha2':=ha2 [.int .i64 0,.int .i64 0,.int .i64 0,.int .i64 0,.int .i64 0] rfl (fun _=>true) (o1.aw (fun _ _=>rfl))
    change ∀ f e,appV 5 40 _ _ _ _ _=_ at ha2'
    have s2:=o2.isSl bldF_even
    have f2':∀ j ∈ slFp v2,H.length ≤ j:=fun j hj=>by
      rcases f2 j hj with h | h
      · exact f1' j h
      · have:=k1'.1; omega
    have k2':Keep [] H H2:=k1'.trans' k2 (fun n hn hl=>by have:=f1' n hn; omega)
    have cp2:capL v2=true:=app_capL (ha2' [] none) (app_capL (ha1' [] none) rfl)
    have g1:=k1'.get ghd (by simp)
    have g2:=k2'.get ghd (by simp)
    obtain ⟨H3,hH3⟩:∃ H3,H2.set q.k (0,SBk.cells true [SV.int IntKind.i64 W.w,SV.int IntKind.i64 W.h,q.tv,v2,q.ev])=H3:=⟨_,rfl⟩
    have k3:Keep [q.k] H2 H3:=by rw [← hH3]; exact Keep.set (by simp) _ _
    have g3:hget H3 q.k 0=some (.cells true [.int .i64 W.w,.int .i64 W.h,q.tv,v2,q.ev]):=by rw [← hH3]; exact (hget_set_eq (hget_lt g2)).trans (if_pos rfl)
    have hE:∀ j ∈ slFp v2,X.hl ≤ j → escOk X.hl (if v2.hx ≤ q.k then none else some q.k)=false:=fun j hj hl=>by
      rw [hx_fp hj,if_neg (by omega)]
      exact escOk_some (by omega)
    have o3:Own bldF H3 v2 (bl.take i ++ bl.drop (i + 1)):=o2.keep k3 (fun j hj hc=>by simp at hc; have:=f2' j hj; omega)
    have kH3:Keep (q.k :: slFp q.bv) H H3:=(k2'.weak (T:=q.k :: slFp q.bv) (by simp)).trans (k3.weak (fun n hn _=>by simp at hn; simp [hn]))
    have erz:=raze_some hg
    have er:bl.take i ++ bl.drop (i + 1)=bl.eraseIdx i:=(List.eraseIdx_eq_take_drop_succ ..).symm
    rw [er] at o3
    have hLp:(bl.eraseIdx i).Perm (W.raze id).bl:=by
      rw [erz]
      exact ((erase_perm hai).symm.trans (hp.trans (alDel_perm hg))).cons_inv
    obtain ⟨v'',H4,H5,ap4,⟨p4,p5,p6,p7,p8⟩,g4,hH5,hfin⟩:=edits_add (X:=X) (W':=W.raze id) (x,y,w,hh) hA hnd hoe hHl g3 o3 kH3 (fun j hj=>.inr (f2' j hj)) (by rw [List.length_eraseIdx]; split <;> omega) cp2 (by rw [erz]) (by rw [erz]) (by rw [erz]) (by rw [erz]) hd hhb hE
    simp (maxDischargeDepth:=8) only [go_sem,s_ref04_Raze,hw,hH,pl,show decide ((i:Int) < 0)=false from decide_eq_false (by omega),ghd,lb.iaddr5 hi,lb.load5r hai,tkS,st1.l,st1.c,st1.k,st1.o,ha1',s1.l,s1.c,s1.k,s1.o,g1,wrap_succ (show i ≤ 4611686018427387903 by omega),dpS,st2.l,st2.c,st2.k,st2.o,ha2',s2.l,s2.c,s2.k,s2.o,g2,b0,hH3,g3,shut_get,ap4,p4,p5,p6,p7,g4,hH5]
    obtain ⟨r1,r2,r3⟩:=hfin _ rfl
    exact ⟨_,_,{ q with bv:=v2,ev:=v'' },bl.eraseIdx i,rfl,r1,hLp,r2,rfl,r3,esc_two (by split <;> simp)⟩
theorem hxs_pack (l:List SV):SV.hxs l=(pack l).hx:=by
  unfold pack
  split
  · simp [SV.hxs]
  · simp [SV.hx]
theorem RF_short {f:FuncId} {args:List SV} {X m':Mem} {v:SV} (h:RF tb f args X=some (v,m')) (hv:v.hx ≤ X.heap.length) (he:escOk X.heap.length m'.esc=true):m'.heap.length ≤ X.heap.length:=by
  obtain ⟨n,hn⟩:=RF_some.1 h
  cases n with
  | zero=>simp [callF] at hn
  | succ n =>
    rw [callF] at hn
    split at hn
    · split at hn
      · rw [Option.bind_eq_some_iff] at hn
        obtain ⟨⟨e,fr,m1⟩,_,hn⟩:=hn
        have key:∀ vs:List SV,pack vs=v → m1.back X (SV.hxs vs)=m' → m'.heap.length ≤ X.heap.length:=by
          intro vs e1 e2
          have h1:SV.hxs vs ≤ X.heap.length:=by rw [hxs_pack,e1]; exact hv
          rw [← e2] at he ⊢
          have h2:=(escMin_ok (a:=X.esc) (b:=m1.esc) he).2
          simp only [Mem.back,h1,h2,and_self,if_true,List.length_take]
          exact Nat.min_le_left _ _
        cases e with
        | exit i=>simp at hn
        | _ =>
          simp only [Option.bind_eq_some_iff] at hn
          obtain ⟨vs,_,hn⟩:=hn
          split at hn
          · simp only [Option.some.injEq,Prod.mk.injEq] at hn
            exact key vs hn.1 hn.2
          · cases hn
      · cases hn
    · cases hn
structure Ed (B:Nat) (H:Hp) (p:WP) (q:QP) (W:Wd) (bl:List Bld):Prop where
  o:WorldOwn H p W
  r:RefOwn H q W bl
  pm:bl.Perm W.bl
  ok:BlOk W
  gd:W.Good
  dj:∀ i ∈ p.fp,i ∉ q.fp
  lo:∀ i ∈ p.fp,B ≤ i
  lo':∀ i ∈ q.fp,B ≤ i
theorem Ed.keep {B:Nat} {H H':Hp} {p:WP} {q:QP} {W:Wd} {bl:List Bld} {S:List Nat} (h:Ed B H p q W bl) (k:Keep S H H') (hp:∀ i ∈ p.fp,i ∉ S) (hq:∀ i ∈ q.fp,i ∉ S):Ed B H' p q W bl :=
  ⟨h.o.keep k hp,h.r.keep k hq,h.pm,h.ok,h.gd,h.dj,h.lo,h.lo'⟩
theorem wraze_of {X:Mem} {p:WP} {W:Wd} {id x y w hh:Int} {z:Option (SV × Mem)} (hz:RF tb f_grid_World_Raze [.ptr (.hp p.k 0) 0,.int .i64 id] X=z) (hO:WorldOwn X.heap p W) (hB:BlOk W) (hw:X.Wf) (hhb:∀ n ∈ p.fp,X.hb ≤ n) (hd:W.dirty.length ≤ 1073741824) (hg:alGet id W.bl=some (x,y,w,hh)) :
    ∃ H' u p',z=some (.tup [.agg [.int .i64 x,.int .i64 y,.int .i64 w,.int .i64 hh],.int .i64 0],(X.hp H').es (escMin X.esc u)) ∧ WorldOwn H' p' (W.raze id) ∧ Keep p.fp X.heap H' ∧ p'.k=p.k ∧ (∀ i ∈ p'.fp,i ∈ p.fp ∨ X.heap.length ≤ i) ∧ (u=none ∨ u=some p.k):=by
  subst hz; exact r_grid_World_Raze hO hB hw hhb hd id x y w hh hg
theorem rraze_of {X:Mem} {q:QP} {W:Wd} {bl:List Bld} {id x y w hh:Int} {z:Option (SV × Mem)} (hz:RF tb f_ref04_Raze [.ptr (.hp q.k 0) 0,.int .i64 id] X=z) (hO:RefOwn X.heap q W bl) (hp:bl.Perm W.bl) (hB:BlOk W) (hw:X.Wf) (hhb:∀ n ∈ q.fp,X.hb ≤ n) (hd:W.dirty.length ≤ 1073741824) (hg:alGet id W.bl=some (x,y,w,hh)) :
    ∃ H' u q' bl',z=some (.tup [.agg [.int .i64 x,.int .i64 y,.int .i64 w,.int .i64 hh],.int .i64 0],(X.hp H').es (escMin X.esc u)) ∧ RefOwn H' q' (W.raze id) bl' ∧ bl'.Perm (W.raze id).bl ∧ Keep q.fp X.heap H' ∧ q'.k=q.k ∧ (∀ i ∈ q'.fp,i ∈ q.fp ∨ X.heap.length ≤ i) ∧ (u=none ∨ u=some q.k):=by
  subst hz; exact r_ref04_Raze hO hp hB hw hhb hd id x y w hh hg
theorem wplace_of {X:Mem} {p:WP} {W:Wd} {id x y w hh:Int} {z:Option (SV × Mem)} (hz:RF tb f_grid_World_Place [.ptr (.hp p.k 0) 0,bldV (id,x,y,w,hh)] X=z) (hO:WorldOwn X.heap p W) (hw:X.Wf) (hhb:∀ n ∈ p.fp,X.hb ≤ n) (hd:W.dirty.length ≤ 1073741824) (h0:W.may (id,x,y,w,hh)=0) :
    ∃ H' u p',z=some (.int .i64 0,(X.hp H').es (escMin X.esc u)) ∧ WorldOwn H' p' (W.place (id,x,y,w,hh)) ∧ Keep p.fp X.heap H' ∧ p'.k=p.k ∧ (∀ i ∈ p'.fp,i ∈ p.fp ∨ X.heap.length ≤ i) ∧ (u=none ∨ u=some p.k):=by
  subst hz; exact r_grid_World_Place hO hw hhb hd id x y w hh h0
theorem rplace_of {X:Mem} {q:QP} {W:Wd} {bl:List Bld} {id x y w hh:Int} {z:Option (SV × Mem)} (hz:RF tb f_ref04_Place [.ptr (.hp q.k 0) 0,bldV (id,x,y,w,hh)] X=z) (hO:RefOwn X.heap q W bl) (hp:bl.Perm W.bl) (hw:X.Wf) (hhb:∀ n ∈ q.fp,X.hb ≤ n) (hd:W.dirty.length ≤ 1073741824) (h0:W.may (id,x,y,w,hh)=0) :
    ∃ H' u q' bl',z=some (.int .i64 0,(X.hp H').es (escMin X.esc u)) ∧ RefOwn H' q' (W.place (id,x,y,w,hh)) bl' ∧ bl'.Perm (W.place (id,x,y,w,hh)).bl ∧ Keep q.fp X.heap H' ∧ q'.k=q.k ∧ (∀ i ∈ q'.fp,i ∈ q.fp ∨ X.heap.length ≤ i) ∧ (u=none ∨ u=some q.k):=by
  subst hz; exact r_ref04_Place hO hp hw hhb hd id x y w hh h0
theorem Ed.go {B:Nat} {H H1 H2:Hp} {p p':WP} {q q':QP} {W W':Wd} {bl bl':List Bld} (h:Ed B H p q W bl) (hB:B ≤ H.length) (o1:WorldOwn H1 p' W') (k1:Keep p.fp H H1) (f1:∀ i ∈ p'.fp,i ∈ p.fp ∨ H.length ≤ i) (r2:RefOwn H2 q' W' bl') (pm:bl'.Perm W'.bl) (k2:Keep q.fp H1 H2) (f2:∀ i ∈ q'.fp,i ∈ q.fp ∨ H1.length ≤ i) (ok:BlOk W') (gd:W'.Good) :
    Ed B H2 p' q' W' bl' ∧ Keep (p.fp ++ q.fp) H H2 ∧ (∀ i ∈ q'.fp,i ∈ q.fp ∨ H.length ≤ i):=by
  have l1:=k1.1
  have ltp:=o1.at_.lt
  have ltq:=h.r.lt
  refine ⟨⟨o1.keep k2 (fun i hi hc=>?_),r2,pm,ok,gd,fun i hi hc=>?_,fun i hi=>?_,fun i hi=>?_⟩,(k1.weak (fun n hn _=>List.mem_append_left _ hn)).trans (k2.weak (fun n hn _=>List.mem_append_right _ hn)),fun i hi=>?_⟩
  · rcases f1 i hi with h1 | h1
    · exact h.dj i h1 hc
    · have:=ltq i hc; omega
  · rcases f2 i hc with h2 | h2
    · rcases f1 i hi with h1 | h1
      · exact h.dj i h1 h2
      · have:=ltq i h2; omega
    · have:=ltp i hi; omega
  · rcases f1 i hi with h1 | h1
    · exact h.lo i h1
    · omega
  · rcases f2 i hi with h1 | h1
    · exact h.lo' i h1
    · omega
  · rcases f2 i hi with h1 | h1
    · exact .inl h1
    · exact .inr (by omega)
theorem r_law07_Does {B:Nat} {X:Mem} {p:WP} {q:QP} {W:Wd} {bl:List Bld} (h:Ed B X.heap p q W bl) (hw:X.Wf) (hhb:X.hb ≤ B) (hB:B ≤ X.heap.length) (hd:W.dirty.length ≤ 1073741824) (rz:Bool) (id x y w hh:Int) :
    ∃ H' u p' q' bl',RF tb f_law07_Does [.ptr (.hp p.k 0) 0,.ptr (.hp q.k 0) 0,.agg [.bool rz,.int .i64 id,.int .i64 x,.int .i64 y,.int .i64 w,.int .i64 hh]] X=some (.tup [],(X.hp H').es (escMin X.esc u)) ∧ Ed B H' p' q' (W.does rz (id,x,y,w,hh)) bl' ∧ p'.k=p.k ∧ q'.k=q.k ∧ Keep (p.fp ++ q.fp) X.heap H' ∧ (∀ i ∈ p'.fp,i ∈ p.fp ∨ X.heap.length ≤ i) ∧ (∀ i ∈ q'.fp,i ∈ q.fp ∨ X.heap.length ≤ i):=by
  have hok:=does_ok h.ok rz (id,x,y,w,hh)
  have hgd:=does_good h.gd rz (id,x,y,w,hh)
  rw [RF_go t_law07_Does _ _ rfl,push_hp]
  generalize hH:X.heap=H at *
  have hHl:X.hl=H.length:=by rw [← hH]; rfl
  have lk:=h.o.at_.lt p.k (by simp [WP.fp])
  have lq:=h.r.lt q.k (by simp [QP.fp])
  have hbp:∀ n ∈ p.fp,X.hb ≤ n:=fun n hn=>by have:=h.lo n hn; omega
  have hbq:∀ n ∈ q.fp,X.hb ≤ n:=fun n hn=>by have:=h.lo' n hn; omega
  -- both were turned
  have both : ∀ {c:SBk} {W':Wd} {H1 H2:Hp} {u1 u2:Option Nat} {p':WP} {q':QP} {bl':List Bld} {f1 f2:FuncId} {a1 a2:List SV} {v1 v2:SV},
      RF tb f1 a1 ((X.hp H).fr [c] none)=some (v1,((X.hp H1).fr [c] (escMin none u1))) → v1.hx=0 → RF tb f2 a2 ((X.hp H1).fr [c] (escMin none u1))=some (v2,((X.hp H2).fr [c] (escMin (escMin none u1) u2))) → v2.hx=0 →
      WorldOwn H1 p' W' → Keep p.fp H H1 → p'.k=p.k → (∀ i ∈ p'.fp,i ∈ p.fp ∨ H.length ≤ i) → (u1=none ∨ u1=some p.k) → RefOwn H2 q' W' bl' → bl'.Perm W'.bl → Keep q.fp H1 H2 → q'.k=q.k → (∀ i ∈ q'.fp,i ∈ q.fp ∨ H1.length ≤ i) → (u2=none ∨ u2=some q.k) → BlOk W' → W'.Good →
      ∀ Hf,(if escOk X.hl (escMin u1 u2)=true then H2.take X.hl else H2)=Hf → Ed B Hf p' q' W' bl' ∧ p'.k=p.k ∧ q'.k=q.k ∧ Keep (p.fp ++ q.fp) H Hf ∧ (∀ i ∈ p'.fp,i ∈ p.fp ∨ H.length ≤ i) ∧ (∀ i ∈ q'.fp,i ∈ q.fp ∨ H.length ≤ i):=by
    intro c W' H1 H2 u1 u2 p' q' bl' f1 f2 a1 a2 v1 v2 z1 x1 z2 x2 o1 k1 e1 g1 w1 r2 pm k2 e2 g2 w2 ok gd Hf hHf
    obtain ⟨E,KK,G2⟩:=h.go hB o1 k1 g1 r2 pm k2 g2 ok gd
    have l1:=k1.1
    have s1:=RF_short z1 (by rw [x1]; exact Nat.zero_le _)
    have s2:=RF_short z2 (by rw [x2]; exact Nat.zero_le _)
    change escOk H.length (escMin none u1)=true → H1.length ≤ H.length at s1
    change escOk H1.length (escMin (escMin none u1) u2)=true → H2.length ≤ H1.length at s2
    have esc : ∀ i,(i ∈ p'.fp ∨ i ∈ q'.fp) → i < X.hl ∨ escOk X.hl (escMin u1 u2)=false:=by
      intro i hi
      by_cases hl:i < X.hl
      · exact .inl hl
      · right
        have hs:u1=some p.k ∨ u2=some q.k:=by
          rcases w1 with h1 | h1
          · rcases w2 with h2 | h2
            · exfalso
              subst h1; subst h2
              have q1:=s1 rfl
              have q2:=s2 rfl
              rcases hi with hi | hi
              · have:=o1.at_.lt i hi; omega
              · have:=r2.lt i hi; omega
            · exact .inr h2
          · exact .inl h1
        rcases hs with rfl | rfl
        · exact escOk_left (escOk_some (by omega))
        · exact escOk_right (escOk_some (by omega))
    have cg:∀ i,(i ∈ p'.fp ∨ i ∈ q'.fp) → Hf[i]? = H2[i]? := fun i hi=>by rw [← hHf]; exact fin_keep0 (esc i hi)
    refine ⟨⟨E.o.congr fun i hi=>cg i (.inl hi),E.r.congr fun i hi=>cg i (.inr hi),E.pm,E.ok,E.gd,E.dj,E.lo,E.lo'⟩,e1,e2,?_,g1,G2⟩
    rw [← hHf]
    by_cases hc:escOk X.hl (escMin u1 u2)=true
    · rw [if_pos hc]; exact KK.take (by omega)
    · rw [if_neg hc]; exact KK
  cases rz with
  | true =>
    have e0:W.does true (id,x,y,w,hh)=W.raze id:=rfl
    rw [e0] at hok hgd ⊢
    cases hg:alGet id W.bl with
    | none =>
      have n1:=fun {Y:Mem} (hY:HpSub (Hm H) Y) (hw:Y.Wf)=>r_grid_World_Raze_no h.o.at_ hY hw id hg
      have n2:=fun {Y:Mem} (hY:HpSub (Hm H) Y) (hw:Y.Wf)=>r_ref04_Raze_no h.r.at_ h.pm hY hw id hg
      simp (maxDischargeDepth:=8) only [go_sem,s_law07_Does,hw,hH,n1,n2]
      refine ⟨H,none,p,q,bl,by rw [← hH,escMin_none]; rfl,by rw [raze_none hg]; exact h,rfl,rfl,Keep.refl _ _,fun i hi=>.inl hi,fun i hi=>.inl hi⟩
    | some r =>
      obtain ⟨a,b,c,d⟩:=r
      simp (maxDischargeDepth:=8) only [go_sem,s_law07_Does,hw,hH]
      generalize hz:RF tb f_grid_World_Raze _ _=z
      obtain ⟨H1,u1,p',rfl,o1,k1,e1,g1,w1⟩:=wraze_of hz h.o h.ok (by simp (maxDischargeDepth:=8) only [go_sem,hw]) hbp hd hg
      change Keep p.fp H H1 at k1
      change ∀ i ∈ p'.fp,i ∈ p.fp ∨ H.length ≤ i at g1
      have r1:=h.r.keep k1 (fun i hi hc=>h.dj i hc hi)
      simp (maxDischargeDepth:=8) only [go_sem,hw]
      generalize hz2:RF tb f_ref04_Raze _ _=z2
      obtain ⟨H2,u2,q',bl',rfl,r2,pm,k2,e2,g2,w2⟩:=rraze_of hz2 r1 h.pm h.ok (by simp (maxDischargeDepth:=8) only [go_sem,hw]) hbq hd hg
      change Keep q.fp H1 H2 at k2
      change ∀ i ∈ q'.fp,i ∈ q.fp ∨ H1.length ≤ i at g2
      simp (maxDischargeDepth:=8) only [go_sem,hw]
      exact ⟨_,_,p',q',bl',rfl,both hz rfl hz2 rfl o1 k1 e1 g1 w1 r2 pm k2 e2 g2 w2 hok hgd _ rfl⟩
  | false =>
    have e0:W.does false (id,x,y,w,hh)=W.place (id,x,y,w,hh):=rfl
    rw [e0] at hok hgd ⊢
    by_cases hm:W.may (id,x,y,w,hh)=0
    · simp (maxDischargeDepth:=8) only [go_sem,s_law07_Does,hw,hH]
      generalize hz:RF tb f_grid_World_Place _ _=z
      obtain ⟨H1,u1,p',rfl,o1,k1,e1,g1,w1⟩:=wplace_of hz h.o (by simp (maxDischargeDepth:=8) only [go_sem,hw]) hbp hd hm
      change Keep p.fp H H1 at k1
      change ∀ i ∈ p'.fp,i ∈ p.fp ∨ H.length ≤ i at g1
      have r1:=h.r.keep k1 (fun i hi hc=>h.dj i hc hi)
      simp (maxDischargeDepth:=8) only [go_sem,hw]
      generalize hz2:RF tb f_ref04_Place _ _=z2
      obtain ⟨H2,u2,q',bl',rfl,r2,pm,k2,e2,g2,w2⟩:=rplace_of hz2 r1 h.pm (by simp (maxDischargeDepth:=8) only [go_sem,hw]) hbq hd hm
      change Keep q.fp H1 H2 at k2
      change ∀ i ∈ q'.fp,i ∈ q.fp ∨ H1.length ≤ i at g2
      simp (maxDischargeDepth:=8) only [go_sem,hw]
      exact ⟨_,_,p',q',bl',rfl,both hz rfl hz2 rfl o1 k1 e1 g1 w1 r2 pm k2 e2 g2 w2 hok hgd _ rfl⟩
    · have n1:=fun {Y:Mem} (hY:HpSub (Hm H) Y) (hw:Y.Wf)=>r_grid_World_Place_no h.o.at_ hY hw id x y w hh hm
      have n2:=fun {Y:Mem} (hY:HpSub (Hm H) Y) (hw:Y.Wf)=>r_ref04_Place_no h.r.at_ h.pm hY hw id x y w hh hm
      simp (maxDischargeDepth:=8) only [go_sem,s_law07_Does,hw,hH,n1,n2]
      refine ⟨H,none,p,q,bl,by rw [← hH,escMin_none]; rfl,by rw [place_no hm]; exact h,rfl,rfl,Keep.refl _ _,fun i hi=>.inl hi,fun i hi=>.inl hi⟩
theorem does_of {B:Nat} {X:Mem} {p:WP} {q:QP} {W:Wd} {bl:List Bld} {rz:Bool} {id x y w hh:Int} {z:Option (SV × Mem)} (hz:RF tb f_law07_Does [.ptr (.hp p.k 0) 0,.ptr (.hp q.k 0) 0,.agg [.bool rz,.int .i64 id,.int .i64 x,.int .i64 y,.int .i64 w,.int .i64 hh]] X=z) (h:Ed B X.heap p q W bl) (hw:X.Wf) (hhb:X.hb ≤ B) (hB:B ≤ X.heap.length) (hd:W.dirty.length ≤ 1073741824) :
    ∃ H' u p' q' bl',z=some (.tup [],(X.hp H').es (escMin X.esc u)) ∧ Ed B H' p' q' (W.does rz (id,x,y,w,hh)) bl' ∧ p'.k=p.k ∧ q'.k=q.k ∧ Keep (p.fp ++ q.fp) X.heap H' ∧ (∀ i ∈ p'.fp,i ∈ p.fp ∨ X.heap.length ≤ i) ∧ (∀ i ∈ q'.fp,i ∈ q.fp ∨ X.heap.length ≤ i):=by
  subst hz; exact r_law07_Does h hw hhb hB hd rz id x y w hh
theorem own_back {α:Type} {d:Fl α} {X:Mem} {H':Hp} {v:SV} {l:List α} (o:Own d H' v l) (hf:∀ i ∈ slFp v,X.heap.length ≤ i) (hx:v.hx=match slFp v with | []=>0 | i :: _=>i + 1) (k:Keep [] X.heap H') :
    Own d (if v.hx ≤ X.hl then H'.take X.hl else H') v l ∧ Keep [] X.heap (if v.hx ≤ X.hl then H'.take X.hl else H'):=by
  refine ⟨o.congr fun i hi=>fin_keep1 (.inr ?_),k.back1⟩
  have:=hf i hi
  rw [hx_fp hi]
  show X.heap.length < i + 1
  omega
theorem r_Clone_rect {X:Mem} {v:SV} {l:List Rc} (hp:LiesD rectF (Hm X.heap) v l) (hb:2 * l.length * 32 ≤ two48) (hw:X.Wf) (hhb:X.hb ≤ X.hl) :
    ∃ v' H',RF tb f_slices_Clone_api_Rect_api_Rect [v] X=some (v',X.hp H') ∧ Own rectF H' v' l ∧ Keep [] X.heap H' ∧ (∀ i ∈ slFp v',X.heap.length ≤ i):=by
  rw [RF_go t_slices_Clone_api_Rect_api_Rect _ _ rfl,push_hp]
  generalize hH:X.heap=H at *
  have hHl:X.hl=H.length:=by rw [← hH]; rfl
  have own0:Own rectF (H ++ [(0,.cells true [])]) (.sl (.hp H.length 0) 0 0 (some 0) 4) []:=own_new rectF_even H [] (some 0)
  have hp':LiesD rectF (Hm (H ++ [(0,.cells true [])])) v l:=hp.keep (Keep.app [] _ _) (by simp)
  obtain ⟨v',H',ha,o1,o2,o3,-,-⟩:=app_own rectF_even (by decide) rectF_ok hxs_rect own0 hp' (bytes:=32) (by simpa using hb) (by simp only [two48] at *; simp; omega) X (fun i hi=>by simp [slFp] at hi; omega)
  have ha':=ha [.int .i64 0,.int .i64 0,.int .i64 0,.int .i64 0] rfl (fun b=>true) rfl
  change ∀ f e,appV 4 32 _ _ _ _ _=_ at ha'
  have s1:=o1.isSl rectF_even
  have o3':∀ i ∈ slFp v',H.length ≤ i:=fun i hi=>by
    rcases o3 i hi with h | h
    · simp [slFp] at h; omega
    · simp at h; omega
  have fin:Own rectF (if v'.hx ≤ X.hl then H'.take X.hl else H') v' l ∧ Keep [] H (if v'.hx ≤ X.hl then H'.take X.hl else H'):=by
    refine ⟨(by simpa using o1:Own rectF H' v' l).congr fun i hi=>fin_keep1 (.inr ?_),?_⟩
    · have:=o3' i hi
      rw [hx_fp hi]
      omega
    · have:=((Keep.app [] H [(0,.cells true [])]).trans' o2 (by simp [slFp]))
      rw [← hH] at this ⊢
      exact this.back1
  rcases hp.2 with ⟨rfl,h0⟩ | ⟨rfl,h0⟩ | ⟨k,w,off,cap,c,rw,rfl,_⟩
  · simp (maxDischargeDepth:=8) only [go_sem,s_slices_Clone_api_Rect_api_Rect,hw,hH]
    have:l=[]:=List.eq_nil_of_length_eq_zero h0
    subst this
    exact ⟨.nils,H,by rw [← hH]; rfl,Own.nil _,Keep.refl _ _,by simp [slFp]⟩
  · simp (maxDischargeDepth:=8) only [go_sem,s_slices_Clone_api_Rect_api_Rect,hw,ha',s1.c,s1.l]
    exact ⟨_,_,rfl,fin.1,fin.2,o3'⟩
  · simp (maxDischargeDepth:=8) only [go_sem,s_slices_Clone_api_Rect_api_Rect,hw,ha',s1.c,s1.l]
    exact ⟨_,_,rfl,fin.1,fin.2,o3'⟩
theorem cloneR_of {X:Mem} {v:SV} {l:List Rc} {z:Option (SV × Mem)} (hz:RF tb f_slices_Clone_api_Rect_api_Rect [v] X=z) (hp:LiesD rectF (Hm X.heap) v l) (hb:2 * l.length * 32 ≤ two48) (hw:X.Wf) (hhb:X.hb ≤ X.hl) :
    ∃ v' H',z=some (v',X.hp H') ∧ Own rectF H' v' l ∧ Keep [] X.heap H' ∧ (∀ i ∈ slFp v',X.heap.length ≤ i):=by
  subst hz; exact r_Clone_rect hp hb hw hhb
theorem r_grid_World_Dirty {X:Mem} {p:WP} {W:Wd} (hW:WorldAt (Hm X.heap) p W) (hw:X.Wf) (hhb:X.hb ≤ X.hl) (e:Nat) (hd:W.dirty.length ≤ 1000000) :
    ∃ v' H',RF tb f_grid_World_Dirty [.ptr (.hp p.k 0) 0,.int .i64 (e:Int)] X=some (v',X.hp H') ∧ Own rectF H' v' (W.dirty.drop e) ∧ Keep [] X.heap H' ∧ (∀ i ∈ slFp v',X.heap.length ≤ i):=by
  rw [RF_go t_grid_World_Dirty _ _ rfl,push_hp]
  generalize hH:X.heap=H at *
  have hHl:X.hl=H.length:=by rw [← hH]; rfl
  have ghd:hget H p.k 0=_:=hW.hd
  have dl:=hW.dl
  by_cases he:e < W.dirty.length
  · have dpS:sliceV 4 p.dv (some (e:Int)) none none=some (dropV 4 e p.dv):=Lies.dropS dl (Nat.le_of_lt he)
    have ld:LiesD rectF (Hm H) (dropV 4 e p.dv) (W.dirty.drop e):=LiesD.drop rectF_even dl (Nat.le_of_lt he)
    have sd:=ld.isSl
    simp (maxDischargeDepth:=8) only [go_sem,s_grid_World_Dirty,hw,hH,r_grid_World_is hW,show decide ((e:Int) < 0)=false from decide_eq_false (by omega),ghd,dl.len,show decide ((e:Int) ≥ (W.dirty.length:Int))=false from decide_eq_false (by omega),dpS,sd.l,sd.c,sd.k,sd.o]
    generalize hz:RF tb f_slices_Clone_api_Rect_api_Rect _ _=z
    obtain ⟨v',H1,rfl,o1,k1,f1⟩:=cloneR_of hz ld (by rw [List.length_drop]; simp only [two48]; omega) (by simp (maxDischargeDepth:=8) only [go_sem,hw]) (by show X.hb ≤ H.length; omega)
    rw [← hH] at k1 f1
    change Keep [] X.heap H1 at k1
    change ∀ i ∈ slFp v',X.heap.length ≤ i at f1
    have s1:=o1.isSl rectF_even
    obtain ⟨o2,k2⟩:=own_back o1 f1 s1.xs k1
    simp (maxDischargeDepth:=8) only [go_sem,hw,s1.l,s1.c,s1.k,s1.o]
    rw [← hH]
    exact ⟨_,_,rfl,o2,k2,f1⟩
  · simp (maxDischargeDepth:=8) only [go_sem,s_grid_World_Dirty,hw,hH,r_grid_World_is hW,show decide ((e:Int) < 0)=false from decide_eq_false (by omega),ghd,dl.len,show decide ((e:Int) ≥ (W.dirty.length:Int))=true from decide_eq_true (by omega)]
    exact ⟨.nils,H,by rw [← hH]; rfl,by rw [List.drop_eq_nil_of_le (by omega)]; exact Own.nil _,Keep.refl _ _,by simp [slFp]⟩
theorem dirty_of {X:Mem} {p:WP} {W:Wd} {e:Nat} {z:Option (SV × Mem)} (hz:RF tb f_grid_World_Dirty [.ptr (.hp p.k 0) 0,.int .i64 (e:Int)] X=z) (hW:WorldAt (Hm X.heap) p W) (hw:X.Wf) (hhb:X.hb ≤ X.hl) (hd:W.dirty.length ≤ 1000000) :
    ∃ v' H',z=some (v',X.hp H') ∧ Own rectF H' v' (W.dirty.drop e) ∧ Keep [] X.heap H' ∧ (∀ i ∈ slFp v',X.heap.length ≤ i):=by
  subst hz; exact r_grid_World_Dirty hW hw hhb e hd
def wasL (W:Wd) (L:List Int) (K:List (Int × Int)):List ((Int × Int) × Int):=K.map fun c=>(c,W.at' L c.1 c.2)
theorem was_get (W:Wd) (L:List Int) (c:Int × Int):∀ K:List (Int × Int),alGet c (wasL W L K)=if c ∈ K then some (W.at' L c.1 c.2) else none
  | []=>rfl
  | a :: K=>by
    show (if c=a then some (W.at' L a.1 a.2) else alGet c (wasL W L K))=_
    rw [was_get W L c K]
    by_cases e:c=a
    · subst e; simp
    · simp [e]
theorem was_add (W:Wd) (L:List Int) (c:Int × Int):∀ K:List (Int × Int),c ∉ K → alSet c (W.at' L c.1 c.2) (wasL W L K)=wasL W L (K ++ [c])
  | [],_=>rfl
  | a :: K,h=>by
    show (if c=a then (c,W.at' L c.1 c.2) :: wasL W L K else (a,W.at' L a.1 a.2) :: alSet c (W.at' L c.1 c.2) (wasL W L K))=_
    rw [if_neg (fun e:c=a=>h (e ▸ List.mem_cons_self)),was_add W L c K fun h'=>h (List.mem_cons_of_mem _ h')]
    rfl
theorem RC_RK (F:Tbl) (c:SCode) (fr:Fr) (m:Mem):RC F c fr m=RK F [] c fr m:=by
  unfold RK
  cases RC F c fr m with
  | none=>rfl
  | some x=>rw [Option.bind_some,unK]
theorem RO_KO {F:Tbl} {d:Bool} {l:List SOper} {fr fr1:Fr} {m m1:Mem} (h:KO F [] d l fr m=some (.normal,fr1,m1)):RO F d l fr m=some (fr1,m1):=by
  unfold KO at h
  cases hr:RO F d l fr m with
  | none=>rw [hr] at h; cases h
  | some x =>
    rw [hr,Option.bind_some,RJ,unK] at h
    simp only [Option.some.injEq,Prod.mk.injEq,true_and] at h
    rw [← h.1,← h.2]
theorem er_map {α β:Type} (f:α → β):∀ (l:List α) (i:Nat),(l.map f).eraseIdx i=(l.eraseIdx i).map f
  | [],_=>rfl
  | a :: l,0=>rfl
  | a :: l,i + 1=>by
    show f a :: (l.map f).eraseIdx i=f a :: (l.eraseIdx i).map f
    rw [er_map f l i]
theorem er_perm {α:Type}:∀ {l:List α} {i:Nat} {x:α},l[i]? = some x → l.Perm (x :: l.eraseIdx i)
  | [],_,_,h=>by simp at h
  | a :: l,0,x,h=>by simp at h; subst h; exact .refl _
  | a :: l,i + 1,x,h=>by
    have h':l[i]? = some x:=h
    exact ((er_perm h').cons a).trans (.swap _ _ _)
abbrev umA:List SOper:=[⟨some 105,.ext (.t 104) 0,none,false⟩,⟨some 106,.ext (.t 104) 1,none,false⟩,⟨some 14,.alloc true [(.int .i64 0),(.int .i64 0)],none,false⟩,⟨none,.store 2 [] (.t 14) (.t 105),none,false⟩,⟨some 15,.mv (.t 106),none,false⟩]
theorem upd_count {Z:Mem} (hw:Z.Wf) {k:Nat} {p:WP} {W:Wd} {cl:Int} {lv:SV} {ep:Int} {L0 L1:List Int} (hF:FieldAt (Hm Z.heap) k p W cl lv ep L1) (j:Nat) (K:List (Int × Int)) (n:Nat) (fr:Fr) (m:Mem)
    (hh:headM (.st Z.dep 2) 3 101 102 103 [1,13,101] fr m=some ([(101,.ptr (.st Z.dep 2) 0),(103,.unk),(102,.unk),(1,.ptr (.st Z.dep 0) 0),(13,.int .i64 (n:Int)),(101,.ptr (.st Z.dep 2) 0)],Z.fr [.cells true [.ptr (.hp k 0) 0],.cells true [.map (.hp j 0)],.iter] none)) (hn:n + cntK W L0 L1 K ≤ 1000000000) :
    RM tb (.st Z.dep 2) 3 101 102 103 4 5 104 [1,13,101] umA pc449 (alV cellW intV (wasL W L0 K)) fr m=some (.normal,[(101,.ptr (.st Z.dep 2) 0),(103,.unk),(102,.unk),(1,.ptr (.st Z.dep 0) 0),(13,.int .i64 ((n + cntK W L0 L1 K:Nat):Int)),(101,.ptr (.st Z.dep 2) 0)],Z.fr [.cells true [.ptr (.hp k 0) 0],.cells true [.map (.hp j 0)],.iter] none):=by
  by_cases hK:K=[]
  · subst hK
    exact RM_nil hh
  · refine RM_cons hh (by simpa [alV,wasL] using hK) fun i key val hi=>?_
    obtain ⟨a,b,hc,rfl,rfl⟩:∃ a b,K[i]? = some (a,b) ∧ cellV a b=key ∧ .int .i64 (W.at' L0 a b)=val:=by
      simp only [alV,wasL,List.map_map,List.getElem?_map,Option.map_eq_some_iff] at hi
      obtain ⟨c,h1,h2⟩:=hi
      simp only [Function.comp,Prod.mk.injEq] at h2
      exact ⟨c.1,c.2,h1,h2.1,h2.2⟩
    have hA:RO tb false umA [(104,SV.tup [cellV a b,SV.int IntKind.i64 (W.at' L0 a b)]),(101,SV.ptr (Bk.st Z.dep 2) 0),(103,SV.unk),(102,SV.unk),(1,SV.ptr (Bk.st Z.dep 0) 0),(13,SV.int IntKind.i64 (n:Int)),(101,SV.ptr (Bk.st Z.dep 2) 0)] (Z.fr [SBk.cells true [SV.ptr (Bk.hp k 0) 0],SBk.cells true [SV.map (Bk.hp j 0)],SBk.iter] none)
        = some ([(15,SV.int .i64 (W.at' L0 a b)),(14,SV.ptr (Bk.st Z.dep 3) 0),(106,SV.int .i64 (W.at' L0 a b)),(105,cellV a b),(104,SV.tup [cellV a b,SV.int IntKind.i64 (W.at' L0 a b)]),(101,SV.ptr (Bk.st Z.dep 2) 0),(103,SV.unk),(102,SV.unk),(1,SV.ptr (Bk.st Z.dep 0) 0),(13,SV.int IntKind.i64 (n:Int)),(101,SV.ptr (Bk.st Z.dep 2) 0)],
          Z.fr [.cells true [.ptr (.hp k 0) 0],.cells true [.map (.hp j 0)],.iter,.cells true [.int .i64 a,.int .i64 b]] none):=by
      apply RO_KO
      simp (maxDischargeDepth:=8) only [go_sem,hw]
    have hdn:∀ (frs:Fr),frs.get 101=SV.ptr (Bk.st Z.dep 2) 0 → ∀ n':Nat,frs.keep [1,13,101]=[(1,.ptr (.st Z.dep 0) 0),(13,.int .i64 (n':Int)),(101,.ptr (.st Z.dep 2) 0)] → headM (.st Z.dep 2) 3 101 102 103 [1,13,101] frs (Z.fr [.cells true [.ptr (.hp k 0) 0],.cells true [.map (.hp j 0)],.iter,.cells true [.int .i64 a,.int .i64 b]] none)=some ([(101,.ptr (.st Z.dep 2) 0),(103,.unk),(102,.unk),(1,.ptr (.st Z.dep 0) 0),(13,.int .i64 (n':Int)),(101,.ptr (.st Z.dep 2) 0)],Z.fr [.cells true [.ptr (.hp k 0) 0],.cells true [.map (.hp j 0)],.iter] none):=by
      intro frs h1 n' h2
      unfold headM hdFr
      rw [h1,h2]
      simp (maxDischargeDepth:=8) only [go_sem,hw,isPtr,isIter]
    have hlt:i < K.length:=(List.getElem?_eq_some_iff.1 hc).1
    have hpm:K.Perm ((a,b) :: K.eraseIdx i):=by
      exact er_perm hc
    have hcn:cntK W L0 L1 K=(if W.at' L1 a b=W.at' L0 a b then 0 else 1) + cntK W L0 L1 (K.eraseIdx i):=by
      unfold cntK
      rw [hpm.countP_eq,List.countP_cons]
      by_cases e:W.at' L1 a b=W.at' L0 a b
      · simp [e]
      · simp [e]; omega
    have hle:(K.eraseIdx i).length + 1=K.length:=by rw [List.length_eraseIdx_of_lt hlt]; omega
    have her:(alV cellW intV (wasL W L0 K)).eraseIdx i=alV cellW intV (wasL W L0 (K.eraseIdx i)):=by
      unfold alV wasL
      rw [er_map,er_map]
    have hB:∃ (n':Nat) (frB:Fr),RC tb pc449 [(15,SV.int .i64 (W.at' L0 a b)),(14,SV.ptr (Bk.st Z.dep 3) 0),(106,SV.int .i64 (W.at' L0 a b)),(105,cellV a b),(104,SV.tup [cellV a b,SV.int IntKind.i64 (W.at' L0 a b)]),(101,SV.ptr (Bk.st Z.dep 2) 0),(103,SV.unk),(102,SV.unk),(1,SV.ptr (Bk.st Z.dep 0) 0),(13,SV.int IntKind.i64 (n:Int)),(101,SV.ptr (Bk.st Z.dep 2) 0)] (Z.fr [.cells true [.ptr (.hp k 0) 0],.cells true [.map (.hp j 0)],.iter,.cells true [.int .i64 a,.int .i64 b]] none)
        = some (.normal,frB,Z.fr [.cells true [.ptr (.hp k 0) 0],.cells true [.map (.hp j 0)],.iter,.cells true [.int .i64 a,.int .i64 b]] none) ∧ frB.get 101=SV.ptr (Bk.st Z.dep 2) 0 ∧ frB.keep [1,13,101]=[(1,.ptr (.st Z.dep 0) 0),(13,.int .i64 (n':Int)),(101,.ptr (.st Z.dep 2) 0)] ∧ n' + cntK W L0 L1 (K.eraseIdx i)=n + cntK W L0 L1 K ∧ n' ≤ n + 1:=by
      rw [RC_RK,hcn]
      by_cases hc:W.at' L1 a b=W.at' L0 a b
      · simp (maxDischargeDepth:=8) only [go_sem,pc449,hw,r_clear_At hF,show (W.at' L1 a b != W.at' L0 a b)=false from by simpa using hc,RJ_nil,hc]
        exact ⟨n,_,rfl,by simp (maxDischargeDepth:=8) only [go_sem],by simp (maxDischargeDepth:=8) only [go_sem],by omega,by omega⟩
      · simp (maxDischargeDepth:=8) only [go_sem,pc449,hw,r_clear_At hF,show (W.at' L1 a b != W.at' L0 a b)=true from by simpa using hc,RJ_nil,hc,wrap_succ (show n ≤ 4611686018427387903 by omega)]
        exact ⟨n + 1,_,rfl,by simp (maxDischargeDepth:=8) only [go_sem],by simp (maxDischargeDepth:=8) only [go_sem],by omega,by omega⟩
    obtain ⟨n',frB,b1,b2,b3,b4,b5⟩:=hB
    refine ⟨_,_,_,_,_,hA,b1,.inl rfl,?_⟩
    rw [her,← b4]
    exact upd_count hw hF j (K.eraseIdx i) n' frB _ (hdn frB b2 n' b3) (by omega)
termination_by K.length
structure FieldOwn (H:Hp) (k:Nat) (p:WP) (W:Wd) (cl:Int) (lv:SV) (ep:Int) (L:List Int):Prop where
  hd:hget H k 0=some (.cells true (fieldC p W cl lv ep))
  ho:Own iF H lv L
  len:L.length=W.w.toNat * W.h.toNat
  kn:k ∉ slFp lv
theorem FieldOwn.at_ {H:Hp} {k:Nat} {p:WP} {W:Wd} {cl:Int} {lv:SV} {ep:Int} {L:List Int} (h:FieldOwn H k p W cl lv ep L) (w1:1 ≤ W.w ∧ W.w ≤ 128) (w2:1 ≤ W.h ∧ W.h ≤ 128):FieldAt (Hm H) k p W cl lv ep L:=⟨h.hd,h.ho.lies iF_even,h.len,w1,w2⟩
theorem FieldOwn.keep {H H':Hp} {S:List Nat} {k:Nat} {p:WP} {W:Wd} {cl:Int} {lv:SV} {ep:Int} {L:List Int} (h:FieldOwn H k p W cl lv ep L) (kk:Keep S H H') (hk:k ∉ S) (hl:∀ i ∈ slFp lv,i ∉ S):FieldOwn H' k p W cl lv ep L:=⟨kk.get h.hd hk,h.ho.keep kk hl,h.len,h.kn⟩
structure RcIn (W:Wd) (r:Rc):Prop where
  x:0 ≤ r.1 ∧ r.1 + r.2.2.1 ≤ W.w
  y:0 ≤ r.2.1 ∧ r.2.1 + r.2.2.2 ≤ W.h
  w:1 ≤ r.2.2.1
  h:1 ≤ r.2.2.2
theorem rcIn_of {W:Wd} (w1:1 ≤ W.w ∧ W.w ≤ 128) (w2:1 ≤ W.h ∧ W.h ≤ 128) {b:Bld} (h:bmayB b W.all=true):RcIn W b.2:=by
  obtain ⟨id,x,y,w,hh⟩:=b
  simp only [bmayB,withinB,Wd.all,Bool.and_eq_true,decide_eq_true_eq] at h
  obtain ⟨⟨⟨⟨-,-⟩,q1⟩,q2⟩,⟨q3,q4⟩,q5⟩:=h
  have q4:=(has_iff.1 q4).2
  have q5:=(has_iff.1 q5).2
  simp only [mayB,nearC,nearP,sideB,Bool.and_eq_true,decide_eq_true_eq] at q3
  rw [last_eq (by omega) (by omega),last_eq (by omega) (by omega)] at q5
  constructor <;> dsimp only <;> omega
structure UpdI (H2:Hp) (j k:Nat) (p:WP) (O N:Wd) (cl:Int) (lv:SV) (rs:List Rc) (K:List (Int × Int)) (L:List Int) (Hk:Hp):Prop where
  m:hget Hk j 0=some (.map (alV cellW intV (wasL N (O.clrs cl) K)))
  o:Own iF Hk lv L
  len:L.length=N.w.toNat * N.h.toNat
  rg:Rng L
  gd:GoodL N cl L rs
  nd:K.Nodup
  inn:∀ c ∈ K,N.has c.1 c.2=true
  ch:∀ x y,N.at' L x y ≠ N.at' (O.clrs cl) x y → (x,y) ∈ K
  kp:Keep (j :: slFp lv) H2 Hk
theorem r_clear_Update {X:Mem} {k:Nat} {p:WP} {O N:Wd} {rs:List Rc} {cl:Int} {lv:SV} (hF:FieldOwn X.heap k p N cl lv O.dirty.length (O.clrs cl)) (hS:Since O N rs) (hB:BlOk N) (hO:WorldOwn X.heap p N) (hg:N.Good) (hpn:∀ i ∈ p.fp,i ≠ k ∧ i ∉ slFp lv) (hm:∀ i ∈ slFp lv,X.hb ≤ i) (hkb:X.hb ≤ k) (hw:X.Wf) (hhb:X.hb ≤ X.hl) (hd:N.dirty.length ≤ 1000000) :
    ∃ H',RF tb f_clear_Field_Update [.ptr (.hp k 0) 0] X=some (.tup [.int .i64 (cntJ (O.clrs cl) (N.clrs cl):Nat),.int .i64 0],X.hp H') ∧ FieldOwn H' k p N cl lv N.dirty.length (N.clrs cl) ∧ Keep (k :: slFp lv) X.heap H':=by
  rw [RF_go t_clear_Field_Update _ _ rfl,push_hp]
  generalize hH:X.heap=H at *
  have hHl:X.hl=H.length:=by rw [← hH]; rfl
  have w1:=hO.at_.w1
  have w2:=hO.at_.h1
  have w3:N.w=O.w:=hS.w
  obtain ⟨H1,hH1⟩:∃ H1,H ++ [(0,SBk.map [])]=H1:=⟨_,rfl⟩
  have k1:Keep [] H H1:=by rw [← hH1]; exact Keep.app _ _ _
  have l1:H1.length=H.length + 1:=by rw [← hH1,List.length_append]; rfl
  have gm1:hget H1 H.length 0=some (.map []):=by rw [← hH1]; exact hget_new0 0 _
  have ghd0:=hF.hd
  have ghd:=k1.get hF.hd (by simp)
  have hO1:=hO.keep k1 (by simp)
  simp (maxDischargeDepth:=8) only [go_sem,s_clear_Field_Update,hw,hH,ghd0,fieldC]
  rw [hH1]
  simp (maxDischargeDepth:=8) only [go_sem,hw,ghd,fieldC]
  generalize hz:RF tb f_grid_World_Dirty _ _=z
  obtain ⟨v',H2,rfl,o2,k2,f2⟩:=dirty_of hz hO1.at_ (by simp (maxDischargeDepth:=8) only [go_sem,hw]) (by show X.hb ≤ H1.length; omega) hd
  change Keep [] H1 H2 at k2
  change ∀ i ∈ slFp v',H1.length ≤ i at f2
  rw [hS.d,List.drop_left] at o2
  have s2:=o2.isSl rectF_even
  have ld2:=o2.lies rectF_even
  have j2:=k2.get gm1 (by simp)
  have kj:k ≠ H.length:=by have:=hget_lt ghd0; omega
  have jl:H.length ∉ slFp lv:=fun h=>by have:=hF.ho.fp _ h; omega
  have vl:∀ i ∈ slFp v',i ∉ H.length :: slFp lv:=fun i hi hc=>by
    have:=f2 i hi
    rcases List.mem_cons.1 hc with h | h
    · omega
    · have:=hF.ho.fp _ h; omega
  have hrl:rs.length ≤ 1000000:=by have:=hd; rw [hS.d,List.length_append] at this; omega
  have hpj:∀ i ∈ p.fp,i ∉ H.length :: slFp lv:=fun i hi hc=>by
    have:=hO.at_.lt i hi
    rcases List.mem_cons.1 hc with h | h
    · omega
    · exact (hpn i hi).2 h
  have hrs:∀ r ∈ rs,RcIn N r:=fun r hr=>by
    obtain ⟨id,h⟩:=hB.dd r (by rw [hS.d]; exact List.mem_append_right _ hr)
    exact rcIn_of w1 w2 h
  have ld':∀ {Hk:Hp},Keep (H.length :: slFp lv) H2 Hk → LiesD rectF (Hm Hk) v' rs:=fun kk=>(o2.keep kk vl).lies rectF_even
  simp (maxDischargeDepth:=8) only [go_sem,hw,ld2.len,ld2.lv]
  rw [KL_keep _ _ _ (by simp (maxDischargeDepth:=8) only [go_sem,ld2.lv])]
  simp (maxDischargeDepth:=8) only [go_sem]
  refine KL_ind (R:=fun z=>∃ H',fin [.t 2,.t 3] X z=some (.tup [.int .i64 (cntJ (O.clrs cl) (N.clrs cl):Nat),.int .i64 0],X.hp H') ∧ FieldOwn H' k p N cl lv N.dirty.length (N.clrs cl) ∧ Keep (k :: slFp lv) H H') (α:=Nat × Hp × List (Int × Int) × List Int) (fun q=>rs.length - q.1)
    (fun q=>[(1,.ptr (.st X.dep 0) 0),(4,.ptr (.st X.dep 1) 0),(34,v'),(35,.i rs.length),(36,.int .i64 (q.1:Int))])
    (fun q=>(X.hp q.2.1).fr [.cells true [.ptr (.hp k 0) 0],.cells true [.map (.hp H.length 0)]] none)
    (fun q=>q.1 ≤ rs.length ∧ UpdI H2 H.length k p O N cl lv (rs.drop q.1) q.2.2.1 q.2.2.2 q.2.1) ?_ (0,H2,[],O.clrs cl) ⟨Nat.zero_le _,⟨j2,(hF.ho.keep k1 (by simp)).keep k2 (by simp),hF.len,rng_clrs _ _,GoodL.init hS (by rw [← hS.w]; exact w1) (by rw [← hS.h]; exact w2) cl,List.nodup_nil,by simp,fun _ _ h=>absurd rfl h,Keep.refl _ _⟩⟩
  rintro ⟨i,Hk,K,L⟩ ⟨hi,I⟩ ih
  dsimp only at hi I ⊢
  have ldk:=ld' I.kp
  have kh:k ∉ H.length :: slFp lv:=by simp only [List.mem_cons,not_or]; exact ⟨kj,hF.kn⟩
  have gk:=I.kp.get (k2.get ghd (by simp)) kh
  simp (maxDischargeDepth:=8) only [go_sem,hw,ldk.lv,ldk.len]
  by_cases hlt:i < rs.length
  · have hel:rs[i]? = some rs[i]:=List.getElem?_eq_getElem hlt
    have hr:=hrs rs[i] (List.getElem_mem hlt)
    have hdr:rs.drop i=rs[i] :: rs.drop (i + 1):=List.drop_eq_getElem_cons hlt
    generalize rs[i]=r at hel hr hdr
    obtain ⟨rx,ry,rw',rh⟩:=r
    have hrx:=hr.x
    have hry:=hr.y
    have hrw:=hr.w
    have hrh:=hr.h
    dsimp only at hrx hry hrw hrh
    simp (maxDischargeDepth:=8) only [go_sem,show decide ((i:Int) < (rs.length:Int))=true from decide_eq_true (by omega),hw,ldk.iaddr4 hlt,ldk.load4 hel,rectR,wrap_small (x:=rx - 4) (by omega) (by omega),wrap_small (x:=ry - 4) (by omega) (by omega),wrap_small (x:=rx - 4 + 1) (by omega) (by omega),wrap_small (x:=ry - 4 + 1) (by omega) (by omega),wrap_small (x:=rx + rw') (by omega) (by omega),wrap_small (x:=ry + rh) (by omega) (by omega),r_cell_Cells]
    obtain ⟨a0,ea⟩:∃ a0:Nat,mxI 0 (rx - 4 + 1)=(a0:Int):=⟨(mxI 0 (rx - 4 + 1)).toNat,by have:=@mxI_le 0 (rx - 4 + 1); omega⟩
    obtain ⟨b0,eb⟩:∃ b0:Nat,mxI 0 (ry - 4 + 1)=(b0:Int):=⟨(mxI 0 (ry - 4 + 1)).toNat,by have:=@mxI_le 0 (ry - 4 + 1); omega⟩
    have ma:=@mxI_le 0 (rx - 4 + 1)
    have mb:=@mxI_le 0 (ry - 4 + 1)
    rw [ea] at ma ⊢
    rw [eb] at mb ⊢
    obtain ⟨ww,ew⟩:∃ ww:Nat,rx + rw' - (a0:Int)=(ww:Int):=⟨(rx + rw' - (a0:Int)).toNat,by omega⟩
    obtain ⟨hh,eh⟩:∃ hh:Nat,ry + rh - (b0:Int)=(hh:Int):=⟨(ry + rh - (b0:Int)).toNat,by omega⟩
    rw [ew,eh,wrap_small (x:=(ww:Int)) (by omega) (by omega),wrap_small (x:=(hh:Int)) (by omega) (by omega)]
    have hwide:∀ x y,inP a0 b0 ww hh x y ↔ wideP (rx,ry,rw',rh) x y:=by intro x y; simp only [wideP]; omega
    generalize hcs:(SBk.cells true [SV.int IntKind.i64 (a0:Int),SV.int IntKind.i64 (b0:Int),SV.int IntKind.i64 (ww:Int),SV.int IntKind.i64 (hh:Int)])=box
    generalize hz:RF tb f_cell_Cells_1 _ _=z
    have lHk:H.length < Hk.length:=hget_lt I.m
    refine cells_rangeZ hz a0 b0 ww hh (d:=X.dep + 1)
      (fun M n m u=>u=none ∧ ∃ H4 K',m=M.hp H4 ∧ hget H4 H.length 0=some (.map (alV cellW intV (wasL N (O.clrs cl) K'))) ∧ K'.Nodup ∧ (∀ c ∈ K',N.has c.1 c.2=true) ∧ (∀ c ∈ K,c ∈ K') ∧ (∀ c ∈ (cellsP a0 b0 ww hh).take n,c ∈ K') ∧ Keep [H.length] (Hk ++ [(0,box)]) H4 ∧ H4.length=Hk.length + 1) (fun _ _ _ _=>False) (Nat.lt_succ_self _) ?_ ?_ ?_ ?_
    · refine ⟨rfl,by simp (maxDischargeDepth:=8) only [go_sem,hw],?_⟩; subst hcs; simp (maxDischargeDepth:=8) only [go_sem,hapGet]
    · exact ⟨rfl,_,K,rfl,hget_app_some _ I.m,I.nd,I.inn,fun _ h=>h,by simp,Keep.refl _ _,by show (Hk ++ [(0,box)]).length=_; rw [List.length_append]; rfl⟩
    · rintro n a b m u hk ⟨rfl,H4,K',hm4,f1,f2',f3,f4,f5,f6,f7⟩
      have kk4:Keep [H.length] Hk H4:=(Keep.app _ _ _).trans f6
      have gk4:=kk4.get gk (by simpa using kj)
      have hF4:FieldAt (Hm H4) k p N cl lv O.dirty.length L:=⟨gk4,(I.o.keep kk4 (fun i hi hc=>jl (by simp at hc; exact hc ▸ hi))).lies iF_even,I.len,w1,w2⟩
      have hin:N.has a b=true:=by
        have:=cellsP_mem.1 (List.mem_of_getElem? hk)
        have:=has_iff.1 this
        exact (has_w w1 w2).2 (by omega)
      have htk:∀ c,c ∈ (cellsP a0 b0 ww hh).take (n + 1) → c ∈ (cellsP a0 b0 ww hh).take n ∨ c=(a,b):=by
        intro c hc
        rw [List.take_add_one,hk] at hc
        simpa using hc
      have hbx:hget H4 Hk.length 0=some box:=f6.get (by rw [hget_new0]; rfl) (by simp; omega)
      by_cases hmem:(a,b) ∈ K'
      · have hal:alGet (a,b) (wasL N (O.clrs cl) K')=some (N.at' (O.clrs cl) a b):=by rw [was_get,if_pos hmem]
        refine ⟨m,none,true,?_,?_,.inl ?_,fun _=>⟨rfl,H4,K',hm4,f1,f2',f3,f4,fun c hc=>(htk c hc).elim (f5 c) (fun e=>e ▸ hmem),f6,f7⟩,fun h=>by cases h⟩
        · subst hm4
          intro fs e
          rw [RV_go (l:=⟨.ready,none,_,_,_,_⟩) _ _ _ (by simp (maxDischargeDepth:=8) only [go_sem]; rfl) rfl rfl (by simp (maxDischargeDepth:=8) only [go_sem,hw])]
          simp (maxDischargeDepth:=8) only [go_sem,hw,hH,f1,assoc_cell,hal,Option.getD_some,Option.isSome_some]
        · subst hm4
          refine ⟨by simp (maxDischargeDepth:=8) only [go_sem],by simp (maxDischargeDepth:=8) only [go_sem,hw],?_⟩
          subst hcs
          simp (maxDischargeDepth:=8) only [go_sem,hbx]
        · subst hm4; simp (maxDischargeDepth:=8) only [go_sem,f7]; simp [f7]
      · have hal:alGet (a,b) (wasL N (O.clrs cl) K')=none:=by rw [was_get,if_neg hmem]
        have hsm:N.at' L a b=N.at' (O.clrs cl) a b:=by
          by_cases e:N.at' L a b=N.at' (O.clrs cl) a b
          · exact e
          · exact absurd (f4 _ (I.ch a b e)) hmem
        have eS:assocSet (.agg [.int .i64 a,.int .i64 b]) (.int .i64 (N.at' L a b)) (alV cellW intV (wasL N (O.clrs cl) K'))=alV cellW intV (wasL N (O.clrs cl) (K' ++ [(a,b)])):=by
          rw [hsm,← was_add N (O.clrs cl) (a,b) K' hmem]
          exact set_al (g:=intV) seq_cell (a,b) _ _
        have hbj:X.hb ≤ H.length:=by omega
        have jlt:H.length < Hk.length:=lHk
        refine ⟨m.hp (H4.set H.length (0,.map (alV cellW intV (wasL N (O.clrs cl) (K' ++ [(a,b)]))))),none,true,?_,?_,.inl ?_,fun _=>⟨rfl,_,K' ++ [(a,b)],by rw [hm4]; rfl,?_,?_,?_,fun c hc=>List.mem_append_left _ (f4 c hc),?_,?_,?_⟩,fun h=>by cases h⟩
        · subst hm4
          intro fs e
          rw [RV_go (l:=⟨.ready,none,_,_,_,_⟩) _ _ _ (by simp (maxDischargeDepth:=8) only [go_sem]; rfl) rfl rfl (by simp (maxDischargeDepth:=8) only [go_sem,hw])]
          simp (maxDischargeDepth:=8) only [go_sem,hw,hH,f1,assoc_cell,hal,Option.getD_none,Option.isSome_none,r_clear_At hF4,eS,hbj]
        · subst hm4
          refine ⟨by simp (maxDischargeDepth:=8) only [go_sem],by simp (maxDischargeDepth:=8) only [go_sem,hw],?_⟩
          subst hcs
          simp (maxDischargeDepth:=8) only [go_sem,hget_set_ne (Nat.ne_of_lt jlt),hbx]
        · subst hm4; simp (maxDischargeDepth:=8) only [go_sem,f7]; simp [f7]
        · rw [hget_set_eq (by omega)]; rfl
        · rw [List.nodup_append]
          exact ⟨f2',by simp,fun x hx y hy e=>by simp at hy; subst hy; subst e; exact hmem hx⟩
        · intro c hc
          rcases List.mem_append.1 hc with h | h
          · exact f3 c h
          · simp at h; subst h; exact hin
        · intro c hc
          rcases htk c hc with h | h
          · exact List.mem_append_left _ (f5 c h)
          · exact List.mem_append_right _ (by simp [h])
        · exact f6.trans (Keep.set (by simp) _ _)
        · rw [List.length_set,f7]
    · rintro M' U rfl hb hn (⟨rfl,H4,K',hm4,f1,f2',f3,f4,f5,f6,f7⟩ | ⟨_,_,h⟩)
      · subst hm4
        rw [List.take_length] at f5
        have kk4:Keep [H.length] Hk H4:=(Keep.app _ _ _).trans f6
        have gk4:=kk4.get gk (by simpa using kj)
        have oL4:=I.o.keep kk4 (fun i hi hc=>jl (by simp at hc; exact hc ▸ hi))
        subst hcs
        have hO4:WorldOwn H4 p N:=((((hO.keep k1 (by simp)).keep k2 (by simp)).keep I.kp hpj).keep kk4 (fun i hi hc=>by simp at hc; have:=hO.at_.lt i hi; omega))
        simp (maxDischargeDepth:=8) only [go_sem,hw]
        generalize hz:RF tb f_clear_Field_reckon _ _=z
        obtain ⟨n',H5,L',rfl,o5,rk,k5,-⟩:=reckonR_of a0 b0 ww hh hz (by omega) (by omega) gk4 oL4 I.len I.rg hF.kn (fun i hi=>(hpn i hi).2) hm hO4 hg (by simp (maxDischargeDepth:=8) only [go_sem,hw])
        change Keep (slFp lv) H4 H5 at k5
        simp (maxDischargeDepth:=8) only [go_sem,hw,wrap_succ (show i ≤ 4611686018427387903 by omega),ldk.lv]
        rw [KL_keep _ _ _ (by simp (maxDischargeDepth:=8) only [go_sem,ldk.lv])]
        simp (maxDischargeDepth:=8) only [go_sem]
        refine ih (i + 1,H5,K',L') ⟨by dsimp only; omega,⟨k5.get f1 jl,o5,rk.len.trans I.len,rk.rg,GoodL.step w1 w2 (hdr ▸ I.gd) (rk.to hwide),f2',f3,fun x y hne=>?_,(I.kp.trans (kk4.weak (by simp))).trans (k5.weak (fun n hn _=>List.mem_cons_of_mem _ hn))⟩⟩ (by dsimp only; omega)
        by_cases hP:inP a0 b0 ww hh x y
        · refine f5 _ (cellsP_mem.2 (has_iff.2 ⟨?_,by omega⟩))
          rw [mayB,last_eq (by omega) (by omega),last_eq (by omega) (by omega)]
          simp only [nearC,nearP,sideB,Bool.and_eq_true,decide_eq_true_eq]
          omega
        · rw [rk.out x y hP] at hne
          exact f4 _ (I.ch x y hne)
      · cases h
  · obtain rfl:i=rs.length:=by omega
    have Ig:=I.gd
    rw [List.drop_length] at Ig
    obtain rfl:L=N.clrs cl:=Ig.done w1 w2 I.len I.rg
    have hOk:WorldOwn Hk p N:=(((hO.keep k1 (by simp)).keep k2 (by simp)).keep I.kp hpj)
    have klt:=hget_lt gk
    obtain ⟨H6,hH6⟩:∃ H6,Hk.set k (0,SBk.cells true (fieldC p N cl lv N.dirty.length))=H6:=⟨_,rfl⟩
    have k6:Keep [k] Hk H6:=by rw [← hH6]; exact Keep.set (by simp) _ _
    have g6:hget H6 k 0=some (.cells true (fieldC p N cl lv N.dirty.length)):=by rw [← hH6,hget_set_eq klt]; rfl
    have m6:=k6.get I.m (by simpa using kj.symm)
    have o6:=I.o.keep k6 (fun i hi hc=>by simp at hc; exact hF.kn (hc ▸ hi))
    simp (maxDischargeDepth:=8) only [go_sem,show decide ((rs.length:Int) < (rs.length:Int))=false from decide_eq_false (by omega),hw,gk,fieldC,r_grid_World_Epoch hOk.at_,hkb]
    have hH6':=hH6
    unfold fieldC at hH6'
    rw [hH6']
    obtain ⟨Z,hZ⟩:∃ Z,(X.hp H6).shutH=Z:=⟨_,rfl⟩
    have hZw:Z.Wf:=by rw [← hZ]; exact hw
    have hZd:Z.dep=X.dep:=by rw [← hZ]; rfl
    have hZh:Z.heap=H6:=by rw [← hZ]; rfl
    have f6:FieldAt (Hm Z.heap) k p N cl lv N.dirty.length (N.clrs cl):=by rw [hZh]; exact ⟨g6,o6.lies iF_even,I.len,w1,w2⟩
    have hpre:RO tb false [⟨some 100,.load none (.t 4),none,false⟩] [(1,SV.ptr (Bk.st X.dep 0) 0),(4,SV.ptr (Bk.st X.dep 1) 0),(13,SV.int IntKind.i64 0)] ((X.hp H6).fr [SBk.cells true [SV.ptr (Bk.hp k 0) 0],SBk.cells true [SV.map (Bk.hp H.length 0)]] none)
      = some ([(100,SV.map (Bk.hp H.length 0)),(1,SV.ptr (Bk.st X.dep 0) 0),(4,SV.ptr (Bk.st X.dep 1) 0),(13,SV.int IntKind.i64 0)],(X.hp H6).fr [SBk.cells true [SV.ptr (Bk.hp k 0) 0],SBk.cells true [SV.map (Bk.hp H.length 0)]] none):=by
      apply RO_KO
      simp (maxDischargeDepth:=8) only [go_sem,hw]
    have hnew:((X.hp H6).fr [SBk.cells true [SV.ptr (Bk.hp k 0) 0],SBk.cells true [SV.map (Bk.hp H.length 0)]] none).shutH.new true .iter=some (.st Z.dep 2,Z.fr [SBk.cells true [SV.ptr (Bk.hp k 0) 0],SBk.cells true [SV.map (Bk.hp H.length 0)],.iter] none):=by
      show (((X.hp H6).shutH).fr [SBk.cells true [SV.ptr (Bk.hp k 0) 0],SBk.cells true [SV.map (Bk.hp H.length 0)]] none).new true .iter=_
      rw [hZ]
      simp (maxDischargeDepth:=8) only [go_sem,hZw]
    have hce:cntK N (O.clrs cl) (N.clrs cl) K=cntJ (O.clrs cl) (N.clrs cl):=cnt_same w1 w2 I.nd I.inn I.ch hF.len
    have hcl:cntJ (O.clrs cl) (N.clrs cl) ≤ 16384:=by
      refine Nat.le_trans List.countP_le_length ?_
      rw [List.length_range,hF.len]
      exact Nat.mul_le_mul (show N.w.toNat ≤ 128 by omega) (show N.h.toNat ≤ 128 by omega)
    have hcnt:=upd_count hZw f6 (L0:=O.clrs cl) H.length K 0 ((101,.ptr (.st Z.dep 2) 0) :: [(100,SV.map (Bk.hp H.length 0)),(1,SV.ptr (Bk.st Z.dep 0) 0),(4,SV.ptr (Bk.st Z.dep 1) 0),(13,SV.int IntKind.i64 0)]) (Z.fr [SBk.cells true [SV.ptr (Bk.hp k 0) 0],SBk.cells true [SV.map (Bk.hp H.length 0)],.iter] none) (by
      unfold headM hdFr
      simp (maxDischargeDepth:=8) only [go_sem,hZw,isPtr,isIter]) (by rw [hce]; omega)
    have hrm:=RC_rangem_of (F:=tb) (mp:=.t 100) (it:=101) (nx:=102) (more:=103) (out:=4) (next:=5) (pair:=104) (ks:=[1,13,101]) (asg:=umA) (body:=pc449) hpre (j:=H.length) (v:=0) rfl (by show _=_; simp (maxDischargeDepth:=8) only [go_sem,m6]; rfl) hnew (by rw [hZd] at hcnt ⊢; exact hcnt)
    have hre:(Z.fr [SBk.cells true [SV.ptr (Bk.hp k 0) 0],SBk.cells true [SV.map (Bk.hp H.length 0)],SBk.iter] none).reopenH ((X.hp H6).fr [SBk.cells true [SV.ptr (Bk.hp k 0) 0],SBk.cells true [SV.map (Bk.hp H.length 0)]] none)=(X.hp H6).fr [SBk.cells true [SV.ptr (Bk.hp k 0) 0],SBk.cells true [SV.map (Bk.hp H.length 0)],SBk.iter] none:=by rw [← hZ]; rfl
    rw [RK,hrm,Option.bind_some,hre,hce,Nat.zero_add]
    have hun:∀ K' fr' m',unK tb K' (SEx.normal,fr',m')=RJ tb K' .normal fr' m':=fun _ _ _=>rfl
    rw [hun]
    simp (maxDischargeDepth:=8) only [go_sem,hw]
    have kA:Keep (slFp lv) H Hk:=(((k1.trans k2).weak (by simp)).trans I.kp).weak (fun n hn hl=>by
      rcases List.mem_cons.1 hn with h | h
      · omega
      · exact h)
    have kAll:Keep (k :: slFp lv) H H6:=(kA.weak (fun n hn _=>List.mem_cons_of_mem _ hn)).trans (k6.weak (by simp))
    have hlk:=hget_lt hF.hd
    refine ⟨_,rfl,⟨?_,o6.congr fun i hi=>?_,I.len,hF.kn⟩,kAll.take (by omega)⟩
    · unfold hget at g6 ⊢
      rw [List.getElem?_take,if_pos (by omega)]
      exact g6
    · have:=hF.ho.fp i hi
      rw [List.getElem?_take,if_pos (by omega)]
theorem update_of {X:Mem} {k:Nat} {p:WP} {O N:Wd} {rs:List Rc} {cl:Int} {lv:SV} {z:Option (SV × Mem)} (hz:RF tb f_clear_Field_Update [.ptr (.hp k 0) 0] X=z) (hF:FieldOwn X.heap k p N cl lv O.dirty.length (O.clrs cl)) (hS:Since O N rs) (hB:BlOk N) (hO:WorldOwn X.heap p N) (hg:N.Good) (hpn:∀ i ∈ p.fp,i ≠ k ∧ i ∉ slFp lv) (hm:∀ i ∈ slFp lv,X.hb ≤ i) (hkb:X.hb ≤ k) (hw:X.Wf) (hhb:X.hb ≤ X.hl) (hd:N.dirty.length ≤ 1000000) :
    ∃ H',z=some (.tup [.int .i64 (cntJ (O.clrs cl) (N.clrs cl):Nat),.int .i64 0],X.hp H') ∧ FieldOwn H' k p N cl lv N.dirty.length (N.clrs cl) ∧ Keep (k :: slFp lv) X.heap H':=by
  subst hz; exact r_clear_Update hF hS hB hO hg hpn hm hkb hw hhb hd
end Go.Sh.T
