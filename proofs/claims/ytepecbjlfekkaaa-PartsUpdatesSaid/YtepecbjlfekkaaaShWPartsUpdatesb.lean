import Derived.Test.YtepecbjlfekkaaaShWPartsUpdatesa
import Derived.Test.YtepecbjlfekkaaaShArg
set_option linter.all false
set_option linter.unusedVariables false
set_option linter.unusedSimpArgs false
set_option autoImplicit false
namespace Go.Sh.T
open Go.Sh
set_option maxHeartbeats 8000000
set_option maxRecDepth 20000
inductive RoundsN (F:Tbl) (b:Bk) (P:Mem → Prop) (H:Nat):List (List SV) → Mem → Option Nat → Mem → Option Nat → Bool → Prop
  | nil (m:Mem) (u:Option Nat):RoundsN F b P H [] m u m u true
  | stop {x:List SV} {L:List (List SV)} {m m':Mem} {u d:Option Nat} (h:Yields F b x m m' d false) (hp:P m') (hk:m'.hl=m.hl ∨ ∃ k,d=some k ∧ k < H):RoundsN F b P H (x :: L) m u m' (escMin u d) false
  | next {x:List SV} {L:List (List SV)} {m m' m'':Mem} {u d u':Option Nat} {go:Bool} (h:Yields F b x m m' d true) (hp:P m') (hk:m'.hl=m.hl ∨ ∃ k,d=some k ∧ k < H) (t:RoundsN F b P H L m' (escMin u d) m'' u' go):RoundsN F b P H (x :: L) m u m'' u' go
theorem noted_next {H:Nat} {m m':Mem} {u d:Option Nat} (h:Noted H m u) (hk:m'.hl=m.hl ∨ ∃ k,d=some k ∧ k < H):Noted H m' (escMin u d):=by
  rcases hk with hk | ⟨k,rfl,hk⟩
  · rcases h with h | ⟨j,rfl,hj⟩
    · exact .inl (hk.trans h)
    · cases d with
      | none=>exact .inr ⟨j,rfl,hj⟩
      | some d=>exact .inr ⟨min j d,rfl,by omega⟩
  · cases u with
    | none=>exact .inr ⟨k,rfl,hk⟩
    | some j=>exact .inr ⟨min j k,rfl,by omega⟩
theorem RoundsN.noted {F:Tbl} {b:Bk} {P:Mem → Prop} {H:Nat} {L:List (List SV)} {m m':Mem} {u u':Option Nat} {go:Bool} (h:RoundsN F b P H L m u m' u' go) (h0:Noted H m u):Noted H m' u':=by
  induction h with
  | nil=>exact h0
  | stop _ _ hk=>exact noted_next h0 hk
  | next _ _ hk _ ih=>exact ih (noted_next h0 hk)
theorem RoundsN.weak {F:Tbl} {b:Bk} {P:Mem → Prop} {H H':Nat} {L:List (List SV)} {m m':Mem} {u u':Option Nat} {go:Bool} (h:RoundsN F b P H L m u m' u' go) (hh:H ≤ H'):RoundsN F b P H' L m u m' u' go:=by
  induction h with
  | nil=>exact .nil _ _
  | stop h hp hk=>exact .stop h hp (hk.imp_right fun ⟨k,h1,h2⟩=>⟨k,h1,by omega⟩)
  | next h hp hk _ ih=>exact .next h hp (hk.imp_right fun ⟨k,h1,h2⟩=>⟨k,h1,by omega⟩) ih
theorem RoundsN.last {F:Tbl} {b:Bk} {P:Mem → Prop} {H:Nat} {L:List (List SV)} {m m':Mem} {u u':Option Nat} {go:Bool} (h:RoundsN F b P H L m u m' u' go) (h0:P m):P m':=by
  induction h with
  | nil=>exact h0
  | stop _ hp=>exact hp
  | next _ hp _ _ ih=>exact ih hp
theorem stands_has {W:Wd} {cl sz x y:Int} (h:W.stands cl sz x y=true):W.has x y=true:=by
  simp only [Wd.stands,Bool.and_eq_true] at h
  have h:=h.1
  unfold footR at h
  split at h
  · simp only [withinB,Bool.and_eq_true] at h
    exact h.1.2
  · simp only [withinB,Bool.and_eq_true] at h
    have:mayB 0 0 0 0=true:=h.1.1
    exact absurd this (by decide)
theorem isDir_in {d:Int} (h:isDir d=true):0 ≤ d ∧ d ≤ 7:=by simpa [isDir] using h
def Wd.met (W:Wd) (cl sz x y:Int) (j:Nat):List SV:=(List.range 8).map fun d=>.bool (decide (d + j < 8) && W.steps cl sz x y (d:Int))
theorem stands_in {W:Wd} {cl sz x y:Int} (h:W.stands cl sz x y=true):footR cl sz x y=(x,y,sz,sz) ∧ mayS cl sz=true ∧ mayB x y sz sz=true ∧ W.has x y=true ∧ W.has (x + sz - 1) (y + sz - 1)=true ∧ ∀ a b,hasB x y sz sz a b=true → W.free cl a b=true:=by
  have hf:footR cl sz x y=(x,y,sz,sz) ∧ mayS cl sz=true ∧ mayB x y sz sz=true:=by
    unfold footR
    split
    · rename_i hc; rw [Bool.and_eq_true] at hc; exact ⟨rfl,hc.1,hc.2⟩
    · rename_i hc
      unfold Wd.stands footR at h
      rw [if_neg hc] at h
      simp only [withinB,Bool.and_eq_true] at h
      exact absurd h.1.1.1 (by decide)
  unfold Wd.stands at h
  rw [hf.1] at h
  simp only [withinB,Bool.and_eq_true,Bool.not_eq_true'] at h
  obtain ⟨⟨⟨h1,h2⟩,h3⟩,h4⟩:=h
  have hl:=may_last h1
  rw [hl.1,hl.2] at h3
  refine ⟨hf.1,hf.2.1,hf.2.2,h2,h3,fun a b hab=>?_⟩
  have:=List.any_eq_false.1 h4 (a,b) (cellsP_mem.2 hab)
  simpa using this
theorem may_sub {x y w h w' h':Int} (hm:mayB x y w h=true) (h1:1 ≤ w' ∧ w' ≤ w) (h2:1 ≤ h' ∧ h' ≤ h):mayB x y w' h'=true:=by
  have a1:=may_in hm
  have a2:=may_sides hm
  have a3:=may_last hm
  rw [a3.1,a3.2] at a1
  have e1:lastX x w'=x + w' - 1:=by unfold lastX; rw [wrap_small (x:=x + w') (by omega) (by omega),wrap_small (by omega) (by omega)]
  have e2:lastX y h'=y + h' - 1:=by unfold lastX; rw [wrap_small (x:=y + h') (by omega) (by omega),wrap_small (by omega) (by omega)]
  simp only [mayB,nearC,nearP,sideB,e1,e2,Bool.and_eq_true,decide_eq_true_eq]
  omega
theorem stands_of {W:Wd} {cl sz x y:Int} (h1:mayS cl sz=true) (h2:mayB x y sz sz=true) (h3:W.has x y=true) (h4:W.has (x + sz - 1) (y + sz - 1)=true) (h5:∀ a b,hasB x y sz sz a b=true → W.free cl a b=true):W.stands cl sz x y=true:=by
  have hf:footR cl sz x y=(x,y,sz,sz):=by unfold footR; rw [h1,h2]; rfl
  unfold Wd.stands
  rw [hf]
  have hl:=may_last h2
  simp only [withinB,Bool.and_eq_true,Bool.not_eq_true',hl.1,hl.2]
  refine ⟨⟨⟨h2,h3⟩,h4⟩,?_⟩
  rw [List.any_eq_false]
  rintro ⟨a,b⟩ hab
  simpa using h5 a b (cellsP_mem.1 hab)
theorem stands_small {W:Wd} {cl sz x y n:Int} (h:W.stands cl sz x y=true) (hn:1 ≤ n ∧ n ≤ sz):W.stands cl n x y=true:=by
  obtain ⟨-,h1,h2,h3,h4,h5⟩:=stands_in h
  have hm:=may_sub h2 hn hn
  refine stands_of ?_ hm h3 ?_ fun a b hab=>h5 a b ?_
  · simp only [mayS,Bool.and_eq_true,decide_eq_true_eq] at h1 ⊢; omega
  · have a1:=has_iff.1 h3
    have a2:=has_iff.1 h4
    exact has_iff.2 ⟨a1.1,by omega⟩
  · have:=has_iff.1 hab
    exact has_iff.2 ⟨h2,by omega⟩
section
open Go.RowKit Go.WideShapes
theorem slB_cases {α:Type} (d:Fl α) (s:Sl α):slB d s=[] ∨ slB d s=[s.l.flatMap d.enc]:=by
  unfold slB; split <;> simp
theorem blk_at {n0:In} {L:List (List SV)} (h:n0.map (·.2)=L) {j:Nat} {c:List SV} (hj:L[j]? = some c) (pre post:In):∃ t,(pre ++ n0 ++ post)[pre.length + j]? = some (t,c):=by
  rw [← h,List.getElem?_map] at hj
  cases hx:n0[j]? with
  | none=>rw [hx] at hj; cases hj
  | some x =>
    rw [hx] at hj
    simp only [Option.map_some,Option.some.injEq] at hj
    have hlt:=(List.getElem?_eq_some_iff.1 hx).1
    refine ⟨x.1,?_⟩
    rw [List.append_assoc,List.getElem?_append_right (Nat.le_add_right _ _),Nat.add_sub_cancel_left,List.getElem?_append_left hlt,hx,← hj]
theorem sl_inG {α:Type} {d:Fl α} (hd:d.Even) {P:Program} {e:TypeId} {ok:α → Prop} {s:Sl α} (hok:slOk P e ok s) {pre n0 post:In} {A B:List (List SV)} (e0:n0.map (·.2)=A ++ slB d s ++ B):LiesD d (In.mem (pre ++ n0 ++ post)) (slV d s (pre.length + A.length)) s.l:=by
  refine lies_in hd hok.2.2.2.1 hok.2.2.2.2 ?_
  rcases slB_cases d s with h | h
  · exact .inl h
  · refine .inr ⟨_,h,?_⟩
    rw [h] at e0
    obtain ⟨t,ht⟩:=blk_at e0 (j:=A.length) (c:=s.l.flatMap d.enc) (by simp) pre post
    exact In.get (x:=(t,_)) ht
theorem sl_bd {α:Type} {P:Program} {e:TypeId} {ok:α → Prop} {s:Sl α} (hok:slOk P e ok s) {b:Nat} (hb:P.bytesOf e=b):2 * s.l.length * b ≤ two48:=by
  have:=hok.2.1
  rw [hb] at this
  have h2:2 * s.l.length * b=2 * (s.l.length * b):=Nat.mul_assoc _ _ _
  simp only [two48,reachBytes,maxLen] at *
  omega
abbrev Bl':=Int × ((Int × Int) × (Int × Int))
abbrev bldF':Fl Bl':=Fl.pair (Fl.int .i64) (Fl.pair (Fl.pair (Fl.int .i64) (Fl.int .i64)) (Fl.pair (Fl.int .i64) (Fl.int .i64)))
theorem bldF'_even:bldF'.Even:=⟨fun _=>rfl⟩
def bl5 (b:Bl'):Bld:=(b.1,b.2.1.1,b.2.1.2,b.2.2.1,b.2.2.2)
theorem bl5_lies {m:Mem} {v:SV} {l:List Bl'} (h:LiesD bldF' m v l):LiesD bldF m v (l.map bl5):=by
  unfold LiesD at *
  rw [List.length_map,show (l.map bl5).flatMap bldF.enc=l.flatMap bldF'.enc by rw [List.flatMap_map]; rfl]
  exact h
abbrev MT:=Int × Int × Sl Int × Sl Bl'
abbrev rdM:Rd MT:=Rd.pair (Rd.flat (Fl.int .i64)) (Rd.pair (Rd.flat (Fl.int .i64)) (Rd.pair (Rd.slice byteF) (Rd.slice bldF')))
theorem rdM_blks (a:MT) (n:Nat):rdM.blks a n=slB byteF a.2.2.1 ++ slB bldF' a.2.2.2:=by simp [rdM,Rd.pair,Rd.flat,Rd.slice]
theorem mapIn_of {P:Program} {e e':TypeId} {okB:Bl' → Prop} {t:Sl Int} {b:Sl Bl'} (h1:slOk P e (inR .u8) t) (h2:slOk P e' okB b) (hB:P.bytesOf e'=40) {pre n0 post:In} (e0:n0.map (·.2)=slB byteF t ++ slB bldF' b) :
    MapIn (In.mem (pre ++ n0 ++ post)) (slV byteF t pre.length) (slV bldF' b (pre.length + (slB byteF t).length)) t.l (b.l.map bl5):=by
  refine ⟨?_,fun x hx=>inR_u8 (h1.2.2.1 x hx),?_,?_⟩
  · have:=sl_inG byteF_even h1 (pre:=pre) (post:=post) (A:=[]) (B:=slB bldF' b) e0
    exact this
  · have:=sl_inG bldF'_even h2 (pre:=pre) (post:=post) (A:=slB byteF t) (B:=[]) (by rw [List.append_nil]; exact e0)
    exact bl5_lies this
  · have:=sl_bd h2 hB
    rw [List.length_map]
    omega
end
abbrev boolF:Fl Bool:=Fl.bool
theorem boolF_even:boolF.Even:=⟨fun _=>rfl⟩
theorem boolF_ok (l:List Bool):SV.cellsOk 0 0 (l.flatMap boolF.enc)=true:=cellsOk_flat (fun _=>rfl) l
theorem hxs_bool (l:List Bool):SV.hxs (l.flatMap boolF.enc)=0:=by induction l with | nil=>rfl | cons a l ih=>simp only [List.flatMap_cons]; exact ih
theorem _root_.Go.Sh.LiesD.iaddrT {m:Mem} {v:SV} {l:List Bool} (h:LiesD boolF m v l) {i:Int} (h0:0 ≤ i) (hi:i < l.length) (k:IntKind) (m':Mem):iaddrV 1 v (.int k i) m'=some (.ptr (.hp (slN v) (slW v)) (slO v + i.toNat),m'):=by
  have:=LiesD.iaddr h (i:=i.toNat) (by omega) k m'
  rw [show boolF.sz=1 from rfl,Nat.mul_one,Int.toNat_of_nonneg h0] at this
  exact this
theorem _root_.Go.Sh.LiesD.loadT {m:Mem} {v:SV} {l:List Bool} (h:LiesD boolF m v l) {i:Nat} {a:Bool} (hi:l[i]? = some a) {X:Mem} (hX:HpSub m X):X.load (.hp (slN v) (slW v)) (slO v + i) none=some (.bool a):=by
  have:=LiesD.load1 boolF_even (h.sub hX) hi (j:=0) (by decide)
  rw [show boolF.sz=1 from rfl,Nat.mul_one,Nat.add_zero] at this
  exact this
theorem app1T {H0 H:Hp} {v:SV} {l:List Bool} (ow:Own boolF H v l) (fp:∀ i ∈ slFp v,H0.length ≤ i) (kk:Keep [] H0 H) (hb:l.length ≤ 1000000) (X:Mem) (hhb:X.hb ≤ H0.length) (a:Bool) :
    ∃ v' H',(∀ f e,appV 1 1 [.bool false] (fun _=>true) v (.sl (.hp H.length 0) 0 1 (some 1) 1) ((X.hp (H ++ [(0,.cells true [.bool a])])).fr f e)=some (v',(X.hp H').fr f e)) ∧ Own boolF H' v' (l ++ [a]) ∧ Keep [] H0 H' ∧ (∀ i ∈ slFp v',H0.length ≤ i) ∧ IsSl v':=by
  have hyl:LiesD boolF (Hm (H ++ [(0,.cells true [.bool a])])) (.sl (.hp H.length 0) 0 1 (some 1) 1) [a]:=(own_new boolF_even H [a] (some 1)).lies boolF_even
  obtain ⟨v',H2,ha,o1,o2,o3,⟨o4,o5,o6⟩,o7⟩:=app_own boolF_even (by decide) boolF_ok hxs_bool (ow.keep (Keep.app [] H [(0,.cells true [.bool a])]) (by simp)) hyl (bytes:=1) (by simp only [List.length_singleton,two48]; omega) (by simp only [List.length_singleton,two48]; omega) X (fun i hi=>by have:=fp i hi; omega)
  have ha':=ha [.bool false] rfl (fun _=>true) (ow.aw (fun _ _=>rfl))
  refine ⟨v',H2,ha',o1,(kk.trans (Keep.app [] _ _)).trans' o2 (fun n hn hl=>by have:=fp n hn; omega),fun i hi=>?_,o1.isSl boolF_even⟩
  have:=kk.1
  rcases o3 i hi with h | h
  · exact fp i h
  · rw [List.length_append] at h; omega
def Wd.gr (W:Wd) (cl sz:Int):List Bool:=(List.range (W.w.toNat * W.h.toNat)).map fun n=>W.stands cl sz ((n % W.w.toNat:Nat):Int) ((n / W.w.toNat:Nat):Int)
theorem gr_len (W:Wd) (cl sz:Int):(W.gr cl sz).length=W.w.toNat * W.h.toNat:=by simp [Wd.gr]
theorem gr_at {W:Wd} {cl sz:Int} {x y:Nat} (hx:x < W.w.toNat) (hy:y < W.h.toNat):(W.gr cl sz)[y * W.w.toNat + x]? = some (W.stands cl sz x y):=by
  have h1:y * W.w.toNat + x < W.w.toNat * W.h.toNat:=by
    have:W.w.toNat * (y + 1) ≤ W.w.toNat * W.h.toNat:=Nat.mul_le_mul_left _ hy
    rw [Nat.mul_add,Nat.mul_comm] at this
    omega
  have h2:(y * W.w.toNat + x) % W.w.toNat=x:=by rw [Nat.mul_comm,Nat.mul_add_mod,Nat.mod_eq_of_lt hx]
  have h3:(y * W.w.toNat + x) / W.w.toNat=y:=by rw [Nat.mul_comm,Nat.mul_add_div (by omega),Nat.div_eq_of_lt hx,Nat.add_zero]
  simp only [Wd.gr,List.getElem?_map,List.getElem?_range h1,Option.map_some,h2,h3]
abbrev grV (w h:Int) (v:SV):SV:=.agg [.int .i64 w,.int .i64 h,v]
theorem not_has {W:Wd} {x y:Int} (h:¬ (0 ≤ x ∧ x < W.w ∧ 0 ≤ y ∧ y < W.h)) (cl sz:Int):W.stands cl sz x y=false:=by
  cases h1:W.stands cl sz x y with
  | false=>rfl
  | true =>
    have:=has_in (stands_has h1)
    omega
theorem r_ref08_Ground_Stands {m:Mem} {v:SV} {W:Wd} {cl sz:Int} (hv:LiesD boolF m v (W.gr cl sz)) (w1:1 ≤ W.w ∧ W.w ≤ 128) (w2:1 ≤ W.h ∧ W.h ≤ 128) {X:Mem} (hX:HpSub m X) (hw:X.Wf) (x y:Int):RF tb f_ref08_Ground_Stands [grV W.w W.h v,cellV x y] X=some (.bool (W.stands cl sz x y),X):=by
  rw [RF_go t_ref08_Ground_Stands _ _ rfl]
  simp (maxDischargeDepth:=8) only [go_sem,s_ref08_Ground_Stands,cellV,grV,hw,hX,hv.cell]
  by_cases c1:0 ≤ x
  · simp (maxDischargeDepth:=8) only [go_sem,hw,show decide (x ≥ 0)=true from decide_eq_true c1]
    by_cases c2:x < W.w
    · simp (maxDischargeDepth:=8) only [go_sem,hw,show decide (x < W.w)=true from decide_eq_true c2]
      by_cases c3:0 ≤ y
      · simp (maxDischargeDepth:=8) only [go_sem,hw,show decide (y ≥ 0)=true from decide_eq_true c3]
        by_cases c4:y < W.h
        · have e4:W.w.toNat * W.h.toNat ≤ 128 * 128:=Nat.mul_le_mul (by omega) (by omega)
          have hat:=gr_at (W:=W) (cl:=cl) (sz:=sz) (x:=x.toNat) (y:=y.toNat) (by omega) (by omega)
          have hlt:y.toNat * W.w.toNat + x.toNat < (W.gr cl sz).length:=by
            rcases Nat.lt_or_ge (y.toNat * W.w.toNat + x.toNat) (W.gr cl sz).length with h | h
            · exact h
            · rw [List.getElem?_eq_none h] at hat; cases hat
          rw [Int.toNat_of_nonneg c1,Int.toNat_of_nonneg c3] at hat
          rw [gr_len] at hlt
          have e5:y * W.w=((y.toNat * W.w.toNat:Nat):Int):=by rw [Int.natCast_mul,Int.toNat_of_nonneg c3,Int.toNat_of_nonneg (show 0 ≤ W.w by omega)]
          have e6:(y * W.w + x).toNat=y.toNat * W.w.toNat + x.toNat:=by omega
          rw [← e6] at hat
          simp (maxDischargeDepth:=8) only [go_sem,hw,hX,show decide (y < W.h)=true from decide_eq_true c4,hv.cell,wrap_small (x:=y * W.w) (by omega) (by omega),wrap_small (x:=y * W.w + x) (by omega) (by omega),LiesD.iaddrT hv (i:=y * W.w + x) (by omega) (by rw [gr_len]; omega),hv.loadT hat]
        · simp (maxDischargeDepth:=8) only [go_sem,hw,show decide (y < W.h)=false from decide_eq_false c4,not_has (W:=W) (x:=x) (y:=y) (by omega) cl sz]
      · simp (maxDischargeDepth:=8) only [go_sem,hw,show decide (y ≥ 0)=false from decide_eq_false c3,not_has (W:=W) (x:=x) (y:=y) (by omega) cl sz]
    · simp (maxDischargeDepth:=8) only [go_sem,hw,show decide (x < W.w)=false from decide_eq_false c2,not_has (W:=W) (x:=x) (y:=y) (by omega) cl sz]
  · simp (maxDischargeDepth:=8) only [go_sem,hw,show decide (x ≥ 0)=false from decide_eq_false c1,not_has (W:=W) (x:=x) (y:=y) (by omega) cl sz]
theorem r_ref08_Ground_Steps {m:Mem} {v:SV} {W:Wd} {cl sz:Int} (hv:LiesD boolF m v (W.gr cl sz)) (w1:1 ≤ W.w ∧ W.w ≤ 128) (w2:1 ≤ W.h ∧ W.h ≤ 128) {X:Mem} (hX:HpSub m X) (hw:X.Wf) (x y d:Int):RF tb f_ref08_Ground_Steps [grV W.w W.h v,cellV x y,.int .i64 d] X=some (.tup [cellV (if W.steps cl sz x y d then x + turnX d else 0) (if W.steps cl sz x y d then y + turnY d else 0),.bool (W.steps cl sz x y d)],X):=by
  rw [RF_go t_ref08_Ground_Steps _ _ rfl]
  simp (maxDischargeDepth:=8) only [go_sem,s_ref08_Ground_Steps,cellV,grV,hw,hX,hv.cell,r_ref03_Step]
  unfold Wd.steps
  cases h1:stepOk x y d with
  | false=>simp (maxDischargeDepth:=8) only [go_sem,hw] <;> simp
  | true =>
    have hst:=step_in h1
    simp only [stepX,stepY,h1,if_true,Bool.true_and]
    simp (maxDischargeDepth:=8) only [go_sem,hw,hX,r_ref08_Ground_Stands hv w1 w2]
    cases h2:W.stands cl sz x y with
    | false=>simp (maxDischargeDepth:=8) only [go_sem,hw] <;> simp
    | true =>
      simp (maxDischargeDepth:=8) only [go_sem,hw,hX,r_ref08_Ground_Stands hv w1 w2]
      cases h3:W.stands cl sz (x + turnX d) (y + turnY d) with
      | false=>simp (maxDischargeDepth:=8) only [go_sem,hw] <;> simp
      | true =>
        simp (maxDischargeDepth:=8) only [go_sem,hw,hX,r_ref03_Sides]
        cases h4:sideOk x y d with
        | false=>simp (maxDischargeDepth:=8) only [go_sem,hw] <;> simp
        | true =>
          simp (maxDischargeDepth:=8) only [go_sem,hw,hX,r_ref08_Ground_Stands hv w1 w2]
          cases h5:W.stands cl sz (x + turnX d) y with
          | false=>simp (maxDischargeDepth:=8) only [go_sem,hw] <;> simp
          | true =>
            simp (maxDischargeDepth:=8) only [go_sem,hw,hX,r_ref08_Ground_Stands hv w1 w2]
            cases h6:W.stands cl sz x (y + turnY d) with
            | false=>simp (maxDischargeDepth:=8) only [go_sem,hw] <;> simp
            | true=>simp (maxDischargeDepth:=8) only [go_sem,hw] <;> simp
theorem gr_row {W:Wd} {cl sz:Int} {x y:Nat} (hx:x < W.w.toNat) (hy:y < W.h.toNat):(W.gr cl sz).take (W.w.toNat * y + (x + 1))=(W.gr cl sz).take (W.w.toNat * y + x) ++ [W.stands cl sz x y]:=by
  have:=gr_at (W:=W) (cl:=cl) (sz:=sz) hx hy
  rw [Nat.mul_comm] at this
  rw [← Nat.add_assoc,List.take_add_one,this]
  rfl
theorem r_ref08_Of {X:Mem} {p:QP} {W:Wd} {bl:List Bld} (hV:RefOwn X.heap p W bl) (ho:∀ a b,(atL bl a b).isSome=(atL W.bl a b).isSome) (hg:W.Good) (hw:X.Wf) (hhb:X.hb ≤ X.hl) (cl sz:Int):∃ v' H',RF tb f_ref08_Of [.ptr (.hp p.k 0) 0,.agg [.int .i64 cl,.int .i64 sz]] X=some (grV W.w W.h v',X.hp H') ∧ Own boolF H' v' (W.gr cl sz) ∧ (∀ i ∈ slFp v',X.heap.length ≤ i) ∧ Keep [] X.heap H':=by
  rw [RF_go t_ref08_Of _ _ rfl,push_hp]
  generalize hH:X.heap=H at *
  have hHl:X.hl=H.length:=by rw [← hH]; rfl
  have w1:=hV.at_.w1
  have w2:=hV.at_.h1
  simp (maxDischargeDepth:=8) only [go_sem,s_ref08_Of,hw,hH,r_ref04_All hV.at_]
  rw [KL_keep _ _ _ (by simp (maxDischargeDepth:=8) only [go_sem])]
  simp (maxDischargeDepth:=8) only [go_sem]
  refine KL_ind (R:=fun z=>∃ v' H',fin [.cell 4 (some 3)] X z=some (grV W.w W.h v',X.hp H') ∧ Own boolF H' v' (W.gr cl sz) ∧ (∀ i ∈ slFp v',H.length ≤ i) ∧ Keep [] H H') (α:=Nat × SV × Hp) (fun q=>W.h.toNat - q.1)
    (fun q=>[(0,.ptr (.hp p.k 0) 0),(3,.ptr (.st X.dep 0) 0),(4,.ptr (.st X.dep 1) 0),(6,.ptr (.st X.dep 3) 0),(7,.int .i64 (q.1:Int))])
    (fun q=>(X.hp q.2.2).fr [.cells true [.int .i64 cl,.int .i64 sz],.cells true [.int .i64 0,.int .i64 0,.nils],.cells true [.int .i64 0,.int .i64 0,.int .i64 W.w,.int .i64 W.h],.cells true [.int .i64 W.w,.int .i64 W.h,q.2.1]] none)
    (fun q=>q.1 ≤ W.h.toNat ∧ Own boolF q.2.2 q.2.1 ((W.gr cl sz).take (W.w.toNat * q.1)) ∧ Keep [] H q.2.2 ∧ (∀ i ∈ slFp q.2.1,H.length ≤ i)) ?_ (0,.nils,H) ⟨Nat.zero_le _,by rw [Nat.mul_zero]; exact Own.nil _,Keep.refl _ _,by simp [slFp]⟩
  rintro ⟨ky,v,Hk⟩ ⟨hky,ow,kk,fp⟩ ih
  dsimp only at hky ow kk fp ⊢
  have s1:=ow.isSl boolF_even
  simp (maxDischargeDepth:=8) only [go_sem,hw,s1.l,s1.o]
  by_cases hlt:ky < W.h.toNat
  · simp (maxDischargeDepth:=8) only [go_sem,show decide ((ky:Int) < W.h)=true from decide_eq_true (by omega),hw,s1.l,s1.o]
    rw [KL_keep _ _ _ (by simp (maxDischargeDepth:=8) only [go_sem])]
    simp (maxDischargeDepth:=8) only [go_sem]
    refine KL_ind (R:=fun z=>∃ v' H',fin [.cell 4 (some 3)] X z=some (grV W.w W.h v',X.hp H') ∧ Own boolF H' v' (W.gr cl sz) ∧ (∀ i ∈ slFp v',H.length ≤ i) ∧ Keep [] H H') (α:=Nat × SV × Hp) (fun q=>W.w.toNat - q.1)
      (fun q=>[(0,.ptr (.hp p.k 0) 0),(3,.ptr (.st X.dep 0) 0),(4,.ptr (.st X.dep 1) 0),(6,.ptr (.st X.dep 3) 0),(7,.int .i64 (ky:Int)),(8,.int .i64 (q.1:Int))])
      (fun q=>(X.hp q.2.2).fr [.cells true [.int .i64 cl,.int .i64 sz],.cells true [.int .i64 0,.int .i64 0,.nils],.cells true [.int .i64 0,.int .i64 0,.int .i64 W.w,.int .i64 W.h],.cells true [.int .i64 W.w,.int .i64 W.h,q.2.1]] none)
      (fun q=>q.1 ≤ W.w.toNat ∧ Own boolF q.2.2 q.2.1 ((W.gr cl sz).take (W.w.toNat * ky + q.1)) ∧ Keep [] H q.2.2 ∧ (∀ i ∈ slFp q.2.1,H.length ≤ i)) ?_ (0,v,Hk) ⟨Nat.zero_le _,ow,kk,fp⟩
    clear ow kk fp s1
    rintro ⟨kx,v,Hk⟩ ⟨hkx,ow,kk,fp⟩ ih'
    dsimp only at hkx ow kk fp ⊢
    have s1:=ow.isSl boolF_even
    simp (maxDischargeDepth:=8) only [go_sem,hw,s1.l,s1.o]
    by_cases hlt':kx < W.w.toNat
    · have hV':=(hV.keep kk (by simp)).at_
      have hlen:((W.gr cl sz).take (W.w.toNat * ky + kx)).length ≤ 1000000:=by
        have e4:W.w.toNat * W.h.toNat ≤ 128 * 128:=Nat.mul_le_mul (by omega) (by omega)
        rw [List.length_take,gr_len]
        omega
      obtain ⟨v',H2,ha,o1,k2,f2,s2⟩:=app1T ow fp kk hlen X (by omega) (W.stands cl sz kx ky)
      rw [← gr_row hlt' hlt] at o1
      simp (maxDischargeDepth:=8) only [go_sem,show decide ((kx:Int) < W.w)=true from decide_eq_true (by omega),hw,s1.l,s1.o,r_ref06_Stands hV' ho hg,ha,s2.l,s2.o,s2.c,s2.k,wrap_succ (show kx ≤ 4611686018427387903 by omega)]
      rw [KL_keep _ _ _ (by simp (maxDischargeDepth:=8) only [go_sem])]
      simp (maxDischargeDepth:=8) only [go_sem]
      exact ih' (kx + 1,v',H2) ⟨by dsimp only; omega,o1,k2,f2⟩ (by dsimp only; omega)
    · obtain rfl:kx=W.w.toNat:=by omega
      simp (maxDischargeDepth:=8) only [go_sem,show decide (((W.w.toNat:Nat):Int) < W.w)=false from decide_eq_false (by omega),hw,s1.l,s1.o,wrap_succ (show ky ≤ 4611686018427387903 by omega)]
      rw [KL_keep _ _ _ (by simp (maxDischargeDepth:=8) only [go_sem])]
      simp (maxDischargeDepth:=8) only [go_sem]
      exact ih (ky + 1,v,Hk) ⟨by dsimp only; omega,by dsimp only; rw [Nat.mul_add,Nat.mul_one]; exact ow,kk,fp⟩ (by dsimp only; omega)
  · obtain rfl:ky=W.h.toNat:=by omega
    simp (maxDischargeDepth:=8) only [go_sem,show decide (((W.h.toNat:Nat):Int) < W.h)=false from decide_eq_false (by omega),hw,s1.l,s1.o,s1.c,s1.k]
    rw [← gr_len (cl:=cl) (sz:=sz),List.take_length] at ow
    refine ⟨v,_,rfl,ow.congr fun i hi=>fin_keep1 (.inr ?_),fp,?_⟩
    · have:=fp i hi
      rw [hx_fp hi]
      omega
    · rw [← hH] at kk ⊢
      exact kk.back1
structure SInvH (l:List Int) (L:List It) (met:List Bool) (n a b:Int):Prop where
  ok:HOk hlt L (fun _=>True)
  el:∀ x ∈ L,∃ j:Nat,x.2.1=(j:Int) ∧ x.2.2=(j:Int) ∧ l[j]? = some x.1 ∧ met[j]? = some false
  nd:(L.map (·.2.1)).Nodup
  ml:met.length=l.length
  n0:0 ≤ n
  nl:n + L.length=l.length
  la:0 < n → ∀ x ∈ L,hlt x (a,b,b)=false
theorem SInvH.pop {l:List Int} {x:It} {T:List It} {met:List Bool} {n a b:Int} (h:SInvH l (x :: T) met n a b):∃ j:Nat,x.2.1=(j:Int) ∧ l[j]? = some x.1 ∧ met[j]? = some false ∧ SInvH l (popL (x :: T)) (met.set j true) (n + 1) x.1 x.2.1 ∧
    (0 < n → aheadI x.1 a=false ∧ (aheadI a x.1=false → ¬ x.2.1 < b)):=by
  obtain ⟨j,e1,e2,e3,e4⟩:=h.el x List.mem_cons_self
  obtain ⟨p1,p2⟩:=pop_perm x T
  have hnd:=h.nd
  rw [List.map_cons,List.nodup_cons] at hnd
  refine ⟨j,e1,e3,e4,⟨p2 h.ok,fun y hy=>?_,?_,?_,?_,?_,fun _ y hy=>?_⟩,fun hn=>?_⟩
  · have hyT:=p1.mem_iff.1 hy
    obtain ⟨i,q1,q2,q3,q4⟩:=h.el y (List.mem_cons_of_mem _ hyT)
    refine ⟨i,q1,q2,q3,?_⟩
    rw [List.getElem?_set_ne]
    · exact q4
    · rintro rfl
      exact hnd.1 (List.mem_map.2 ⟨y,hyT,by rw [q1,e1]⟩)
  · rw [(p1.map _).nodup_iff]; exact hnd.2
  · rw [List.length_set]; exact h.ml
  · have:=h.n0; omega
  · have:=h.nl
    rw [p1.length_eq]
    simp only [List.length_cons] at this
    omega
  · have hyT:=p1.mem_iff.1 hy
    obtain ⟨i,hi⟩:=List.getElem?_of_mem (List.mem_cons_of_mem x hyT)
    have:=root_min hlt_ord h.ok (a:=x) rfl i i y (Nat.le_refl _) hi
    have e:(x.1,x.2.1,x.2.1)=x:=by
      obtain ⟨x1,x2,x3⟩:=x
      dsimp only at e1 e2 ⊢
      rw [e1,e2]
    rw [e]
    exact this
  · have:=h.la hn x List.mem_cons_self
    simp only [hlt,Bool.or_eq_false_iff,Bool.and_eq_false_iff,Bool.not_eq_false',decide_eq_false_iff_not] at this
    refine ⟨this.1,fun h2 h3=>?_⟩
    rcases this.2 with h4 | h4
    · rw [h2] at h4; cases h4
    · rw [e2,← e1] at h4; exact h4 h3
theorem store_ownY {α:Type} {d:Fl α} {H:Hp} {v:SV} {l:List α} (hd:d.Even) (hp:0 < d.sz) (hok:∀ a:α,SV.cellsOk 0 0 (d.enc a)=true) (hx:∀ a:α,SV.hxs (d.enc a)=0) (hv:Own d H v l) {i:Nat} (hi:i < l.length) (a:α) :
    ∃ H',(∀ Y:Mem,Y.heap=H → (∀ i ∈ slFp v,Y.hb ≤ i) → Y.store (.hp (slN v) (slW v)) (slO v + i * d.sz) (d.enc a)=some (Y.hp H')) ∧ Own d H' v (l.set i a) ∧ Keep (slFp v) H H' ∧ H'.length=H.length:=by
  obtain ⟨H',h1,h2,h3,h4⟩:=store_own hd hp hok hx hv hi (⟨[],H,0,0,none⟩:Mem) (fun _ _=>Nat.zero_le _) a
  refine ⟨H',fun Y hY hYb=>?_,h2,h3,h4⟩
  have:=h1 [] none
  rcases hv with ⟨rfl,rfl⟩ | ⟨rfl,rfl⟩ | ⟨n,w,off,cap,c,rfl,q1,q2,q3⟩
  · simp at hi
  · simp at hi
  · subst hY
    have g1:Y.get (.hp n w)=some (.cells true c):=q1
    have g2:Y.may (.hp n w)=true:=decide_eq_true (hYb n (by simp [slFp]))
    have g1':(((⟨[],Y.heap,0,0,none⟩:Mem).hp Y.heap).fr [] none).get (.hp n w)=some (.cells true c):=q1
    have g2':(((⟨[],Y.heap,0,0,none⟩:Mem).hp Y.heap).fr [] none).may (.hp n w)=true:=rfl
    have hle:(i + 1) * d.sz ≤ l.length * d.sz:=Nat.mul_le_mul_right _ hi
    rw [Nat.add_mul,Nat.one_mul] at hle
    simp only [Mem.store,slN,slW,slO,g1',g2',Bk.room,hok a,true_and,if_true,hd.len,hx a] at this
    rw [if_pos (by omega)] at this
    simp only [Mem.store,slN,slW,slO,g1,g2,Bk.room,hok a,true_and,if_true,hd.len,hx a]
    rw [if_pos (by omega)]
    simp only [Option.some.injEq] at this ⊢
    have e1:=congrArg Mem.heap this
    simp only [Mem.note,Mem.set,Mem.fr,Mem.hp,Nat.zero_le,if_true] at e1 ⊢
    rw [← e1]
theorem KL_indX {F:Tbl} {K:List KI} {α ρ:Type} {k:Nat} {ks:Option (List Nat)} {c:SCode} {cond:Mem → Prop} {G:Mem → Option (SEx × Fr × Mem) → ρ → Prop} {Q:ρ → Prop} (μ:α → Nat) (frf:α → Fr) (memf:Mem → α → Mem) (I:α → Prop)
    (step:∀ a,I a → (∀ b,I b → μ b < μ a → ∃ r,Q r ∧ ∀ X,cond X → G X (KL F K k ks c (frf b) (memf X b)) r) → ∃ r,Q r ∧ ∀ X,cond X → G X (KH F K k ks c (headL k ks (frf a) (memf X a))) r) :
    ∀ a,I a → ∃ r,Q r ∧ ∀ X,cond X → G X (KL F K k ks c (frf a) (memf X a)) r:=by
  have key:∀ n a,μ a < n → I a → ∃ r,Q r ∧ ∀ X,cond X → G X (KL F K k ks c (frf a) (memf X a)) r:=by
    intro n
    induction n with
    | zero=>intro a h; omega
    | succ n ih =>
      intro a h hI
      obtain ⟨r,h1,h2⟩:=step a hI fun b hb hlt=>ih b (by omega) hb
      exact ⟨r,h1,fun X hX=>by rw [KL_go]; exact h2 X hX⟩
  exact fun a=>key (μ a + 1) a (by omega)
theorem storeNY {H:Hp} {v:SV} {l:List Nat} (hv:Own natF H v l) {i:Nat} (hi:i < l.length) (B:Nat) (hm:∀ i ∈ slFp v,B ≤ i) (a:Nat) :
    ∃ H',(∀ Y:Mem,Y.heap=H → Y.hb=B → Y.store (.hp (slN v) (slW v)) (slO v + i) [.int .i64 (a:Int)]=some (Y.hp H')) ∧ Own natF H' v (l.set i a) ∧ Keep (slFp v) H H' ∧ H'.length=H.length:=by
  obtain ⟨H',h1,h2,h3,h4⟩:=store_ownY natF_even (by decide) (fun _=>rfl) (fun _=>rfl) hv hi a
  refine ⟨H',fun Y e1 e2=>?_,h2,h3,h4⟩
  have:=h1 Y e1 (by rw [e2]; exact hm)
  rw [show natF.sz=1 from rfl,Nat.mul_one] at this
  exact this
theorem r_parts_rootU {H:Hp} {v:SV} {up:List Nat} {rt dp:Nat → Nat} (ho:Own natF H v up) (hW:Well up rt dp) (B:Nat) (hm:∀ i ∈ slFp v,B ≤ i) {i:Nat} (hi:i < up.length) :
    ∃ H' up',(∀ Y:Mem,Y.heap=H → Y.hb=B → Y.Wf → RF tb f_parts_root [v,.int .i64 (i:Int)] Y=some (.int .i64 (rt i:Int),Y.hp H')) ∧ Own natF H' v up' ∧ Well up' rt dp ∧ up'.length=up.length ∧ Keep (slFp v) H H' ∧ H'.length=H.length:=by
  have s1:=ho.isSl natF_even
  suffices hl:∃ r:Hp × List Nat,(Own natF r.1 v r.2 ∧ Well r.2 rt dp ∧ r.2.length=up.length ∧ Keep (slFp v) H r.1 ∧ r.1.length=H.length) ∧ ∀ X:Mem,(X.heap=H ∧ X.hb=B ∧ X.Wf) → fin [.t 4] X (KL tb [KI.block 0,KI.kp [1],KI.seq ((SCode.region false [{ dst:=some 25,op:=SOp.mv (Opd.t 1),guard:=none,quiet:=false },{ dst:=some 4,op:=SOp.mv (Opd.t 25),guard:=none,quiet:=false }]).seq SCode.ret)] 0 (some [0,1]) pc239 [(0,v),(1,.int .i64 (i:Int))] ((X.hp H).fr [] none))=some (.int .i64 (rt i:Int),X.hp r.1) by
    obtain ⟨r,hr,hX⟩:=hl
    refine ⟨r.1,r.2,fun X hH hhb hw=>?_,hr⟩
    rw [RF_go t_parts_root _ _ rfl,push_hp,hH]
    simp (maxDischargeDepth:=8) only [go_sem,s_parts_root,hw,hH,s1.l]
    rw [KL_keep _ _ _ (by simp (maxDischargeDepth:=8) only [go_sem,s1.l])]
    simp (maxDischargeDepth:=8) only [go_sem]
    exact hX X ⟨hH,hhb,hw⟩
  refine KL_indX (F:=tb) (K:=[KI.block 0,KI.kp [1],KI.seq ((SCode.region false [{ dst:=some 25,op:=SOp.mv (Opd.t 1),guard:=none,quiet:=false },{ dst:=some 4,op:=SOp.mv (Opd.t 25),guard:=none,quiet:=false }]).seq SCode.ret)]) (k:=0) (ks:=some [0,1]) (c:=pc239) (cond:=fun X=>X.heap=H ∧ X.hb=B ∧ X.Wf) (G:=fun X z (r:Hp × List Nat)=>fin [.t 4] X z=some (.int .i64 (rt i:Int),X.hp r.1)) (Q:=fun r=>Own natF r.1 v r.2 ∧ Well r.2 rt dp ∧ r.2.length=up.length ∧ Keep (slFp v) H r.1 ∧ r.1.length=H.length) (α:=Nat × List Nat × Hp) (fun q=>dp q.1)
    (fun q=>[(0,v),(1,.int .i64 (q.1:Int))]) (fun X q=>(X.hp q.2.2).fr [] none)
    (fun q=>q.1 < up.length ∧ rt q.1=rt i ∧ Own natF q.2.2 v q.2.1 ∧ Well q.2.1 rt dp ∧ q.2.1.length=up.length ∧ Keep (slFp v) H q.2.2 ∧ q.2.2.length=H.length) ?_ (i,up,H) ⟨hi,rfl,ho,hW,rfl,Keep.refl _ _,rfl⟩
  clear hW ho
  rintro ⟨c,uc,Hc⟩ ⟨hc,hr,ow,hW,hlen,kk,hl⟩ ih
  dsimp only at hc hr ow hW hlen kk hl ⊢
  have ll:=ow.lies natF_even
  obtain ⟨j,hj⟩:∃ j,uc[c]? = some j:=⟨_,List.getElem?_eq_getElem (by omega)⟩
  have hg1:=hW.go c j hj
  by_cases he:j=c
  · subst he
    have hrj:rt j=j:=by
      rcases hg1.2 with h | h
      · exact h.2
      · exact absurd rfl h.1
    refine ⟨(Hc,uc),⟨ow,hW,hlen,kk,hl⟩,?_⟩
    rintro X ⟨hH,hhb,hw⟩
    have hHl:X.hl=H.length:=by rw [← hH]; rfl
    simp (maxDischargeDepth:=8) only [go_sem,hw,s1.l,ll.iaddrN (show j < uc.length by omega),ll.loadN' hj,show ((j:Int) != (j:Int))=false from by simp]
    rw [List.take_of_length_le (by omega),← hr,hrj]
  · obtain ⟨g,hg⟩:∃ g,uc[j]? = some g:=⟨_,List.getElem?_eq_getElem hg1.1⟩
    obtain ⟨H2,st,o2,k2,l2⟩:=storeNY ow (i:=c) (by omega) B hm g
    have hW2:=well_half hW hj hg
    have ll2:=o2.lies natF_even
    have hgc:(uc.set c g)[c]? = some g:=by rw [List.getElem?_set,if_pos rfl,if_pos (by omega)]
    have hg2:=hW.go j g hg
    obtain ⟨r,hQ,hX⟩:=ih (g,uc.set c g,H2) ⟨by dsimp only; omega,by
      dsimp only
      rcases hg1.2 with h | h
      · exact absurd h.1 he
      · rcases hg2.2 with h' | h'
        · rw [h'.1,h.2.1,hr]
        · rw [h'.2.1,h.2.1,hr],o2,hW2,by dsimp only; rw [List.length_set]; exact hlen,kk.trans k2,by dsimp only; omega⟩ (by
      dsimp only
      rcases hg1.2 with h | h
      · exact absurd h.1 he
      · rcases hg2.2 with h' | h'
        · rw [h'.1]; exact h.2.2
        · omega)
    refine ⟨r,hQ,?_⟩
    rintro X ⟨hH,hhb,hw⟩
    have hst:∀ f e,((X.hp Hc).fr f e).store (.hp (slN v) (slW v)) (slO v + c) [.int .i64 (g:Int)]=some ((X.hp H2).fr f e):=fun f e=>st _ rfl hhb
    simp (maxDischargeDepth:=8) only [go_sem,hw,s1.l,show ((j:Int) != (c:Int))=true from by simpa using (fun h=>he (by omega)),ll.iaddrN (show c < uc.length by omega),ll.loadN' hj,ll.iaddrN hg1.1,ll.loadN' hg,hst,ll2.iaddrN (show c < (uc.set c g).length by rw [List.length_set]; omega),ll2.loadN' hgc]
    rw [KL_keep _ _ _ (by simp (maxDischargeDepth:=8) only [go_sem,s1.l])]
    simp (maxDischargeDepth:=8) only [go_sem]
    exact hX X ⟨hH,hhb,hw⟩
def Wd.clr (W:Wd) (cl x y:Int):Int:=if W.stands cl 4 x y then 4 else if W.stands cl 3 x y then 3 else if W.stands cl 2 x y then 2 else if W.stands cl 1 x y then 1 else 0
theorem clr_in (W:Wd) (cl x y:Int):0 ≤ W.clr cl x y ∧ W.clr cl x y ≤ 4:=by
  unfold Wd.clr
  split
  · decide
  · split
    · decide
    · split
      · decide
      · split <;> decide
theorem clr_uniq {W:Wd} {cl x y n:Int} (h0:0 ≤ n ∧ n ≤ 4) (h:∀ s,1 ≤ s → s ≤ 4 → (W.stands cl s x y=true ↔ s ≤ n)):W.clr cl x y=n:=by
  have h1:=h 1 (by decide) (by decide)
  have h2:=h 2 (by decide) (by decide)
  have h3:=h 3 (by decide) (by decide)
  have h4:=h 4 (by decide) (by decide)
  unfold Wd.clr
  simp only [h1,h2,h3,h4]
  split
  · omega
  · split
    · omega
    · split
      · omega
      · split <;> omega
theorem clr_iff {W:Wd} {cl x y s:Int} (h1:1 ≤ s) (h2:s ≤ 4):W.stands cl s x y=true ↔ s ≤ W.clr cl x y:=by
  have m4:W.stands cl 4 x y=true → W.stands cl 3 x y=true:=fun h=>stands_small h (by decide)
  have m3:W.stands cl 3 x y=true → W.stands cl 2 x y=true:=fun h=>stands_small h (by decide)
  have m2:W.stands cl 2 x y=true → W.stands cl 1 x y=true:=fun h=>stands_small h (by decide)
  have hs:s=1 ∨ s=2 ∨ s=3 ∨ s=4:=by omega
  unfold Wd.clr
  rcases hs with rfl | rfl | rfl | rfl
  all_goals
    generalize W.stands cl 4 x y=b4 at *
    generalize W.stands cl 3 x y=b3 at *
    generalize W.stands cl 2 x y=b2 at *
    generalize W.stands cl 1 x y=b1 at *
    cases b4 <;> cases b3 <;> cases b2 <;> cases b1 <;> simp_all
theorem last_eq {x t:Int} (hx:-1000000 ≤ x ∧ x ≤ 1000000) (ht:-1000000 ≤ t ∧ t ≤ 1000000):lastX x t=x + t - 1:=by
  unfold lastX
  rw [wrap_small (x:=x + t) (by omega) (by omega),wrap_small (x:=x + t - 1) (by omega) (by omega)]
theorem mayB_small {x y t:Int} (hx:-10 ≤ x ∧ x ≤ 200) (hy:-10 ≤ y ∧ y ≤ 200) (ht:1 ≤ t ∧ t ≤ 10):mayB x y t t=true:=by
  rw [mayB,last_eq (by omega) (by omega),last_eq (by omega) (by omega)]
  simp only [nearC,nearP,sideB,Bool.and_eq_true,decide_eq_true_eq]
  omega
theorem mayS_in {cl sz:Int}:mayS cl sz=true ↔ (0 ≤ cl ∧ cl < 4) ∧ 1 ≤ sz ∧ sz ≤ 4:=by
  simp only [mayS,Bool.and_eq_true,decide_eq_true_eq]; omega
theorem has_w {W:Wd} (w1:1 ≤ W.w ∧ W.w ≤ 128) (w2:1 ≤ W.h ∧ W.h ≤ 128) {a b:Int}:W.has a b=true ↔ 0 ≤ a ∧ a < W.w ∧ 0 ≤ b ∧ b < W.h:=by
  unfold Wd.has
  rw [has_iff]
  constructor
  · intro h; omega
  · intro h
    refine ⟨?_,by omega⟩
    rw [mayB,last_eq (by omega) (by omega),last_eq (by omega) (by omega)]
    simp only [nearC,nearP,sideB,Bool.and_eq_true,decide_eq_true_eq]
    omega
theorem stands_iff {W:Wd} (w1:1 ≤ W.w ∧ W.w ≤ 128) (w2:1 ≤ W.h ∧ W.h ≤ 128) {cl sz x y:Int}:W.stands cl sz x y=true ↔ ((0 ≤ cl ∧ cl < 4) ∧ 1 ≤ sz ∧ sz ≤ 4) ∧ (0 ≤ x ∧ x + sz ≤ W.w) ∧ (0 ≤ y ∧ y + sz ≤ W.h) ∧ ∀ a b,x ≤ a → a < x + sz → y ≤ b → b < y + sz → W.free cl a b=true:=by
  constructor
  · intro h
    obtain ⟨h1,h2,h3,h4,h5,h6⟩:=stands_in h
    rw [has_w w1 w2] at h4 h5
    rw [mayS_in] at h2
    refine ⟨h2,by omega,by omega,fun a b a1 a2 b1 b2=>h6 a b (has_iff.2 ⟨h3,by omega⟩)⟩
  · rintro ⟨h1,h2,h3,h4⟩
    refine stands_of (mayS_in.2 h1) (mayB_small (by omega) (by omega) (by omega)) ((has_w w1 w2).2 (by omega)) ((has_w w1 w2).2 (by omega)) fun a b hab=>?_
    have:=has_iff.1 hab
    exact h4 a b (by omega) (by omega) (by omega) (by omega)
theorem stands_grow {W:Wd} (w1:1 ≤ W.w ∧ W.w ≤ 128) (w2:1 ≤ W.h ∧ W.h ≤ 128) {cl t x y:Int} (ht:1 ≤ t ∧ t ≤ 3):W.stands cl (t + 1) x y=true ↔ W.stands cl 1 x y=true ∧ W.stands cl t (x + 1) y=true ∧ W.stands cl t x (y + 1)=true ∧ W.stands cl t (x + 1) (y + 1)=true:=by
  simp only [stands_iff w1 w2]
  constructor
  · rintro ⟨h1,h2,h3,h4⟩
    refine ⟨⟨by omega,by omega,by omega,fun a b _ _ _ _=>h4 a b (by omega) (by omega) (by omega) (by omega)⟩,⟨by omega,by omega,by omega,fun a b _ _ _ _=>h4 a b (by omega) (by omega) (by omega) (by omega)⟩,⟨by omega,by omega,by omega,fun a b _ _ _ _=>h4 a b (by omega) (by omega) (by omega) (by omega)⟩,⟨by omega,by omega,by omega,fun a b _ _ _ _=>h4 a b (by omega) (by omega) (by omega) (by omega)⟩⟩
  · rintro ⟨⟨a1,a2,a3,a4⟩,⟨b1,b2,b3,b4⟩,⟨c1,c2,c3,c4⟩,⟨d1,d2,d3,d4⟩⟩
    refine ⟨by omega,by omega,by omega,fun a b e1 e2 e3 e4=>?_⟩
    by_cases f1:x + 1 ≤ a
    · by_cases f2:b < y + t
      · exact b4 a b f1 (by omega) (by omega) (by omega)
      · exact d4 a b f1 (by omega) (by omega) (by omega)
    · by_cases f2:y + 1 ≤ b
      · exact c4 a b (by omega) (by omega) f2 (by omega)
      · exact a4 a b (by omega) (by omega) (by omega) (by omega)
theorem mnI_eqF (a b:Int):(mnI a b=a ∨ mnI a b=b) ∧ mnI a b ≤ a ∧ mnI a b ≤ b:=by unfold mnI; split <;> omega
theorem clr_step {W:Wd} (w1:1 ≤ W.w ∧ W.w ≤ 128) (w2:1 ≤ W.h ∧ W.h ≤ 128) (cl x y:Int):W.clr cl x y=if W.stands cl 1 x y then 1 + mnI (mnI (mnI (W.clr cl (x + 1) y) (W.clr cl x (y + 1))) (W.clr cl (x + 1) (y + 1))) 3 else 0:=by
  have i1:=clr_in W cl (x + 1) y
  have i2:=clr_in W cl x (y + 1)
  have i3:=clr_in W cl (x + 1) (y + 1)
  have e1:=mnI_eqF (W.clr cl (x + 1) y) (W.clr cl x (y + 1))
  have e2:=mnI_eqF (mnI (W.clr cl (x + 1) y) (W.clr cl x (y + 1))) (W.clr cl (x + 1) (y + 1))
  have e3:=mnI_eqF (mnI (mnI (W.clr cl (x + 1) y) (W.clr cl x (y + 1))) (W.clr cl (x + 1) (y + 1))) 3
  split
  · rename_i h1
    refine clr_uniq (by omega) fun s s1 s2=>?_
    by_cases hs:s=1
    · subst hs
      exact ⟨fun _=>by omega,fun _=>h1⟩
    · have hg:=stands_grow w1 w2 (cl:=cl) (t:=s - 1) (x:=x) (y:=y) (by omega)
      rw [show s - 1 + 1=s by omega] at hg
      rw [hg,clr_iff (s:=s - 1) (by omega) (by omega),clr_iff (s:=s - 1) (by omega) (by omega),clr_iff (s:=s - 1) (by omega) (by omega)]
      constructor
      · rintro ⟨_,g1,g2,g3⟩; omega
      · intro g; exact ⟨h1,by omega,by omega,by omega⟩
  · rename_i h1
    refine clr_uniq (by omega) fun s s1 s2=>⟨fun h=>absurd (stands_small h ⟨by decide,s1⟩) h1,fun h=>by omega⟩
abbrev iF:Fl Int:=Fl.int .i64
theorem iF_even:iF.Even:=⟨fun _=>rfl⟩
theorem _root_.Go.Sh.LiesD.iaddrI {m:Mem} {v:SV} {l:List Int} (h:LiesD iF m v l) {i:Int} (h0:0 ≤ i) (hi:i < l.length) (k:IntKind) (m':Mem):iaddrV 1 v (.int k i) m'=some (.ptr (.hp (slN v) (slW v)) (slO v + i.toNat),m'):=by
  have:=LiesD.iaddr h (i:=i.toNat) (by omega) k m'
  rw [show iF.sz=1 from rfl,Nat.mul_one,Int.toNat_of_nonneg h0] at this
  exact this
theorem _root_.Go.Sh.LiesD.loadI {m:Mem} {v:SV} {l:List Int} (h:LiesD iF m v l) {i:Nat} {a:Int} (hi:l[i]? = some a) {X:Mem} (hX:HpSub m X):X.load (.hp (slN v) (slW v)) (slO v + i) none=some (.int .i64 a):=by
  have:=LiesD.load1 iF_even (h.sub hX) hi (j:=0) (by decide)
  rw [show iF.sz=1 from rfl,Nat.mul_one,Nat.add_zero] at this
  exact this
theorem storeI {H:Hp} {v:SV} {l:List Int} (hv:Own iF H v l) {i:Nat} (hi:i < l.length) (X:Mem) (hm:∀ i ∈ slFp v,X.hb ≤ i) (a:Int) :
    ∃ H',(∀ f e,((X.hp H).fr f e).store (.hp (slN v) (slW v)) (slO v + i) [.int .i64 a]=some ((X.hp H').fr f e)) ∧ Own iF H' v (l.set i a) ∧ Keep (slFp v) H H' ∧ H'.length=H.length:=by
  obtain ⟨H',h1,h2⟩:=store_own iF_even (by decide) (fun _=>rfl) (fun _=>rfl) hv hi X hm a
  refine ⟨H',fun f e=>?_,h2⟩
  have:=h1 f e
  rw [show iF.sz=1 from rfl,Nat.mul_one] at this
  exact this
abbrev fieldC (p:WP) (W:Wd) (cl:Int) (lv:SV) (ep:Int):List SV:=[.ptr (.hp p.k 0) 0,.int .i64 cl,.int .i64 0,.int .i64 0,.int .i64 W.w,.int .i64 W.h,lv,.int .i64 ep]
structure FieldAt (m:Mem) (k:Nat) (p:WP) (W:Wd) (cl:Int) (lv:SV) (ep:Int) (L:List Int):Prop where
  hd:m.get (.hp k 0)=some (.cells true (fieldC p W cl lv ep))
  ll:LiesD iF m lv L
  len:L.length=W.w.toNat * W.h.toNat
  w1:1 ≤ W.w ∧ W.w ≤ 128
  h1:1 ≤ W.h ∧ W.h ≤ 128
theorem FieldAt.ld {m:Mem} {k:Nat} {p:WP} {W:Wd} {cl:Int} {lv:SV} {ep:Int} {L:List Int} (hF:FieldAt m k p W cl lv ep L) {X:Mem} (hX:HpSub m X) (off:Nat) (n:Option Nat):X.load (.hp k 0) off n=partv (fieldC p W cl lv ep) off n:=by rw [load_get,hX _ _ _ hF.hd]
theorem FieldAt.sub {m:Mem} {k:Nat} {p:WP} {W:Wd} {cl:Int} {lv:SV} {ep:Int} {L:List Int} (hF:FieldAt m k p W cl lv ep L) {X:Mem} (hX:HpSub m X):FieldAt X k p W cl lv ep L:=⟨hX _ _ _ hF.hd,hF.ll.sub hX,hF.len,hF.w1,hF.h1⟩
def Wd.at' (W:Wd) (L:List Int) (x y:Int):Int:=if W.has x y then L.getD (y * W.w + x).toNat 0 else 0
theorem idx_in {W:Wd} (w1:1 ≤ W.w ∧ W.w ≤ 128) (w2:1 ≤ W.h ∧ W.h ≤ 128) {x y:Int} (h:W.has x y=true):0 ≤ y * W.w ∧ y * W.w ≤ 16384 ∧ 0 ≤ x ∧ x < W.w ∧ 0 ≤ y ∧ y < W.h ∧ (y * W.w + x).toNat=y.toNat * W.w.toNat + x.toNat ∧ y.toNat * W.w.toNat + x.toNat < W.w.toNat * W.h.toNat:=by
  have h1:=(has_w w1 w2).1 h
  have e5:y * W.w=((y.toNat * W.w.toNat:Nat):Int):=by rw [Int.natCast_mul,Int.toNat_of_nonneg h1.2.2.1,Int.toNat_of_nonneg (show 0 ≤ W.w by omega)]
  have e6:W.w.toNat * (y.toNat + 1) ≤ W.w.toNat * W.h.toNat:=Nat.mul_le_mul_left _ (by omega)
  have e4:W.w.toNat * W.h.toNat ≤ 128 * 128:=Nat.mul_le_mul (by omega) (by omega)
  rw [Nat.mul_add,Nat.mul_comm] at e6
  omega
theorem r_clear_At {m:Mem} {k:Nat} {p:WP} {W:Wd} {cl:Int} {lv:SV} {ep:Int} {L:List Int} (hF:FieldAt m k p W cl lv ep L) {X:Mem} (hX:HpSub m X) (hw:X.Wf) (x y:Int):RF tb f_clear_Field_At [.ptr (.hp k 0) 0,cellV x y] X=some (.int .i64 (W.at' L x y),X):=by
  rw [RF_go t_clear_Field_At _ _ rfl]
  simp (maxDischargeDepth:=8) only [go_sem,s_clear_Field_At,cellV,hw,hX,hF.ld,fieldC,r_cell_Has]
  unfold Wd.at'
  cases h1:W.has x y with
  | false =>
    have h1':hasB 0 0 W.w W.h x y=false:=h1
    simp (maxDischargeDepth:=8) only [go_sem,hw,h1']
  | true =>
    have h1':hasB 0 0 W.w W.h x y=true:=h1
    have w1:=hF.w1
    have w2:=hF.h1
    obtain ⟨i1,i2,i3,i4,i5,i6,i7,i8⟩:=idx_in w1 w2 h1
    have hel:L[(y * W.w + x).toNat]? = some (L.getD (y * W.w + x).toNat 0):=by
      rw [List.getD_eq_getElem?_getD]
      have:(y * W.w + x).toNat < L.length:=by rw [hF.len]; omega
      rw [List.getElem?_eq_getElem this]
      rfl
    simp (maxDischargeDepth:=8) only [go_sem,hw,hX,h1',hF.ld,fieldC,wrap_small (x:=y * W.w) (by omega) (by omega),wrap_small (x:=y * W.w + x) (by omega) (by omega),LiesD.iaddrI hF.ll (i:=y * W.w + x) (by omega) (by rw [hF.len]; omega),hF.ll.loadI hel]
theorem r_clear_tile {m:Mem} {k:Nat} {p:WP} {W:Wd} {cl:Int} {lv:SV} {ep:Int} {L:List Int} (hF:FieldAt m k p W cl lv ep L) (hW:WorldAt m p W) (hg:W.Good) {X:Mem} (hX:HpSub m X) (hw:X.Wf) (x y:Int):RF tb f_clear_Field_tile [.ptr (.hp k 0) 0,cellV x y] X=some (.bool (W.stands cl 1 x y),X):=by
  rw [RF_go t_clear_Field_tile _ _ rfl]
  simp (maxDischargeDepth:=8) only [go_sem,s_clear_Field_tile,cellV,hw,hX,hF.ld,fieldC,r_class_Stands hW hg]
theorem r_grid_World_Epoch {m:Mem} {p:WP} {W:Wd} (hW:WorldAt m p W) {X:Mem} (hX:HpSub m X) (hw:X.Wf):RF tb f_grid_World_Epoch [.ptr (.hp p.k 0) 0] X=some (.int .i64 W.dirty.length,X):=by
  rw [RF_go t_grid_World_Epoch _ _ rfl]
  simp (maxDischargeDepth:=8) only [go_sem,s_grid_World_Epoch,hw,hX,r_grid_World_is hW,hW.ld,hW.dl.len]
theorem clr_out {W:Wd} {cl x y:Int} (h:W.has x y=false):W.clr cl x y=0:=by
  have:∀ s,W.stands cl s x y=false:=fun s=>by
    cases h1:W.stands cl s x y with
    | false=>rfl
    | true=>rw [stands_has h1] at h; cases h
  simp [Wd.clr,this]
def Wd.knows (W:Wd) (cl:Int) (L:List Int) (yn xn:Nat):Prop:=∀ a b:Nat,a < W.w.toNat → b < W.h.toNat → (yn + 1 ≤ b ∨ (b=yn ∧ xn ≤ a)) → L[b * W.w.toNat + a]? = some (W.clr cl a b)
theorem knows_at {W:Wd} (w1:1 ≤ W.w ∧ W.w ≤ 128) (w2:1 ≤ W.h ∧ W.h ≤ 128) {cl:Int} {L:List Int} {yn xn:Nat} (hk:W.knows cl L yn xn) {x y:Int} (h:(yn:Int) + 1 ≤ y ∨ (y=yn ∧ (xn:Int) ≤ x)) (h0:0 ≤ x):W.at' L x y=W.clr cl x y:=by
  unfold Wd.at'
  cases h1:W.has x y with
  | false=>rw [clr_out h1]; rfl
  | true =>
    obtain ⟨i1,i2,i3,i4,i5,i6,i7,i8⟩:=idx_in w1 w2 h1
    have:=hk x.toNat y.toNat (by omega) (by omega) (by omega)
    rw [if_pos rfl,List.getD_eq_getElem?_getD,i7,this,Int.toNat_of_nonneg i3,Int.toNat_of_nonneg i5]
    rfl
theorem knows_set {W:Wd} {cl:Int} {L:List Int} {yn xn:Nat} (hlen:L.length=W.w.toNat * W.h.toNat) (hx:xn < W.w.toNat) (hy:yn < W.h.toNat) (hk:W.knows cl L yn (xn + 1)):W.knows cl (L.set (yn * W.w.toNat + xn) (W.clr cl xn yn)) yn xn:=by
  intro a b ha hb h
  have e6:W.w.toNat * (yn + 1) ≤ W.w.toNat * W.h.toNat:=Nat.mul_le_mul_left _ (by omega)
  rw [Nat.mul_add,Nat.mul_comm] at e6
  rw [List.getElem?_set]
  by_cases he:a=xn ∧ b=yn
  · obtain ⟨rfl,rfl⟩:=he
    rw [if_pos rfl,if_pos (by omega)]
  · rw [if_neg]
    · exact hk a b ha hb (by omega)
    · intro h5
      by_cases hbb:b=yn
      · subst hbb; exact he ⟨by omega,rfl⟩
      · have:W.w.toNat * (yn + 1) ≤ W.w.toNat * b:=Nat.mul_le_mul_left _ (by omega)
        rw [Nat.mul_add,Nat.mul_comm W.w.toNat yn,Nat.mul_comm W.w.toNat b] at this
        omega
def Wd.clrs (W:Wd) (cl:Int):List Int:=(List.range (W.w.toNat * W.h.toNat)).map fun n=>W.clr cl ((n % W.w.toNat:Nat):Int) ((n / W.w.toNat:Nat):Int)
theorem clrs_len (W:Wd) (cl:Int):(W.clrs cl).length=W.w.toNat * W.h.toNat:=by simp [Wd.clrs]
theorem clrs_at {W:Wd} {cl:Int} {x y:Nat} (hx:x < W.w.toNat) (hy:y < W.h.toNat):(W.clrs cl)[y * W.w.toNat + x]? = some (W.clr cl x y):=by
  have h1:y * W.w.toNat + x < W.w.toNat * W.h.toNat:=by
    have:W.w.toNat * (y + 1) ≤ W.w.toNat * W.h.toNat:=Nat.mul_le_mul_left _ hy
    rw [Nat.mul_add,Nat.mul_comm] at this
    omega
  have h2:(y * W.w.toNat + x) % W.w.toNat=x:=by rw [Nat.mul_comm,Nat.mul_add_mod,Nat.mod_eq_of_lt hx]
  have h3:(y * W.w.toNat + x) / W.w.toNat=y:=by rw [Nat.mul_comm,Nat.mul_add_div (by omega),Nat.div_eq_of_lt hx,Nat.add_zero]
  simp only [Wd.clrs,List.getElem?_map,List.getElem?_range h1,Option.map_some,h2,h3]
theorem knows_all {W:Wd} (w1:1 ≤ W.w) {cl:Int} {L:List Int} (hlen:L.length=W.w.toNat * W.h.toNat) (hk:∀ a b:Nat,a < W.w.toNat → b < W.h.toNat → L[b * W.w.toNat + a]? = some (W.clr cl a b)):L=W.clrs cl:=by
  apply List.ext_getElem?
  intro n
  by_cases hn:n < W.w.toNat * W.h.toNat
  · have h1:n % W.w.toNat < W.w.toNat:=Nat.mod_lt _ (by omega)
    have h2:n / W.w.toNat < W.h.toNat:=Nat.div_lt_of_lt_mul hn
    have h3:n / W.w.toNat * W.w.toNat + n % W.w.toNat=n:=by rw [Nat.mul_comm]; exact Nat.div_add_mod _ _
    have:=hk _ _ h1 h2
    have h4:=clrs_at (W:=W) (cl:=cl) h1 h2
    rw [h3] at this h4
    rw [this,h4]
  · rw [List.getElem?_eq_none (by omega),List.getElem?_eq_none (by rw [clrs_len]; omega)]
theorem clrs_get {W:Wd} (w1:1 ≤ W.w ∧ W.w ≤ 128) (w2:1 ≤ W.h ∧ W.h ≤ 128) (cl x y:Int):W.at' (W.clrs cl) x y=W.clr cl x y:=by
  unfold Wd.at'
  cases h1:W.has x y with
  | false=>rw [clr_out h1]; rfl
  | true =>
    obtain ⟨i1,i2,i3,i4,i5,i6,i7,i8⟩:=idx_in w1 w2 h1
    have:=clrs_at (W:=W) (cl:=cl) (x:=x.toNat) (y:=y.toNat) (by omega) (by omega)
    rw [if_pos rfl,List.getD_eq_getElem?_getD,i7,this,Int.toNat_of_nonneg i3,Int.toNat_of_nonneg i5]
    rfl
theorem set_self {L:List Int} {i:Nat} {c:Int} (h:L[i]? = some c):L.set i c=L:=by
  apply List.ext_getElem?
  intro n
  rw [List.getElem?_set]
  split
  · rename_i h1
    subst h1
    rw [h]
    split
    · rfl
    · rename_i h2
      rw [List.getElem?_eq_none (by omega)] at h
      cases h
  · rfl
theorem r_clear_reckon {X:Mem} {k:Nat} {p:WP} {W:Wd} {cl:Int} {lv:SV} {ep:Int} {L:List Int} (hk:hget X.heap k 0=some (.cells true (fieldC p W cl lv ep))) (ho:Own iF X.heap lv L) (hlen:L.length=W.w.toNat * W.h.toNat) (hkn:k ∉ slFp lv) (hpn:∀ i ∈ p.fp,i ∉ slFp lv) (hm:∀ i ∈ slFp lv,X.hb ≤ i) (hO:WorldOwn X.heap p W) (hg:W.Good) (hw:X.Wf) :
    ∃ (n:Int) (H':Hp),RF tb f_clear_Field_reckon [.ptr (.hp k 0) 0,rect 0 0 W.w W.h] X=some (.int .i64 n,X.hp H') ∧ Own iF H' lv (W.clrs cl) ∧ Keep (slFp lv) X.heap H' ∧ H'.length=X.heap.length:=by
  rw [RF_go t_clear_Field_reckon _ _ rfl,push_hp]
  generalize hH:X.heap=H at *
  have hHl:X.hl=H.length:=by rw [← hH]; rfl
  have w1:=hO.at_.w1
  have w2:=hO.at_.h1
  simp (maxDischargeDepth:=8) only [go_sem,s_clear_Field_reckon,rect,hw,hH,Int.zero_add,wrap_small (x:=W.h) (by omega) (by omega),wrap_small (x:=W.h - 1) (by omega) (by omega)]
  rw [KL_keep _ _ _ (by simp (maxDischargeDepth:=8) only [go_sem])]
  simp (maxDischargeDepth:=8) only [go_sem]
  rw [show W.h - 1=((W.h.toNat:Nat):Int) - 1 from by omega]
  refine KL_ind (R:=fun z=>∃ (n:Int) (H':Hp),fin [.t 4] X z=some (.int .i64 n,X.hp H') ∧ Own iF H' lv (W.clrs cl) ∧ Keep (slFp lv) H H' ∧ H'.length=H.length) (α:=Nat × Nat × Hp × List Int) (fun q=>q.1)
    (fun q=>[(0,.ptr (.hp k 0) 0),(3,.ptr (.st X.dep 0) 0),(5,.int .i64 (q.2.1:Int)),(6,.int .i64 ((q.1:Int) - 1))])
    (fun q=>(X.hp q.2.2.1).fr [.cells true [.int .i64 0,.int .i64 0,.int .i64 W.w,.int .i64 W.h]] none)
    (fun q=>q.1 ≤ W.h.toNat ∧ q.2.1 + q.1 * W.w.toNat ≤ W.w.toNat * W.h.toNat ∧ Own iF q.2.2.1 lv q.2.2.2 ∧ q.2.2.2.length=W.w.toNat * W.h.toNat ∧ (∀ a b:Nat,a < W.w.toNat → b < W.h.toNat → q.1 ≤ b → q.2.2.2[b * W.w.toNat + a]? = some (W.clr cl a b)) ∧ Keep (slFp lv) H q.2.2.1 ∧ q.2.2.1.length=H.length) ?_ (W.h.toNat,0,H,L) ⟨Nat.le_refl _,by dsimp only; rw [Nat.mul_comm]; omega,ho,hlen,fun a b _ hb h=>absurd hb (by dsimp only at h; omega),Keep.refl _ _,rfl⟩
  rintro ⟨yn,n,Hk,L⟩ ⟨hy,hn,ow,hln,hkn',kk,hkl⟩ ih
  dsimp only at hy hn ow hln hkn' kk hkl ⊢
  simp (maxDischargeDepth:=8) only [go_sem,hw]
  by_cases hy0:0 < yn
  · obtain ⟨yk,rfl⟩:∃ i,yn=i + 1:=⟨yn - 1,by omega⟩
    rw [show ((yk + 1:Nat):Int) - 1=(yk:Int) from by omega]
    simp (maxDischargeDepth:=8) only [go_sem,show decide ((yk:Int) ≥ 0)=true from decide_eq_true (by omega),hw,Int.zero_add,wrap_small (x:=W.w) (by omega) (by omega),wrap_small (x:=W.w - 1) (by omega) (by omega)]
    rw [KL_keep _ _ _ (by simp (maxDischargeDepth:=8) only [go_sem])]
    simp (maxDischargeDepth:=8) only [go_sem]
    rw [show W.w - 1=((W.w.toNat:Nat):Int) - 1 from by omega]
    have hyw:(yk + 1) * W.w.toNat=yk * W.w.toNat + W.w.toNat:=by rw [Nat.add_mul,Nat.one_mul]
    have h48:W.w.toNat * W.h.toNat ≤ 128 * 128:=Nat.mul_le_mul (by omega) (by omega)
    rw [hyw] at hn
    refine KL_ind (R:=fun z=>∃ (n:Int) (H':Hp),fin [.t 4] X z=some (.int .i64 n,X.hp H') ∧ Own iF H' lv (W.clrs cl) ∧ Keep (slFp lv) H H' ∧ H'.length=H.length) (α:=Nat × Nat × Hp × List Int) (fun q=>q.1)
      (fun q=>[(0,.ptr (.hp k 0) 0),(3,.ptr (.st X.dep 0) 0),(5,.int .i64 (q.2.1:Int)),(6,.int .i64 (yk:Int)),(7,.int .i64 ((q.1:Int) - 1))])
      (fun q=>(X.hp q.2.2.1).fr [.cells true [.int .i64 0,.int .i64 0,.int .i64 W.w,.int .i64 W.h]] none)
      (fun q=>q.1 ≤ W.w.toNat ∧ q.2.1 + yk * W.w.toNat + q.1 ≤ W.w.toNat * W.h.toNat ∧ Own iF q.2.2.1 lv q.2.2.2 ∧ q.2.2.2.length=W.w.toNat * W.h.toNat ∧ W.knows cl q.2.2.2 yk q.1 ∧ Keep (slFp lv) H q.2.2.1 ∧ q.2.2.1.length=H.length) ?_ (W.w.toNat,n,Hk,L) ⟨Nat.le_refl _,by dsimp only; omega,ow,hln,fun a b ha hb h=>hkn' a b ha hb (by dsimp only at h; omega),kk,hkl⟩
    clear hn ow hln hkn' kk hkl
    rintro ⟨xn,n,Hk,L⟩ ⟨hx,hn,ow,hln,hkw,kk,hkl⟩ ih'
    dsimp only at hx hn ow hln hkw kk hkl ⊢
    simp (maxDischargeDepth:=8) only [go_sem,hw]
    by_cases hx0:0 < xn
    · obtain ⟨xk,rfl⟩:∃ i,xn=i + 1:=⟨xn - 1,by omega⟩
      rw [show ((xk + 1:Nat):Int) - 1=(xk:Int) from by omega]
      have hO':=hO.keep kk hpn
      have hF:FieldAt (Hm Hk) k p W cl lv ep L:=⟨kk.get hk hkn,ow.lies iF_even,hln,w1,w2⟩
      have k1:=knows_at w1 w2 hkw (x:=(xk:Int) + 1) (y:=yk) (by omega) (by omega)
      have k2:=knows_at w1 w2 hkw (x:=(xk:Int)) (y:=(yk:Int) + 1) (by omega) (by omega)
      have k3:=knows_at w1 w2 hkw (x:=(xk:Int) + 1) (y:=(yk:Int) + 1) (by omega) (by omega)
      have hset:=knows_set hln (by omega) (by omega) hkw
      have e6:W.w.toNat * (yk + 1) ≤ W.w.toNat * W.h.toNat:=Nat.mul_le_mul_left _ (by omega)
      rw [Nat.mul_add,Nat.mul_comm,Nat.mul_one] at e6
      have e5:(yk:Int) * W.w=((yk * W.w.toNat:Nat):Int):=by rw [Int.natCast_mul,Int.toNat_of_nonneg (show 0 ≤ W.w by omega)]
      have c1:=clr_in W cl ((xk:Int) + 1) yk
      have c2:=clr_in W cl xk ((yk:Int) + 1)
      have c3:=clr_in W cl ((xk:Int) + 1) ((yk:Int) + 1)
      have e1:=mnI_eqF (W.clr cl ((xk:Int) + 1) yk) (W.clr cl xk ((yk:Int) + 1))
      have e2:=mnI_eqF (mnI (W.clr cl ((xk:Int) + 1) yk) (W.clr cl xk ((yk:Int) + 1))) (W.clr cl ((xk:Int) + 1) ((yk:Int) + 1))
      have e3:=mnI_eqF (mnI (mnI (W.clr cl ((xk:Int) + 1) yk) (W.clr cl xk ((yk:Int) + 1))) (W.clr cl ((xk:Int) + 1) ((yk:Int) + 1))) 3
      have hidx:((yk:Int) * W.w + xk).toNat=yk * W.w.toNat + xk:=by omega
      have hlt:yk * W.w.toNat + xk < L.length:=by omega
      obtain ⟨c,hel'⟩:∃ c,L[yk * W.w.toNat + xk]? = some c:=⟨_,List.getElem?_eq_getElem hlt⟩
      have hel:L[((yk:Int) * W.w + xk).toNat]? = some c:=by rw [hidx]; exact hel'
      have hst:=clr_step w1 w2 cl (xk:Int) (yk:Int)
      simp (maxDischargeDepth:=8) only [go_sem,show decide ((xk:Int) ≥ 0)=true from decide_eq_true (by omega),hw,r_clear_tile hF hO'.at_ hg]
      cases hs:W.stands cl 1 (xk:Int) (yk:Int) with
      | false =>
        rw [hs] at hst
        have hst:W.clr cl xk yk=0:=hst
        simp (maxDischargeDepth:=8) only [go_sem,hw,hF.ld,fieldC,wrap_small (x:=(yk:Int) * W.w) (by omega) (by omega),wrap_small (x:=(yk:Int) * W.w + xk) (by omega) (by omega),LiesD.iaddrI hF.ll (i:=(yk:Int) * W.w + xk) (by omega) (by omega),hF.ll.loadI hel]
        by_cases hc:c=(0:Int)
        · have hsame:L.set (yk * W.w.toNat + xk) (W.clr cl xk yk)=L:=by
            rw [hst,← hc]
            exact set_self hel'
          rw [hsame] at hset
          simp (maxDischargeDepth:=8) only [go_sem,hw,show (c != (0:Int))=false from by simpa using hc,wrap_small (x:=(xk:Int) - 1) (by omega) (by omega)]
          rw [KL_keep _ _ _ (by simp (maxDischargeDepth:=8) only [go_sem])]
          simp (maxDischargeDepth:=8) only [go_sem]
          exact ih' (xk,n,Hk,L) ⟨by dsimp only; omega,by dsimp only; omega,ow,hln,hset,kk,hkl⟩ (by dsimp only; omega)
        · obtain ⟨H2,hst1,o1,k1',hl1⟩:=storeI ow (i:=yk * W.w.toNat + xk) (by omega) X hm (0:Int)
          rw [← hst] at o1
          simp (maxDischargeDepth:=8) only [go_sem,hw,hF.ld,fieldC,show (c != (0:Int))=true from by simpa using hc,wrap_small (x:=(yk:Int) * W.w) (by omega) (by omega),wrap_small (x:=(yk:Int) * W.w + xk) (by omega) (by omega),LiesD.iaddrI hF.ll (i:=(yk:Int) * W.w + xk) (by omega) (by omega),hidx,hst1,wrap_small (x:=(xk:Int) - 1) (by omega) (by omega),wrap_succ (show n ≤ 4611686018427387903 by omega)]
          rw [KL_keep _ _ _ (by simp (maxDischargeDepth:=8) only [go_sem])]
          simp (maxDischargeDepth:=8) only [go_sem]
          exact ih' (xk,n + 1,H2,L.set (yk * W.w.toNat + xk) (W.clr cl xk yk)) ⟨by dsimp only; omega,by dsimp only; omega,o1,by dsimp only; rw [List.length_set]; exact hln,hset,kk.trans k1',by dsimp only; omega⟩ (by dsimp only; omega)
      | true =>
        rw [hs,if_pos rfl] at hst
        simp (maxDischargeDepth:=8) only [go_sem,hw,hF.ld,fieldC,r_clear_At hF,wrap_small (x:=(xk:Int) + 1) (by omega) (by omega),wrap_small (x:=(yk:Int) + 1) (by omega) (by omega),k1,k2,k3,wrap_small (x:=(1 + mnI (mnI (mnI (W.clr cl ((xk:Int) + 1) yk) (W.clr cl xk ((yk:Int) + 1))) (W.clr cl ((xk:Int) + 1) ((yk:Int) + 1))) 3)) (by omega) (by omega),wrap_small (x:=(yk:Int) * W.w) (by omega) (by omega),wrap_small (x:=(yk:Int) * W.w + xk) (by omega) (by omega),LiesD.iaddrI hF.ll (i:=(yk:Int) * W.w + xk) (by omega) (by omega),hF.ll.loadI hel]
        by_cases hc:c=(1 + mnI (mnI (mnI (W.clr cl ((xk:Int) + 1) yk) (W.clr cl xk ((yk:Int) + 1))) (W.clr cl ((xk:Int) + 1) ((yk:Int) + 1))) 3)
        · have hsame:L.set (yk * W.w.toNat + xk) (W.clr cl xk yk)=L:=by
            rw [hst,← hc]
            exact set_self hel'
          rw [hsame] at hset
          simp (maxDischargeDepth:=8) only [go_sem,hw,show (c != (1 + mnI (mnI (mnI (W.clr cl ((xk:Int) + 1) yk) (W.clr cl xk ((yk:Int) + 1))) (W.clr cl ((xk:Int) + 1) ((yk:Int) + 1))) 3))=false from by simpa using hc,wrap_small (x:=(xk:Int) - 1) (by omega) (by omega)]
          rw [KL_keep _ _ _ (by simp (maxDischargeDepth:=8) only [go_sem])]
          simp (maxDischargeDepth:=8) only [go_sem]
          exact ih' (xk,n,Hk,L) ⟨by dsimp only; omega,by dsimp only; omega,ow,hln,hset,kk,hkl⟩ (by dsimp only; omega)
        · obtain ⟨H2,hst1,o1,k1',hl1⟩:=storeI ow (i:=yk * W.w.toNat + xk) (by omega) X hm (1 + mnI (mnI (mnI (W.clr cl ((xk:Int) + 1) yk) (W.clr cl xk ((yk:Int) + 1))) (W.clr cl ((xk:Int) + 1) ((yk:Int) + 1))) 3)
          rw [← hst] at o1
          simp (maxDischargeDepth:=8) only [go_sem,hw,hF.ld,fieldC,show (c != (1 + mnI (mnI (mnI (W.clr cl ((xk:Int) + 1) yk) (W.clr cl xk ((yk:Int) + 1))) (W.clr cl ((xk:Int) + 1) ((yk:Int) + 1))) 3))=true from by simpa using hc,wrap_small (x:=(yk:Int) * W.w) (by omega) (by omega),wrap_small (x:=(yk:Int) * W.w + xk) (by omega) (by omega),LiesD.iaddrI hF.ll (i:=(yk:Int) * W.w + xk) (by omega) (by omega),hidx,hst1,wrap_small (x:=(xk:Int) - 1) (by omega) (by omega),wrap_succ (show n ≤ 4611686018427387903 by omega)]
          rw [KL_keep _ _ _ (by simp (maxDischargeDepth:=8) only [go_sem])]
          simp (maxDischargeDepth:=8) only [go_sem]
          exact ih' (xk,n + 1,H2,L.set (yk * W.w.toNat + xk) (W.clr cl xk yk)) ⟨by dsimp only; omega,by dsimp only; omega,o1,by dsimp only; rw [List.length_set]; exact hln,hset,kk.trans k1',by dsimp only; omega⟩ (by dsimp only; omega)
    · obtain rfl:xn=0:=by omega
      simp (maxDischargeDepth:=8) only [go_sem,show decide (((0:Nat):Int) - 1 ≥ 0)=false from rfl,show decide ((-1:Int) ≥ 0)=false from rfl,hw,wrap_small (x:=(yk:Int) - 1) (by omega) (by omega)]
      rw [KL_keep _ _ _ (by simp (maxDischargeDepth:=8) only [go_sem])]
      simp (maxDischargeDepth:=8) only [go_sem]
      exact ih (yk,n,Hk,L) ⟨by dsimp only; omega,by dsimp only; omega,ow,hln,fun a b ha hb h=>hkw a b ha hb (by dsimp only at h; omega),kk,hkl⟩ (by dsimp only; omega)
  · obtain rfl:yn=0:=by omega
    simp (maxDischargeDepth:=8) only [go_sem,show decide (((0:Nat):Int) - 1 ≥ 0)=false from rfl,show decide ((-1:Int) ≥ 0)=false from rfl,hw]
    rw [knows_all w1.1 hln (fun a b ha hb=>hkn' a b ha hb (Nat.zero_le _))] at ow
    rw [List.take_of_length_le (by omega)]
    exact ⟨_,_,rfl,ow,kk,hkl⟩
abbrev paC (p:WP) (W:Wd) (cl sz:Int) (kf:Nat) (lv fv zv:SV) (ep:Int):List SV:=[.ptr (.hp p.k 0) 0,.int .i64 cl,.int .i64 sz,.int .i64 0,.int .i64 0,.int .i64 W.w,.int .i64 W.h,.ptr (.hp kf 0) 0,lv,fv,zv,.int .i64 ep]
theorem r_parts_stands {m:Mem} {k kf:Nat} {p:WP} {W:Wd} {cl sz:Int} {flv lv fv zv:SV} {fep ep:Int} (hP:m.get (.hp k 0)=some (.cells true (paC p W cl sz kf lv fv zv ep))) (hF:FieldAt m kf p W cl flv fep (W.clrs cl)) (hs:1 ≤ sz ∧ sz ≤ 4) {X:Mem} (hX:HpSub m X) (hw:X.Wf) (x y:Int):RF tb f_parts_Parts_stands [.ptr (.hp k 0) 0,cellV x y] X=some (.bool (W.stands cl sz x y),X):=by
  have hld:∀ {Y:Mem},HpSub m Y → ∀ off n,Y.load (.hp k 0) off n=partv (paC p W cl sz kf lv fv zv ep) off n:=fun hY off n=>by rw [load_get,hY _ _ _ hP]
  rw [RF_go t_parts_Parts_stands _ _ rfl]
  simp (maxDischargeDepth:=8) only [go_sem,s_parts_Parts_stands,cellV,hw,hX,hld,paC,r_clear_At hF,clrs_get hF.w1 hF.h1]
  have:W.stands cl sz x y=decide (W.clr cl x y ≥ sz):=by
    rw [Bool.eq_iff_iff,clr_iff hs.1 hs.2]
    simp
  rw [this]
abbrev Cl:=Int × Int
def mvC (c:Cl) (d:Int):Cl:=(c.1 + turnX d,c.2 + turnY d)
theorem cost_pos {d:Int} (h:isDir d=true):10 ≤ costP d ∧ costP d ≤ 14:=by
  unfold costP
  rw [if_pos h]
  split <;> omega
section
variable (ok:Cl → Int → Bool)
inductive Pth (s:Cl):Cl → Int → Prop
  | nil:Pth s s 0
  | step {c:Cl} {v d:Int} (h:Pth s c v) (hk:ok c d=true):Pth s (mvC c d) (v + costP d)
def Mn (s c:Cl) (v:Int):Prop:=Pth ok s c v ∧ ∀ v',Pth ok s c v' → v ≤ v'
end
section
variable {ok:Cl → Int → Bool} {s:Cl}
theorem Pth.nn (hd:∀ c d,ok c d=true → isDir d=true) {c:Cl} {v:Int} (h:Pth ok s c v):0 ≤ v ∧ (c ≠ s → 10 ≤ v):=by
  induction h with
  | nil=>exact ⟨Int.le_refl _,fun h=>absurd rfl h⟩
  | step h hk ih=>have:=cost_pos (hd _ _ hk); exact ⟨by omega,fun _=>by omega⟩
theorem Mn.uniq {c:Cl} {v w:Int} (h:Mn ok s c v) (k:Mn ok s c w):v=w:=Int.le_antisymm (h.2 _ k.1) (k.2 _ h.1)
theorem exists_min {p:Int → Prop} (h0:∀ v,p v → 0 ≤ v) {v:Int} (h:p v):∃ m,p m ∧ ∀ v',p v' → m ≤ v':=by
  have key:∀ (n:Nat) (v:Int),v.toNat ≤ n → p v → ∃ m,p m ∧ ∀ v',p v' → m ≤ v':=by
    intro n
    induction n with
    | zero=>intro v hv hp; exact ⟨v,hp,fun v' h'=>by have:=h0 v hp; have:=h0 v' h'; omega⟩
    | succ n ih =>
      intro v hv hp
      by_cases hc:∃ v',p v' ∧ v' < v
      · obtain ⟨v',h1,h2⟩:=hc
        exact ih v' (by have:=h0 v' h1; omega) h1
      · exact ⟨v,hp,fun v' h'=>Int.not_lt.1 fun hlt=>hc ⟨v',h',hlt⟩⟩
  exact key v.toNat v (Nat.le_refl _) h
theorem Pth.min (hd:∀ c d,ok c d=true → isDir d=true) {c:Cl} {v:Int} (h:Pth ok s c v):∃ m,Mn ok s c m ∧ m ≤ v:=by
  obtain ⟨m,h1,h2⟩:=exists_min (fun v h=>(Pth.nn hd h).1) h
  exact ⟨m,⟨h1,h2⟩,h2 _ h⟩
structure SInv (ok:Cl → Int → Bool) (s:Cl) (g:Cl → Option Int) (dn:Cl → Bool) (R:Cl → Int → Prop) (E:Cl → Int → Prop):Prop where
  p:∀ x v,g x=some v → Pth ok s x v
  s0:g s=some 0
  rd:∀ x d,R x d → dn x=true
  r:∀ x d,R x d → ok x d=true → ∃ v v',g x=some v ∧ g (mvC x d)=some v' ∧ v' ≤ v + costP d
  dm:∀ x,dn x=true → ∃ v,g x=some v ∧ ∀ v',Pth ok s x v' → v ≤ v'
  u:∀ x v,g x=some v → dn x=false → E x v
  e:∀ x v,E x v → ∃ v',g x=some v' ∧ v' ≤ v ∧ Pth ok s x v
variable {g:Cl → Option Int} {dn:Cl → Bool} {R:Cl → Int → Prop} {E:Cl → Int → Prop}
theorem SInv.reach (I:SInv ok s g dn R E) (hR:∀ x d,dn x=true → ok x d=true → R x d) {h:Cl → Int} (hh:∀ c d,ok c d=true → h c ≤ costP d + h (mvC c d)) {x:Cl} {v:Int} (hp:Pth ok s x v) :
    (dn x=true ∧ ∃ v',g x=some v' ∧ v' ≤ v) ∨ ∃ y w,g y=some w ∧ dn y=false ∧ w + h y ≤ v + h x:=by
  induction hp with
  | nil =>
    cases hd:dn s with
    | true=>exact .inl ⟨rfl,0,I.s0,Int.le_refl _⟩
    | false=>exact .inr ⟨s,0,I.s0,hd,Int.le_refl _⟩
  | @step c v d hp hk ih =>
    rcases ih with ⟨h1,v',h2,h3⟩ | ⟨y,w,h1,h2,h3⟩
    · obtain ⟨a,b,q1,q2,q3⟩:=I.r c d (hR c d h1 hk) hk
      rw [h2] at q1; cases q1
      cases hd:dn (mvC c d) with
      | true=>exact .inl ⟨rfl,b,q2,by omega⟩
      | false=>exact .inr ⟨_,b,q2,hd,by omega⟩
    · exact .inr ⟨y,w,h1,h2,by have:=hh c d hk; omega⟩
theorem SInv.first (I:SInv ok s g dn R E) (hR:∀ x d,dn x=true → ok x d=true → R x d) {h:Cl → Int} (hh:∀ c d,ok c d=true → h c ≤ costP d + h (mvC c d)) {c:Cl} {v:Int} (hE:E c v) (hc:dn c=false) (hmin:∀ y w,E y w → v + h c ≤ w + h y) :
    g c=some v ∧ ∀ v',Pth ok s c v' → v ≤ v':=by
  have hm:∀ v',Pth ok s c v' → v ≤ v':=by
    intro v' hp
    rcases I.reach hR hh hp with ⟨h1,_⟩ | ⟨y,w,h1,h2,h3⟩
    · rw [hc] at h1; cases h1
    · have:=hmin y w (I.u y w h1 h2)
      omega
  obtain ⟨v',h1,h2,_⟩:=I.e c v hE
  have:=hm v' (I.p c v' h1)
  obtain rfl:v'=v:=by omega
  exact ⟨h1,hm⟩
theorem SInv.skip (I:SInv ok s g dn R E) {E':Cl → Int → Prop} {c:Cl} (hc:dn c=true) (h1:∀ x v,E' x v → E x v) (h2:∀ x v,E x v → x ≠ c → E' x v):SInv ok s g dn R E' :=
  { I with u:=fun x v hg hd=>h2 x v (I.u x v hg hd) (fun e=>by subst e; rw [hc] at hd; cases hd),e:=fun x v h=>I.e x v (h1 x v h) }
theorem SInv.take (I:SInv ok s g dn R E) {E':Cl → Int → Prop} {c:Cl} {v:Int} (hc:g c=some v ∧ ∀ v',Pth ok s c v' → v ≤ v') (h1:∀ x v,E' x v → E x v) (h2:∀ x v,E x v → x ≠ c → E' x v):SInv ok s g (fun x=>if x=c then true else dn x) R E' :=
  { I with
    rd:=fun x d h=>by have:=I.rd x d h; split <;> first | rfl | exact this
    dm:=fun x h=>by
      try dsimp only at h
      split at h
      · rename_i e; subst e; exact ⟨v,hc⟩
      · exact I.dm x h
    u := fun x w hg hd=>by
      try dsimp only at hd
      split at hd
      · cases hd
      · rename_i hne; exact h2 x w (I.u x w hg hd) hne
    e:=fun x v h=>I.e x v (h1 x v h) }
structure SFin (ok:Cl → Int → Bool) (s:Cl) (g:Cl → Option Int) (dn:Cl → Bool) (h:Cl → Int) (B:Option Int):Prop where
  p:∀ x v,g x=some v → Pth ok s x v
  dm:∀ x,dn x=true → ∃ v,g x=some v ∧ Mn ok s x v
  all:∀ x v,Pth ok s x v → (∀ b,B=some b → v + h x ≤ b) → dn x=true
theorem SInv.fin (I:SInv ok s g dn R E) (hR:∀ x d,dn x=true → ok x d=true → R x d) {h:Cl → Int} (hh:∀ c d,ok c d=true → h c ≤ costP d + h (mvC c d)) {B:Option Int} (hB:∀ x v,E x v → ∃ b,B=some b ∧ b < v + h x):SFin ok s g dn h B where
  p:=I.p
  dm x hx:=by obtain ⟨v,h1,h2⟩:=I.dm x hx; exact ⟨v,h1,I.p x v h1,h2⟩
  all x v hp hb:=by
    rcases I.reach hR hh hp with ⟨h1,_⟩ | ⟨y,w,h1,h2,h3⟩
    · exact h1
    · obtain ⟨b,hb1,hb2⟩:=hB y w (I.u y w h1 h2)
      have:=hb b hb1
      omega
end
noncomputable def firstD (p:Int → Prop):Nat → Option Int
  | 0=>none
  | n + 1=>open Classical in if p (8 - (n + 1:Nat)) then some (8 - (n + 1:Nat)) else firstD p n
section
variable (ok:Cl → Int → Bool) (s:Cl)
def Good (c:Cl) (d:Int):Prop:=ok c d=true ∧ ∃ v,Mn ok s (mvC c d) v ∧ Mn ok s c (v + costP d)
noncomputable def nxtC (c:Cl):Cl:=match firstD (Good ok s c) 8 with
  | some d=>mvC c d
  | none=>c
noncomputable def wayC:Nat → Cl → List Cl
  | 0,_=>[]
  | n + 1,c=>if c=s then [] else nxtC ok s c :: wayC n (nxtC ok s c)
end
section
variable {ok:Cl → Int → Bool} {s:Cl}
theorem Pth.trans {a b c:Cl} {v w:Int} (h:Pth ok a b v) (k:Pth ok b c w):Pth ok a c (v + w):=by
  induction k with
  | nil=>simpa using h
  | step k hk ih=>rw [← Int.add_assoc]; exact .step ih hk
end
structure Bx where
  x:Int
  y:Int
  w:Int
  h:Int
def Bx.has (r:Bx) (c:Cl):Bool:=decide (r.x ≤ c.1) && decide (c.1 < r.x + r.w) && (decide (r.y ≤ c.2) && decide (c.2 < r.y + r.h))
def Bx.ix (r:Bx) (c:Cl):Nat:=((c.2 - r.y) * r.w + (c.1 - r.x)).toNat
def Bx.at (r:Bx) (i:Nat):Cl:=(r.x + ((i % r.w.toNat:Nat):Int),r.y + ((i / r.w.toNat:Nat):Int))
def Bx.n (r:Bx):Nat:=r.w.toNat * r.h.toNat
theorem Bx.has_iff {r:Bx} {c:Cl}:r.has c=true ↔ (r.x ≤ c.1 ∧ c.1 < r.x + r.w) ∧ (r.y ≤ c.2 ∧ c.2 < r.y + r.h):=by simp [Bx.has]
theorem Bx.ix_lt {r:Bx} {c:Cl} (h:r.has c=true):r.ix c < r.n ∧ r.at (r.ix c)=c ∧ (c.2 - r.y) * r.w + (c.1 - r.x)=(r.ix c:Int) ∧ r.ix c=(c.2 - r.y).toNat * r.w.toNat + (c.1 - r.x).toNat:=by
  obtain ⟨⟨h1,h2⟩,h3,h4⟩:=Bx.has_iff.1 h
  obtain ⟨a,ha⟩:∃ a:Nat,c.1 - r.x=a:=⟨(c.1 - r.x).toNat,by omega⟩
  obtain ⟨b,hb⟩:∃ b:Nat,c.2 - r.y=b:=⟨(c.2 - r.y).toNat,by omega⟩
  obtain ⟨w,hw⟩:∃ w:Nat,r.w=w:=⟨r.w.toNat,by omega⟩
  obtain ⟨h,hh⟩:∃ h:Nat,r.h=h:=⟨r.h.toNat,by omega⟩
  have e0:(b:Int) * (w:Int) + (a:Int)=((b * w + a:Nat):Int):=by rw [Int.natCast_add,Int.natCast_mul]
  have hix:r.ix c=b * w + a:=by unfold Bx.ix; rw [ha,hb,hw,e0,Int.toNat_natCast]
  have haw:a < w:=by omega
  have hbh:b < h:=by omega
  have hle:(b + 1) * w ≤ h * w:=Nat.mul_le_mul_right _ hbh
  rw [Nat.add_mul,Nat.one_mul] at hle
  refine ⟨?_,?_,?_,?_⟩
  · rw [hix]; unfold Bx.n; rw [hw,hh,Int.toNat_natCast,Int.toNat_natCast,Nat.mul_comm w h]; omega
  · unfold Bx.at
    rw [hix,hw,Int.toNat_natCast]
    have q1:(b * w + a) % w=a:=by rw [Nat.mul_comm,Nat.mul_add_mod,Nat.mod_eq_of_lt haw]
    have q2:(b * w + a) / w=b:=by rw [Nat.mul_comm,Nat.mul_add_div (by omega),Nat.div_eq_of_lt haw,Nat.add_zero]
    rw [q1,q2]
    exact Prod.ext (by dsimp only; omega) (by dsimp only; omega)
  · rw [hix,ha,hb,hw,e0]
  · rw [hix,ha,hb,hw,Int.toNat_natCast,Int.toNat_natCast,Int.toNat_natCast]
theorem Bx.at_has {r:Bx} {i:Nat} (h:i < r.n):r.has (r.at i)=true ∧ r.ix (r.at i)=i:=by
  unfold Bx.n at h
  have hw:0 < r.w.toNat:=by
    rcases Nat.eq_zero_or_pos r.w.toNat with e | e
    · rw [e,Nat.zero_mul] at h; omega
    · exact e
  have h1:i % r.w.toNat < r.w.toNat:=Nat.mod_lt _ hw
  have h2:i / r.w.toNat < r.h.toNat:=by rw [Nat.div_lt_iff_lt_mul hw,Nat.mul_comm]; exact h
  have hh:r.has (r.at i)=true:=by
    rw [Bx.has_iff]
    unfold Bx.at
    dsimp only
    generalize i % r.w.toNat=a at *
    generalize i / r.w.toNat=b at *
    omega
  refine ⟨hh,?_⟩
  rw [(Bx.ix_lt hh).2.2.2]
  unfold Bx.at
  dsimp only
  have ee:∀ (x:Int) (n:Nat),(x + (n:Int) - x).toNat=n:=fun x n=>by omega
  have e1:(r.y + ((i / r.w.toNat:Nat):Int) - r.y).toNat=i / r.w.toNat:=ee _ _
  have e2:(r.x + ((i % r.w.toNat:Nat):Int) - r.x).toNat=i % r.w.toNat:=ee _ _
  rw [e1,e2,Nat.mul_comm]
  exact Nat.div_add_mod i r.w.toNat
section
variable (ok:Cl → Int → Bool) (s:Cl) (r:Bx)
structure CostsOk (l:List Int):Prop where
  len:l.length=r.n
  val:∀ c,r.has c=true → ∃ v,l[r.ix c]? = some v ∧ ((0 ≤ v ∧ Mn ok s c v) ∨ (v=-1 ∧ ∀ w,¬ Pth ok s c w))
def cntL (l:List Int):Nat:=l.countP fun v=>decide (0 ≤ v)
structure BInv (l:List Int):Prop where
  len:l.length=r.n
  p:∀ c v,r.has c=true → l[r.ix c]? = some v → 0 ≤ v → Pth ok s c v
  s0:l[r.ix s]? = some 0
  lo:∀ v ∈ l,-1 ≤ v
  bd:∀ v ∈ l,v + 14 ≤ 14 * (cntL l:Int)
def Rlx (l:List Int) (i:Nat) (d:Int):Prop:=∀ v,l[i]? = some v → 0 ≤ v → ok (r.at i) d=true → ∃ w,l[r.ix (mvC (r.at i) d)]? = some w ∧ 0 ≤ w ∧ w ≤ v + costP d
end
section
variable {ok:Cl → Int → Bool} {s:Cl} {r:Bx}
theorem BInv.done {l:List Int} (I:BInv ok s r l) (hd:∀ c d,ok c d=true → isDir d=true ∧ r.has c=true ∧ r.has (mvC c d)=true) (hs:r.has s=true) (hR:∀ i,i < r.n → ∀ d,isDir d=true → Rlx ok r l i d):CostsOk ok s r l:=by
  have key:∀ c v,Pth ok s c v → r.has c=true ∧ ∃ w,l[r.ix c]? = some w ∧ 0 ≤ w ∧ w ≤ v:=by
    intro c v h
    induction h with
    | nil=>exact ⟨hs,0,I.s0,Int.le_refl _,Int.le_refl _⟩
    | @step c v d h hk ih =>
      obtain ⟨h1,w,h2,h3,h4⟩:=ih
      obtain ⟨d1,d2,d3⟩:=hd _ _ hk
      obtain ⟨q1,q2,q3,q4⟩:=Bx.ix_lt h1
      have:=hR (r.ix c) q1 d d1
      unfold Rlx at this
      rw [q2] at this
      obtain ⟨u,u1,u2,u3⟩:=this w h2 h3 hk
      exact ⟨d3,u,u1,u2,by omega⟩
  refine ⟨I.len,fun c hc=>?_⟩
  have hlt:r.ix c < l.length:=by rw [I.len]; exact (Bx.ix_lt hc).1
  obtain ⟨v,hv⟩:∃ v,l[r.ix c]? = some v:=⟨_,List.getElem?_eq_getElem hlt⟩
  refine ⟨v,hv,?_⟩
  by_cases h0:0 ≤ v
  · refine .inl ⟨h0,I.p c v hc hv h0,fun w hw=>?_⟩
    obtain ⟨_,u,u1,u2,u3⟩:=key c w hw
    rw [hv] at u1; cases u1
    exact u3
  · refine .inr ⟨by have:=I.lo v (List.mem_of_getElem? hv); omega,fun w hw=>?_⟩
    obtain ⟨_,u,u1,u2,u3⟩:=key c w hw
    rw [hv] at u1; cases u1
    exact h0 u2
theorem CostsOk.uniq {l k:List Int} (h:CostsOk ok s r l) (g:CostsOk ok s r k):l=k:=by
  apply List.ext_getElem?
  intro i
  by_cases hi:i < r.n
  · obtain ⟨a1,a2⟩:=Bx.at_has hi
    obtain ⟨v,h1,h2⟩:=h.val _ a1
    obtain ⟨w,g1,g2⟩:=g.val _ a1
    rw [a2] at h1 g1
    rw [h1,g1]
    rcases h2 with ⟨h3,h4⟩ | ⟨h3,h4⟩ <;> rcases g2 with ⟨g3,g4⟩ | ⟨g3,g4⟩
    · rw [h4.uniq g4]
    · exact absurd h4.1 (g4 _)
    · exact absurd g4.1 (h4 _)
    · rw [h3,g3]
  · rw [List.getElem?_eq_none (by rw [h.len]; omega),List.getElem?_eq_none (by rw [g.len]; omega)]
end
def jn (rt:Nat → Nat) (a b:Nat):Nat → Nat:=fun x=>if rt x=rt a then rt b else rt x
theorem join1 {H:Hp} {v:SV} {up:List Nat} {rt dp:Nat → Nat} (ho:Own natF H v up) (hW:Well up rt dp) (B:Nat) (hm:∀ i ∈ slFp v,B ≤ i) {i j:Nat} (hi:i < up.length) (hj:j < up.length) :
    ∃ Ha Hb H' up2 up' dp',(∀ Y:Mem,Y.heap=H → Y.hb=B → Y.Wf → RF tb f_parts_root [v,.int .i64 (i:Int)] Y=some (.int .i64 (rt i:Int),Y.hp Ha)) ∧ (∀ Y:Mem,Y.heap=Ha → Y.hb=B → Y.Wf → RF tb f_parts_root [v,.int .i64 (j:Int)] Y=some (.int .i64 (rt j:Int),Y.hp Hb)) ∧
      LiesD natF (Hm Hb) v up2 ∧ rt i < up2.length ∧ (∀ Y:Mem,Y.heap=Hb → Y.hb=B → Y.store (.hp (slN v) (slW v)) (slO v + rt i) [.int .i64 (rt j:Int)]=some (Y.hp H')) ∧ Own natF H' v up' ∧ Well up' (jn rt i j) dp' ∧ up'.length=up.length ∧ Keep (slFp v) H Ha ∧ Keep (slFp v) H Hb ∧ Keep (slFp v) H H' ∧ H'.length=H.length:=by
  obtain ⟨Ha,ua,r1,o1,W1,l1,k1,e1⟩:=r_parts_rootU ho hW B hm hi
  obtain ⟨Hb,ub,r2,o2,W2,l2,k2,e2⟩:=r_parts_rootU o1 W1 B hm (i:=j) (by omega)
  have ht:=(W2.top i (by omega)).1
  obtain ⟨H',st,o3,k3,e3⟩:=storeNY o2 ht B hm (rt j)
  obtain ⟨dp',W3⟩:=well_join W2 (a:=i) (b:=j) (by omega) (by omega)
  exact ⟨Ha,Hb,H',ub,_,dp',r1,r2,o2.lies natF_even,ht,st,o3,W3,by rw [List.length_set]; omega,k1,k1.trans k2,(k1.trans k2).trans k3,by omega⟩
abbrev laM (X:Mem) (k:Nat) (uv:SV) (n n0:Nat) (st:LoopState) (H:Hp):Mem :=
  (X.hp H).fr [.cells true [.ptr (.hp k 0) 0],.cells true [uv],
    .loop ⟨st,none,[(1,.ptr (.st X.dep 0) 0),(2,.int .i64 (n:Int)),(3,.ptr (.st X.dep 1) 0),(38,.fn f_cell_Cells_1 [] [.ptr (.hp n0 0) 0])],[39],pc248,pc256⟩] none
theorem stands_bx7 {W:Wd} {cl sz a b:Int} (h:W.stands cl sz a b=true):0 ≤ a ∧ a < W.w ∧ 0 ≤ b ∧ b < W.h:=by
  have h1:=(stands_in h).2.2.2.1
  unfold Wd.has at h1
  have h2:=has_iff.1 h1
  omega
def rtN (W:Wd) (cl sz:Int) (a b:Int) (i w:Nat) (rt:Nat → Nat):Nat → Nat :=
  if W.stands cl sz a b then
    (if W.stands cl sz a (b - 1) then jn (if W.stands cl sz (a - 1) b then jn rt i (i - 1) else rt) i (i - w) else if W.stands cl sz (a - 1) b then jn rt i (i - 1) else rt)
  else rt
theorem label_yield {X:Mem} (hw:X.Wf) {k kf:Nat} {p:WP} {W:Wd} {cl sz:Int} {flv lv fv zv:SV} {fep ep:Int} {uv:SV} {Hk:Hp} (hP:hget Hk k 0=some (.cells true (paC p W cl sz kf lv fv zv ep))) (hF:FieldAt (Hm Hk) kf p W cl flv fep (W.clrs cl)) (hs:1 ≤ sz ∧ sz ≤ 4) {n n0:Nat} {up:List Nat} {rt dp:Nat → Nat} (ow:Own natF Hk uv up) (hW:Well up rt dp) (hlen:up.length=n) (hn:n ≤ 16384) (hnw:n=W.w.toNat * W.h.toNat) (hm:∀ i ∈ slFp uv,X.hb ≤ i) (hkn:k ∉ slFp uv) (hfk:∀ i ∈ slFp uv,i ≠ kf ∧ i ∉ slFp flv) {a b:Int} (hab:(Bx.mk 0 0 W.w W.h).has (a,b)=true) :
    ∃ Hk' up' dp',Yields tb (.st X.dep 2) [cellV a b] (laM X k uv n n0 .ready Hk) (laM X k uv n n0 .ready Hk') none true ∧ Own natF Hk' uv up' ∧ Well up' (rtN W cl sz a b ((Bx.mk 0 0 W.w W.h).ix (a,b)) W.w.toNat rt) dp' ∧ up'.length=n ∧ Keep (slFp uv) Hk Hk' ∧ Hk'.length=Hk.length:=by
  have w1:=hF.w1
  have w2:=hF.h1
  obtain ⟨p1,p2,p3,p4⟩:=Bx.ix_lt hab
  have hb2:=Bx.has_iff.1 hab
  dsimp only at p3 hb2
  generalize (Bx.mk 0 0 W.w W.h).ix (a,b)=i at *
  have hmul:0 ≤ b * W.w ∧ b * W.w ≤ 16384:=by
    refine ⟨Int.mul_nonneg (by omega) (by omega),?_⟩
    have h1:b * W.w ≤ 128 * W.w:=Int.mul_le_mul_of_nonneg_right (by omega) (by omega)
    omega
  have hi:i < n:=by rw [hnw]; exact p1
  have p3':b * W.w + a=(i:Int):=by rw [← p3]; simp
  have so:=ow.isSl natF_even
  have hst:=fun {Y:Mem} (hX:HpSub (Hm Hk) Y) (hwY:Y.Wf) (x y:Int)=>r_parts_stands (cl:=cl) (sz:=sz) (show (Hm Hk).get (.hp k 0)=_ from hP) hF hs hX hwY x y
  cases h0:W.stands cl sz a b with
  | false =>
    refine ⟨Hk,up,dp,?_,ow,by unfold rtN; rw [h0]; exact hW,hlen,Keep.refl _ _,rfl⟩
    intro fs e
    rw [RV_go (l:=⟨.ready,none,_,_,_,_⟩) _ _ _ (by simp (maxDischargeDepth:=8) only [go_sem,laM]; rfl) rfl rfl (by simp (maxDischargeDepth:=8) only [go_sem,laM,hw])]
    simp (maxDischargeDepth:=8) only [go_sem,laM,hw,so.l,hst,h0]
    try rfl
  | true =>
    have wb:IntKind.wrap .i64 (b * W.w)=b * W.w:=wrap_small (by omega) (by omega)
    have wi:IntKind.wrap .i64 (b * W.w + a)=(i:Int):=by rw [p3']; exact wrap_small (by omega) (by omega)
    have wa1:IntKind.wrap .i64 (a - 1)=a - 1:=wrap_small (by omega) (by omega)
    have wb1:IntKind.wrap .i64 (b - 1)=b - 1:=wrap_small (by omega) (by omega)
    have hleft:W.stands cl sz (a - 1) b=true → 1 ≤ i ∧ IntKind.wrap .i64 ((i:Int) - 1)=((i - 1:Nat):Int):=fun h=>by
      have h1:=stands_bx7 h
      have:1 ≤ i:=by omega
      refine ⟨this,?_⟩
      rw [wrap_small (by omega) (by omega)]; omega
    have hup:W.stands cl sz a (b - 1)=true → W.w.toNat ≤ i ∧ IntKind.wrap .i64 ((i:Int) - W.w)=((i - W.w.toNat:Nat):Int):=fun h=>by
      have h1:=stands_bx7 h
      have h2:1 * W.w ≤ b * W.w:=Int.mul_le_mul_of_nonneg_right (by omega) (by omega)
      have:W.w.toNat ≤ i:=by omega
      refine ⟨this,?_⟩
      rw [wrap_small (by omega) (by omega)]; omega
    cases hl:W.stands cl sz (a - 1) b with
    | false =>
      cases hu:W.stands cl sz a (b - 1) with
      | false =>
        refine ⟨Hk,up,dp,?_,ow,by unfold rtN; rw [h0,hl,hu]; exact hW,hlen,Keep.refl _ _,rfl⟩
        intro fs e
        rw [RV_go (l:=⟨.ready,none,_,_,_,_⟩) _ _ _ (by simp (maxDischargeDepth:=8) only [go_sem,laM]; rfl) rfl rfl (by simp (maxDischargeDepth:=8) only [go_sem,laM,hw])]
        simp (maxDischargeDepth:=8) only [go_sem,laM,hw,so.l,hst,h0,hP,paC,wb,wi,wa1,wb1,hl,hu]
        try rfl
      | true =>
        obtain ⟨u1,u2⟩:=hup hu
        obtain ⟨Ha,Hb,H',up2,up',dp',r1,r2,lb,ht,st,o3,W3,l3,k1,k2,k3,e3⟩:=join1 ow hW X.hb hm (i:=i) (j:=i - W.w.toNat) (by omega) (by omega)
        refine ⟨H',up',dp',?_,o3,by unfold rtN; rw [h0,hl,hu]; exact W3,by omega,k3,e3⟩
        intro fs e
        rw [RV_go (l:=⟨.ready,none,_,_,_,_⟩) _ _ _ (by simp (maxDischargeDepth:=8) only [go_sem,laM]; rfl) rfl rfl (by simp (maxDischargeDepth:=8) only [go_sem,laM,hw])]
        simp (maxDischargeDepth:=8) only [go_sem,laM,hw,so.l,hst,h0,hP,paC,wb,wi,wa1,wb1,hl,hu,u2]
        generalize hz:RF tb f_parts_root _ _=z
        obtain rfl:=hz.symm.trans (r1 _ (by rfl) (by rfl) (by simp (maxDischargeDepth:=8) only [go_sem,hw]))
        have hPa:=k1.get hP hkn
        simp (maxDischargeDepth:=8) only [go_sem,hw,hP,hPa,paC]
        generalize hz:RF tb f_parts_root _ _=z
        obtain rfl:=hz.symm.trans (r2 _ (by rfl) (by rfl) (by simp (maxDischargeDepth:=8) only [go_sem,hw]))
        have st':∀ f e2,((((laM X k uv n n0 .busy Hb).frs fs e).fr f e2).store (.hp (slN uv) (slW uv)) (slO uv + rt i) [.int .i64 (rt (i - W.w.toNat):Int)])=some (((laM X k uv n n0 .busy H').frs fs e).fr f e2):=fun f e2=>st _ rfl rfl
        simp (maxDischargeDepth:=8) only [go_sem,hw,lb.iaddrN ht]
        rw [show ∀ f e2,_=_ from st']
        simp (maxDischargeDepth:=8) only [go_sem,hw]
        rw [List.take_of_length_le (by omega)]
    | true =>
      obtain ⟨q1,q2⟩:=hleft hl
      obtain ⟨Ha,Hb,H',up2,up',dp',r1,r2,lb,ht,st,o3,W3,l3,k1,k2,k3,e3⟩:=join1 ow hW X.hb hm (i:=i) (j:=i - 1) (by omega) (by omega)
      have hP':=k3.get hP hkn
      have hkf:kf ∉ slFp uv:=fun hc=>(hfk _ hc).1 rfl
      have hF':FieldAt (Hm H') kf p W cl flv fep (W.clrs cl):=⟨k3.get (show hget Hk kf 0=_ from hF.hd) hkf,hF.ll.keep k3 (fun j hj hc=>(hfk _ hc).2 hj),hF.len,hF.w1,hF.h1⟩
      have hst':=fun {Y:Mem} (hX:HpSub (Hm H') Y) (hwY:Y.Wf) (x y:Int)=>r_parts_stands (cl:=cl) (sz:=sz) (show (Hm H').get (.hp k 0)=_ from hP') hF' hs hX hwY x y
      have st':∀ fs e f e2,((((laM X k uv n n0 .busy Hb).frs fs e).fr f e2).store (.hp (slN uv) (slW uv)) (slO uv + rt i) [.int .i64 (rt (i - 1):Int)])=some (((laM X k uv n n0 .busy H').frs fs e).fr f e2):=fun fs e f e2=>st _ rfl rfl
      have hPa:=k1.get hP hkn
      cases hu:W.stands cl sz a (b - 1) with
      | false =>
        refine ⟨H',up',dp',?_,o3,by unfold rtN; rw [h0,hl,hu]; exact W3,by omega,k3,e3⟩
        intro fs e
        rw [RV_go (l:=⟨.ready,none,_,_,_,_⟩) _ _ _ (by simp (maxDischargeDepth:=8) only [go_sem,laM]; rfl) rfl rfl (by simp (maxDischargeDepth:=8) only [go_sem,laM,hw])]
        simp (maxDischargeDepth:=8) only [go_sem,laM,hw,so.l,hst,h0,hP,paC,wb,wi,wa1,wb1,hl,q2]
        generalize hz:RF tb f_parts_root _ _=z
        obtain rfl:=hz.symm.trans (r1 _ (by rfl) (by rfl) (by simp (maxDischargeDepth:=8) only [go_sem,hw]))
        simp (maxDischargeDepth:=8) only [go_sem,hw,hP,hPa,paC]
        generalize hz:RF tb f_parts_root _ _=z
        obtain rfl:=hz.symm.trans (r2 _ (by rfl) (by rfl) (by simp (maxDischargeDepth:=8) only [go_sem,hw]))
        simp (maxDischargeDepth:=8) only [go_sem,hw,lb.iaddrN ht]
        rw [show ∀ f e2,_=_ from st' fs e]
        simp (maxDischargeDepth:=8) only [go_sem,hw,so.l,hst',hP',paC,wb1,hu]
        rw [List.take_of_length_le (by omega)]
      | true =>
        obtain ⟨u1,u2⟩:=hup hu
        obtain ⟨Hc,Hd,H'',up3,up'',dp'',s1,s2,ld,hd,sd,o5,W5,l5,j1,j2,j3,e5⟩:=join1 o3 W3 X.hb hm (i:=i) (j:=i - W.w.toNat) (by omega) (by omega)
        have sd':∀ fs e f e2,((((laM X k uv n n0 .busy Hd).frs fs e).fr f e2).store (.hp (slN uv) (slW uv)) (slO uv + jn rt i (i - 1) i) [.int .i64 (jn rt i (i - 1) (i - W.w.toNat):Int)])=some (((laM X k uv n n0 .busy H'').frs fs e).fr f e2):=fun fs e f e2=>sd _ rfl rfl
        have hPc:=j1.get hP' hkn
        refine ⟨H'',up'',dp'',?_,o5,by unfold rtN; rw [h0,hl,hu]; exact W5,by omega,k3.trans j3,by omega⟩
        intro fs e
        rw [RV_go (l:=⟨.ready,none,_,_,_,_⟩) _ _ _ (by simp (maxDischargeDepth:=8) only [go_sem,laM]; rfl) rfl rfl (by simp (maxDischargeDepth:=8) only [go_sem,laM,hw])]
        simp (maxDischargeDepth:=8) only [go_sem,laM,hw,so.l,hst,h0,hP,paC,wb,wi,wa1,wb1,hl,q2]
        generalize hz:RF tb f_parts_root _ _=z
        obtain rfl:=hz.symm.trans (r1 _ (by rfl) (by rfl) (by simp (maxDischargeDepth:=8) only [go_sem,hw]))
        simp (maxDischargeDepth:=8) only [go_sem,hw,hP,hPa,paC]
        generalize hz:RF tb f_parts_root _ _=z
        obtain rfl:=hz.symm.trans (r2 _ (by rfl) (by rfl) (by simp (maxDischargeDepth:=8) only [go_sem,hw]))
        simp (maxDischargeDepth:=8) only [go_sem,hw,lb.iaddrN ht]
        rw [show ∀ f e2,_=_ from st' fs e]
        simp (maxDischargeDepth:=8) only [go_sem,hw,so.l,hst',hP',paC,wb1,hu,u2]
        generalize hz:RF tb f_parts_root _ _=z
        obtain rfl:=hz.symm.trans (s1 _ (by rfl) (by rfl) (by simp (maxDischargeDepth:=8) only [go_sem,hw]))
        simp (maxDischargeDepth:=8) only [go_sem,hw,hP',hPc,paC]
        generalize hz:RF tb f_parts_root _ _=z
        obtain rfl:=hz.symm.trans (s2 _ (by rfl) (by rfl) (by simp (maxDischargeDepth:=8) only [go_sem,hw]))
        simp (maxDischargeDepth:=8) only [go_sem,hw,ld.iaddrN hd]
        rw [show ∀ f e2,_=_ from sd' fs e]
        simp (maxDischargeDepth:=8) only [go_sem,hw]
        rw [List.take_of_length_le (by omega)]
def stI (W:Wd) (cl sz:Int) (i:Nat):Bool:=W.stands cl sz ((i % W.w.toNat:Nat):Int) ((i / W.w.toNat:Nat):Int)
def EL (W:Wd) (cl sz:Int) (m:Nat) (a b:Nat):Prop:=a < m ∧ stI W cl sz a=true ∧ stI W cl sz b=true ∧ ((a % W.w.toNat ≠ 0 ∧ b + 1=a) ∨ b + W.w.toNat=a)
theorem lnk_congr {E F:Nat → Nat → Prop} (h:∀ a b,E a b ↔ F a b) {x y:Nat}:Lnk E x y ↔ Lnk F x y :=
  ⟨Lnk.mono fun a b e=>.step (.refl _) (.inl ((h a b).1 e)),Lnk.mono fun a b e=>.step (.refl _) (.inl ((h a b).2 e))⟩
theorem stI_left {W:Wd} (w1:1 ≤ W.w) {cl sz:Int} {i:Nat}:W.stands cl sz (((i % W.w.toNat:Nat):Int) - 1) ((i / W.w.toNat:Nat):Int)=true ↔ i % W.w.toNat ≠ 0 ∧ stI W cl sz (i - 1)=true:=by
  by_cases h0:i % W.w.toNat=0
  · constructor
    · intro h
      have:=stands_bx7 h
      omega
    · exact fun h=>absurd h0 h.1
  · have hw:0 < W.w.toNat:=by omega
    have h1:(i - 1) % W.w.toNat=i % W.w.toNat - 1 ∧ (i - 1) / W.w.toNat=i / W.w.toNat:=by
      have e:=Nat.div_add_mod i W.w.toNat
      have hl:=Nat.mod_lt i hw
      have e2:i - 1=W.w.toNat * (i / W.w.toNat) + (i % W.w.toNat - 1):=by omega
      constructor
      · rw [e2,Nat.mul_add_mod,Nat.mod_eq_of_lt (by omega)]
      · rw [e2,Nat.mul_add_div hw,Nat.div_eq_of_lt (show i % W.w.toNat - 1 < W.w.toNat by omega),Nat.add_zero]
    unfold stI
    rw [h1.1,h1.2,show (((i % W.w.toNat - 1:Nat):Int))=((i % W.w.toNat:Nat):Int) - 1 by omega]
    exact ⟨fun h=>⟨h0,h⟩,fun h=>h.2⟩
theorem stI_up {W:Wd} (w1:1 ≤ W.w) {cl sz:Int} {i:Nat}:W.stands cl sz ((i % W.w.toNat:Nat):Int) (((i / W.w.toNat:Nat):Int) - 1)=true ↔ W.w.toNat ≤ i ∧ stI W cl sz (i - W.w.toNat)=true:=by
  have hw:0 < W.w.toNat:=by omega
  by_cases h0:i < W.w.toNat
  · constructor
    · intro h
      have h2:=stands_bx7 h
      have:i / W.w.toNat=0:=Nat.div_eq_of_lt h0
      omega
    · exact fun h=>by omega
  · have h1:(i - W.w.toNat) % W.w.toNat=i % W.w.toNat ∧ (i - W.w.toNat) / W.w.toNat=i / W.w.toNat - 1:=by
      refine ⟨(Nat.mod_eq_sub_mod (by omega)).symm,?_⟩
      rw [Nat.div_eq_sub_div hw (by omega:W.w.toNat ≤ i),Nat.add_sub_cancel]
    have h2:1 ≤ i / W.w.toNat:=Nat.div_pos (by omega) hw
    unfold stI
    rw [h1.1,h1.2,show (((i / W.w.toNat - 1:Nat):Int))=((i / W.w.toNat:Nat):Int) - 1 by omega]
    exact ⟨fun h=>⟨by omega,h⟩,fun h=>h.2⟩
theorem rtN_law {W:Wd} (w1:1 ≤ W.w) {cl sz:Int} {n m:Nat} (hm:m < n) {rt:Nat → Nat} (h:∀ x y,x < n → y < n → (rt x=rt y ↔ Lnk (EL W cl sz m) x y)) :
    ∀ x y,x < n → y < n → (rtN W cl sz ((m % W.w.toNat:Nat):Int) ((m / W.w.toNat:Nat):Int) m W.w.toNat rt x=rtN W cl sz ((m % W.w.toNat:Nat):Int) ((m / W.w.toNat:Nat):Int) m W.w.toNat rt y ↔ Lnk (EL W cl sz (m + 1)) x y):=by
  have hw:0 < W.w.toNat:=by omega
  have hin:∀ k,k ≤ n → ∀ x y,EL W cl sz k x y → x < n ∧ y < n:=fun k hk x y e=>⟨by have:=e.1; omega,by have:=e.1; rcases e.2.2.2 with h | h <;> omega⟩
  have hself:stI W cl sz m=W.stands cl sz ((m % W.w.toNat:Nat):Int) ((m / W.w.toNat:Nat):Int):=rfl
  have hlf:=stI_left (W:=W) w1 (cl:=cl) (sz:=sz) (i:=m)
  have hup:=stI_up (W:=W) w1 (cl:=cl) (sz:=sz) (i:=m)
  have two:∀ {P Q:Nat → Nat → Prop} {rt1:Nat → Nat},(∀ a b,P a b ↔ Q a b) → (∀ x y,x < n → y < n → (rt1 x=rt1 y ↔ Lnk P x y)) → ∀ x y,x < n → y < n → (rt1 x=rt1 y ↔ Lnk Q x y):=fun hpq h1 x y hx hy=>(h1 x y hx hy).trans (lnk_congr hpq)
  unfold rtN
  cases h0:W.stands cl sz ((m % W.w.toNat:Nat):Int) ((m / W.w.toNat:Nat):Int) with
  | false =>
    refine two (fun a b=>?_) h
    constructor
    · exact fun e=>⟨by have:=e.1; omega,e.2⟩
    · rintro ⟨e1,e2,e3⟩
      refine ⟨?_,e2,e3⟩
      by_cases e:a=m
      · subst e; rw [hself,h0] at e2; cases e2
      · omega
  | true =>
    simp only [if_true]
    have hst:stI W cl sz m=true:=by rw [hself]; exact h0
    -- the links of this cell
    have key:∀ (L U:Bool),(L=true ↔ m % W.w.toNat ≠ 0 ∧ stI W cl sz (m - 1)=true) → (U=true ↔ W.w.toNat ≤ m ∧ stI W cl sz (m - W.w.toNat)=true) →
        ∀ x y,x < n → y < n → ((if U=true then jn (if L=true then jn rt m (m - 1) else rt) m (m - W.w.toNat) else if L=true then jn rt m (m - 1) else rt) x=(if U=true then jn (if L=true then jn rt m (m - 1) else rt) m (m - W.w.toNat) else if L=true then jn rt m (m - 1) else rt) y ↔ Lnk (EL W cl sz (m + 1)) x y):=by
      intro L U hL hU
      have step1:∀ x y,x < n → y < n → ((if L=true then jn rt m (m - 1) else rt) x=(if L=true then jn rt m (m - 1) else rt) y ↔ Lnk (fun p q=>EL W cl sz m p q ∨ (L=true ∧ p=m ∧ q=m - 1)) x y):=by
        cases L with
        | false=>exact two (fun a b=>by simp) (fun x y hx hy=>h x y hx hy)
        | true=>exact two (fun a b=>by simp) (fun x y hx hy=>lnk_join h hm (by omega) (hin m (by omega)) x y hx hy)
      have step2:∀ x y,x < n → y < n → ((if U=true then jn (if L=true then jn rt m (m - 1) else rt) m (m - W.w.toNat) else if L=true then jn rt m (m - 1) else rt) x=(if U=true then jn (if L=true then jn rt m (m - 1) else rt) m (m - W.w.toNat) else if L=true then jn rt m (m - 1) else rt) y ↔ Lnk (fun p q=>(EL W cl sz m p q ∨ (L=true ∧ p=m ∧ q=m - 1)) ∨ (U=true ∧ p=m ∧ q=m - W.w.toNat)) x y):=by
        cases U with
        | false=>exact two (fun a b=>by simp) (fun x y hx hy=>step1 x y hx hy)
        | true=>exact two (fun a b=>by simp) (fun x y hx hy=>lnk_join step1 hm (by omega) (fun p q e=>by
            rcases e with e | ⟨_,rfl,rfl⟩
            · exact hin m (by omega) p q e
            · exact ⟨hm,by omega⟩) x y hx hy)
      refine two (fun a b=>?_) step2
      constructor
      · rintro ((e | ⟨e1,rfl,rfl⟩) | ⟨e1,rfl,rfl⟩)
        · exact ⟨by have:=e.1; omega,e.2⟩
        · have:=hL.1 e1
          have hpos:1 ≤ a:=by
            rcases Nat.eq_zero_or_pos a with h | h
            · subst h; simp at this
            · exact h
          exact ⟨Nat.lt_succ_self _,hst,this.2,.inl ⟨this.1,by omega⟩⟩
        · have:=hU.1 e1
          exact ⟨Nat.lt_succ_self _,hst,this.2,.inr (by omega)⟩
      · rintro ⟨e1,e2,e3,e4⟩
        by_cases e:a=m
        · subst e
          rcases e4 with ⟨e4,e5⟩ | e5
          · have:b=a - 1:=by omega
            subst this
            exact .inl (.inr ⟨hL.2 ⟨e4,e3⟩,rfl,rfl⟩)
          · have:b=a - W.w.toNat:=by omega
            subst this
            exact .inr ⟨hU.2 ⟨by omega,e3⟩,rfl,rfl⟩
        · exact .inl (.inl ⟨by omega,e2,e3,e4⟩)
    exact key _ _ hlf hup
abbrev la2 (X:Mem) (k:Nat) (uv:SV) (kM d0:Nat) (lb:SBk) (st:LoopState) (H:Hp) (e:Option Nat):Mem :=
  (X.hp H).fr [.cells true [.ptr (.hp k 0) 0],.cells true [uv],lb,.cells true [.map (.hp kM 0)],
    .loop ⟨st,none,[(1,.ptr (.st X.dep 0) 0),(3,.ptr (.st X.dep 1) 0),(7,.ptr (.st X.dep 3) 0),(110,.fn f_cell_Cells_1 [] [.ptr (.hp d0 0) 0])],[111],pc259,pc269⟩] e
structure LFix (X:Mem) (k kM kf:Nat) (uv lv flv:SV) (B0:Nat):Prop where
  kB:k < kM ∧ kM < B0 ∧ kf < B0 ∧ kf ≠ k ∧ kf ≠ kM
  uB:∀ j ∈ slFp uv,j < B0 ∧ j ≠ k ∧ j ≠ kM ∧ j ≠ kf ∧ j ∉ slFp flv ∧ j ∉ slFp lv ∧ X.hb ≤ j
  lB:∀ j ∈ slFp lv,j < B0 ∧ j ≠ k ∧ j ≠ kM ∧ j ≠ kf ∧ j ∉ slFp flv ∧ X.hb ≤ j
  fB:∀ j ∈ slFp flv,j < B0 ∧ j ≠ k ∧ j ≠ kM
  hb:X.hb ≤ k
structure LAt (X:Mem) (k kM kf:Nat) (p:WP) (W:Wd) (cl sz:Int) (uv lv flv:SV) (fep:Int) (B0:Nat) (H:Hp) (up L:List Nat) (F:List (Int × Int)) (Z:List Nat) (M:List (Int × Int)) (fv zv:SV) (ep:Int):Prop where
  P:hget H k 0=some (.cells true (paC p W cl sz kf lv fv zv ep))
  D:FieldAt (Hm H) kf p W cl flv fep (W.clrs cl)
  u:Own natF H uv up
  l:Own natF H lv L
  f:Own cellF H fv F
  z:Own natF H zv Z
  m:hget H kM 0=some (.map (alV intV intV M))
  ff:∀ j ∈ slFp fv,B0 ≤ j
  zf:∀ j ∈ slFp zv,B0 ≤ j ∧ j ∉ slFp fv
  hl:B0 ≤ H.length
theorem LAt.field {H H':Hp} {S:List Nat} {kf:Nat} {p:WP} {W:Wd} {cl:Int} {flv:SV} {fep:Int} (h:FieldAt (Hm H) kf p W cl flv fep (W.clrs cl)) (k:Keep S H H') (h1:kf ∉ S) (h2:∀ j ∈ slFp flv,j ∉ S):FieldAt (Hm H') kf p W cl flv fep (W.clrs cl) :=
  ⟨k.get (show hget H kf 0=_ from h.hd) h1,h.ll.keep k h2,h.len,h.w1,h.h1⟩
def MNum (M:List (Int × Int)) (num:Nat → Nat):Prop:=∀ r:Nat,alGet (r:Int) M=if num r=0 then none else some (num r:Int)
theorem MNum.set {M:List (Int × Int)} {num:Nat → Nat} (h:MNum M num) (r v:Nat) (hv:v ≠ 0):MNum (alSet (r:Int) (v:Int) M) (fun q=>if q=r then v else num q):=by
  intro q
  rw [alGet_set]
  by_cases e:q=r
  · subst e
    simp only [if_true]
    rw [if_neg hv]
  · simp only [if_neg e]
    rw [if_neg (by omega)]; exact h q
theorem own_fp7 {α:Type} {d:Fl α} {H:Hp} {v:SV} {l:List α} (h:Own d H v l) (hl:l ≠ []):∃ j,j ∈ slFp v:=by
  rcases h with ⟨_,rfl⟩ | ⟨_,rfl⟩ | ⟨n,w,off,cap,c,rfl,_⟩
  · exact absurd rfl hl
  · exact absurd rfl hl
  · exact ⟨n,by simp [slFp]⟩
theorem aw_of {α:Type} {d:Fl α} {H:Hp} {v:SV} {l:List α} (h:Own d H v l) {aw:Bk → Bool} (ha:∀ j ∈ slFp v,∀ w,aw (.hp j w)=true):awF v aw=true:=by
  rcases h with ⟨rfl,_⟩ | ⟨rfl,_⟩ | ⟨n,w,off,cap,c,rfl,_⟩
  · rfl
  · rfl
  · exact ha n (by simp [slFp]) w
theorem hxs_nat (l:List Nat):SV.hxs (l.flatMap natF.enc)=0:=by induction l with | nil=>rfl | cons a l ih=>simp only [List.flatMap_cons]; exact ih
theorem natF_ok (l:List Nat):SV.cellsOk 0 0 (l.flatMap natF.enc)=true:=cellsOk_flat (fun _=>rfl) l
theorem label2_yield {X:Mem} (hw:X.Wf) {k kM kf d0:Nat} {p:WP} {W:Wd} {cl sz:Int} {uv lv flv fv zv:SV} {fep ep:Int} {B0:Nat} {lb:SBk} {Hk:Hp} {e0:Option Nat} {n:Nat} {up L:List Nat} {F:List (Int × Int)} {Z:List Nat} {M:List (Int × Int)} {rt dp num:Nat → Nat}
    (hX:LFix X k kM kf uv lv flv B0) (A:LAt X k kM kf p W cl sz uv lv flv fep B0 Hk up L F Z M fv zv ep) (hs:1 ≤ sz ∧ sz ≤ 4) (hW:Well up rt dp) (hlen:up.length=n) (hn:n ≤ 16384) (hnw:n=W.w.toNat * W.h.toNat) {c:Nat} (hc:c < n)
    (hB:Lab n (stI W cl sz) rt (fun i=>(((i % W.w.toNat:Nat):Int),((i / W.w.toNat:Nat):Int))) c L F Z num) (hM:MNum M num) :
    ∃ H' up' L' F' Z' M' num' fv' zv' u,Yields tb (.st X.dep 4) [cellV ((c % W.w.toNat:Nat):Int) ((c / W.w.toNat:Nat):Int)] (la2 X k uv kM d0 lb .ready Hk e0) (la2 X k uv kM d0 lb .ready H' e0) u true ∧
      LAt X k kM kf p W cl sz uv lv flv fep B0 H' up' L' F' Z' M' fv' zv' ep ∧ Well up' rt dp ∧ up'.length=n ∧ Lab n (stI W cl sz) rt (fun i=>(((i % W.w.toNat:Nat):Int),((i / W.w.toNat:Nat):Int))) (c + 1) L' F' Z' num' ∧ MNum M' num' ∧ Keep (k :: kM :: (slFp uv ++ slFp lv ++ slFp fv ++ slFp zv)) Hk H' ∧ ((u=none ∧ H'.length=Hk.length) ∨ u=some k):=by
  have w1:=A.D.w1
  have w2:=A.D.h1
  have hwp:0 < W.w.toNat:=by omega
  have e1:=Nat.div_add_mod c W.w.toNat
  have e2:=Nat.mod_lt c hwp
  have e3:c / W.w.toNat < W.h.toNat:=by rw [Nat.div_lt_iff_lt_mul hwp,Nat.mul_comm]; omega
  have hself:stI W cl sz c=W.stands cl sz ((c % W.w.toNat:Nat):Int) ((c / W.w.toNat:Nat):Int):=rfl
  have so:=A.u.isSl natF_even
  have hst:=fun {Y:Mem} (hY:HpSub (Hm Hk) Y) (hwY:Y.Wf) (x y:Int)=>r_parts_stands (cl:=cl) (sz:=sz) (show (Hm Hk).get (.hp k 0)=_ from A.P) A.D hs hY hwY x y
  have hmul:((c / W.w.toNat:Nat):Int) * W.w=((c / W.w.toNat * W.w.toNat:Nat):Int):=by rw [Int.natCast_mul,Int.toNat_of_nonneg (show 0 ≤ W.w by omega)]
  have hmb:c / W.w.toNat * W.w.toNat + c % W.w.toNat=c:=by rw [Nat.mul_comm]; exact e1
  have wb:IntKind.wrap .i64 (((c / W.w.toNat:Nat):Int) * W.w)=((c / W.w.toNat * W.w.toNat:Nat):Int):=by rw [hmul,wrap_small (by omega) (by omega)]
  have wi:IntKind.wrap .i64 (((c / W.w.toNat * W.w.toNat:Nat):Int) + ((c % W.w.toNat:Nat):Int))=(c:Int):=by rw [wrap_small (by omega) (by omega)]; omega
  have hP:=A.P
  generalize ha:((c % W.w.toNat:Nat):Int)=a at *
  generalize hb:((c / W.w.toNat:Nat):Int)=b at *
  cases h0:W.stands cl sz a b with
  | false =>
    refine ⟨Hk,up,L,F,Z,M,num,fv,zv,none,?_,A,hW,hlen,hB.no (hself.trans h0),hM,Keep.refl _ _,.inl ⟨rfl,rfl⟩⟩
    intro fs e
    rw [RV_go (l:=⟨.ready,none,_,_,_,_⟩) _ _ _ (by simp (maxDischargeDepth:=8) only [go_sem,la2]; rfl) rfl rfl (by simp (maxDischargeDepth:=8) only [go_sem,la2,hw])]
    simp (maxDischargeDepth:=8) only [go_sem,la2,hw,so.l,hst,h0,hP,paC,wb,wi]
  | true =>
    obtain ⟨H1,up1,r1,o1,W1,l1,k1,n1⟩:=r_parts_rootU A.u hW X.hb (fun j hj=>(hX.uB j hj).2.2.2.2.2.2) (i:=c) (by omega)
    have nku:k ∉ slFp uv:=fun h=>(hX.uB k h).2.1 rfl
    have nmu:kM ∉ slFp uv:=fun h=>(hX.uB kM h).2.2.1 rfl
    have nfu:kf ∉ slFp uv:=fun h=>(hX.uB kf h).2.2.2.1 rfl
    have hP1:=k1.get hP nku
    have hM1:=k1.get A.m nmu
    have D1:=LAt.field A.D k1 nfu (fun j hj hc=>(hX.uB j hc).2.2.2.2.1 hj)
    have ol1:Own natF H1 lv L:=A.l.keep k1 (fun j hj hc=>(hX.uB j hc).2.2.2.2.2.1 hj)
    have of1:Own cellF H1 fv F:=A.f.keep k1 (fun j hj hc=>by have:=A.ff j hj; have:=(hX.uB j hc).1; omega)
    have oz1:Own natF H1 zv Z:=A.z.keep k1 (fun j hj hc=>by have:=(A.zf j hj).1; have:=(hX.uB j hc).1; omega)
    have hkl1:=hget_lt hP1
    have hhb:=hX.hb
    have hxk:=hX.kB
    have hbm:X.hb ≤ kM:=by omega
    have hLl:=hB.len
    have hZl:Z.length=F.length:=by rw [hB.zs,List.length_map,List.length_range]
    have hFn:F.length ≤ c:=by
      have key:∀ j,mxP (fun i=>L.getD i 0) j ≤ j → True:=fun _ _=>trivial
      rw [hB.mx]
      clear key
      have : (fsP (fun i=>L.getD i 0) c).length ≤ c:=by
        have:∀ j,(fsP (fun i=>L.getD i 0) j).length ≤ j:=fun j=>by
          induction j with
          | zero=>exact Nat.le_refl _
          | succ j ih =>
            simp only [fsP]
            split
            · rw [List.length_append,List.length_singleton]; omega
            · omega
        exact this c
      rw [← hB.mx,hB.fs,List.length_map]; exact this
    have hyes:=hB.yes hc (hself.trans h0)
    have sl:=A.l.isSl natF_even
    have sz1:=A.z.isSl natF_even
    have sf:=A.f.isSl cellF_even
    by_cases hnum:num (rt c)=0
    · simp only [hnum,if_true,true_and] at hyes
      have hz0:(Z ++ [0]).getD F.length 0=0:=by rw [List.getD_eq_getElem?_getD,List.getElem?_append_right (by omega)]; simp [hZl]
      rw [show F.length + 1 - 1=F.length from rfl,hz0,Nat.zero_add,ha,hb] at hyes
      have hA:assoc (.int .i64 (rt c:Int)) (alV intV intV M)=some none:=by
        rw [assoc_int,hM,hnum,if_pos rfl]; rfl
      obtain ⟨Ha,hHa⟩:∃ Ha,H1 ++ [(0,SBk.cells true [.int .i64 a,.int .i64 b])]=Ha:=⟨_,rfl⟩
      have ka:Keep [] H1 Ha:=by rw [← hHa]; exact Keep.app _ _ _
      have la:Ha.length=H1.length + 1:=by rw [← hHa,List.length_append]; rfl
      have ya:LiesD cellF (Hm Ha) (.sl (.hp H1.length 0) 0 1 (some 1) 2) [(a,b)]:=by rw [← hHa]; exact (own_new cellF_even H1 [(a,b)] (some 1)).lies cellF_even
      obtain ⟨fv',H2,ap1,of2,k2,f2,⟨c21,c22,c23⟩,n2⟩:=app_ownY cellF_even (by decide) cellF_ok hxs_cell (of1.keep ka (by simp)) ya (bytes:=16) (by simp only [List.length_singleton,two48]; omega) (by simp only [List.length_singleton,two48]; omega) X (fun j hj=>by have:=A.ff j hj; omega)
      have hB0:=A.hl
      have hP2:=k2.get (ka.get hP1 (by simp)) (fun h=>by have:=A.ff k h; omega)
      have hM2:=k2.get (ka.get hM1 (by simp)) (fun h=>by have:=A.ff kM h; omega)
      obtain ⟨Hb,hHb⟩:∃ Hb,H2 ++ [(0,SBk.cells true [.int .i64 0])]=Hb:=⟨_,rfl⟩
      have kb:Keep [] H2 Hb:=by rw [← hHb]; exact Keep.app _ _ _
      have lb':Hb.length=H2.length + 1:=by rw [← hHb,List.length_append]; rfl
      have yb:LiesD natF (Hm Hb) (.sl (.hp H2.length 0) 0 1 (some 1) 1) [0]:=by rw [← hHb]; exact (own_new natF_even H2 [0] (some 1)).lies natF_even
      have oz2:Own natF H2 zv Z:=(oz1.keep ka (by simp)).keep k2 (fun j hj hc=>(A.zf j hj).2 hc)
      obtain ⟨zv',H3,ap2,oz3,k3,f3,⟨c31,c32,c33⟩,n3⟩:=app_ownY natF_even (by decide) natF_ok hxs_nat (oz2.keep kb (by simp)) yb (bytes:=8) (by simp only [List.length_singleton,two48]; omega) (by simp only [List.length_singleton,two48]; omega) X (fun j hj=>by have:=(A.zf j hj).1; omega)
      have q2:=k2.1
      have q3:=k3.1
      have sfv':=of2.isSl cellF_even
      have szv':=oz3.isSl natF_even
      have ff2:∀ j ∈ slFp fv',B0 ≤ j:=fun j hj=>by
        rcases f2 j hj with h | h
        · exact A.ff j h
        · omega
      have zf3:∀ j ∈ slFp zv',B0 ≤ j ∧ j ∉ slFp fv':=fun j hj=>by
        rcases f3 j hj with h | h
        · refine ⟨(A.zf j h).1,fun hc=>?_⟩
          rcases f2 j hc with h2 | h2
          · exact (A.zf j h).2 h2
          · have:=(A.z.fp j h); omega
        · refine ⟨by omega,fun hc=>?_⟩
          have:=of2.fp j hc
          omega
      have ap1':∀ (aw:Bk → Bool) (Y:Mem),awF fv aw=true → Y.heap=Ha → Y.hb=X.hb → appV 2 16 [.int .i64 0,.int .i64 0] aw fv (.sl (.hp H1.length 0) 0 1 (some 1) 2) Y=some (fv',Y.hp H2):=fun aw Y h1 h2 h3=>ap1 [.int .i64 0,.int .i64 0] rfl aw h1 Y h2 h3
      have ap2':∀ (aw:Bk → Bool) (Y:Mem),awF zv aw=true → Y.heap=Hb → Y.hb=X.hb → appV 1 8 [.int .i64 0] aw zv (.sl (.hp H2.length 0) 0 1 (some 1) 1) Y=some (zv',Y.hp H3):=fun aw Y h1 h2 h3=>ap2 [.int .i64 0] rfl aw h1 Y h2 h3
      have hP3:=k3.get (kb.get hP2 (by simp)) (fun h=>by have:=(A.zf k h).1; omega)
      have hk3:=hget_lt hP3
      obtain ⟨H4,hH4⟩:∃ H4,H3.set k (0,.cells true (paC p W cl sz kf lv fv' zv ep))=H4:=⟨_,rfl⟩
      have hP4:hget H4 k 0=some (.cells true (paC p W cl sz kf lv fv' zv ep)):=by rw [← hH4,hget_set_eq hk3,if_pos rfl]
      have k4:Keep [k] H3 H4:=by rw [← hH4]; exact Keep.set (by simp) _ _
      have n4:H4.length=H3.length:=by rw [← hH4,List.length_set]
      obtain ⟨H5,hH5⟩:∃ H5,H4.set k (0,.cells true (paC p W cl sz kf lv fv' zv' ep))=H5:=⟨_,rfl⟩
      have hP5:hget H5 k 0=some (.cells true (paC p W cl sz kf lv fv' zv' ep)):=by rw [← hH5,hget_set_eq (by omega),if_pos rfl]
      have k5:Keep [k] H4 H5:=by rw [← hH5]; exact Keep.set (by simp) _ _
      have n5:H5.length=H4.length:=by rw [← hH5,List.length_set]
      have hH4':H3.set k (0,SBk.cells true [SV.ptr (.hp p.k 0) 0,.int .i64 cl,.int .i64 sz,.int .i64 0,.int .i64 0,.int .i64 W.w,.int .i64 W.h,.ptr (.hp kf 0) 0,lv,fv',zv,.int .i64 ep])=H4:=hH4
      have hH5':H4.set k (0,SBk.cells true [SV.ptr (.hp p.k 0) 0,.int .i64 cl,.int .i64 sz,.int .i64 0,.int .i64 0,.int .i64 W.w,.int .i64 W.h,.ptr (.hp kf 0) 0,lv,fv',zv',.int .i64 ep])=H5:=hH5
      have hfx:(fv'.hx ≤ k)=False:=by
        obtain ⟨j,hj⟩:=own_fp7 of2 (by simp)
        have:=hx_fp hj; have:=ff2 j hj
        exact eq_false (by omega)
      have hzx:(zv'.hx ≤ k)=False:=by
        obtain ⟨j,hj⟩:=own_fp7 oz3 (by simp)
        have:=hx_fp hj; have:=(zf3 j hj).1
        exact eq_false (by omega)
      have hM5:=k5.get (k4.get (k3.get (kb.get hM2 (by simp)) (fun h=>by have:=(A.zf kM h).1; omega)) (by simp; omega)) (by simp; omega)
      have hm5:=hget_lt hM5
      have of5:Own cellF H5 fv' (F ++ [(a,b)]):=(((of2.keep kb (by simp)).keep k3 (fun j hj hc=>by
        rcases f2 j hj with h | h
        · exact (A.zf j hc).2 h
        · have:=A.z.fp j hc; omega)).keep k4 (fun j hj hc=>by simp at hc; have:=ff2 j hj; omega)).keep k5 (fun j hj hc=>by simp at hc; have:=ff2 j hj; omega)
      have oz5:Own natF H5 zv' (Z ++ [0]):=(oz3.keep k4 (fun j hj hc=>by simp at hc; have:=(zf3 j hj).1; omega)).keep k5 (fun j hj hc=>by simp at hc; have:=(zf3 j hj).1; omega)
      have kA5:Keep (k :: (slFp fv ++ slFp zv)) H1 H5:=((((ka.weak (by simp)).trans' k2 (fun m hm hl=>by simp [hm])).trans' kb (by simp)).trans' k3 (fun m hm hl=>by simp [hm])).trans' k4 (by simp) |>.trans' k5 (by simp)
      have hdis:∀ j,j < B0 → j ≠ k → j ∉ k :: (slFp fv ++ slFp zv):=fun j h1 h2 hc=>by
        rcases List.mem_cons.1 hc with h | h
        · exact h2 h
        · rcases List.mem_append.1 h with h | h
          · have:=A.ff j h; omega
          · have:=(A.zf j h).1; omega
      have ol5:Own natF H5 lv L:=ol1.keep kA5 (fun j hj=>hdis j (hX.lB j hj).1 (hX.lB j hj).2.1)
      have ou5:Own natF H5 uv up1:=o1.keep kA5 (fun j hj=>hdis j (hX.uB j hj).1 (hX.uB j hj).2.1)
      have D5:=LAt.field D1 kA5 (hdis kf (by omega) (by omega)) (fun j hj=>hdis j (hX.fB j hj).1 (hX.fB j hj).2.1)
      -- the map
      have eset:assocSet (.int .i64 (rt c:Int)) (.int .i64 ((F.length + 1:Nat):Int)) (alV intV intV M)=alV intV intV (alSet (rt c:Int) ((F.length + 1:Nat):Int) M):=set_al seq_int _ _ _
      obtain ⟨H6,hH6⟩:∃ H6,H5.set kM (0,SBk.map (alV intV intV (alSet (rt c:Int) ((F.length + 1:Nat):Int) M)))=H6:=⟨_,rfl⟩
      have k6:Keep [kM] H5 H6:=by rw [← hH6]; exact Keep.set (by simp) _ _
      have n6:H6.length=H5.length:=by rw [← hH6,List.length_set]
      have hM6:hget H6 kM 0=some (.map (alV intV intV (alSet (rt c:Int) ((F.length + 1:Nat):Int) M))):=by rw [← hH6,hget_set_eq hm5,if_pos rfl]
      have hP6:=k6.get hP5 (by simp; omega)
      have hA6:assoc (.int .i64 (rt c:Int)) (alV intV intV (alSet (rt c:Int) ((F.length + 1:Nat):Int) M))=some (some (.int .i64 ((F.length + 1:Nat):Int))):=by
        rw [assoc_int,alGet_set,if_pos rfl]; rfl
      have ol6:Own natF H6 lv L:=ol5.keep k6 (fun j hj hc=>by simp at hc; exact (hX.lB j hj).2.2.1 hc)
      have oz6:Own natF H6 zv' (Z ++ [0]):=oz5.keep k6 (fun j hj hc=>by simp at hc; have:=(zf3 j hj).1; omega)
      have of6:Own cellF H6 fv' (F ++ [(a,b)]):=of5.keep k6 (fun j hj hc=>by simp at hc; have:=ff2 j hj; omega)
      have ou6:Own natF H6 uv up1:=ou5.keep k6 (fun j hj hc=>by simp at hc; exact (hX.uB j hj).2.2.1 hc)
      have D6:=LAt.field D5 k6 (by simp; omega) (fun j hj hc=>by simp at hc; exact (hX.fB j hj).2.2 hc)
      have ll6:=ol6.lies natF_even
      obtain ⟨H7,st7,o7,k7,n7⟩:=storeNY ol6 (i:=c) (by omega) X.hb (fun j hj=>(hX.lB j hj).2.2.2.2.2) (F.length + 1)
      have hP7:=k7.get hP6 (fun h=>(hX.lB k h).2.1 rfl)
      have hM7:=k7.get hM6 (fun h=>(hX.lB kM h).2.2.1 rfl)
      have oz7:Own natF H7 zv' (Z ++ [0]):=oz6.keep k7 (fun j hj hc=>by have:=(zf3 j hj).1; have:=(hX.lB j hc).1; omega)
      have of7:Own cellF H7 fv' (F ++ [(a,b)]):=of6.keep k7 (fun j hj hc=>by have:=ff2 j hj; have:=(hX.lB j hc).1; omega)
      have ou7:Own natF H7 uv up1:=ou6.keep k7 (fun j hj hc=>(hX.uB j hj).2.2.2.2.2.1 hc)
      have D7:=LAt.field D6 k7 (fun h=>(hX.lB kf h).2.2.2.1 rfl) (fun j hj hc=>(hX.lB j hc).2.2.2.2.1 hj)
      have lz7:=oz7.lies natF_even
      have hzl:(Z ++ [0]).length=F.length + 1:=by simp [hZl]
      have hzg:(Z ++ [0])[F.length]? = some 0:=by rw [← hZl,List.getElem?_append_right (Nat.le_refl _),Nat.sub_self]; rfl
      have lzO:loadO (hget H7 (slN zv') (slW zv')) (slO zv' + F.length) none=some (.int .i64 0):=(hp_load (m:=Hm []) (H:=H7) _ _ _ _).symm.trans (lz7.loadN' hzg (X:=Hm H7) (hpsub_refl _))
      obtain ⟨H8,st8,o8,k8,n8⟩:=storeNY oz7 (i:=F.length) (by omega) X.hb (fun j hj=>by have:=(zf3 j hj).1; omega) 1
      have wm:IntKind.wrap .i64 (((F.length + 1:Nat):Int) - 1)=(F.length:Int):=by rw [wrap_small (by omega) (by omega)]; omega
      have lf5:∀ (Y:Mem),lenV fv' Y=some (.int .i64 ((F.length + 1:Nat):Int),Y):=fun Y=>by have:=(of5.lies cellF_even).len Y; rw [this]; simp
      refine ⟨H8,up1,L.set c (F.length + 1),F ++ [(a,b)],(Z ++ [0]).set F.length 1,alSet (rt c:Int) ((F.length + 1:Nat):Int) M,_,fv',zv',some k,?_,⟨k8.get hP7 (fun h=>by have:=(zf3 k h).1; omega),LAt.field D7 k8 (fun h=>by have:=(zf3 kf h).1; omega) (fun j hj hc=>by have:=(zf3 j hc).1; have:=(hX.fB j hj).1; omega),ou7.keep k8 (fun j hj hc=>by have:=(zf3 j hc).1; have:=(hX.uB j hj).1; omega),o7.keep k8 (fun j hj hc=>by have:=(zf3 j hc).1; have:=(hX.lB j hj).1; omega),of7.keep k8 (fun j hj hc=>(zf3 j hc).2 hj),o8,k8.get hM7 (fun h=>by have:=(zf3 kM h).1; omega),ff2,zf3,by omega⟩,W1,by omega,hyes,hM.set _ _ (by omega),?_,.inr rfl⟩
      rotate_left
      · have s1:Keep (k :: kM :: (slFp uv ++ slFp lv ++ slFp fv ++ slFp zv)) Hk H1:=k1.weak (fun m hm _=>by simp [hm])
        have s5:=s1.trans' kA5 (fun m hm hl=>by
          rcases List.mem_cons.1 hm with h | h
          · simp [h]
          · rcases List.mem_append.1 h with h | h <;> simp [h])
        have s7:=(s5.trans' k6 (fun m hm hl=>by simp at hm; simp [hm])).trans' k7 (fun m hm hl=>by simp [hm])
        exact s7.trans' k8 (fun m hm hl=>by
          rcases f3 m hm with h | h
          · simp [h]
          · omega)
      intro fs e
      rw [RV_go (l:=⟨.ready,none,_,_,_,_⟩) _ _ _ (by simp (maxDischargeDepth:=8) only [go_sem,la2]; rfl) rfl rfl (by simp (maxDischargeDepth:=8) only [go_sem,la2,hw])]
      simp (maxDischargeDepth:=8) only [go_sem,la2,hw,so.l,hst,h0,hP,paC,wb,wi]
      generalize hz:RF tb f_parts_root _ _=z
      obtain rfl:=hz.symm.trans (r1 _ (by rfl) (by rfl) (by simp (maxDischargeDepth:=8) only [go_sem,hw]))
      simp (maxDischargeDepth:=8) only [go_sem,hw,hM1,hA,Option.getD_none,show ((0:Int) == 0)=true from by decide,hP1,paC,shut_get,hHa,ka.get hP1 (by simp),ka.get hM1 (by simp)]
      rw [ap1' _ _ (aw_of of1 (fun j hj w=>by have:=A.ff j hj; simp; omega)) (by rfl) (by rfl)]
      simp (maxDischargeDepth:=8) only [go_sem,hw,hHb]
      rw [ap2' _ _ (aw_of oz2 (fun j hj w=>by simp)) (by rfl) (by rfl)]
      simp (maxDischargeDepth:=8) only [go_sem,hw,hP3,hhb,paC,sfv'.l,sfv'.c,sfv'.k,sfv'.o,szv'.l,szv'.c,szv'.k,szv'.o,hH4',hP4,hH5',hfx,hzx,shut_get,hP5,lf5,hbm,hM5,hA,eset,hH6,show escMin (some k) (some k)=some k by simp [escMin],hP6,hM6,hA6,Option.getD_some,ll6.iaddrN (i:=c) (by omega)]
      have e7:∀ f g e' e2,((((X.hp H6).fr f e').frs fs e).fr g e2).store (.hp (slN lv) (slW lv)) (slO lv + c) [.int .i64 ((F.length + 1:Nat):Int)]=some ((((X.hp H7).fr f e').frs fs e).fr g e2):=fun f g e' e2=>st7 _ rfl rfl
      simp (maxDischargeDepth:=8) only [go_sem,hw,e7,hP7,hM7,hA6,paC,shut_get,Option.getD_some,wm,lz7.iaddrN (i:=F.length) (by omega),lzO,show IntKind.wrap .i64 1=1 by decide]
      have e8:∀ f g e' e2,((((X.hp H7).fr f e').frs fs e).fr g e2).store (.hp (slN zv') (slW zv')) (slO zv' + F.length) [.int .i64 1]=some ((((X.hp H8).fr f e').frs fs e).fr g e2):=fun f g e' e2=>st8 _ rfl rfl
      simp (maxDischargeDepth:=8) only [go_sem,hw,e8]
      rw [escOk_some (hget_lt A.P),if_neg (by decide)]
    · obtain ⟨m,hm⟩:∃ m,num (rt c)=m:=⟨_,rfl⟩
      rw [hm] at hnum hyes
      have hml:m ≤ F.length:=by rw [← hm]; exact hB.le _
      rw [if_neg hnum,if_neg hnum,if_neg hnum,show (fun r=>if m=0 ∧ r=rt c then F.length + 1 else num r)=num from funext fun r=>if_neg (fun h=>hnum h.1)] at hyes
      have hA:assoc (.int .i64 (rt c:Int)) (alV intV intV M)=some (some (.int .i64 (m:Int))):=by
        rw [assoc_int,hM,hm,if_neg hnum]; rfl
      obtain ⟨H2,st2,o2,k2,n2⟩:=storeNY ol1 (i:=c) (by omega) X.hb (fun j hj=>(hX.lB j hj).2.2.2.2.2) m
      have nkl:k ∉ slFp lv:=fun h=>(hX.lB k h).2.1 rfl
      have nml:kM ∉ slFp lv:=fun h=>(hX.lB kM h).2.2.1 rfl
      have hP2:=k2.get hP1 nkl
      have hM2:=k2.get hM1 nml
      have oz2:Own natF H2 zv Z:=oz1.keep k2 (fun j hj hc=>by have:=(A.zf j hj).1; have:=(hX.lB j hc).1; omega)
      have of2:Own cellF H2 fv F:=of1.keep k2 (fun j hj hc=>by have:=A.ff j hj; have:=(hX.lB j hc).1; omega)
      have D2:=LAt.field D1 k2 (fun h=>(hX.lB kf h).2.2.2.1 rfl) (fun j hj hc=>(hX.lB j hc).2.2.2.2.1 hj)
      obtain ⟨z,hz1⟩:∃ z,Z[m - 1]? = some z:=⟨_,List.getElem?_eq_getElem (by omega)⟩
      have hzd:Z.getD (m - 1) 0=z:=by rw [List.getD_eq_getElem?_getD,hz1]; rfl
      rw [hzd] at hyes
      have hzb:z ≤ c:=by
        have:∀ q j,cnP (fun i=>L.getD i 0) q j ≤ j:=fun q j=>by
          induction j with
          | zero=>exact Nat.le_refl _
          | succ j ih=>simp only [cnP]; split <;> omega
        rw [hB.zs,List.getElem?_map,List.getElem?_range (by omega)] at hz1
        simp only [Option.map_some,Option.some.injEq] at hz1
        rw [← hz1]; exact this _ c
      obtain ⟨H3,st3,o3,k3,n3⟩:=storeNY oz2 (i:=m - 1) (by omega) X.hb (fun j hj=>by have:=(A.zf j hj).1; omega) (z + 1)
      have wm:IntKind.wrap .i64 ((m:Int) - 1)=((m - 1:Nat):Int):=by rw [wrap_small (by omega) (by omega)]; omega
      have lz2:=oz2.lies natF_even
      have ll1:=ol1.lies natF_even
      have lzO:loadO (hget H2 (slN zv) (slW zv)) (slO zv + (m - 1)) none=some (.int .i64 (z:Int)):=(hp_load (m:=Hm []) (H:=H2) _ _ _ _).symm.trans (lz2.loadN' hz1 (X:=Hm H2) (hpsub_refl _))
      have nkz:k ∉ slFp zv:=fun h=>by have:=(A.zf k h).1; omega
      have nmz:kM ∉ slFp zv:=fun h=>by have:=(A.zf kM h).1; omega
      refine ⟨H3,up1,L.set c m,F,Z.set (m - 1) (z + 1),M,num,fv,zv,none,?_,⟨k3.get hP2 nkz,LAt.field D2 k3 (fun h=>by have:=(A.zf kf h).1; omega) (fun j hj hc=>by have:=(A.zf j hc).1; have:=(hX.fB j hj).1; omega),(o1.keep k2 (fun j hj hc=>(hX.uB j hj).2.2.2.2.2.1 hc)).keep k3 (fun j hj hc=>by have:=(A.zf j hc).1; have:=(hX.uB j hj).1; omega),o2.keep k3 (fun j hj hc=>by have:=(A.zf j hc).1; have:=(hX.lB j hj).1; omega),of2.keep k3 (fun j hj hc=>(A.zf j hc).2 hj),o3,k3.get hM2 nmz,A.ff,A.zf,by have:=A.hl; omega⟩,W1,by omega,hyes,hM,?_,.inl ⟨rfl,by omega⟩⟩
      · intro fs e
        have st2':∀ {Y:Mem},Y.heap=H1 → Y.hb=X.hb → Y.store (.hp (slN lv) (slW lv)) (slO lv + c) [.int .i64 (m:Int)]=some (Y.hp H2):=fun h1 h2=>st2 _ h1 h2
        rw [RV_go (l:=⟨.ready,none,_,_,_,_⟩) _ _ _ (by simp (maxDischargeDepth:=8) only [go_sem,la2]; rfl) rfl rfl (by simp (maxDischargeDepth:=8) only [go_sem,la2,hw])]
        simp (maxDischargeDepth:=8) only [go_sem,la2,hw,so.l,hst,h0,hP,paC,wb,wi]
        generalize hz:RF tb f_parts_root _ _=z
        obtain rfl:=hz.symm.trans (r1 _ (by rfl) (by rfl) (by simp (maxDischargeDepth:=8) only [go_sem,hw]))
        simp (maxDischargeDepth:=8) only [go_sem,hw,hM1,hA,show ((m:Int) == 0)=false from beq_eq_false_iff_ne.2 (by omega),hP1,paC,shut_get,ll1.iaddrN (i:=c) (by omega)]
        have e2:∀ f g e',((((X.hp H1).fr f e').frs fs e).fr g none).store (.hp (slN lv) (slW lv)) (slO lv + c) [.int .i64 (m:Int)]=some ((((X.hp H2).fr f e').frs fs e).fr g none):=fun f g e'=>st2' rfl rfl
        simp (maxDischargeDepth:=8) only [go_sem,hw,e2,hP2,hM2,hA,paC,shut_get,wm,lz2.iaddrN (i:=m - 1) (by omega),lzO,wrap_succ (show z ≤ 4611686018427387903 by omega)]
        have e3:∀ f g e',((((X.hp H2).fr f e').frs fs e).fr g none).store (.hp (slN zv) (slW zv)) (slO zv + (m - 1)) [.int .i64 ((z + 1:Nat):Int)]=some ((((X.hp H3).fr f e').frs fs e).fr g none):=fun f g e'=>st3 _ rfl rfl
        simp (maxDischargeDepth:=8) only [go_sem,hw,e3]
        rw [List.take_of_length_le (by omega)]
      · have q1:∀ {S A B},Keep S A B → (∀ j ∈ S,j ∈ k :: kM :: (slFp uv ++ slFp lv ++ slFp fv ++ slFp zv)) → Keep (k :: kM :: (slFp uv ++ slFp lv ++ slFp fv ++ slFp zv)) A B:=fun h hs=>h.weak (fun m hm _=>hs m hm)
        exact ((q1 k1 (fun j hj=>by simp [hj])).trans (q1 k2 (fun j hj=>by simp [hj]))).trans (q1 k3 (fun j hj=>by simp [hj]))
theorem may_all7 {W:Wd} (w1:1 ≤ W.w ∧ W.w ≤ 128) (w2:1 ≤ W.h ∧ W.h ≤ 128):mayB 0 0 W.w W.h=true:=by
  have q1:lastX 0 W.w=W.w - 1:=by unfold lastX; rw [wrap_small (x:=0 + W.w) (by omega) (by omega),wrap_small (by omega) (by omega)]; omega
  have q2:lastX 0 W.h=W.h - 1:=by unfold lastX; rw [wrap_small (x:=0 + W.h) (by omega) (by omega),wrap_small (by omega) (by omega)]; omega
  simp only [mayB,nearC,nearP,sideB,q1,q2,Bool.and_eq_true,decide_eq_true_eq]
  omega
theorem shut_hap7 (Z:Mem) (L:Hp):(Z.shut.hap L).reopen Z=Z.hap L:=id rfl
theorem lnk_none {E:Nat → Nat → Prop} (h:∀ a b,¬ E a b) {x y:Nat} (l:Lnk E x y):x=y:=by
  induction l with
  | refl=>rfl
  | step _ e _=>rcases e with e | e <;> exact absurd e (h _ _)
def LabelRes (X:Mem) (k:Nat) (p:WP) (W:Wd) (cl sz:Int) (kf:Nat) (z:Option (SV × Mem)):Prop :=
  ∃ H' lv' fv' zv' L F Z num rt,z=some (.tup [],(X.hp H').es (escMin X.esc (some k))) ∧ hget H' k 0=some (.cells true (paC p W cl sz kf lv' fv' zv' (W.dirty.length:Int))) ∧ Own natF H' lv' L ∧ Own cellF H' fv' F ∧ Own natF H' zv' Z ∧ Lab (W.w.toNat * W.h.toNat) (stI W cl sz) rt (fun i=>(((i % W.w.toNat:Nat):Int),((i / W.w.toNat:Nat):Int))) (W.w.toNat * W.h.toNat) L F Z num ∧ (∀ x y,x < W.w.toNat * W.h.toNat → y < W.w.toNat * W.h.toNat → (rt x=rt y ↔ Lnk (EL W cl sz (W.w.toNat * W.h.toNat)) x y)) ∧ Keep [k] X.heap H' ∧ (∀ j ∈ slFp lv',X.hl ≤ j) ∧ (∀ j ∈ slFp fv',X.hl ≤ j) ∧ (∀ j ∈ slFp zv',X.hl ≤ j)
theorem r_parts_label {X:Mem} {k kf:Nat} {p:WP} {W:Wd} {cl sz:Int} {flv lv fv zv:SV} {fep ep:Int} (hP:hget X.heap k 0=some (.cells true (paC p W cl sz kf lv fv zv ep))) (hF:FieldAt (Hm X.heap) kf p W cl flv fep (W.clrs cl)) (hs:1 ≤ sz ∧ sz ≤ 4) (hw:X.Wf) (hhb:X.hb ≤ k) (hkf:kf < X.heap.length) (hfl:∀ i ∈ slFp flv,i < X.heap.length) (hO:WorldOwn X.heap p W) (hkp:k ∉ p.fp) (hkk:kf ≠ k) (hkfl:k ∉ slFp flv) :
    LabelRes X k p W cl sz kf (RF tb f_parts_Parts_label [.ptr (.hp k 0) 0] X):=by
  rw [RF_go t_parts_Parts_label _ _ rfl,push_hp]
  generalize hH:X.heap=H at *
  have hHl:X.hl=H.length:=by rw [← hH]; rfl
  obtain ⟨n,hn⟩:∃ n,(Bx.mk 0 0 W.w W.h).n=n:=⟨_,rfl⟩
  have w1:=hF.w1
  have w2:=hF.h1
  have hwh:W.w * W.h=(n:Int):=by rw [← hn]; show W.w * W.h=((W.w.toNat * W.h.toNat:Nat):Int); rw [Int.natCast_mul,Int.toNat_of_nonneg (by omega),Int.toNat_of_nonneg (by omega)]
  have hn2:n ≤ 16384:=by rw [← hn]; show W.w.toNat * W.h.toNat ≤ 16384; exact Nat.mul_le_mul (show W.w.toNat ≤ 128 by omega) (show W.h.toNat ≤ 128 by omega)
  have wn:IntKind.wrap .i64 (W.w * W.h)=(n:Int):=by rw [wrap_small (by omega) (by omega),hwh]
  have hv2:((8:Int) * (n:Int) ≤ (two48:Int))=True:=by simp [two48]; omega
  have hv3:((n:Int) < 9223372036854775808)=True:=by simp; omega
  have hv4:((0:Int) ≤ (n:Int))=True:=by simp
  simp (maxDischargeDepth:=8) only [go_sem,s_parts_Parts_label,hw,hH,hP,paC,wn,hv2,hv3,hv4,Int.le_refl]
  obtain ⟨H1,hH1⟩:∃ H1,H ++ [(0,SBk.cells true (List.replicate n [SV.int .i64 0]).flatten)]=H1:=⟨_,rfl⟩
  have own:Own natF H1 (.sl (.hp H.length 0) 0 n (some n) 1) (List.replicate n 0):=by rw [← hH1]; exact mkslV_own natF_even H 0 n
  have k1:Keep [] H H1:=by rw [← hH1]; exact Keep.app _ _ _
  have fp:∀ i ∈ slFp (.sl (.hp H.length 0) 0 n (some n) 1),H.length ≤ i:=by simp [slFp]
  have kl:=hget_lt hP
  rw [hH1]
  generalize (SV.sl (.hp H.length 0) 0 n (some n) 1)=uv at *
  refine KL_ind (R:=fun z=>LabelRes X k p W cl sz kf (fin [] X z)) (α:=Nat × List Nat × Hp) (fun q=>n - q.1)
    (fun q=>[(1,.ptr (.st X.dep 0) 0),(2,.int .i64 (n:Int)),(3,.ptr (.st X.dep 1) 0),(25,.i n),(26,.int .i64 (q.1:Int))])
    (fun q=>(X.hp q.2.2).fr [.cells true [.ptr (.hp k 0) 0],.cells true [uv]] none)
    (fun q=>q.1 ≤ n ∧ Own natF q.2.2 uv q.2.1 ∧ q.2.1.length=n ∧ (∀ j,j < q.1 → q.2.1[j]? = some j) ∧ Keep [] H q.2.2) ?_ (0,List.replicate n 0,H1) ⟨Nat.zero_le _,own,by simp,by simp,k1⟩
  clear own k1 hH1
  rintro ⟨i,up,Hc⟩ ⟨hi,ow,hlen,hj,kc⟩ ih
  dsimp only at hi ow hlen hj kc ⊢
  have so:=ow.isSl natF_even
  have lo:=ow.lies natF_even
  have hk1:=kc.1
  simp (maxDischargeDepth:=8) only [go_sem,hw,so.l,lo.len,hlen]
  by_cases hlt:i < n
  · obtain ⟨H2,st,o2,k2,l2⟩:=storeN ow (i:=i) (by omega) X (fun j hj=>by have:=fp j hj; omega) i
    simp (maxDischargeDepth:=8) only [go_sem,show decide ((i:Int) < (n:Int))=true from decide_eq_true (by omega),hw,so.l,lo.iaddrN (show i < up.length by omega),st,wrap_succ (show i ≤ 4611686018427387903 by omega)]
    rw [KL_keep _ _ _ (by simp (maxDischargeDepth:=8) only [go_sem,so.l])]
    simp (maxDischargeDepth:=8) only [go_sem]
    refine ih (i + 1,up.set i i,H2) ⟨by dsimp only; omega,o2,by rw [List.length_set]; exact hlen,fun j hj2=>?_,kc.trans' k2 (fun m hm hl=>by have:=fp m hm; omega)⟩ (by dsimp only; omega)
    dsimp only at hj2 ⊢
    rw [List.getElem?_set]
    by_cases e:i=j
    · rw [if_pos e,if_pos (by omega),e]
    · rw [if_neg e]; exact hj j (by omega)
  · have ein : n=i:=by omega
    subst ein
    clear ih
    have hup:up=List.range n:=by
      apply List.ext_getElem?
      intro j
      by_cases h1:j < n
      · rw [hj j h1,List.getElem?_range h1]
      · rw [List.getElem?_eq_none (by omega),List.getElem?_eq_none (by simp; omega)]
    have hPc:=kc.get hP (by simp)
    simp (maxDischargeDepth:=8) only [go_sem,show decide ((n:Int) < (n:Int))=false from decide_eq_false (by omega),hw,so.l,hPc,paC,r_cell_Cells]
    have hnw:n=W.w.toNat * W.h.toNat:=by rw [← hn]; rfl
    obtain ⟨HA,hHA⟩:∃ HA,Hc ++ [(0,SBk.cells true [.int .i64 0,.int .i64 0,.int .i64 W.w,.int .i64 W.h])]=HA:=⟨_,rfl⟩
    have kA:Keep [] Hc HA:=by rw [← hHA]; exact Keep.app _ _ _
    have lA:HA.length=Hc.length + 1:=by rw [← hHA,List.length_append]; rfl
    have a0:hget HA Hc.length 0=some (.cells true [.int .i64 0,.int .i64 0,.int .i64 W.w,.int .i64 W.h]):=by rw [← hHA]; exact hget_new0 0 _
    rw [hHA]
    have owA:=ow.keep kA (by simp)
    have fpc:=ow.fp
    have hmay:mayB 0 0 W.w W.h=true:=may_all7 w1 w2
    have hbx:∀ Hk st,Keep (slFp uv) HA Hk → boxAt (X.dep + 1) Hc.length 0 0 W.w W.h (laM X k uv n Hc.length st Hk):=fun Hk st k'=>⟨rfl,by simp (maxDischargeDepth:=8) only [go_sem,hw],k'.get a0 (fun hc=>by have:=fpc _ hc; omega)⟩
    have hFA:FieldAt (Hm HA) kf p W cl flv fep (W.clrs cl):=by
      have kk:=kc.trans kA
      exact ⟨kk.get (show hget H kf 0=_ from hF.hd) (by simp),hF.ll.keep kk (by simp),hF.len,hF.w1,hF.h1⟩
    have hPA:=kA.get hPc (by simp)
    have hkn:k ∉ slFp uv:=fun hc=>by have:=fp k hc; omega
    have hfk:∀ i ∈ slFp uv,i ≠ kf ∧ i ∉ slFp flv:=fun i hi=>⟨fun e=>by have:=fp i hi; omega,fun hc=>by have:=fp i hi; have:=hfl i hc; omega⟩
    generalize hz:RF tb f_cell_Cells_1 _ _=z
    refine cells_rangeZ (M:=laM X k uv n Hc.length .ready HA) (d:=X.dep + 1) hz 0 0 W.w W.h (fun M1 kk m v=>v=none ∧ ∃ Hk up dp rt,m=laM X k uv n Hc.length .ready Hk ∧ Own natF Hk uv up ∧ Well up rt dp ∧ up.length=n ∧ Keep (slFp uv) HA Hk ∧ Hk.length=HA.length ∧ ∀ x y,x < n → y < n → (rt x=rt y ↔ Lnk (EL W cl sz kk) x y)) (fun _ _ _ _=>False) (Nat.lt_succ_self _) (hbx _ _ (Keep.refl _ _)) ⟨rfl,HA,up,fun _=>0,fun i=>i,rfl,owA,by rw [hup]; exact well_new n,hlen,Keep.refl _ _,rfl,fun x y _ _=>⟨fun e=>by dsimp only at e; subst e; exact .refl _,fun l=>lnk_none (fun a b e=>by have:=e.1; omega) l⟩⟩ ?_ ?_
    · rintro kk a b m v hk ⟨rfl,Hk,up',dp,rt,rfl,ow',W',l',k',e',hr⟩
      have hk2:kk < n ∧ a=((kk % W.w.toNat:Nat):Int) ∧ b=((kk / W.w.toNat:Nat):Int):=by
        unfold cellsP at hk
        rw [if_pos hmay,List.getElem?_map] at hk
        have hlt2:kk < W.w.toNat * W.h.toNat:=by
          rcases Nat.lt_or_ge kk (W.w.toNat * W.h.toNat) with h | h
          · exact h
          · rw [List.getElem?_eq_none (by simpa using h)] at hk; cases hk
        rw [List.getElem?_range hlt2] at hk
        simp only [Option.map_some,Option.some.injEq,Prod.mk.injEq] at hk
        refine ⟨by omega,?_,?_⟩ <;> omega
      obtain ⟨hkn2,rfl,rfl⟩:=hk2
      have hat:(Bx.mk 0 0 W.w W.h).at kk=(((kk % W.w.toNat:Nat):Int),((kk / W.w.toNat:Nat):Int)):=by unfold Bx.at; simp
      have hb9:=Bx.at_has (r:=Bx.mk 0 0 W.w W.h) (i:=kk) (by rw [hn]; exact hkn2)
      rw [hat] at hb9
      have hFk:FieldAt (Hm Hk) kf p W cl flv fep (W.clrs cl):=⟨k'.get (show hget HA kf 0=_ from hFA.hd) (fun hc=>(hfk _ hc).1 rfl),hFA.ll.keep k' (fun j hj hc=>(hfk _ hc).2 hj),hFA.len,hFA.w1,hFA.h1⟩
      obtain ⟨Hk',up2,dp2,y1,y2,y3,y4,y5,y6⟩:=label_yield (n0:=Hc.length) hw (k'.get hPA hkn) hFk hs ow' W' l' hn2 hnw (fun j hj=>by have:=fp j hj; omega) hkn hfk hb9.1
      rw [hb9.2] at y3
      exact ⟨_,none,true,y1,hbx _ _ (k'.trans y5),.inl (by show Hk'.length=HA.length; omega),fun _=>⟨rfl,Hk',up2,dp2,_,rfl,y2,y3,y4,k'.trans y5,by omega,rtN_law (by omega) hkn2 hr⟩,fun h=>(by cases h)⟩
    · rintro M' U hz' - - (⟨rfl,Hk,up',dp,rt,rfl,ow',W',l',k',e',hr⟩ | ⟨_,_,h⟩)
      · subst hz'
        have kHk:Keep [] H Hk:=(kc.trans kA).trans' k' (fun m hm hl=>by have:=fp m hm; omega)
        have hPk:=kHk.get hP (by simp)
        have hkl:=kHk.1
        obtain ⟨HB,hHB⟩:∃ HB,Hk ++ [(0,SBk.cells true (List.replicate n [SV.int .i64 0]).flatten)]=HB:=⟨_,rfl⟩
        have ownL:Own natF HB (.sl (.hp Hk.length 0) 0 n (some n) 1) (List.replicate n 0):=by rw [← hHB]; exact mkslV_own natF_even Hk 0 n
        have kB:Keep [] Hk HB:=by rw [← hHB]; exact Keep.app _ _ _
        have hPB:=kB.get hPk (by simp)
        have hkB:=hget_lt hPB
        simp (maxDischargeDepth:=8) only [go_sem,laM,hw,so.l,hv2,hv3,hv4,Int.le_refl,shut_hap7,hHB,hPB,hPk,paC,hhb]
        obtain ⟨C1,hC1⟩:∃ C1,HB.set k (0,SBk.cells true [.ptr (.hp p.k 0) 0,.int .i64 cl,.int .i64 sz,.int .i64 0,.int .i64 0,.int .i64 W.w,.int .i64 W.h,.ptr (.hp kf 0) 0,.sl (.hp Hk.length 0) 0 n (some n) 1,fv,zv,.int .i64 ep])=C1:=⟨_,rfl⟩
        have hP1:hget C1 k 0=some (.cells true (paC p W cl sz kf (.sl (.hp Hk.length 0) 0 n (some n) 1) fv zv ep)):=by rw [← hC1,hget_set_eq hkB,if_pos rfl]
        have kC1:Keep [k] HB C1:=by rw [← hC1]; exact Keep.set (by simp) _ _
        have lC1:C1.length=HB.length:=by rw [← hC1,List.length_set]
        rw [hC1]
        simp (maxDischargeDepth:=8) only [go_sem,hw,hP1,paC,hhb]
        obtain ⟨C2,hC2⟩:∃ C2,C1.set k (0,SBk.cells true [.ptr (.hp p.k 0) 0,.int .i64 cl,.int .i64 sz,.int .i64 0,.int .i64 0,.int .i64 W.w,.int .i64 W.h,.ptr (.hp kf 0) 0,.sl (.hp Hk.length 0) 0 n (some n) 1,.nils,zv,.int .i64 ep])=C2:=⟨_,rfl⟩
        have hP2:hget C2 k 0=some (.cells true (paC p W cl sz kf (.sl (.hp Hk.length 0) 0 n (some n) 1) .nils zv ep)):=by rw [← hC2,hget_set_eq (by omega),if_pos rfl]
        have kC2:Keep [k] C1 C2:=by rw [← hC2]; exact Keep.set (by simp) _ _
        have lC2:C2.length=C1.length:=by rw [← hC2,List.length_set]
        rw [hC2]
        simp (maxDischargeDepth:=8) only [go_sem,hw,hP2,paC,hhb]
        obtain ⟨C3,hC3⟩:∃ C3,C2.set k (0,SBk.cells true [.ptr (.hp p.k 0) 0,.int .i64 cl,.int .i64 sz,.int .i64 0,.int .i64 0,.int .i64 W.w,.int .i64 W.h,.ptr (.hp kf 0) 0,.sl (.hp Hk.length 0) 0 n (some n) 1,.nils,.nils,.int .i64 ep])=C3:=⟨_,rfl⟩
        have hP3:hget C3 k 0=some (.cells true (paC p W cl sz kf (.sl (.hp Hk.length 0) 0 n (some n) 1) .nils .nils ep)):=by rw [← hC3,hget_set_eq (by omega),if_pos rfl]
        have kC3:Keep [k] C2 C3:=by rw [← hC3]; exact Keep.set (by simp) _ _
        have lC3:C3.length=C2.length:=by rw [← hC3,List.length_set]
        rw [hC3]
        obtain ⟨D0,hD0⟩:∃ D0,C3 ++ [(0,SBk.map [])]=D0:=⟨_,rfl⟩
        have kD0:Keep [] C3 D0:=by rw [← hD0]; exact Keep.app _ _ _
        have hPD:=kD0.get hP3 (by simp)
        rw [hD0]
        simp (maxDischargeDepth:=8) only [go_sem,hw,hPD,paC,r_cell_Cells]
        have hkk0:=kHk.1
        have hHkl:=kl
        rw [if_neg (show ¬ List.length Hk + 1 ≤ k by omega)]
        generalize hlb:SBk.loop _=lb
        obtain ⟨DA,hDA⟩:∃ DA,D0 ++ [(0,SBk.cells true [.int .i64 0,.int .i64 0,.int .i64 W.w,.int .i64 W.h])]=DA:=⟨_,rfl⟩
        rw [hDA]
        have kDA:Keep [] D0 DA:=by rw [← hDA]; exact Keep.app _ _ _
        have lDA:DA.length=D0.length + 1:=by rw [← hDA,List.length_append]; rfl
        have lD0:D0.length=C3.length + 1:=by rw [← hD0,List.length_append]; rfl
        have a1:hget DA D0.length 0=some (.cells true [.int .i64 0,.int .i64 0,.int .i64 W.w,.int .i64 W.h]):=by rw [← hDA]; exact hget_new0 0 _
        have hM0:hget DA C3.length 0=some (.map []):=kDA.get (by rw [← hD0]; exact hget_new0 0 _) (by simp)
        have kHB:Keep [k] HB C3:=(kC1.trans kC2).trans kC3
        have kBD:Keep [k] HB DA:=(kHB.trans' kD0 (by simp)).trans' kDA (by simp)
        have kHD:Keep [k] H DA:=((kHk.weak (by simp)).trans' kB (by simp)).trans kBD
        have lHB:HB.length=Hk.length + 1:=by rw [← hHB,List.length_append]; rfl
        have lC:C3.length=HB.length:=by omega
        have fpu:=ow'.fp
        have fl1:∀ j ∈ slFp (.sl (.hp Hk.length 0) 0 n (some n) 1),j=Hk.length:=by simp [slFp]
        have hfx:LFix X k C3.length kf uv (.sl (.hp Hk.length 0) 0 n (some n) 1) flv DA.length:=by
          refine ⟨⟨by omega,by omega,by omega,hkk,by omega⟩,fun j hj=>?_,fun j hj=>?_,fun j hj=>?_,hhb⟩
          · have b1:=fp j hj
            have b2:=fpu j hj
            exact ⟨by omega,by omega,by omega,by omega,fun hc=>by have:=hfl j hc; omega,fun hc=>by have:=fl1 j hc; omega,by omega⟩
          · have b1:=fl1 j hj
            exact ⟨by omega,by omega,by omega,by omega,fun hc=>by have:=hfl j hc; omega,by omega⟩
          · have b1:=hfl j hj
            exact ⟨by omega,fun e=>hkfl (by rw [← e]; exact hj),by omega⟩
        have hPA2:=kDA.get hPD (by simp)
        have hA0:LAt X k C3.length kf p W cl sz uv (.sl (.hp Hk.length 0) 0 n (some n) 1) flv fep DA.length DA up' (List.replicate n 0) [] [] [] .nils .nils ep :=
          ⟨hPA2,LAt.field hF kHD (by simp; exact hkk) (fun j hj hc=>by simp at hc; subst hc; exact hkfl hj),(ow'.keep kB (by simp)).keep kBD (fun j hj hc=>by simp at hc; have:=fp j hj; omega),ownL.keep kBD (fun j hj hc=>by simp at hc; have:=fl1 j hj; omega),Own.nil _,Own.nil _,hM0,by simp [slFp],by simp [slFp],Nat.le_refl _⟩
        have hr':∀ x y,x < n → y < n → (rt x=rt y ↔ Lnk (EL W cl sz n) x y):=by
          have:(cellsP 0 0 W.w W.h).length=n:=by unfold cellsP; rw [if_pos hmay,List.length_map,List.length_range]; exact hnw.symm
          rw [this] at hr; exact hr
        generalize hz:RF tb f_cell_Cells_1 _ _=z
        refine cells_rangeZ (M:=la2 X k uv C3.length D0.length lb .ready DA (some k)) (d:=X.dep + 1) hz 0 0 W.w W.h (fun M1 kk m v=>∃ Hj upj L F Z M num fvj zvj,m=la2 X k uv C3.length D0.length lb .ready Hj (some k) ∧ LAt X k C3.length kf p W cl sz uv (.sl (.hp Hk.length 0) 0 n (some n) 1) flv fep DA.length Hj upj L F Z M fvj zvj ep ∧ Well upj rt dp ∧ upj.length=n ∧ Lab n (stI W cl sz) rt (fun i=>(((i % W.w.toNat:Nat):Int),((i / W.w.toNat:Nat):Int))) kk L F Z num ∧ MNum M num ∧ Keep (k :: C3.length :: (slFp uv ++ [Hk.length])) DA Hj ∧ ((v=none ∧ Hj.length=DA.length) ∨ v=some k)) (fun _ _ _ _=>False) (Nat.lt_succ_self _) ?_ ⟨DA,up',List.replicate n 0,[],[],[],fun _=>0,.nils,.nils,rfl,hA0,W',l',lab_zero n _ _ _,fun _=>rfl,Keep.refl _ _,.inl ⟨rfl,rfl⟩⟩ ?_ ?_
        · exact ⟨rfl,by simp (maxDischargeDepth:=8) only [go_sem,hw],a1⟩
        · rintro kk a b m v hk ⟨Hj,upj,L,F,Z,M,num,fvj,zvj,rfl,Aj,Wj,lj,Bj,Mj,Kj,ej⟩
          have hk2:kk < n ∧ a=((kk % W.w.toNat:Nat):Int) ∧ b=((kk / W.w.toNat:Nat):Int):=by
            unfold cellsP at hk
            rw [if_pos hmay,List.getElem?_map] at hk
            have hlt2:kk < W.w.toNat * W.h.toNat:=by
              rcases Nat.lt_or_ge kk (W.w.toNat * W.h.toNat) with h | h
              · exact h
              · rw [List.getElem?_eq_none (by simpa using h)] at hk; cases hk
            rw [List.getElem?_range hlt2] at hk
            simp only [Option.map_some,Option.some.injEq,Prod.mk.injEq] at hk
            refine ⟨by omega,?_,?_⟩ <;> omega
          obtain ⟨hkn2,rfl,rfl⟩:=hk2
          obtain ⟨Hj',up2,L2,F2,Z2,M2,num2,fv2,zv2,u,y1,y2,y3,y4,y5,y6,y7,y8⟩:=label2_yield (d0:=D0.length) (lb:=lb) (e0:=some k) hw hfx Aj hs Wj lj hn2 hnw hkn2 Bj Mj
          have y7':Keep (k :: C3.length :: (slFp uv ++ [Hk.length])) DA Hj':=Kj.trans' y7 (fun m hm hl=>by
            rcases List.mem_cons.1 hm with h | h
            · simp [h]
            rcases List.mem_cons.1 h with h | h
            · simp [h]
            simp only [List.mem_append] at h
            rcases h with ((h | h) | h) | h
            · simp [h]
            · have:=fl1 m h; simp [this]
            · have:=Aj.ff m h; omega
            · have:=(Aj.zf m h).1; omega)
          refine ⟨_,u,true,y1,⟨rfl,by simp (maxDischargeDepth:=8) only [go_sem,hw],?_⟩,?_,fun _=>⟨Hj',up2,L2,F2,Z2,M2,num2,fv2,zv2,rfl,y2,y3,y4,y5,y6,y7',?_⟩,fun h=>(by cases h)⟩
          · exact y7'.get a1 (fun hc=>by
              simp only [List.mem_cons,List.mem_append,List.mem_singleton] at hc
              rcases hc with h | h | h | h
              · omega
              · omega
              · have:=fpu _ h; omega
              · rcases h with h | h
                · omega
                · cases h)
          · rcases ej with ⟨rfl,e1⟩ | rfl
            · rcases y8 with ⟨rfl,e2⟩ | rfl
              · exact .inl (by show Hj'.length=DA.length; omega)
              · exact .inr ⟨k,rfl,by show k < DA.length; omega⟩
            · rcases y8 with ⟨rfl,e2⟩ | rfl
              · exact .inr ⟨k,rfl,by show k < DA.length; omega⟩
              · exact .inr ⟨k,by simp [escMin],by show k < DA.length; omega⟩
          · rcases ej with ⟨rfl,e1⟩ | rfl
            · rcases y8 with ⟨rfl,e2⟩ | rfl
              · exact .inl ⟨rfl,by omega⟩
              · exact .inr rfl
            · rcases y8 with ⟨rfl,e2⟩ | rfl
              · exact .inr rfl
              · exact .inr (by simp [escMin])
        · rintro M' U hz' - - (⟨Hj,upj,L,F,Z,M,num,fvj,zvj,rfl,Aj,Wj,lj,Bj,Mj,Kj,ej⟩ | ⟨_,_,h⟩)
          · subst hz'
            have hPj:=Aj.P
            have hkj:=hget_lt hPj
            have kHj:Keep [k] H Hj:=kHD.trans' Kj (fun m hm hl=>by
              simp only [List.mem_cons,List.mem_append,List.not_mem_nil,or_false] at hm ⊢
              rcases hm with h | h | h | h
              · exact h
              · omega
              · have:=fp m h; omega
              · omega)
            have hOj:WorldOwn Hj p W:=hO.keep kHj (fun i hi hc=>by simp at hc; subst hc; exact hkp hi)
            obtain ⟨HF,hHF⟩:∃ HF,Hj.set k (0,.cells true (paC p W cl sz kf (.sl (.hp Hk.length 0) 0 n (some n) 1) fvj zvj (W.dirty.length:Int)))=HF:=⟨_,rfl⟩
            have hPF:hget HF k 0=some (.cells true (paC p W cl sz kf (.sl (.hp Hk.length 0) 0 n (some n) 1) fvj zvj (W.dirty.length:Int))):=by rw [← hHF,hget_set_eq hkj,if_pos rfl]
            have kF:Keep [k] Hj HF:=by rw [← hHF]; exact Keep.set (by simp) _ _
            have hHF':Hj.set k (0,SBk.cells true [.ptr (.hp p.k 0) 0,.int .i64 cl,.int .i64 sz,.int .i64 0,.int .i64 0,.int .i64 W.w,.int .i64 W.h,.ptr (.hp kf 0) 0,.sl (.hp Hk.length 0) 0 n (some n) 1,fvj,zvj,.int .i64 (W.dirty.length:Int)])=HF:=hHF
            simp (maxDischargeDepth:=8) only [go_sem,la2,hw,hPj,paC,shut_get,r_grid_World_Epoch hOj.at_,hhb,hHF']
            have hU:escMin (some k) U=some k:=by
              rcases ej with ⟨rfl,_⟩ | rfl
              · rfl
              · simp [escMin]
            rw [hU,escOk_some (by omega),if_neg (by decide)]
            have hlenP:(cellsP 0 0 W.w W.h).length=n:=by unfold cellsP; rw [if_pos hmay,List.length_map,List.length_range]; exact hnw.symm
            rw [hlenP] at Bj
            rw [hnw] at Bj hr'
            refine ⟨HF,_,fvj,zvj,L,F,Z,num,rt,rfl,hPF,Aj.l.keep kF (fun j hj hc=>by simp at hc; have:=fl1 j hj; omega),Aj.f.keep kF (fun j hj hc=>by simp at hc; have:=Aj.ff j hj; omega),Aj.z.keep kF (fun j hj hc=>by simp at hc; have:=(Aj.zf j hj).1; omega),Bj,hr',?_,fun j hj=>by have:=fl1 j hj; omega,fun j hj=>by have:=Aj.ff j hj; omega,fun j hj=>by have:=(Aj.zf j hj).1; omega⟩
            rw [hH]
            exact kHj.trans kF
          · exact h.elim
      · exact h.elim
theorem reckon_of {X:Mem} {k:Nat} {p:WP} {W:Wd} {cl:Int} {lv:SV} {ep:Int} {L:List Int} {z:Option (SV × Mem)} (hz:RF tb f_clear_Field_reckon [.ptr (.hp k 0) 0,rect 0 0 W.w W.h] X=z) (hk:hget X.heap k 0=some (.cells true (fieldC p W cl lv ep))) (ho:Own iF X.heap lv L) (hlen:L.length=W.w.toNat * W.h.toNat) (hkn:k ∉ slFp lv) (hpn:∀ i ∈ p.fp,i ∉ slFp lv) (hm:∀ i ∈ slFp lv,X.hb ≤ i) (hO:WorldOwn X.heap p W) (hg:W.Good) (hw:X.Wf) :
    ∃ (n:Int) (H':Hp),z=some (.int .i64 n,X.hp H') ∧ Own iF H' lv (W.clrs cl) ∧ Keep (slFp lv) X.heap H' ∧ H'.length=X.heap.length:=by
  rw [← hz]
  exact r_clear_reckon hk ho hlen hkn hpn hm hO hg hw
theorem may_all {W:Wd} (w1:1 ≤ W.w ∧ W.w ≤ 128) (w2:1 ≤ W.h ∧ W.h ≤ 128):mayB 0 0 W.w W.h=true:=by
  rw [mayB,last_eq (by omega) (by omega),last_eq (by omega) (by omega)]
  simp only [nearC,nearP,sideB,Bool.and_eq_true,decide_eq_true_eq]
  omega
theorem r_clear_New0 (X:Mem) (hw:X.Wf) (cl:Int):RF tb f_clear_New [.nilp,.int .i64 cl] X=some (.tup [.nilp,.int .i64 1],X):=by
  rw [RF_go t_clear_New _ _ rfl]
  simp (maxDischargeDepth:=8) only [go_sem,s_clear_New,hw,r_grid_World_All0,r_cell_May,show mayB 0 0 0 0=false from rfl]
theorem r_clear_New_no {m:Mem} {p:WP} {W:Wd} (hW:WorldAt m p W) {cl:Int} (hc:¬ (0 ≤ cl ∧ cl < 4)) {X:Mem} (hX:HpSub m X) (hw:X.Wf):RF tb f_clear_New [.ptr (.hp p.k 0) 0,.int .i64 cl] X=some (.tup [.nilp,.int .i64 1],X):=by
  rw [RF_go t_clear_New _ _ rfl]
  simp (maxDischargeDepth:=8) only [go_sem,s_clear_New,hw,hX,r_grid_World_All hW,rect,r_cell_May,may_all hW.w1 hW.h1]
  by_cases h1:cl < 0
  · simp (maxDischargeDepth:=8) only [go_sem,hw,show decide (cl < 0)=true from decide_eq_true h1]
  · simp (maxDischargeDepth:=8) only [go_sem,hw,show decide (cl < 0)=false from decide_eq_false h1,show decide (cl ≥ 4)=true from decide_eq_true (by omega)]
theorem shut_hap_reopen (Z:Mem) (L:Hp):(Z.shut.hap L).reopen Z=Z.hap L:=id rfl
theorem r_clear_New {X:Mem} {p:WP} {W:Wd} (hO:WorldOwn X.heap p W) (hg:W.Good) (hw:X.Wf) (hhb:X.hb ≤ X.hl) (cl:Int) (hc:0 ≤ cl ∧ cl < 4) :
    ∃ k lv H',RF tb f_clear_New [.ptr (.hp p.k 0) 0,.int .i64 cl] X=some (.tup [.ptr (.hp k 0) 0,.int .i64 0],X.hp H') ∧ FieldAt (Hm H') k p W cl lv W.dirty.length (W.clrs cl) ∧ Keep [] X.heap H':=by
  rw [RF_go t_clear_New _ _ rfl,push_hp]
  generalize hH:X.heap=H at *
  have hHl:X.hl=H.length:=by rw [← hH]; rfl
  have w1:=hO.at_.w1
  have w2:=hO.at_.h1
  have e4:W.w.toNat * W.h.toNat ≤ 128 * 128:=Nat.mul_le_mul (by omega) (by omega)
  have e5:W.w * W.h=((W.w.toNat * W.h.toNat:Nat):Int):=by rw [Int.natCast_mul,Int.toNat_of_nonneg (show 0 ≤ W.w by omega),Int.toNat_of_nonneg (show 0 ≤ W.h by omega)]
  have c1:0 ≤ W.w * W.h:=by omega
  have c2:W.w * W.h < 9223372036854775808:=by omega
  have c3:8 * (W.w * W.h) ≤ (two48:Int):=by simp only [two48]; omega
  obtain ⟨H1,hH1⟩:∃ H1,H ++ [(0,SBk.cells true (List.replicate (W.w * W.h).toNat [SV.int IntKind.i64 0]).flatten)]=H1:=⟨_,rfl⟩
  have own1:Own iF H1 (.sl (.hp H.length 0) 0 (W.w * W.h).toNat (some (W.w * W.h).toNat) 1) (List.replicate (W.w * W.h).toNat 0):=by rw [← hH1]; exact mkslV_own iF_even H 0 _
  have f1:∀ i ∈ slFp (.sl (.hp H.length 0) 0 (W.w * W.h).toNat (some (W.w * W.h).toNat) 1),i=H.length:=by simp [slFp]
  have k1:Keep [] H H1:=by rw [← hH1]; exact Keep.app _ _ _
  have l1:H1.length=H.length + 1:=by rw [← hH1,List.length_append]; rfl
  simp (maxDischargeDepth:=8) only [go_sem,s_clear_New,shut_hap_reopen,Int.le_refl,hH1,c1,c2,c3,hw,hH,r_grid_World_All hO.at_,rect,r_cell_May,may_all w1 w2,show decide (cl < 0)=false from decide_eq_false (by omega),show decide (cl ≥ 4)=false from decide_eq_false (by omega),r_grid_World_Epoch hO.at_,wrap_small (x:=W.w * W.h) (by omega) (by omega)]
  have s1:=own1.isSl iF_even
  generalize SV.sl (.hp H.length 0) 0 (W.w * W.h).toNat (some (W.w * W.h).toNat) 1=lv at *
  obtain ⟨H2,hH2⟩:∃ H2,H1 ++ [(0,SBk.cells true [.ptr (.hp p.k 0) 0,.int .i64 cl,.int .i64 0,.int .i64 0,.int .i64 W.w,.int .i64 W.h,lv,.int .i64 (W.dirty.length:Int)])]=H2:=⟨_,rfl⟩
  have k2:Keep [] H1 H2:=by rw [← hH2]; exact Keep.app _ _ _
  have l2:H2.length=H1.length + 1:=by rw [← hH2,List.length_append]; rfl
  have g2:hget H2 H1.length 0=some (.cells true (fieldC p W cl lv W.dirty.length)):=by rw [← hH2]; exact hget_new0 0 _
  rw [hH2]
  generalize hz:RF tb f_clear_Field_reckon _ _=z
  obtain ⟨n,H3,rfl,o3,k3,l3⟩:=reckon_of hz g2 (own1.keep k2 (by simp)) (by rw [List.length_replicate,e5]; rfl) (fun h=>by have:=f1 _ h; omega) (fun i hi h=>by have:=f1 _ h; have:=hO.at_.lt i hi; omega) (fun i hi=>by have:=f1 i hi; show X.hb ≤ i; omega) ((hO.keep k1 (by simp)).keep k2 (by simp)) hg (by simp (maxDischargeDepth:=8) only [go_sem,hw])
  change Keep (slFp lv) H2 H3 at k3
  change H3.length=H2.length at l3
  simp (maxDischargeDepth:=8) only [go_sem,hw]
  rw [if_neg (by omega)]
  refine ⟨H1.length,lv,H3,rfl,⟨k3.get g2 (fun h=>by have:=f1 _ h; omega),o3.lies iF_even,clrs_len W cl,w1,w2⟩,(k1.trans k2).trans' k3 (fun n hn hl=>by have:=f1 n hn; omega)⟩
theorem new_of {X:Mem} {p:WP} {W:Wd} {cl:Int} {z:Option (SV × Mem)} (hz:RF tb f_clear_New [.ptr (.hp p.k 0) 0,.int .i64 cl] X=z) (hO:WorldOwn X.heap p W) (hg:W.Good) (hw:X.Wf) (hhb:X.hb ≤ X.hl) (hc:0 ≤ cl ∧ cl < 4) :
    ∃ k lv H',z=some (.tup [.ptr (.hp k 0) 0,.int .i64 0],X.hp H') ∧ FieldAt (Hm H') k p W cl lv W.dirty.length (W.clrs cl) ∧ Keep [] X.heap H':=by
  rw [← hz]
  exact r_clear_New hO hg hw hhb cl hc
structure PA (m:Mem) (k:Nat) (W:Wd) (L:List Nat) (F:List (Int × Int)) (Z:List Nat):Prop where
  ex:∃ p cl sz kf lv fv zv ep,m.get (.hp k 0)=some (.cells true (paC p W cl sz kf lv fv zv ep)) ∧ LiesD natF m lv L ∧ LiesD cellF m fv F ∧ LiesD natF m zv Z
  len:L.length=W.w.toNat * W.h.toNat
  zl:Z.length=F.length
  w1:1 ≤ W.w ∧ W.w ≤ 128
  h1:1 ≤ W.h ∧ W.h ≤ 128
theorem PA.sub {m X:Mem} {k:Nat} {W:Wd} {L:List Nat} {F:List (Int × Int)} {Z:List Nat} (h:PA m k W L F Z) (hX:HpSub m X):PA X k W L F Z:=by
  obtain ⟨p,cl,sz,kf,lv,fv,zv,ep,a,b,c,d⟩:=h.ex
  exact ⟨⟨p,cl,sz,kf,lv,fv,zv,ep,hX _ _ _ a,b.sub hX,c.sub hX,d.sub hX⟩,h.len,h.zl,h.w1,h.h1⟩
def atP (W:Wd) (L:List Nat) (x y:Int):Nat:=if hasB 0 0 W.w W.h x y=true then L.getD (y.toNat * W.w.toNat + x.toNat) 0 else 0
theorem r_parts_At {m:Mem} {k:Nat} {W:Wd} {L:List Nat} {F:List (Int × Int)} {Z:List Nat} (h:PA m k W L F Z) {X:Mem} (hX:HpSub m X) (hw:X.Wf) (x y:Int):RF tb f_parts_Parts_At [.ptr (.hp k 0) 0,cellV x y] X=some (.int .i64 (atP W L x y:Int),X):=by
  obtain ⟨p,cl,sz,kf,lv,fv,zv,ep,ha,hl,hf,hz⟩:=h.ex
  have w1:=h.w1
  have w2:=h.h1
  have hld:∀ {Y:Mem},HpSub m Y → ∀ off n,Y.load (.hp k 0) off n=partv (paC p W cl sz kf lv fv zv ep) off n:=fun hY off n=>by rw [load_get,hY _ _ _ ha]
  have his:∀ {Y:Mem},HpSub m Y → Y.Wf → RF tb f_parts_Parts_is [.ptr (.hp k 0) 0] Y=some (.bool true,Y):=fun hY hwY=>by
    rw [RF_go t_parts_Parts_is _ _ rfl]
    simp (maxDischargeDepth:=8) only [go_sem,s_parts_Parts_is,hwY,hY,hld,paC]
  have hhas:=fun (Y:Mem) (hY:Y.Wf)=>r_cell_Has Y hY 0 0 W.w W.h x y
  unfold rect at hhas
  rw [RF_go t_parts_Parts_At _ _ rfl]
  unfold atP
  cases hh:hasB 0 0 W.w W.h x y with
  | false=>simp (maxDischargeDepth:=8) only [go_sem,s_parts_Parts_At,cellV,hw,hX,hld,his,paC,hhas,hh]
  | true =>
    have b1:0 ≤ x ∧ x < W.w ∧ 0 ≤ y ∧ y < W.h:=by
      have:=(has_w w1 w2 (W:=W)).1 hh
      omega
    have e4:W.w.toNat * (y.toNat + 1) ≤ W.w.toNat * W.h.toNat:=Nat.mul_le_mul_left _ (by omega)
    have e5:W.w.toNat * W.h.toNat ≤ 128 * 128:=Nat.mul_le_mul (by omega) (by omega)
    rw [Nat.mul_add,Nat.mul_one,Nat.mul_comm] at e4
    have e6:y * W.w=((y.toNat * W.w.toNat:Nat):Int):=by rw [Int.natCast_mul,Int.toNat_of_nonneg (by omega),Int.toNat_of_nonneg (by omega)]
    have e7:IntKind.wrap .i64 (y * W.w)=((y.toNat * W.w.toNat:Nat):Int):=by rw [e6,wrap_small (by omega) (by omega)]
    have e8:IntKind.wrap .i64 (((y.toNat * W.w.toNat:Nat):Int) + x)=((y.toNat * W.w.toNat + x.toNat:Nat):Int):=by rw [wrap_small (by omega) (by omega)]; omega
    have hlt:y.toNat * W.w.toNat + x.toNat < L.length:=by rw [h.len]; omega
    have hg:L[y.toNat * W.w.toNat + x.toNat]? = some (L.getD (y.toNat * W.w.toNat + x.toNat) 0):=by rw [List.getD_eq_getElem?_getD,List.getElem?_eq_getElem hlt]; rfl
    simp (maxDischargeDepth:=8) only [go_sem,s_parts_Parts_At,cellV,hw,hX,hld,his,paC,hhas,hh,e7,e8,hl.iaddrN hlt,hl.loadN' hg]
theorem r_parts_Len {m:Mem} {k:Nat} {W:Wd} {L:List Nat} {F:List (Int × Int)} {Z:List Nat} (h:PA m k W L F Z) {X:Mem} (hX:HpSub m X) (hw:X.Wf):RF tb f_parts_Parts_Len [.ptr (.hp k 0) 0] X=some (.int .i64 (F.length:Int),X):=by
  obtain ⟨p,cl,sz,kf,lv,fv,zv,ep,ha,hl,hf,hz⟩:=h.ex
  have hld:∀ {Y:Mem},HpSub m Y → ∀ off n,Y.load (.hp k 0) off n=partv (paC p W cl sz kf lv fv zv ep) off n:=fun hY off n=>by rw [load_get,hY _ _ _ ha]
  have his:∀ {Y:Mem},HpSub m Y → Y.Wf → RF tb f_parts_Parts_is [.ptr (.hp k 0) 0] Y=some (.bool true,Y):=fun hY hwY=>by
    rw [RF_go t_parts_Parts_is _ _ rfl]
    simp (maxDischargeDepth:=8) only [go_sem,s_parts_Parts_is,hwY,hY,hld,paC]
  rw [RF_go t_parts_Parts_Len _ _ rfl]
  simp (maxDischargeDepth:=8) only [go_sem,s_parts_Parts_Len,hw,hX,hld,his,paC,hf.len]
theorem r_parts_Size {m:Mem} {k:Nat} {W:Wd} {L:List Nat} {F:List (Int × Int)} {Z:List Nat} (h:PA m k W L F Z) (hF:F.length ≤ 16384) {X:Mem} (hX:HpSub m X) (hw:X.Wf) (n:Int):RF tb f_parts_Parts_Size [.ptr (.hp k 0) 0,.int .i64 n] X=some (.int .i64 ((if 1 ≤ n ∧ n ≤ F.length then Z.getD (n.toNat - 1) 0 else 0:Nat):Int),X):=by
  have hlen:=fun {Y:Mem} (hY:HpSub m Y) (hwY:Y.Wf)=>r_parts_Len h hY hwY
  obtain ⟨p,cl,sz,kf,lv,fv,zv,ep,ha,hl,hf,hz⟩:=h.ex
  have hld:∀ {Y:Mem},HpSub m Y → ∀ off n,Y.load (.hp k 0) off n=partv (paC p W cl sz kf lv fv zv ep) off n:=fun hY off n=>by rw [load_get,hY _ _ _ ha]
  rw [RF_go t_parts_Parts_Size _ _ rfl]
  by_cases h1:n < 1
  · rw [if_neg (by omega)]
    simp (maxDischargeDepth:=8) only [go_sem,s_parts_Parts_Size,hw,hX,show decide (n < 1)=true from decide_eq_true h1]
  · by_cases h2:n ≤ F.length
    · rw [if_pos (by omega)]
      have hzl:=h.zl
      have w1:IntKind.wrap .i64 (n - 1)=((n.toNat - 1:Nat):Int):=by rw [wrap_small (by omega) (by omega)]; omega
      have hg:Z[n.toNat - 1]? = some (Z.getD (n.toNat - 1) 0):=by rw [List.getD_eq_getElem?_getD,List.getElem?_eq_getElem (show n.toNat - 1 < Z.length by omega)]; rfl
      simp (maxDischargeDepth:=8) only [go_sem,s_parts_Parts_Size,hw,hX,hld,hlen,paC,show decide (n < 1)=false from decide_eq_false h1,show decide (n > (F.length:Int))=false from decide_eq_false (by omega),w1,hz.iaddrN (i:=n.toNat - 1) (by omega),hz.loadN' hg]
    · rw [if_neg (by omega)]
      simp (maxDischargeDepth:=8) only [go_sem,s_parts_Parts_Size,hw,hX,hlen,show decide (n < 1)=false from decide_eq_false h1,show decide (n > (F.length:Int))=true from decide_eq_true (by omega)]
theorem r_parts_First {m:Mem} {k:Nat} {W:Wd} {L:List Nat} {F:List (Int × Int)} {Z:List Nat} (h:PA m k W L F Z) (hF:F.length ≤ 16384) {X:Mem} (hX:HpSub m X) (hw:X.Wf) (n:Int):RF tb f_parts_Parts_First [.ptr (.hp k 0) 0,.int .i64 n] X=some (.tup [cellV (if 1 ≤ n ∧ n ≤ F.length then F.getD (n.toNat - 1) (0,0) else (0,0)).1 (if 1 ≤ n ∧ n ≤ F.length then F.getD (n.toNat - 1) (0,0) else (0,0)).2,.bool (decide (1 ≤ n ∧ n ≤ F.length))],X):=by
  have hlen:=fun {Y:Mem} (hY:HpSub m Y) (hwY:Y.Wf)=>r_parts_Len h hY hwY
  obtain ⟨p,cl,sz,kf,lv,fv,zv,ep,ha,hl,hf,hz⟩:=h.ex
  have hld:∀ {Y:Mem},HpSub m Y → ∀ off n,Y.load (.hp k 0) off n=partv (paC p W cl sz kf lv fv zv ep) off n:=fun hY off n=>by rw [load_get,hY _ _ _ ha]
  rw [RF_go t_parts_Parts_First _ _ rfl]
  by_cases h1:n < 1
  · rw [if_neg (by omega),decide_eq_false (show ¬ (1 ≤ n ∧ n ≤ (F.length:Int)) by omega)]
    simp (maxDischargeDepth:=8) only [go_sem,s_parts_Parts_First,hw,hX,show decide (n < 1)=true from decide_eq_true h1]
  · by_cases h2:n ≤ F.length
    · rw [if_pos (by omega),decide_eq_true (show 1 ≤ n ∧ n ≤ (F.length:Int) by omega)]
      have w1:IntKind.wrap .i64 (n - 1)=((n.toNat - 1:Nat):Int):=by rw [wrap_small (by omega) (by omega)]; omega
      obtain ⟨c,hc⟩:∃ c,F[n.toNat - 1]? = some c:=⟨_,List.getElem?_eq_getElem (by omega)⟩
      have hg:F.getD (n.toNat - 1) (0,0)=c:=by rw [List.getD_eq_getElem?_getD,hc]; rfl
      rw [hg]
      simp (maxDischargeDepth:=8) only [go_sem,s_parts_Parts_First,hw,hX,hld,hlen,paC,show decide (n < 1)=false from decide_eq_false h1,show decide (n > (F.length:Int))=false from decide_eq_false (by omega),w1,hf.iaddrC (i:=n.toNat - 1) (by omega),hf.loadC hc]
    · rw [if_neg (by omega),decide_eq_false (show ¬ (1 ≤ n ∧ n ≤ (F.length:Int)) by omega)]
      simp (maxDischargeDepth:=8) only [go_sem,s_parts_Parts_First,hw,hX,hlen,show decide (n < 1)=false from decide_eq_false h1,show decide (n > (F.length:Int))=true from decide_eq_true (by omega)]
def NewP (X:Mem) (p:WP) (W:Wd) (cl sz:Int) (z:Option (SV × Mem)):Prop :=
  ∃ H' k L F Z num rt u,z=some (.tup [.ptr (.hp k 0) 0,.int .i64 0],(X.hp H').es (escMin X.esc u)) ∧ PA (Hm H') k W L F Z ∧ Lab (W.w.toNat * W.h.toNat) (stI W cl sz) rt (fun i=>(((i % W.w.toNat:Nat):Int),((i / W.w.toNat:Nat):Int))) (W.w.toNat * W.h.toNat) L F Z num ∧ (∀ x y,x < W.w.toNat * W.h.toNat → y < W.w.toNat * W.h.toNat → (rt x=rt y ↔ Lnk (EL W cl sz (W.w.toNat * W.h.toNat)) x y)) ∧ Keep [] X.heap H' ∧ F.length ≤ 16384
theorem lab_small {n:Nat} {st:Nat → Bool} {rt:Nat → Nat} {cl:Nat → Int × Int} {k:Nat} {L:List Nat} {F:List (Int × Int)} {Z:List Nat} {num:Nat → Nat} (h:Lab n st rt cl k L F Z num):F.length ≤ k:=by
  have:∀ j,(fsP (fun i=>L.getD i 0) j).length ≤ j:=fun j=>by
    induction j with
    | zero=>exact Nat.le_refl _
    | succ j ih =>
      simp only [fsP]
      split
      · rw [List.length_append,List.length_singleton]; omega
      · omega
  rw [h.fs,List.length_map]; exact this k
theorem r_parts_New {X:Mem} {p:WP} {W:Wd} (hO:WorldOwn X.heap p W) (hg:W.Good) (hw:X.Wf) (hhb:X.hb ≤ X.hl) (cl sz:Int) (hm:mayS cl sz=true) (hc:0 ≤ cl ∧ cl < 4) (hs:1 ≤ sz ∧ sz ≤ 4):NewP X p W cl sz (RF tb f_parts_New [.ptr (.hp p.k 0) 0,.agg [.int .i64 cl,.int .i64 sz]] X):=by
  rw [RF_go t_parts_New _ _ rfl,push_hp]
  generalize hH:X.heap=H at *
  have hHl:X.hl=H.length:=by rw [← hH]; rfl
  simp (maxDischargeDepth:=8) only [go_sem,s_parts_New,hw,hH]
  generalize hz:RF tb f_clear_New _ _=z
  obtain ⟨kf,flv,H1,rfl,hF,k1⟩:=new_of hz (show WorldOwn H p W from hO) hg (fr_wf (hp_wf hw) _ _) (by show X.hb ≤ H.length; omega) hc
  have k1':Keep [] H H1:=k1
  have hO1:=hO.keep k1' (by simp)
  have hl1:=k1'.1
  simp (maxDischargeDepth:=8) only [go_sem,hw,hm,r_class_May,show ((0:Int) != 0)=false from by decide,r_grid_World_All hO1.at_,rect]
  obtain ⟨H2,hH2⟩:∃ H2,H1 ++ [(0,SBk.cells true [.ptr (.hp p.k 0) 0,.int .i64 cl,.int .i64 sz,.int .i64 0,.int .i64 0,.int .i64 W.w,.int .i64 W.h,.ptr (.hp kf 0) 0,.nils,.nils,.nils,.int .i64 0])]=H2:=⟨_,rfl⟩
  have k2:Keep [] H1 H2:=by rw [← hH2]; exact Keep.app _ _ _
  have l2:H2.length=H1.length + 1:=by rw [← hH2,List.length_append]; rfl
  have g2:hget H2 H1.length 0=some (.cells true (paC p W cl sz kf .nils .nils .nils 0)):=by rw [← hH2]; exact hget_new0 0 _
  rw [hH2]
  have hkf:kf < H1.length:=hget_lt (show hget H1 kf 0=_ from hF.hd)
  have hff:=hF.ll.fp
  have hO2:=hO1.keep k2 (by simp)
  generalize hz:RF tb f_parts_Parts_label _ _=z
  have hR:=hz ▸ r_parts_label (X:=(X.hp H2).fr [.cells true [.int .i64 cl,.int .i64 sz]] none) g2 (LAt.field hF k2 (by simp) (by simp)) hs (fr_wf (hp_wf hw) _ _) (by show X.hb ≤ H1.length; omega) (by show kf < H2.length; omega) (fun i hi=>by have:=hff i hi; show i < H2.length; omega) hO2 (fun hc=>by have:=hO1.at_.lt _ hc; omega) (by omega) (fun hc=>by have:=hff _ hc; omega)
  obtain ⟨H3,lv,fv,zv,L,F,Z,num,rt,rfl,q1,q2,q3,q4,q5,q6,q7,q8,q9,q10⟩:=hR
  have q7':Keep [H1.length] H2 H3:=q7
  have hl3:=q7'.1
  simp (maxDischargeDepth:=8) only [go_sem,hw]
  rw [if_neg (by omega)]
  refine ⟨H3,H1.length,L,F,Z,num,rt,_,rfl,⟨⟨p,cl,sz,kf,lv,fv,zv,_,q1,q2.lies natF_even,q3.lies cellF_even,q4.lies natF_even⟩,q5.len,by rw [q5.zs,List.length_map,List.length_range],hF.w1,hF.h1⟩,q5,q6,?_,Nat.le_trans (lab_small q5) ?_⟩
  · rw [hH]; exact (k1'.trans k2).trans' q7' (fun m hm hl=>by simp at hm; omega)
  · have w1:=hF.w1
    have w2:=hF.h1
    exact Nat.mul_le_mul (show W.w.toNat ≤ 128 by omega) (show W.h.toNat ≤ 128 by omega)
def W31:Wd:=⟨3,1,[0,3,0],[],[]⟩
theorem new31:newW 3 1 [0,3,0] []=some W31:=by rfl
theorem good31:W31.Good:=by unfold Wd.Good; decide
theorem st31a:stI W31 0 1 0=true:=by decide +kernel
theorem st31b:stI W31 0 1 1=false:=by decide +kernel
theorem st31c:stI W31 0 1 2=true:=by decide +kernel
theorem lab31 {rt:Nat → Nat} {cl:Nat → Int × Int} {L:List Nat} {F:List (Int × Int)} {Z:List Nat} {num:Nat → Nat} (h:Lab 3 (stI W31 0 1) rt cl 3 L F Z num) (hr:∀ x y,x < 3 → y < 3 → (rt x=rt y ↔ Lnk (EL W31 0 1 3) x y)):F.length=2 ∧ L.getD 2 0=2:=by
  have noE:∀ a b,¬ EL W31 0 1 3 a b:=by
    rintro a b ⟨h1,h2,h3,h4⟩
    have hw:W31.w.toNat=3:=rfl
    rw [hw] at h4
    have:a=0 ∨ a=1 ∨ a=2:=by omega
    rcases this with rfl | rfl | rfl
    · omega
    · rw [st31b] at h2; cases h2
    · have hb:b=1:=by omega
      subst hb
      rw [st31b] at h3; cases h3
  have hne:rt 0 ≠ rt 2:=fun e=>by have:=lnk_none noE ((hr 0 2 (by omega) (by omega)).1 e); omega
  have f0:=(h.ca 0 (by omega)).2 st31a
  have f1:=(h.ca 1 (by omega)).1 st31b
  have f2:=(h.ca 2 (by omega)).2 st31c
  have F0:Fst (stI W31 0 1) (fun x y=>rt x=rt y) 0:=⟨st31a,fun j hj=>by omega⟩
  have F1:¬ Fst (stI W31 0 1) (fun x y=>rt x=rt y) 1:=fun hf=>by have:=hf.1; rw [st31b] at this; cases this
  have c1:cntF (stI W31 0 1) (fun x y=>rt x=rt y) 1=1:=by rw [cntF_fst F0]; rfl
  have c2:cntF (stI W31 0 1) (fun x y=>rt x=rt y) 2=1:=by rw [cntF_no F1,c1]
  have g0:L.getD 0 0=1:=by
    rcases f0 with ⟨j,hj,_⟩ | ⟨_,e⟩
    · omega
    · exact e
  have g2:L.getD 2 0=2:=by
    rcases f2 with ⟨j,hj,hs,he,_⟩ | ⟨_,e⟩
    · have:j=0 ∨ j=1:=by omega
      rcases this with rfl | rfl
      · exact absurd he hne
      · rw [st31b] at hs; cases hs
    · rw [c2] at e; exact e
  refine ⟨?_,g2⟩
  rw [h.mx]
  have f1':L.getD 1 0=0:=f1
  simp only [mxP,g0,f1',g2]
  decide
theorem r_law08_awake (X:Mem) (hw:X.Wf) (hhb:X.hb ≤ X.hl):∃ H' u,RF tb f_law08_awake [] X=some (.bool true,(X.hp H').es (escMin X.esc u)) ∧ Keep [] X.heap H':=by
  rw [RF_go t_law08_awake _ _ rfl,push_hp]
  generalize hH:X.heap=H
  have hHl:X.hl=H.length:=by rw [← hH]; rfl
  obtain ⟨H1,hH1⟩:∃ H1,H ++ [(0,SBk.cells true [SV.int .u8 0,SV.int .u8 3,SV.int .u8 0])]=H1:=⟨_,rfl⟩
  have own:Own byteF H1 (.sl (.hp H.length 0) 0 3 (some 3) 1) [0,3,0]:=by rw [← hH1]; exact own_new byteF_even H [0,3,0] (some 3)
  have k1:Keep [] H H1:=by rw [← hH1]; exact Keep.app _ _ _
  have hn:=r_grid_New (X:=(X.hp H1).fr [] none) (bl:=[]) (own.lies byteF_even) (LiesD.nil bldF _) (by decide) (fr_wf (hp_wf hw) _ _) (by show X.hb ≤ H1.length; have:=k1.1; omega) 3 1
  rw [new31] at hn
  obtain ⟨H2,u,p,h1,hO,k2,hF⟩:=hn
  change Keep [] H1 H2 at k2
  simp (maxDischargeDepth:=8) only [go_sem,s_law08_awake,hw,hH,hH1,h1]
  generalize hz:RF tb f_parts_New _ _=z
  have hl1:=k1.1
  have hl2:=k2.1
  obtain ⟨H3,k,L,F,Z,num,rt,u3,rfl,hP,hB,hr,k3,-⟩:=hz ▸ r_parts_New (X:=(X.hp H2).fr [] (escMin none u)) hO good31 (fr_wf (hp_wf hw) _ _) (by show X.hb ≤ H2.length; omega) 0 1 (by decide) (by decide) (by decide)
  obtain ⟨e1,e2⟩:=lab31 hB hr
  have k3':Keep [] H2 H3:=k3
  have hat:=fun {Y:Mem} (hY:HpSub (Hm H3) Y) (hwY:Y.Wf)=>r_parts_At hP hY hwY 2 0
  rw [show atP W31 L 2 0=L.getD 2 0 from rfl,e2] at hat
  have hlen:=fun {Y:Mem} (hY:HpSub (Hm H3) Y) (hwY:Y.Wf)=>r_parts_Len hP hY hwY
  rw [e1] at hlen
  unfold cellV at hat
  simp (maxDischargeDepth:=8) only [go_sem,hw,hat,hlen,show ((0:Int) == 0)=true from rfl,show ((2:Int) == 2)=true from rfl]
  exact ⟨_,_,rfl,by rw [← hH] at k1 ⊢; exact ((k1.trans k2).trans k3').back0⟩
theorem aw08 {X:Mem} {z:Option (SV × Mem)} (hz:RF tb f_law08_awake [] X=z) (hw:X.Wf) (hhb:X.hb ≤ X.hl):∃ H' u,z=some (.bool true,(X.hp H').es (escMin X.esc u)) ∧ Keep [] X.heap H':=by
  rw [← hz]; exact r_law08_awake X hw hhb
theorem SInv.more {ok:Cl → Int → Bool} {s:Cl} {g:Cl → Option Int} {dn:Cl → Bool} {R R':Cl → Int → Prop} {E:Cl → Int → Prop} (I:SInv ok s g dn R E) (hR:∀ x e,R' x e → dn x=true ∧ (ok x e=true → R x e)):SInv ok s g dn R' E :=
  { I with rd:=fun x e h=>(hR x e h).1,r:=fun x e h hk=>I.r x e ((hR x e h).2 hk) hk }
def okS (W:Wd) (cl sz:Int) (inR:Cl → Bool) (c:Cl) (d:Int):Bool:=inR c && W.steps cl sz c.1 c.2 d && inR (mvC c d)
def gM (M:List (Cl × Int)) (c:Cl):Option Int:=alGet c M
def dK (K:List (Cl × Bool)) (c:Cl):Bool:=(alGet c K).getD false
def eL (h:Int → Int → Int) (L:List Rt) (x:Cl) (v:Int):Prop:=∃ n',((x.1,x.2,v,h x.1 x.2,n'):Rt) ∈ L
structure SpI (ok:Cl → Int → Bool) (s:Cl) (h:Int → Int → Int) (N j:Nat) (n:Int) (L:List Rt) (M:List (Cl × Int)) (K:List (Cl × Bool)) (R:Cl → Int → Prop):Prop where
  ho:HOk rlt L (fun _=>True)
  iv:SInv ok s (gM M) (dK K) R (eL h L)
  re:∀ x ∈ L,x.2.2.2.1=h x.1 x.2.1
  lb:∀ x ∈ L,x.2.2.1 ≤ 14 * (K.length:Int)
  mb:∀ c v,gM M c=some v → v ≤ 14 * (K.length:Int)
  kn:(K.map Prod.fst).Nodup
  kt:∀ x ∈ K,x.2=true
  kl:K.length ≤ N
  nl:(L.length:Int) ≤ n ∧ n + j ≤ 1 + 8 * (K.length:Int)
theorem dK_iff {K:List (Cl × Bool)} (kt:∀ x ∈ K,x.2=true) {c:Cl}:dK K c=true ↔ c ∈ K.map Prod.fst:=by
  induction K with
  | nil=>simp [dK,alGet]
  | cons x K ih =>
    obtain ⟨a,b⟩:=x
    have hb:=kt (a,b) List.mem_cons_self
    dsimp only at hb
    subst hb
    have ih:=ih fun x hx=>kt x (List.mem_cons_of_mem _ hx)
    unfold dK at ih ⊢
    simp only [alGet,List.map_cons,List.mem_cons]
    by_cases e:c=a
    · simp [e]
    · rw [if_neg e,ih]; simp [e]
theorem alGet_no {α β:Type} [DecidableEq α] {k:α}:∀ {l:List (α × β)},k ∉ l.map Prod.fst → alGet k l=none
  | [],_=>rfl
  | (a,b) :: l,h=>by
    simp only [List.map_cons,List.mem_cons,not_or] at h
    simp only [alGet]
    rw [if_neg h.1]
    exact alGet_no h.2
section
variable {ok:Cl → Int → Bool} {s:Cl} {h:Int → Int → Int} {N j:Nat} {n:Int} {L:List Rt} {M:List (Cl × Int)} {K:List (Cl × Bool)} {R:Cl → Int → Prop}
theorem SpI.min {x:Rt} {T:List Rt} (I:SpI ok s h N j n (x :: T) M K R) (hN:N ≤ 20000) (hd:∀ c d,ok c d=true → isDir d=true) (hh:∀ a b,0 ≤ h a b ∧ h a b ≤ 1000000000):(0 ≤ x.2.2.1 ∧ x.2.2.1 ≤ 14 * (K.length:Int)) ∧ eL h (x :: T) (x.1,x.2.1) x.2.2.1 ∧ ∀ y w,eL h (x :: T) y w → x.2.2.1 + h x.1 x.2.1 ≤ w + h y.1 y.2:=by
  have hx:x ∈ x :: T:=List.mem_cons_self
  have pos:∀ y ∈ x :: T,0 ≤ y.2.2.1:=fun y hy=>by
    have hE:eL h (x :: T) (y.1,y.2.1) y.2.2.1:=⟨y.2.2.2.2,by
      have:=I.re y hy
      have e:((y.1,y.2.1,y.2.2.1,h y.1 y.2.1,y.2.2.2.2):Rt)=y:=by rw [← this]
      show (y.1,y.2.1,y.2.2.1,h y.1 y.2.1,y.2.2.2.2) ∈ x :: T
      rw [e]; exact hy⟩
    obtain ⟨_,_,_,hp⟩:=I.iv.e _ _ hE
    exact (hp.nn hd).1
  have hk:=I.kl
  refine ⟨⟨pos x hx,I.lb x hx⟩,⟨x.2.2.2.2,?_⟩,?_⟩
  · have:=I.re x hx
    have e:((x.1,x.2.1,x.2.2.1,h x.1 x.2.1,x.2.2.2.2):Rt)=x:=by rw [← this]
    show (x.1,x.2.1,x.2.2.1,h x.1 x.2.1,x.2.2.2.2) ∈ x :: T
    rw [e]; exact hx
  · rintro y w ⟨n',hy⟩
    obtain ⟨i,hi⟩:=List.getElem?_of_mem hy
    have hm:=root_min rlt_ord I.ho (a:=x) rfl i i _ (Nat.le_refl _) hi
    rw [rlt_no] at hm
    have b1:=pos x hx
    have b2:=I.lb x hx
    have b3:=pos _ hy
    have b4:=I.lb _ hy
    have b5:=hh x.1 x.2.1
    have b6:=hh y.1 y.2
    have b7:=I.re x hx
    dsimp only at hm b3 b4
    unfold sumW at hm
    rw [wrap_small (x:=w + h y.1 y.2) (by omega) (by omega),wrap_small (x:=x.2.2.1 + x.2.2.2.1) (by omega) (by omega)] at hm
    omega
theorem eL_pop {x:Rt} {T:List Rt} (y:Cl) (w:Int):(eL h (rpopL (x :: T)) y w → eL h (x :: T) y w) ∧ (eL h (x :: T) y w → y ≠ (x.1,x.2.1) → eL h (rpopL (x :: T)) y w):=by
  have hp:=(rpop_perm x T).1
  refine ⟨fun ⟨n',hy⟩=>⟨n',List.mem_cons_of_mem _ (hp.mem_iff.1 hy)⟩,fun ⟨n',hy⟩ hne=>⟨n',hp.mem_iff.2 ?_⟩⟩
  rcases List.mem_cons.1 hy with e | hy
  · exact absurd (by rw [← e]) hne
  · exact hy
theorem SpI.skip {x:Rt} {T:List Rt} (I:SpI ok s h N j n (x :: T) M K R) (hc:dK K (x.1,x.2.1)=true):SpI ok s h N j n (rpopL (x :: T)) M K R:=by
  obtain ⟨p1,p2⟩:=rpop_perm x T
  refine { I with ho:=p2 I.ho,iv:=I.iv.skip hc (fun y w=>(eL_pop y w).1) (fun y w=>(eL_pop y w).2),re:=fun y hy=>I.re y (List.mem_cons_of_mem _ (p1.mem_iff.1 hy)),lb:=fun y hy=>I.lb y (List.mem_cons_of_mem _ (p1.mem_iff.1 hy)),nl:=?_ }
  have:=I.nl
  rw [p1.length_eq]
  simp only [List.length_cons] at this
  omega
theorem SpI.take {x:Rt} {T:List Rt} (I:SpI ok s h N 0 n (x :: T) M K (fun y _=>dK K y=true)) (hN:N ≤ 20000) (hd:∀ c d,ok c d=true → isDir d=true) (hh:∀ a b,0 ≤ h a b ∧ h a b ≤ 1000000000) (hcs:∀ c d,ok c d=true → h c.1 c.2 ≤ costP d + h (mvC c d).1 (mvC c d).2) (hc:dK K (x.1,x.2.1)=false) (hK:K.length + 1 ≤ N) :
    gM M (x.1,x.2.1)=some x.2.2.1 ∧ SpI ok s h N 8 n (rpopL (x :: T)) M (alSet (x.1,x.2.1) true K) (fun y e=>dK (alSet (x.1,x.2.1) true K) y=true ∧ (y ≠ (x.1,x.2.1) ∨ e < 0)) ∧ (alSet (x.1,x.2.1) true K).length=K.length + 1 ∧ dK (alSet (x.1,x.2.1) true K) (x.1,x.2.1)=true:=by
  obtain ⟨p1,p2⟩:=rpop_perm x T
  obtain ⟨m1,m2,m3⟩:=I.min hN hd hh
  have hno:(x.1,x.2.1) ∉ K.map Prod.fst:=fun hm=>by rw [(dK_iff I.kt).2 hm] at hc; cases hc
  have hal:alSet (x.1,x.2.1) true K=K ++ [((x.1,x.2.1),true)]:=alSet_new (alGet_no hno)
  have hdk:dK (alSet (x.1,x.2.1) true K)=fun y=>if y=(x.1,x.2.1) then true else dK K y:=by
    funext y
    unfold dK
    rw [alGet_set]
    split <;> rfl
  have hf:=I.iv.first (fun y e h1 _=>h1) (h:=fun c=>h c.1 c.2) hcs m2 hc m3
  refine ⟨hf.1,⟨p2 I.ho,?_,fun y hy=>I.re y (List.mem_cons_of_mem _ (p1.mem_iff.1 hy)),fun y hy=>?_,fun c v hv=>?_,?_,fun y hy=>?_,?_,?_⟩,?_,?_⟩
  · rw [hdk]
    refine (I.iv.take hf (fun y w=>(eL_pop y w).1) (fun y w=>(eL_pop y w).2)).more fun y e hR=>⟨hR.1,fun hk=>?_⟩
    have h1:=hR.1
    rcases hR.2 with h2 | h2
    · dsimp only at h1; rw [if_neg h2] at h1; exact h1
    · have:=hd _ _ hk
      simp [isDir] at this
      omega
  · have:=I.lb y (List.mem_cons_of_mem _ (p1.mem_iff.1 hy))
    rw [hal,List.length_append,List.length_singleton]
    omega
  · have:=I.mb c v hv
    rw [hal,List.length_append,List.length_singleton]
    omega
  · rw [hal,List.map_append,List.nodup_append]
    refine ⟨I.kn,by simp,fun a ha b hb e=>?_⟩
    subst e
    simp at hb
    subst hb
    exact hno ha
  · rw [hal] at hy
    rcases List.mem_append.1 hy with hy | hy
    · exact I.kt y hy
    · simp at hy; subst hy; rfl
  · rw [hal,List.length_append,List.length_singleton]; exact hK
  · have:=I.nl
    rw [p1.length_eq,hal,List.length_append,List.length_singleton]
    simp only [List.length_cons] at this
    omega
  · rw [hal,List.length_append]; rfl
  · rw [hdk]; simp
theorem SpI.more {L:List Rt} (I:SpI ok s h N j n L M K R) {j':Nat} (hj:j' ≤ j) {R':Cl → Int → Prop} (hR:∀ x e,R' x e → dK K x=true ∧ (ok x e=true → R x e)):SpI ok s h N j' n L M K R' :=
  { I with iv:=I.iv.more hR,nl:=by have:=I.nl; omega }
end
abbrev okR (W:Wd) (cl sz ax ay aw ah:Int):Cl → Int → Bool:=okS W cl sz (fun c=>hasB ax ay aw ah c.1 c.2)
def Vd (W:Wd) (cl sz ax ay aw ah f1 f2 t1 t2:Int):Bool:=hasB ax ay aw ah f1 f2 && hasB ax ay aw ah t1 t2 && W.stands cl sz f1 f2 && W.stands cl sz t1 t2
def WayRes (W:Wd) (cl sz ax ay aw ah f1 f2 t1 t2:Int) (N:Nat) (o:Int) (l:List Cl) (c:Int):Prop :=
  (o=2 ∧ l=[] ∧ c=0 ∧ (Vd W cl sz ax ay aw ah f1 f2 t1 t2=true → ∀ v,¬ Pth (okR W cl sz ax ay aw ah) (t1,t2) (f1,f2) v)) ∨
  (o=1 ∧ Vd W cl sz ax ay aw ah f1 f2 t1 t2=true ∧ Mn (okR W cl sz ax ay aw ah) (t1,t2) (f1,f2) c ∧ c ≤ 14 * (N:Int) ∧ l=wayC (okR W cl sz ax ay aw ah) (t1,t2) c.toNat (f1,f2))
section
variable (cl sz f1 f2 t1 t2 ax ay aw ah:Int) (hv:SV) (jl:List SBk)
end
section
variable {n:Nat} {st:Nat → Bool} {rt:Nat → Nat}
end
section
variable {W:Wd} {cl sz:Int}
def ixC (W:Wd) (x y:Int):Nat:=y.toNat * W.w.toNat + x.toNat
theorem ix_in (w1:1 ≤ W.w) {x y:Int} (h:0 ≤ x ∧ x < W.w ∧ 0 ≤ y ∧ y < W.h):ixC W x y < W.w.toNat * W.h.toNat ∧ ((ixC W x y % W.w.toNat:Nat):Int)=x ∧ ((ixC W x y / W.w.toNat:Nat):Int)=y:=by
  have hw:0 < W.w.toNat:=by omega
  have e1:ixC W x y % W.w.toNat=x.toNat:=by
    unfold ixC; rw [Nat.mul_comm,Nat.mul_add_mod,Nat.mod_eq_of_lt (by omega)]
  have e2:ixC W x y / W.w.toNat=y.toNat:=by
    unfold ixC; rw [Nat.mul_comm,Nat.mul_add_div hw,Nat.div_eq_of_lt (by omega),Nat.add_zero]
  refine ⟨?_,by omega,by omega⟩
  have e4:W.w.toNat * (y.toNat + 1) ≤ W.w.toNat * W.h.toNat:=Nat.mul_le_mul_left _ (by omega)
  unfold ixC
  rw [Nat.mul_add,Nat.mul_one,Nat.mul_comm] at e4
  omega
theorem stI_ix (w1:1 ≤ W.w) {x y:Int} (h:0 ≤ x ∧ x < W.w ∧ 0 ≤ y ∧ y < W.h):stI W cl sz (ixC W x y)=W.stands cl sz x y:=by
  obtain ⟨_,e1,e2⟩:=ix_in w1 h
  unfold stI
  rw [e1,e2]
theorem link_x (w1:1 ≤ W.w) {x y:Int} (h1:W.stands cl sz x y=true) (h2:W.stands cl sz (x + 1) y=true):Lnk (EL W cl sz (W.w.toNat * W.h.toNat)) (ixC W x y) (ixC W (x + 1) y):=by
  have b1:=stands_bx7 h1
  have b2:=stands_bx7 h2
  obtain ⟨c1,c2,c3⟩:=ix_in (W:=W) w1 (x:=x + 1) (y:=y) (by omega)
  refine .step (.refl _) (.inr ⟨c1,(stI_ix w1 (by omega)).trans h2,(stI_ix w1 (by omega)).trans h1,.inl ⟨by omega,?_⟩⟩)
  unfold ixC; omega
theorem link_y (w1:1 ≤ W.w) {x y:Int} (h1:W.stands cl sz x y=true) (h2:W.stands cl sz x (y + 1)=true):Lnk (EL W cl sz (W.w.toNat * W.h.toNat)) (ixC W x y) (ixC W x (y + 1)):=by
  have b1:=stands_bx7 h1
  have b2:=stands_bx7 h2
  obtain ⟨c1,c2,c3⟩:=ix_in (W:=W) w1 (x:=x) (y:=y + 1) (by omega)
  refine .step (.refl _) (.inr ⟨c1,(stI_ix w1 (by omega)).trans h2,(stI_ix w1 (by omega)).trans h1,.inr ?_⟩)
  unfold ixC
  rw [show (y + 1).toNat=y.toNat + 1 by omega,Nat.add_mul]; omega
theorem link_h (w1:1 ≤ W.w) {x y t:Int} (ht:t=1 ∨ t=-1 ∨ t=0) (h1:W.stands cl sz x y=true) (h2:W.stands cl sz (x + t) y=true):Lnk (EL W cl sz (W.w.toNat * W.h.toNat)) (ixC W x y) (ixC W (x + t) y):=by
  rcases ht with rfl | rfl | rfl
  · exact link_x w1 h1 h2
  · have:=link_x w1 (x:=x + -1) h2 (by rw [show x + -1 + 1=x by omega]; exact h1)
    rw [show x + -1 + 1=x by omega] at this
    exact this.symm
  · rw [Int.add_zero]; exact .refl _
theorem link_v (w1:1 ≤ W.w) {x y t:Int} (ht:t=1 ∨ t=-1 ∨ t=0) (h1:W.stands cl sz x y=true) (h2:W.stands cl sz x (y + t)=true):Lnk (EL W cl sz (W.w.toNat * W.h.toNat)) (ixC W x y) (ixC W x (y + t)):=by
  rcases ht with rfl | rfl | rfl
  · exact link_y w1 h1 h2
  · have:=link_y w1 (y:=y + -1) h2 (by rw [show y + -1 + 1=y by omega]; exact h1)
    rw [show y + -1 + 1=y by omega] at this
    exact this.symm
  · rw [Int.add_zero]; exact .refl _
theorem turn3 (d:Int):(turnX d=1 ∨ turnX d=-1 ∨ turnX d=0) ∧ (turnY d=1 ∨ turnY d=-1 ∨ turnY d=0):=by
  have:=turn_lo d
  omega
theorem link_step (w1:1 ≤ W.w) {x y d:Int} (h:W.steps cl sz x y d=true):Lnk (EL W cl sz (W.w.toNat * W.h.toNat)) (ixC W x y) (ixC W (x + turnX d) (y + turnY d)):=by
  simp only [Wd.steps,Bool.and_eq_true,Bool.or_eq_true,Bool.not_eq_true'] at h
  obtain ⟨⟨⟨h1,h2⟩,h3⟩,h4⟩:=h
  have hd:=isDir_in (step_in h1).1
  have ht:=turn3 d
  rcases h4 with h4 | ⟨h5,h6⟩
  · have hd4:d < 4:=by
      simp only [sideOk,h1,Bool.true_and,decide_eq_false_iff_not] at h4; omega
    have:d=0 ∨ d=1 ∨ d=2 ∨ d=3:=by omega
    rcases this with rfl | rfl | rfl | rfl
    · have:y + turnY 0=y:=by show y + 0=y; omega
      rw [this] at h3 ⊢; exact link_h w1 ht.1 h2 h3
    · have:x + turnX 1=x:=by show x + 0=x; omega
      rw [this] at h3 ⊢; exact link_v w1 ht.2 h2 h3
    · have:y + turnY 2=y:=by show y + 0=y; omega
      rw [this] at h3 ⊢; exact link_h w1 ht.1 h2 h3
    · have:x + turnX 3=x:=by show x + 0=x; omega
      rw [this] at h3 ⊢; exact link_v w1 ht.2 h2 h3
  · exact (link_h w1 ht.1 h2 h5).trans (link_v w1 ht.2 h5 h3)
theorem cell_left {w b:Nat} (hw:0 < w) (h:b % w ≠ 0):(b - 1) % w=b % w - 1 ∧ (b - 1) / w=b / w:=by
  have e:=Nat.div_add_mod b w
  have hl:=Nat.mod_lt b hw
  have e2:b - 1=w * (b / w) + (b % w - 1):=by omega
  constructor
  · rw [e2,Nat.mul_add_mod,Nat.mod_eq_of_lt (by omega)]
  · rw [e2,Nat.mul_add_div hw,Nat.div_eq_of_lt (show b % w - 1 < w by omega),Nat.add_zero]
theorem cell_up {w b:Nat} (hw:0 < w) (h:w ≤ b):(b - w) % w=b % w ∧ (b - w) / w=b / w - 1 ∧ 1 ≤ b / w:=by
  refine ⟨(Nat.mod_eq_sub_mod h).symm,?_,Nat.div_pos h hw⟩
  rw [Nat.div_eq_sub_div hw h,Nat.add_sub_cancel]
theorem side_ok (w1:1 ≤ W.w ∧ W.w ≤ 128) (w2:1 ≤ W.h ∧ W.h ≤ 128) {x y d:Int} (hd:0 ≤ d ∧ d < 4) (h1:W.stands cl sz x y=true) (h2:W.stands cl sz (x + turnX d) (y + turnY d)=true):okR W cl sz 0 0 W.w W.h (x,y) d=true:=by
  have b1:=stands_bx7 h1
  have b2:=stands_bx7 h2
  have p1:hasB 0 0 W.w W.h x y=true:=(has_w w1 w2).2 (by omega)
  have p2:hasB 0 0 W.w W.h (x + turnX d) (y + turnY d)=true:=(has_w w1 w2).2 (by omega)
  have p3:stepOk x y d=true:=by
    simp only [stepOk,isDir,nearC,nearP,Bool.and_eq_true,decide_eq_true_eq]
    omega
  have p4:sideOk x y d=false:=by simp only [sideOk,p3,Bool.true_and,decide_eq_false_iff_not]; omega
  simp only [okR,okS,mvC,Wd.steps,p1,p2,p3,p4,h1,h2,Bool.not_false,Bool.true_or,Bool.and_self]
def cellI (W:Wd) (i:Nat):Cl:=(((i % W.w.toNat:Nat):Int),((i / W.w.toNat:Nat):Int))
end
theorem parts_new0 (X:Mem) (hw:X.Wf) (cl sz:Int):RF tb f_parts_New [.nilp,.agg [.int .i64 cl,.int .i64 sz]] X=some (.tup [.nilp,.int .i64 1],X):=by
  rw [RF_go t_parts_New _ _ rfl]
  simp (maxDischargeDepth:=8) only [go_sem,s_parts_New,hw,r_clear_New0,show ((1:Int) != 0)=true from by decide]
theorem parts_new_no {X:Mem} {p:WP} {W:Wd} (hO:WorldOwn X.heap p W) (hg:W.Good) (hw:X.Wf) (hhb:X.hb ≤ X.hl) (cl sz:Int) (hm:mayS cl sz=false):∃ H' u,RF tb f_parts_New [.ptr (.hp p.k 0) 0,.agg [.int .i64 cl,.int .i64 sz]] X=some (.tup [.nilp,.int .i64 1],(X.hp H').es (escMin X.esc u)) ∧ Keep [] X.heap H':=by
  rw [RF_go t_parts_New _ _ rfl,push_hp]
  generalize hH:X.heap=H at *
  have hHl:X.hl=H.length:=by rw [← hH]; rfl
  simp (maxDischargeDepth:=8) only [go_sem,s_parts_New,hw,hH]
  by_cases hc:0 ≤ cl ∧ cl < 4
  · generalize hz:RF tb f_clear_New _ _=z
    obtain ⟨kf,flv,H1,rfl,hF,k1⟩:=new_of hz (show WorldOwn H p W from hO) hg (fr_wf (hp_wf hw) _ _) (by show X.hb ≤ H.length; omega) hc
    have k1':Keep [] H H1:=k1
    simp (maxDischargeDepth:=8) only [go_sem,hw,hm,r_class_May,show ((0:Int) != 0)=false from by decide]
    have kt:=(show Keep [] X.heap H1 by rw [hH]; exact k1').back0 (u:=none)
    rw [hH] at kt
    simp only [escOk_none,if_true] at kt
    refine ⟨_,none,?_,kt⟩
    rw [show escMin X.esc none=X.esc by cases X.esc <;> rfl]
    rfl
  · have hn:=fun f e=>r_clear_New_no (m:=Hm H) (X:=(X.hp H).fr f e) hO.at_ hc (hpsub_refl _) (fr_wf (hp_wf hw) f e)
    simp (maxDischargeDepth:=8) only [go_sem,hw,hn,show ((1:Int) != 0)=true from by decide]
    refine ⟨H,none,?_,Keep.refl _ _⟩
    rw [show escMin X.esc none=X.esc by cases X.esc <;> rfl,← hH]
    rw [show List.take X.hl X.heap=X.heap from List.take_length]
    rfl
section
variable {W:Wd} {cl sz ax ay aw ah f1 f2 t1 t2:Int} {N:Nat} {o c:Int} {l:List Cl}
theorem WayRes.found (h:WayRes W cl sz ax ay aw ah f1 f2 t1 t2 N 1 l c):Vd W cl sz ax ay aw ah f1 f2 t1 t2=true ∧ Mn (okR W cl sz ax ay aw ah) (t1,t2) (f1,f2) c ∧ l=wayC (okR W cl sz ax ay aw ah) (t1,t2) c.toNat (f1,f2):=by
  rcases h with ⟨h,_⟩ | ⟨_,h1,h2,_,h3⟩
  · omega
  · exact ⟨h1,h2,h3⟩
end
theorem gr_of {X:Mem} {p:QP} {W:Wd} {bl:List Bld} {cl sz:Int} {z:Option (SV × Mem)} (hz:RF tb f_ref08_Of [.ptr (.hp p.k 0) 0,.agg [.int .i64 cl,.int .i64 sz]] X=z) (hV:RefOwn X.heap p W bl) (ho:∀ a b,(atL bl a b).isSome=(atL W.bl a b).isSome) (hg:W.Good) (hw:X.Wf) (hhb:X.hb ≤ X.hl):∃ v' H',z=some (grV W.w W.h v',X.hp H') ∧ Own boolF H' v' (W.gr cl sz) ∧ (∀ i ∈ slFp v',X.heap.length ≤ i) ∧ Keep [] X.heap H':=by
  rw [← hz]
  exact r_ref08_Of hV ho hg hw hhb cl sz
theorem WayRes.same {W:Wd} {cl sz ax ay aw ah f1 f2 t1 t2:Int} {N N':Nat} {o o' c c':Int} {l l':List Cl} (h:WayRes W cl sz ax ay aw ah f1 f2 t1 t2 N o l c) (g:WayRes W cl sz ax ay aw ah f1 f2 t1 t2 N' o' l' c'):o=o' ∧ l=l' ∧ c=c':=by
  rcases h with ⟨rfl,rfl,rfl,h1⟩ | ⟨rfl,h1,h2,_,rfl⟩
  · rcases g with ⟨rfl,rfl,rfl,_⟩ | ⟨rfl,g1,g2,_,rfl⟩
    · exact ⟨rfl,rfl,rfl⟩
    · exact absurd g2.1 (h1 g1 _)
  · rcases g with ⟨rfl,rfl,rfl,g1⟩ | ⟨rfl,g1,g2,_,rfl⟩
    · exact absurd h2.1 (g1 h1 _)
    · obtain rfl:=h2.uniq g2
      exact ⟨rfl,rfl,rfl⟩
end Go.Sh.T
