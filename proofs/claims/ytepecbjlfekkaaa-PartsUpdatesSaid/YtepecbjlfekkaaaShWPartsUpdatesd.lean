import Derived.Test.YtepecbjlfekkaaaShWPartsUpdatesc
import Derived.Test.YtepecbjlfekkaaaShArg
set_option linter.all false
set_option linter.unusedVariables false
set_option linter.unusedSimpArgs false
set_option autoImplicit false
namespace Go.Sh.T
open Go.Sh
set_option maxHeartbeats 8000000
set_option maxRecDepth 20000
theorem both_ofC {X:Mem} {tv bv:SV} {W:Wd} (hd:W.dirty=[]) {z:Option (SV × Mem)} (hz:RF tb f_law06_Both [.agg [.int .i64 W.w,.int .i64 W.h,tv,bv]] X=z) (hm:MapIn X tv bv W.tiles W.bl) (hw:X.Wf) (hhb:X.hb ≤ X.hl) :
    (∃ H' u,z=some (.tup [.nilp,.nilp,.bool false],(X.hp H').es (escMin X.esc u)) ∧ Keep [] X.heap H') ∨
    (∃ H' u p q,z=some (.tup [.ptr (.hp p.k 0) 0,.ptr (.hp q.k 0) 0,.bool true],(X.hp H').es (escMin X.esc u)) ∧ Ed X.heap.length H' p q W W.bl ∧ Keep [] X.heap H'):=by
  obtain ⟨w,hh,tiles,bl,dirty⟩:=W
  simp only at hd
  subst hd
  rw [← hz]
  cases hc:chkB w hh tiles bl with
  | false=>exact .inl (r_law06_Both_no hm.t hm.g hm.b hm.n hw hhb w hh hc)
  | true =>
    right
    obtain ⟨H',u,p,q,h1,h2,h3,h4,h5,h6⟩:=r_law06_Both hm.t hm.g hm.b hm.n hw hhb w hh hc
    exact ⟨H',u,p,q,h1,⟨h2,h3,.refl _,BlOk.new hc,fun x hx=>⟨(hm.g x hx).1,(chk_in hc).2.2.2.2.1 x hx⟩,fun i hi=>(h5 i hi).2,fun i hi=>(h5 i hi).1,h6⟩,h4⟩
theorem r_clear_NewS {X:Mem} {p:WP} {W:Wd} (hO:WorldOwn X.heap p W) (hg:W.Good) (hw:X.Wf) (hhb:X.hb ≤ X.hl) (cl:Int) (hc:0 ≤ cl ∧ cl < 4) :
    ∃ k lv H',RF tb f_clear_New [.ptr (.hp p.k 0) 0,.int .i64 cl] X=some (.tup [.ptr (.hp k 0) 0,.int .i64 0],X.hp H') ∧ FieldOwn H' k p W cl lv W.dirty.length (W.clrs cl) ∧ X.heap.length ≤ k ∧ (∀ i ∈ slFp lv,X.heap.length ≤ i) ∧ Keep [] X.heap H':=by
  rw [RF_go t_clear_New _ _ rfl,push_hp]
  generalize hH:X.heap=H at *
  have hHl:X.hl=H.length:=by rw [← hH]; rfl
  have w1:=hO.at_.w1
  have w2:=hO.at_.h1
  have e4:W.w.toNat * W.h.toNat ≤ 128 * 128:=Nat.mul_le_mul (by omega) (by omega)
  have e5:W.w * W.h=((W.w.toNat * W.h.toNat:Nat):Int):=by rw [Int.natCast_mul,Int.toNat_of_nonneg (show 0 ≤ W.w by omega),Int.toNat_of_nonneg (show 0 ≤ W.h by omega)]
  have c1:0 ≤ W.w * W.h:=by omega
  have c2:W.w * W.h < 9223372036854775808:=by omega
  have c3:8 * (W.w * W.h) ≤ (two48:Int):=by simp only [two48]; omega
  obtain ⟨H1,hH1⟩:∃ H1,H ++ [(0,SBk.cells true (List.replicate (W.w * W.h).toNat [SV.int IntKind.i64 0]).flatten)]=H1:=⟨_,rfl⟩
  have own1:Own iF H1 (.sl (.hp H.length 0) 0 (W.w * W.h).toNat (some (W.w * W.h).toNat) 1) (List.replicate (W.w * W.h).toNat 0):=by rw [← hH1]; exact mkslV_own iF_even H 0 _
  have f1:∀ i ∈ slFp (.sl (.hp H.length 0) 0 (W.w * W.h).toNat (some (W.w * W.h).toNat) 1),i=H.length:=by simp [slFp]
  have k1:Keep [] H H1:=by rw [← hH1]; exact Keep.app _ _ _
  have l1:H1.length=H.length + 1:=by rw [← hH1,List.length_append]; rfl
  simp (maxDischargeDepth:=8) only [go_sem,s_clear_New,shut_hap_reopen,Int.le_refl,hH1,c1,c2,c3,hw,hH,r_grid_World_All hO.at_,rect,r_cell_May,may_all w1 w2,show decide (cl < 0)=false from decide_eq_false (by omega),show decide (cl ≥ 4)=false from decide_eq_false (by omega),r_grid_World_Epoch hO.at_,wrap_small (x:=W.w * W.h) (by omega) (by omega)]
  have s1:=own1.isSl iF_even
  generalize SV.sl (.hp H.length 0) 0 (W.w * W.h).toNat (some (W.w * W.h).toNat) 1=lv at *
  obtain ⟨H2,hH2⟩:∃ H2,H1 ++ [(0,SBk.cells true [.ptr (.hp p.k 0) 0,.int .i64 cl,.int .i64 0,.int .i64 0,.int .i64 W.w,.int .i64 W.h,lv,.int .i64 (W.dirty.length:Int)])]=H2:=⟨_,rfl⟩
  have k2:Keep [] H1 H2:=by rw [← hH2]; exact Keep.app _ _ _
  have l2:H2.length=H1.length + 1:=by rw [← hH2,List.length_append]; rfl
  have g2:hget H2 H1.length 0=some (.cells true (fieldC p W cl lv W.dirty.length)):=by rw [← hH2]; exact hget_new0 0 _
  rw [hH2]
  generalize hz:RF tb f_clear_Field_reckon _ _=z
  obtain ⟨n,H3,rfl,o3,k3,l3⟩:=reckon_of hz g2 (own1.keep k2 (by simp)) (by rw [List.length_replicate,e5]; rfl) (fun h=>by have:=f1 _ h; omega) (fun i hi h=>by have:=f1 _ h; have:=hO.at_.lt i hi; omega) (fun i hi=>by have:=f1 i hi; show X.hb ≤ i; omega) ((hO.keep k1 (by simp)).keep k2 (by simp)) hg (by simp (maxDischargeDepth:=8) only [go_sem,hw])
  change Keep (slFp lv) H2 H3 at k3
  change H3.length=H2.length at l3
  simp (maxDischargeDepth:=8) only [go_sem,hw]
  rw [if_neg (by omega)]
  refine ⟨H1.length,lv,H3,rfl,⟨k3.get g2 (fun h=>by have:=f1 _ h; omega),o3,clrs_len W cl,fun h=>by have:=f1 _ h; omega⟩,by omega,fun i hi=>by have:=f1 i hi; omega,(k1.trans k2).trans' k3 (fun n hn hl=>by have:=f1 n hn; omega)⟩
theorem newS_of {X:Mem} {p:WP} {W:Wd} {cl:Int} {z:Option (SV × Mem)} (hz:RF tb f_clear_New [.ptr (.hp p.k 0) 0,.int .i64 cl] X=z) (hO:WorldOwn X.heap p W) (hg:W.Good) (hw:X.Wf) (hhb:X.hb ≤ X.hl) (hc:0 ≤ cl ∧ cl < 4) :
    ∃ k lv H',z=some (.tup [.ptr (.hp k 0) 0,.int .i64 0],X.hp H') ∧ FieldOwn H' k p W cl lv W.dirty.length (W.clrs cl) ∧ X.heap.length ≤ k ∧ (∀ i ∈ slFp lv,X.heap.length ≤ i) ∧ Keep [] X.heap H':=by
  subst hz; exact r_clear_NewS hO hg hw hhb cl hc
theorem FieldOwn.on {H:Hp} {k:Nat} {p p':WP} {W W':Wd} {cl:Int} {lv:SV} {ep:Int} {L:List Int} (h:FieldOwn H k p W cl lv ep L) (hk:p'.k=p.k) (hw:W'.w=W.w) (hh:W'.h=W.h):FieldOwn H k p' W' cl lv ep L :=
  ⟨by rw [fieldC,hk,hw,hh]; exact h.hd,h.ho,by rw [hw,hh]; exact h.len,h.kn⟩
theorem atL_any (l:List Bld) (a b:Int):(atL l a b).isSome=l.any fun x=>hasR x.2 a b:=by
  unfold atL
  induction l with
  | nil=>rfl
  | cons x l ih =>
    rw [List.find?_cons,List.any_cons]
    cases hasR x.2 a b with
    | true=>rfl
    | false=>simpa using ih
theorem perm_any {α:Type} (f:α → Bool) {l k:List α} (h:l.Perm k):l.any f=k.any f:=by
  rw [Bool.eq_iff_iff,List.any_eq_true,List.any_eq_true]
  exact ⟨fun ⟨x,h1,h2⟩=>⟨x,h.mem_iff.1 h1,h2⟩,fun ⟨x,h1,h2⟩=>⟨x,h.mem_iff.2 h1,h2⟩⟩
theorem atL_perm {l k:List Bld} (h:l.Perm k) (a b:Int):(atL l a b).isSome=(atL k a b).isSome:=by rw [atL_any,atL_any,perm_any _ h]
abbrev Et:=Bool × Bld
abbrev edV (e:Et):SV:=.agg [.bool e.1,.int .i64 e.2.1,.int .i64 e.2.2.1,.int .i64 e.2.2.2.1,.int .i64 e.2.2.2.2.1,.int .i64 e.2.2.2.2.2]
def edF:Fl Et:=Fl.pair Fl.bool bldF
theorem edF_even:edF.Even:=⟨fun _=>rfl⟩
theorem LiesD.iaddrE {m:Mem} {v:SV} {l:List Et} (h:LiesD edF m v l) {i:Nat} (hi:i < l.length) (k:IntKind) (m':Mem):iaddrV 6 v (.int k (i:Int)) m'=some (.ptr (.hp (slN v) (slW v)) (slO v + i * 6),m'):=Lies.iaddr h hi k m'
theorem LiesD.loadE {m:Mem} {v:SV} {l:List Et} (h:LiesD edF m v l) {i:Nat} {a:Et} (hi:l[i]? = some a) {X:Mem} (hX:HpSub m X):X.load (.hp (slN v) (slW v)) (slO v + i * 6) (some 6)=some (edV a):=LiesD.loadX edF_even (by decide) h hi hX
theorem does_eq {W:Wd} {rz:Bool} {b:Bld} (h:(W.does rz b).dirty.length=W.dirty.length):W.does rz b=W:=by
  unfold Wd.does at h ⊢
  cases rz with
  | true =>
    simp only [if_true] at h ⊢
    cases hg:alGet b.1 W.bl with
    | none=>rw [raze_none hg]
    | some r=>rw [raze_some hg] at h; simp at h
  | false =>
    simp only [Bool.false_eq_true,if_false] at h ⊢
    by_cases hm:W.may b=0
    · rw [place_ok hm] at h; simp at h
    · rw [place_no hm]
theorem r_Equal_int {m:Mem} {v u:SV} {A B:List Nat} (ha:LiesD natF m v A) (hb:LiesD natF m u B) (hl:A.length=B.length) (hs:A.length ≤ 1000000) {X:Mem} (hX:HpSub m X) (hw:X.Wf):RF tb f_slices_Equal_int_int [v,u] X=some (.bool (decide (A=B)),X):=by
  rw [RF_go t_slices_Equal_int_int _ _ rfl]
  simp (maxDischargeDepth:=8) only [go_sem,s_slices_Equal_int_int,hw,ha.len,hb.len,hl,show ∀ n:Int,(n != n)=false from fun n=>by simp,ha.lv,hb.lv]
  rw [KL_keep _ _ _ (by simp (maxDischargeDepth:=8) only [go_sem,ha.lv,hb.lv])]
  simp (maxDischargeDepth:=8) only [go_sem]
  refine KL_indE (α:=Nat) (fun i=>A.length - i) (fun i=>[(0,v),(1,u),(12,.i B.length),(13,.int .i64 (i:Int))]) (fun _=>X.fr [] none)
    (fun i=>i ≤ A.length ∧ A.take i=B.take i) ?_ 0 ⟨Nat.zero_le _,by simp⟩
  rintro i ⟨hi,hI⟩ ih
  simp (maxDischargeDepth:=8) only [go_sem,hw,ha.lv,hb.lv]
  by_cases hlt:i < A.length
  · obtain ⟨a,h1⟩:∃ a,A[i]? = some a:=⟨_,List.getElem?_eq_getElem hlt⟩
    obtain ⟨b,h2⟩:∃ b,B[i]? = some b:=⟨_,List.getElem?_eq_getElem (by omega)⟩
    simp (maxDischargeDepth:=8) only [go_sem,show decide ((i:Int) < (B.length:Int))=true from decide_eq_true (by omega),hw,hX,ha.iaddrN hlt,hb.iaddrN (show i < B.length by omega),ha.loadN' h1,hb.loadN' h2,ha.lv,hb.lv]
    by_cases he:a=b
    · subst he
      simp (maxDischargeDepth:=8) only [go_sem,hw,show ((a:Int) != (a:Int))=false from by simp,ha.lv,hb.lv,wrap_succ (show i ≤ 4611686018427387903 by omega)]
      rw [KL_keep _ _ _ (by simp (maxDischargeDepth:=8) only [go_sem,ha.lv,hb.lv])]
      simp (maxDischargeDepth:=8) only [go_sem]
      exact ih (i + 1) ⟨by omega,by rw [List.take_add_one,List.take_add_one,hI,h1,h2]⟩ (by omega)
    · have hne:¬ A=B:=fun e=>by subst e; rw [h1] at h2; exact he (Option.some.inj h2)
      simp (maxDischargeDepth:=8) only [go_sem,hw,show ((a:Int) != (b:Int))=true from by simpa using (fun h=>he (by omega)),decide_eq_false hne]
  · obtain rfl:i=A.length:=by omega
    have he:A=B:=by rw [List.take_of_length_le (Nat.le_refl _),List.take_of_length_le (by omega)] at hI; exact hI
    simp (maxDischargeDepth:=8) only [go_sem,show decide ((A.length:Int) < (B.length:Int))=false from decide_eq_false (by omega),hw,decide_eq_true he]
structure PartsS (H:Hp) (k kf:Nat) (p:WP) (W:Wd) (cl sz:Int) (flv lv fv zv:SV) (rt:Nat → Nat) (L:List Nat) (F:List (Int × Int)) (Z:List Nat) (num:Nat → Nat):Prop where
  hP:hget H k 0=some (.cells true (paC p W cl sz kf lv fv zv (W.dirty.length:Int)))
  f:FieldOwn H kf p W cl flv W.dirty.length (W.clrs cl)
  l:Own natF H lv L
  fo:Own cellF H fv F
  z:Own natF H zv Z
  lab:Lab (W.w.toNat * W.h.toNat) (stI W cl sz) rt (fun i=>(((i % W.w.toNat:Nat):Int),((i / W.w.toNat:Nat):Int))) (W.w.toNat * W.h.toNat) L F Z num
  rel:∀ x y,x < W.w.toNat * W.h.toNat → y < W.w.toNat * W.h.toNat → (rt x=rt y ↔ Lnk (EL W cl sz (W.w.toNat * W.h.toNat)) x y)
  kk:k ≠ kf ∧ k ∉ slFp flv
  ap:∀ i,(i=k ∨ i=kf ∨ i ∈ slFp flv) → i ∉ slFp lv ∧ i ∉ slFp fv ∧ i ∉ slFp zv
def paFp (k kf:Nat) (flv lv fv zv:SV):List Nat:=k :: kf :: (slFp flv ++ slFp lv ++ slFp fv ++ slFp zv)
theorem PartsS.keep {H H':Hp} {S:List Nat} {k kf:Nat} {p:WP} {W:Wd} {cl sz:Int} {flv lv fv zv:SV} {rt:Nat → Nat} {L:List Nat} {F:List (Int × Int)} {Z:List Nat} {num:Nat → Nat} (h:PartsS H k kf p W cl sz flv lv fv zv rt L F Z num) (kp:Keep S H H') (hd:∀ i ∈ paFp k kf flv lv fv zv,i ∉ S):PartsS H' k kf p W cl sz flv lv fv zv rt L F Z num:=by
  simp only [paFp,List.mem_cons,List.mem_append] at hd
  exact ⟨kp.get h.hP (hd _ (by simp)),h.f.keep kp (hd _ (by simp)) (fun i hi=>hd i (by simp [hi])),h.l.keep kp (fun i hi=>hd i (by simp [hi])),h.fo.keep kp (fun i hi=>hd i (by simp [hi])),h.z.keep kp (fun i hi=>hd i (by simp [hi])),h.lab,h.rel,h.kk,h.ap⟩
theorem PartsS.on {H:Hp} {k kf:Nat} {p p':WP} {W:Wd} {cl sz:Int} {flv lv fv zv:SV} {rt:Nat → Nat} {L:List Nat} {F:List (Int × Int)} {Z:List Nat} {num:Nat → Nat} (h:PartsS H k kf p W cl sz flv lv fv zv rt L F Z num) (e:p'.k=p.k):PartsS H k kf p' W cl sz flv lv fv zv rt L F Z num :=
  ⟨by rw [paC,e]; exact h.hP,h.f.on e rfl rfl,h.l,h.fo,h.z,h.lab,h.rel,h.kk,h.ap⟩
theorem PartsS.pa {H:Hp} {k kf:Nat} {p:WP} {W:Wd} {cl sz:Int} {flv lv fv zv:SV} {rt:Nat → Nat} {L:List Nat} {F:List (Int × Int)} {Z:List Nat} {num:Nat → Nat} (h:PartsS H k kf p W cl sz flv lv fv zv rt L F Z num) (w1:1 ≤ W.w ∧ W.w ≤ 128) (w2:1 ≤ W.h ∧ W.h ≤ 128):PA (Hm H) k W L F Z :=
  ⟨⟨p,cl,sz,kf,lv,fv,zv,_,h.hP,h.l.lies natF_even,h.fo.lies cellF_even,h.z.lies natF_even⟩,h.lab.len,by rw [h.lab.zs,List.length_map,List.length_range],w1,w2⟩
theorem label_of {X:Mem} {k kf:Nat} {p:WP} {W:Wd} {cl sz:Int} {flv lv fv zv:SV} {fep ep:Int} {z:Option (SV × Mem)} (hz:RF tb f_parts_Parts_label [.ptr (.hp k 0) 0] X=z) (hP:hget X.heap k 0=some (.cells true (paC p W cl sz kf lv fv zv ep))) (hF:FieldAt (Hm X.heap) kf p W cl flv fep (W.clrs cl)) (hs:1 ≤ sz ∧ sz ≤ 4) (hw:X.Wf) (hhb:X.hb ≤ k) (hkf:kf < X.heap.length) (hfl:∀ i ∈ slFp flv,i < X.heap.length) (hO:WorldOwn X.heap p W) (hkp:k ∉ p.fp) (hkk:kf ≠ k) (hkfl:k ∉ slFp flv) :
    LabelRes X k p W cl sz kf z:=by subst hz; exact r_parts_label hP hF hs hw hhb hkf hfl hO hkp hkk hkfl
theorem r_parts_is1 {m:Mem} {k kf:Nat} {p:WP} {W:Wd} {cl sz:Int} {lv fv zv:SV} {ep:Int} (h:m.get (.hp k 0)=some (.cells true (paC p W cl sz kf lv fv zv ep))) {Y:Mem} (hY:HpSub m Y) (hwY:Y.Wf):RF tb f_parts_Parts_is [.ptr (.hp k 0) 0] Y=some (.bool true,Y):=by
  have hld:∀ {Z:Mem},HpSub m Z → ∀ off n,Z.load (.hp k 0) off n=partv (paC p W cl sz kf lv fv zv ep) off n:=fun hZ off n=>by rw [load_get,hZ _ _ _ h]
  rw [RF_go t_parts_Parts_is _ _ rfl]
  simp (maxDischargeDepth:=8) only [go_sem,s_parts_Parts_is,hwY,hY,hld,paC]
theorem r_parts_Update_same {H:Hp} {k kf:Nat} {p:WP} {W:Wd} {cl sz:Int} {flv lv fv zv:SV} {rt:Nat → Nat} {L:List Nat} {F:List (Int × Int)} {Z:List Nat} {num:Nat → Nat} (h:PartsS H k kf p W cl sz flv lv fv zv rt L F Z num) (hO:WorldOwn H p W) {X:Mem} (hX:HpSub (Hm H) X) (hw:X.Wf) :
    RF tb f_parts_Parts_Update [.ptr (.hp k 0) 0] X=some (.tup [.bool false,.int .i64 0],X):=by
  have hld:∀ {Z:Mem},HpSub (Hm H) Z → ∀ off n,Z.load (.hp k 0) off n=partv (paC p W cl sz kf lv fv zv (W.dirty.length:Int)) off n:=fun hZ off n=>by rw [load_get,hZ _ _ _ h.hP]
  rw [RF_go t_parts_Parts_Update _ _ rfl]
  simp (maxDischargeDepth:=8) only [go_sem,s_parts_Parts_Update,hw,hX,r_parts_is1 (show (Hm H).get (.hp k 0)=_ from h.hP),hld,paC,r_grid_World_Epoch hO.at_,show ∀ n:Int,(n == n)=true from fun n=>by simp]
theorem r_parts_Update {X:Mem} {k kf:Nat} {p:WP} {O N:Wd} {rs:List Rc} {cl sz:Int} {flv lv fv zv:SV} {rt:Nat → Nat} {L:List Nat} {F:List (Int × Int)} {Z:List Nat} {num:Nat → Nat} (h:PartsS X.heap k kf p O cl sz flv lv fv zv rt L F Z num) (hs:1 ≤ sz ∧ sz ≤ 4) (hS:Since O N rs) (hne:N.dirty.length ≠ O.dirty.length) (hB:BlOk N) (hO:WorldOwn X.heap p N) (hg:N.Good)
    (hpn:∀ i ∈ p.fp,i ∉ paFp k kf flv lv fv zv) (hb:∀ i ∈ paFp k kf flv lv fv zv,X.hb ≤ i) (hw:X.Wf) (hhb:X.hb ≤ X.hl) (hd:N.dirty.length ≤ 1000000) :
    ∃ H' lv' fv' zv' rt' L' F' Z' num',RF tb f_parts_Parts_Update [.ptr (.hp k 0) 0] X=some (.tup [.bool (!decide (L=L')),.int .i64 0],(X.hp H').es (escMin X.esc (some k))) ∧ PartsS H' k kf p N cl sz flv lv' fv' zv' rt' L' F' Z' num' ∧ Keep (k :: kf :: slFp flv) X.heap H' ∧ (∀ i,(i ∈ slFp lv' ∨ i ∈ slFp fv' ∨ i ∈ slFp zv') → X.heap.length ≤ i):=by
  rw [RF_go t_parts_Parts_Update _ _ rfl,push_hp]
  generalize hH:X.heap=H at *
  have hHl:X.hl=H.length:=by rw [← hH]; rfl
  have w1:=hO.at_.w1
  have w2:=hO.at_.h1
  have hP:=h.hP
  have hlk:=hget_lt hP
  have hpn':∀ i ∈ p.fp,i ≠ k ∧ i ≠ kf ∧ i ∉ slFp flv:=fun i hi=>by
    have:=hpn i hi
    simp only [paFp,List.mem_cons,List.mem_append,not_or] at this
    exact ⟨this.1,this.2.1,this.2.2.1.1.1⟩
  have hb':X.hb ≤ k ∧ X.hb ≤ kf ∧ (∀ i ∈ slFp flv,X.hb ≤ i):=⟨hb k (by simp [paFp]),hb kf (by simp [paFp]),fun i hi=>hb i (by simp [paFp,hi])⟩
  have hnb:((O.dirty.length:Int) == (N.dirty.length:Int))=false:=by simp; omega
  have hF:=h.f.on (W':=N) rfl hS.w hS.h
  have s0:=h.l.isSl natF_even
  simp (maxDischargeDepth:=8) only [go_sem,s_parts_Parts_Update,hw,hH,r_parts_is1 (show (Hm H).get (.hp k 0)=_ from h.hP),hP,paC,r_grid_World_Epoch hO.at_,hnb,s0.l]
  generalize hz:RF tb f_clear_Field_Update _ _=z
  obtain ⟨H1,rfl,F1,k1⟩:=update_of hz (show FieldOwn H kf p N cl flv O.dirty.length (O.clrs cl) from hF) hS hB hO hg (fun i hi=>(hpn' i hi).2) hb'.2.2 hb'.2.1 (by simp (maxDischargeDepth:=8) only [go_sem,hw]) (by show X.hb ≤ H.length; omega) hd
  change Keep (kf :: slFp flv) H H1 at k1
  have nk:k ∉ kf :: slFp flv:=by simp only [List.mem_cons,not_or]; exact h.kk
  have hP1:hget H1 k 0=some (.cells true (paC p N cl sz kf lv fv zv (O.dirty.length:Int))):=by rw [paC,hS.w,hS.h]; exact k1.get hP nk
  have hl1:=k1.1
  have l1:=h.l.keep k1 (fun i hi hc=>by
    rcases List.mem_cons.1 hc with e | e
    · exact (h.ap i (.inr (.inl e))).1 hi
    · exact (h.ap i (.inr (.inr e))).1 hi)
  have hO1:=hO.keep k1 (fun i hi hc=>by
    rcases List.mem_cons.1 hc with e | e
    · exact (hpn' i hi).2.1 e
    · exact (hpn' i hi).2.2 e)
  simp (maxDischargeDepth:=8) only [go_sem,hw,s0.l]
  generalize hz:RF tb f_parts_Parts_label _ _=z
  have hR:=label_of hz hP1 (F1.at_ w1 w2) hs (by simp (maxDischargeDepth:=8) only [go_sem,hw]) hb'.1 (hget_lt F1.hd) (fun i hi=>F1.ho.fp i hi) hO1 (fun hc=>(hpn' _ hc).1 rfl) (fun e=>h.kk.1 e.symm) h.kk.2
  obtain ⟨H3,lv3,fv3,zv3,L3,F3,Z3,num3,rt3,rfl,q1,q2,q3,q4,q5,q6,q7,q8,q9,q10⟩:=hR
  change Keep [k] H1 H3 at q7
  change ∀ j ∈ slFp lv3,H1.length ≤ j at q8
  change ∀ j ∈ slFp fv3,H1.length ≤ j at q9
  change ∀ j ∈ slFp zv3,H1.length ≤ j at q10
  have l3:=l1.keep q7 (fun i hi hc=>by simp at hc; exact (h.ap i (.inl hc)).1 hi)
  have s3:=q2.isSl natF_even
  have hLL:L.length=L3.length:=by rw [h.lab.len,q5.len,hS.w,hS.h]
  have hLs:L.length ≤ 1000000:=by
    rw [hLL,q5.len]
    exact Nat.le_trans (Nat.mul_le_mul (show N.w.toNat ≤ 128 by omega) (show N.h.toNat ≤ 128 by omega)) (by decide)
  have hEq:=fun {Y:Mem} (hY:HpSub (Hm H3) Y) (hwY:Y.Wf)=>r_Equal_int (l3.lies natF_even) (q2.lies natF_even) hLL hLs hY hwY
  simp (maxDischargeDepth:=8) only [go_sem,hw,s0.l,q1,paC,s3.l,hEq]
  rw [escOk_some (by omega),if_neg (by decide)]
  have klt:=hget_lt F1.hd
  have kall:Keep (k :: kf :: slFp flv) H H3:=(k1.weak (fun n hn _=>List.mem_cons_of_mem _ hn)).trans' q7 (fun n hn _=>by simp at hn; simp [hn])
  refine ⟨H3,lv3,fv3,zv3,rt3,L3,F3,Z3,num3,rfl,⟨q1,F1.keep q7 (fun hc=>by simp at hc; exact h.kk.1 hc.symm) (fun i hi hc=>by simp at hc; exact h.kk.2 (hc ▸ hi)),q2,q3,q4,q5,q6,h.kk,fun i hi=>?_⟩,kall,fun i hi=>?_⟩
  · have hlt:i < H1.length:=by
      rcases hi with e | e | e
      · omega
      · omega
      · exact F1.ho.fp i e
    exact ⟨fun hc=>by have:=q8 i hc; omega,fun hc=>by have:=q9 i hc; omega,fun hc=>by have:=q10 i hc; omega⟩
  · rcases hi with e | e | e
    · have:=q8 i e; omega
    · have:=q9 i e; omega
    · have:=q10 i e; omega
def NewPS (X:Mem) (p:WP) (W:Wd) (cl sz:Int) (z:Option (SV × Mem)):Prop :=
  ∃ H' k kf flv lv fv zv L F Z num rt u,z=some (.tup [.ptr (.hp k 0) 0,.int .i64 0],(X.hp H').es (escMin X.esc u)) ∧ PartsS H' k kf p W cl sz flv lv fv zv rt L F Z num ∧ Keep [] X.heap H' ∧ ∀ i ∈ paFp k kf flv lv fv zv,X.heap.length ≤ i
theorem r_parts_NewS {X:Mem} {p:WP} {W:Wd} (hO:WorldOwn X.heap p W) (hg:W.Good) (hw:X.Wf) (hhb:X.hb ≤ X.hl) (cl sz:Int) (hm:mayS cl sz=true) (hc:0 ≤ cl ∧ cl < 4) (hs:1 ≤ sz ∧ sz ≤ 4):NewPS X p W cl sz (RF tb f_parts_New [.ptr (.hp p.k 0) 0,.agg [.int .i64 cl,.int .i64 sz]] X):=by
  rw [RF_go t_parts_New _ _ rfl,push_hp]
  generalize hH:X.heap=H at *
  have hHl:X.hl=H.length:=by rw [← hH]; rfl
  have w1:=hO.at_.w1
  have w2:=hO.at_.h1
  simp (maxDischargeDepth:=8) only [go_sem,s_parts_New,hw,hH]
  generalize hz:RF tb f_clear_New _ _=z
  obtain ⟨kf,flv,H1,rfl,hF,fk,fl,k1⟩:=newS_of hz (show WorldOwn H p W from hO) hg (fr_wf (hp_wf hw) _ _) (by show X.hb ≤ H.length; omega) hc
  have k1':Keep [] H H1:=k1
  change H.length ≤ kf at fk
  change ∀ i ∈ slFp flv,H.length ≤ i at fl
  have hO1:=hO.keep k1' (by simp)
  have hl1:=k1'.1
  simp (maxDischargeDepth:=8) only [go_sem,hw,hm,r_class_May,show ((0:Int) != 0)=false from by decide,r_grid_World_All hO1.at_,rect]
  obtain ⟨H2,hH2⟩:∃ H2,H1 ++ [(0,SBk.cells true [.ptr (.hp p.k 0) 0,.int .i64 cl,.int .i64 sz,.int .i64 0,.int .i64 0,.int .i64 W.w,.int .i64 W.h,.ptr (.hp kf 0) 0,.nils,.nils,.nils,.int .i64 0])]=H2:=⟨_,rfl⟩
  have k2:Keep [] H1 H2:=by rw [← hH2]; exact Keep.app _ _ _
  have l2:H2.length=H1.length + 1:=by rw [← hH2,List.length_append]; rfl
  have g2:hget H2 H1.length 0=some (.cells true (paC p W cl sz kf .nils .nils .nils 0)):=by rw [← hH2]; exact hget_new0 0 _
  rw [hH2]
  have hkf:kf < H1.length:=hget_lt hF.hd
  have hff:=hF.ho.fp
  have hO2:=hO1.keep k2 (by simp)
  have hF2:=hF.keep k2 (by simp) (by simp)
  generalize hz:RF tb f_parts_Parts_label _ _=z
  have hR:=label_of hz (show hget H2 H1.length 0=_ from g2) (hF2.at_ w1 w2) hs (fr_wf (hp_wf hw) _ _) (by show X.hb ≤ H1.length; omega) (by show kf < H2.length; omega) (fun i hi=>by have:=hff i hi; show i < H2.length; omega) hO2 (fun hc=>by have:=hO1.at_.lt _ hc; omega) (by omega) (fun hc=>by have:=hff _ hc; omega)
  obtain ⟨H3,lv,fv,zv,L,F,Z,num,rt,rfl,q1,q2,q3,q4,q5,q6,q7,q8,q9,q10⟩:=hR
  have q7':Keep [H1.length] H2 H3:=q7
  change ∀ j ∈ slFp lv,H2.length ≤ j at q8
  change ∀ j ∈ slFp fv,H2.length ≤ j at q9
  change ∀ j ∈ slFp zv,H2.length ≤ j at q10
  have hl3:=q7'.1
  simp (maxDischargeDepth:=8) only [go_sem,hw]
  rw [if_neg (by omega)]
  refine ⟨H3,H1.length,kf,flv,lv,fv,zv,L,F,Z,num,rt,_,rfl,⟨q1,hF2.keep q7' (fun h=>by simp at h; omega) (fun i hi h=>by simp at h; have:=hff i hi; omega),q2,q3,q4,q5,q6,⟨by omega,fun h=>by have:=hff _ h; omega⟩,fun i hi=>?_⟩,?_,?_⟩
  · have hlt:i < H2.length:=by
      rcases hi with e | e | e
      · omega
      · omega
      · have:=hff i e; omega
    exact ⟨fun hc=>by have:=q8 i hc; omega,fun hc=>by have:=q9 i hc; omega,fun hc=>by have:=q10 i hc; omega⟩
  · rw [hH]; exact (k1'.trans k2).trans' q7' (fun m hm hl=>by simp at hm; omega)
  · intro i hi
    rw [hH]
    simp only [paFp,List.mem_cons,List.mem_append] at hi
    rcases hi with e | e | ((e | e) | e) | e
    · omega
    · omega
    · exact fl i e
    · have:=q8 i e; omega
    · have:=q9 i e; omega
    · have:=q10 i e; omega
theorem parts_newS_of {X:Mem} {p:WP} {W:Wd} {cl sz:Int} {z:Option (SV × Mem)} (hz:RF tb f_parts_New [.ptr (.hp p.k 0) 0,.agg [.int .i64 cl,.int .i64 sz]] X=z) (hO:WorldOwn X.heap p W) (hg:W.Good) (hw:X.Wf) (hhb:X.hb ≤ X.hl) :
    (mayS cl sz=false ∧ ∃ H' u,z=some (.tup [.nilp,.int .i64 1],(X.hp H').es (escMin X.esc u)) ∧ Keep [] X.heap H') ∨ (mayS cl sz=true ∧ NewPS X p W cl sz z):=by
  subst hz
  cases hm:mayS cl sz with
  | false=>exact .inl ⟨rfl,parts_new_no hO hg hw hhb cl sz hm⟩
  | true=>exact .inr ⟨rfl,r_parts_NewS hO hg hw hhb cl sz hm (mayS_in.1 hm).1 (mayS_in.1 hm).2⟩
theorem pupd_of {X:Mem} {k kf:Nat} {p:WP} {O N:Wd} {rs:List Rc} {cl sz:Int} {flv lv fv zv:SV} {rt:Nat → Nat} {L:List Nat} {F:List (Int × Int)} {Z:List Nat} {num:Nat → Nat} {z:Option (SV × Mem)} (hz:RF tb f_parts_Parts_Update [.ptr (.hp k 0) 0] X=z) (h:PartsS X.heap k kf p O cl sz flv lv fv zv rt L F Z num) (hs:1 ≤ sz ∧ sz ≤ 4) (hS:Since O N rs) (hN:N.dirty.length=O.dirty.length → N=O) (hB:BlOk N) (hO:WorldOwn X.heap p N) (hg:N.Good)
    (hpn:∀ i ∈ p.fp,i ∉ paFp k kf flv lv fv zv) (hb:∀ i ∈ paFp k kf flv lv fv zv,X.hb ≤ i) (hw:X.Wf) (hhb:X.hb ≤ X.hl) (hd:N.dirty.length ≤ 1000000) :
    ∃ H' u lv' fv' zv' rt' L' F' Z' num',z=some (.tup [.bool (!decide (L=L')),.int .i64 0],(X.hp H').es (escMin X.esc u)) ∧ PartsS H' k kf p N cl sz flv lv' fv' zv' rt' L' F' Z' num' ∧ Keep (k :: kf :: slFp flv) X.heap H' ∧ (∀ i ∈ paFp k kf flv lv' fv' zv',i ∈ paFp k kf flv lv fv zv ∨ X.heap.length ≤ i):=by
  subst hz
  by_cases he:N.dirty.length=O.dirty.length
  · obtain rfl:=hN he
    refine ⟨X.heap,none,lv,fv,zv,rt,L,F,Z,num,?_,h,Keep.refl _ _,fun i hi=>.inl hi⟩
    rw [r_parts_Update_same (X:=X) h hO (fun _ _ _ hx=>hx) hw,decide_eq_true rfl,escMin_none]
    rfl
  · obtain ⟨H',lv',fv',zv',rt',L',F',Z',num',h1,h2,h3,h4⟩:=r_parts_Update h hs hS he hB hO hg hpn hb hw hhb hd
    refine ⟨H',_,lv',fv',zv',rt',L',F',Z',num',h1,h2,h3,fun i hi=>?_⟩
    simp only [paFp,List.mem_cons,List.mem_append] at hi ⊢
    rcases hi with e | e | ((e | e) | e) | e
    · exact .inl (.inl e)
    · exact .inl (.inr (.inl e))
    · exact .inl (.inr (.inr (.inl (.inl (.inl e)))))
    · exact .inr (h4 i (.inl e))
    · exact .inr (h4 i (.inr (.inl e)))
    · exact .inr (h4 i (.inr (.inr e)))
structure PuA where
  i:Nat
  Hk:Hp
  e:Option Nat
  p:WP
  q:QP
  N:Wd
  bl:List Bld
  lv:SV
  fv:SV
  zv:SV
  wv:SV
  rt:Nat → Nat
  L:List Nat
  F:List (Int × Int)
  Z:List Nat
  num:Nat → Nat
structure PuT (B:Nat) (H:Hp) (k kf:Nat) (flv:SV) (W0:Wd) (cl sz:Int) (p0:WP) (q0:QP) (a:PuA):Prop where
  ed:Ed B a.Hk a.p a.q a.N a.bl
  ps:PartsS a.Hk k kf a.p a.N cl sz flv a.lv a.fv a.zv a.rt a.L a.F a.Z a.num
  w:Own natF a.Hk a.wv a.L
  wh:a.N.w=W0.w ∧ a.N.h=W0.h
  dl:a.N.dirty.length ≤ a.i
  pk:a.p.k=p0.k
  qk:a.q.k=q0.k
  dp:∀ i ∈ a.p.fp,i ∉ paFp k kf flv a.lv a.fv a.zv ∧ i ∉ slFp a.wv
  dq:∀ i ∈ a.q.fp,i ∉ paFp k kf flv a.lv a.fv a.zv ∧ i ∉ slFp a.wv
  bo:∀ i ∈ paFp k kf flv a.lv a.fv a.zv,B ≤ i
  wd:∀ i ∈ slFp a.wv,i ≠ k ∧ i ≠ kf ∧ i ∉ slFp flv
  kp:Keep [] H a.Hk
theorem PartsS.lt {H:Hp} {k kf:Nat} {p:WP} {W:Wd} {cl sz:Int} {flv lv fv zv:SV} {rt:Nat → Nat} {L:List Nat} {F:List (Int × Int)} {Z:List Nat} {num:Nat → Nat} (h:PartsS H k kf p W cl sz flv lv fv zv rt L F Z num):∀ i ∈ paFp k kf flv lv fv zv,i < H.length:=by
  intro i hi
  simp only [paFp,List.mem_cons,List.mem_append] at hi
  rcases hi with rfl | rfl | ((e | e) | e) | e
  · exact hget_lt h.hP
  · exact hget_lt h.f.hd
  · exact h.f.ho.fp i e
  · exact h.l.fp i e
  · exact h.fo.fp i e
  · exact h.z.fp i e
abbrev puM (X:Mem) (W:Wd) (tv bv:SV) (cl sz:Int) (Hk:Hp) (u:Option Nat):Mem:=(X.hp Hk).fr [.cells true [.int .i64 W.w,.int .i64 W.h,tv,bv],.cells true [.int .i64 cl,.int .i64 sz]] u
theorem pu_edits {X:Mem} {H:Hp} {tv bv sv flv:SV} {W:Wd} {es:List Et} {cl sz:Int} {k kf:Nat} {p:WP} {q:QP} (hH:X.heap=H) (hw:X.Wf) (hhb:X.hb ≤ X.hl) (hl:LiesD edF (Hm H) sv es) (hlong:es.length ≤ 60) (hsz:1 ≤ sz ∧ sz ≤ 4)
    (w1:1 ≤ W.w ∧ W.w ≤ 128) (w2:1 ≤ W.h ∧ W.h ≤ 128) (a0:PuA) (h00:a0.i=0) (h0:PuT H.length H k kf flv W cl sz p q a0) :
    ∃ m',fin [.t 6] X (KL tb [KI.block 0,KI.kp [],KI.seq ((SCode.region false [{ dst:=some 110,op:=SOp.call f_law08_awake [],guard:=none,quiet:=false },{ dst:=some 6,op:=SOp.mv (Opd.t 110),guard:=none,quiet:=false }]).seq SCode.ret)] 2 (some [2,4,7,8,10,12,13]) pc486
      [(2,sv),(4,.ptr (.st X.dep 1) 0),(7,.ptr (.hp p.k 0) 0),(8,.ptr (.hp q.k 0) 0),(10,.ptr (.hp k 0) 0),(12,a0.wv),(13,.int .i64 (a0.i:Int))] (puM X W tv bv cl sz a0.Hk a0.e))=some (.bool true,m'):=by
  have hHl:X.hl=H.length:=by rw [← hH]; rfl
  refine KL_ind (R:=fun z=>∃ m',fin [.t 6] X z=some (.bool true,m')) (α:=PuA) (fun r=>es.length - r.i)
    (fun r=>[(2,sv),(4,.ptr (.st X.dep 1) 0),(7,.ptr (.hp p.k 0) 0),(8,.ptr (.hp q.k 0) 0),(10,.ptr (.hp k 0) 0),(12,r.wv),(13,.int .i64 (r.i:Int))])
    (fun r=>puM X W tv bv cl sz r.Hk r.e)
    (fun r=>r.i ≤ es.length ∧ PuT H.length H k kf flv W cl sz p q r) ?_ a0 ⟨by omega,h0⟩
  rintro ⟨i,Hk,e,p',q',N,bl,lv,fv,zv,wv,rt,L,F,Z,num⟩ ⟨hi,I⟩ ih
  obtain ⟨Ied,Ips,Iw,Iwh,Idl,Ipk,Iqk,Idp,Idq,Ibo,Iwd,Ikp⟩:=I
  dsimp only at hi Ied Ips Iw Iwh Idl Ipk Iqk Idp Idq Ibo Iwd Ikp ⊢
  have sw:=Iw.isSl natF_even
  have hlk:=hl.keep Ikp (by simp)
  have hle:X.hb ≤ Hk.length:=by have:=Ikp.1; omega
  simp (maxDischargeDepth:=8) only [go_sem,hw,puM,sw.l,hl.lv,hl.len]
  by_cases hlt:i < es.length
  · have hel : es[i]? = some es[i]:=List.getElem?_eq_getElem hlt
    generalize es[i]=ed at hel
    obtain ⟨rz,id,x,y,bw,bh⟩:=ed
    simp (maxDischargeDepth:=8) only [go_sem,show decide ((i:Int) < (es.length:Int))=true from decide_eq_true (by omega),hw,LiesD.iaddrE hlk hlt,LiesD.loadE hlk hel,edV,sw.l,hl.lv]
    rw [← Ipk,← Iqk]
    generalize hz:RF tb f_law07_Does _ _=z
    obtain ⟨H5,u5,p5,q5,bl5,rfl,E5,pk5,qk5,kk5,gp,gq⟩:=does_of hz Ied (by simp (maxDischargeDepth:=8) only [go_sem,hw]) (by show X.hb ≤ H.length; omega) (by show H.length ≤ Hk.length; exact Ikp.1) (by omega)
    change Keep (p'.fp ++ q'.fp) Hk H5 at kk5
    change ∀ i ∈ p5.fp,i ∈ p'.fp ∨ Hk.length ≤ i at gp
    change ∀ i ∈ q5.fp,i ∈ q'.fp ∨ Hk.length ≤ i at gq
    obtain ⟨rs5,S5⟩:=(Since.refl N).step Ied.ok rz (id,x,y,bw,bh)
    have hsame:=does_same N rz (id,x,y,bw,bh)
    have hdl:=does_dirty N rz (id,x,y,bw,bh)
    have hNO:=@does_eq N rz (id,x,y,bw,bh)
    generalize N.does rz (id,x,y,bw,bh)=N5 at *
    have plt:=Ips.lt
    have wlt:=Iw.fp
    have hl5:=kk5.1
    have P5:PartsS H5 k kf p5 N cl sz flv lv fv zv rt L F Z num:=(Ips.keep kk5 (fun i hi hc=>by
      rcases List.mem_append.1 hc with h | h
      · exact (Idp i h).1 hi
      · exact (Idq i h).1 hi)).on pk5
    have w5:Own natF H5 wv L:=Iw.keep kk5 (fun i hi hc=>by
      rcases List.mem_append.1 hc with h | h
      · exact (Idp i h).2 hi
      · exact (Idq i h).2 hi)
    have dp5:∀ i ∈ p5.fp,i ∉ paFp k kf flv lv fv zv ∧ i ∉ slFp wv:=fun j hj=>by
      rcases gp j hj with h | h
      · exact Idp j h
      · exact ⟨fun h'=>by have:=plt j h'; omega,fun h'=>by have:=wlt j h'; omega⟩
    have dq5:∀ i ∈ q5.fp,i ∉ paFp k kf flv lv fv zv ∧ i ∉ slFp wv:=fun j hj=>by
      rcases gq j hj with h | h
      · exact Idq j h
      · exact ⟨fun h'=>by have:=plt j h'; omega,fun h'=>by have:=wlt j h'; omega⟩
    simp (maxDischargeDepth:=8) only [go_sem,hw,sw.l,hl.lv]
    generalize hz:RF tb f_parts_Parts_Update _ _=z
    obtain ⟨H6,u6,lv6,fv6,zv6,rt6,L6,F6,Z6,num6,rfl,P6,k6,fr6⟩:=pupd_of hz (show PartsS H5 k kf p5 N cl sz flv lv fv zv rt L F Z num from P5) hsz S5 hNO E5.ok E5.o E5.gd (fun i hi=>(dp5 i hi).1) (fun i hi=>by have:=Ibo i hi; show X.hb ≤ i; omega) (by simp (maxDischargeDepth:=8) only [go_sem,hw]) (by show X.hb ≤ H5.length; omega) (by omega)
    change Keep (k :: kf :: slFp flv) H5 H6 at k6
    change ∀ i ∈ paFp k kf flv lv6 fv6 zv6,i ∈ paFp k kf flv lv fv zv ∨ H5.length ≤ i at fr6
    have n6:∀ i,i ∉ paFp k kf flv lv fv zv → i ∉ k :: kf :: slFp flv:=fun i hi hc=>hi (by
      simp only [List.mem_cons] at hc
      simp only [paFp,List.mem_cons,List.mem_append]
      rcases hc with h | h | h
      · exact .inl h
      · exact .inr (.inl h)
      · exact .inr (.inr (.inl (.inl (.inl h)))))
    have E6:Ed H.length H6 p5 q5 N5 bl5:=E5.keep k6 (fun i hi=>n6 i (dp5 i hi).1) (fun i hi=>n6 i (dq5 i hi).1)
    have w6:Own natF H6 wv L:=w5.keep k6 (fun i hi hc=>by
      have:=Iwd i hi
      simp only [List.mem_cons] at hc
      rcases hc with h | h | h
      · exact this.1 h
      · exact this.2.1 h
      · exact this.2.2 h)
    have hl6:=k6.1
    have w15:1 ≤ N5.w ∧ N5.w ≤ 128:=by rw [hsame.1,Iwh.1]; exact w1
    have w25:1 ≤ N5.h ∧ N5.h ≤ 128:=by rw [hsame.2.1,Iwh.2]; exact w2
    simp (maxDischargeDepth:=8) only [go_sem,hw,sw.l,hl.lv]
    generalize hz:RF tb f_ref08_Of _ _=z
    rw [← qk5] at hz
    obtain ⟨gv,H7,rfl,og,fg,k7⟩:=gr_of (cl:=cl) (sz:=sz) (W:=N5) hz E6.r (fun a b=>atL_perm E6.pm a b) E6.gd (by simp (maxDischargeDepth:=8) only [go_sem,hw]) (by show X.hb ≤ H6.length; omega)
    change Keep [] H6 H7 at k7
    have sg:=og.isSl boolF_even
    have hl7:=k7.1
    simp (maxDischargeDepth:=8) only [go_sem,hw,grV,sg.l,sg.c,sg.k,sg.o]
    generalize hz:RF tb f_ref08_Ground_Labels _ _=z
    obtain ⟨H8,nv,L8,nn,rfl,ol,hOut,k8,fw⟩:=labels_of (rt:=rt6) (cl:=cl) (sz:=sz) (W:=N5) hz (og.lies boolF_even) w15 w25 (nb_ok w15 w25 P6.rel) (by simp (maxDischargeDepth:=8) only [go_sem,hw]) (by show X.hb ≤ H7.length; omega)
    change Keep [] H7 H8 at k8
    change ∀ i ∈ slFp nv,H7.length ≤ i at fw
    obtain rfl:=canon_eq hOut.len P6.lab.len hOut.canon P6.lab.ca
    have sn:=ol.isSl natF_even
    have hl8:=k8.1
    simp (maxDischargeDepth:=8) only [go_sem,hw,sw.l,sn.l,hl.lv]
    rw [KL_keep _ _ _ (by simp (maxDischargeDepth:=8) only [go_sem,sw.l,sn.l,hl.lv])]
    simp (maxDischargeDepth:=8) only [go_sem]
    have hLl:L.length=W.w.toNat * W.h.toNat:=by rw [Ips.lab.len,Iwh.1,Iwh.2]
    have hL8:L8.length=W.w.toNat * W.h.toNat:=by rw [P6.lab.len,hsame.1,hsame.2.1,Iwh.1,Iwh.2]
    have hn48:W.w.toNat * W.h.toNat ≤ 128 * 128:=Nat.mul_le_mul (by omega) (by omega)
    have w8:=((w6.keep k7 (by simp)).keep k8 (by simp)).lies natF_even
    have o8:=ol.lies natF_even
    refine KL_ind (R:=fun z=>∃ m',fin [.t 6] X z=some (.bool true,m')) (α:=Nat) (fun n=>W.w.toNat * W.h.toNat - n)
      (fun n=>[(2,sv),(4,.ptr (.st X.dep 1) 0),(7,.ptr (.hp p'.k 0) 0),(8,.ptr (.hp q'.k 0) 0),(10,.ptr (.hp k 0) 0),(12,wv),(13,.int .i64 (i:Int)),(14,.bool (!decide (L=L8))),(15,.int .i64 0),(16,nv),(17,.bool (!decide (L8.take n=L.take n))),(18,.int .i64 (n:Int))])
      (fun _=>puM X W tv bv cl sz H8 (escMin (escMin e u5) u6))
      (fun n=>n ≤ W.w.toNat * W.h.toNat) ?_ 0 (Nat.zero_le _)
    intro n hn ihn
    simp (maxDischargeDepth:=8) only [go_sem,hw,puM,sw.l,sn.l,hl.lv,o8.len,hL8]
    by_cases hnl:n < W.w.toNat * W.h.toNat
    · obtain ⟨a,h1⟩:∃ a,L8[n]? = some a:=⟨_,List.getElem?_eq_getElem (by omega)⟩
      obtain ⟨b,h2⟩:∃ b,L[n]? = some b:=⟨_,List.getElem?_eq_getElem (by omega)⟩
      have t1:L8.take (n + 1)=L8.take n ++ [a]:=by rw [List.take_add_one,h1]; rfl
      have t2:L.take (n + 1)=L.take n ++ [b]:=by rw [List.take_add_one,h2]; rfl
      have hlen:(L8.take n).length=(L.take n).length:=by rw [List.length_take,List.length_take,hL8,hLl]
      have hgo:=ihn (n + 1) (by omega) (by omega)
      by_cases he:L8.take n=L.take n
      · by_cases hab:a=b
        · have e1:decide (L8.take (n + 1)=L.take (n + 1))=true:=decide_eq_true (by rw [t1,t2,he,hab])
          rw [e1] at hgo
          simp (maxDischargeDepth:=8) only [go_sem,show decide ((n:Int) < ((W.w.toNat * W.h.toNat:Nat):Int))=true from decide_eq_true (by omega),hw,sw.l,sn.l,hl.lv,decide_eq_true he,o8.iaddrN (show n < L8.length by omega),o8.loadN' h1,w8.iaddrN (show n < L.length by omega),w8.loadN' h2,show ((a:Int) != (b:Int))=false from by rw [hab]; simp,wrap_succ (show n ≤ 4611686018427387903 by omega)]
          rw [KL_keep _ _ _ (by simp (maxDischargeDepth:=8) only [go_sem,sw.l,sn.l,hl.lv])]
          simp (maxDischargeDepth:=8) only [go_sem]
          exact hgo
        · have e1:decide (L8.take (n + 1)=L.take (n + 1))=false:=decide_eq_false (by rw [t1,t2,he]; intro h; exact hab (by simpa using h))
          rw [e1] at hgo
          simp (maxDischargeDepth:=8) only [go_sem,show decide ((n:Int) < ((W.w.toNat * W.h.toNat:Nat):Int))=true from decide_eq_true (by omega),hw,sw.l,sn.l,hl.lv,decide_eq_true he,o8.iaddrN (show n < L8.length by omega),o8.loadN' h1,w8.iaddrN (show n < L.length by omega),w8.loadN' h2,show ((a:Int) != (b:Int))=true from by simpa using (fun h=>hab (by omega)),wrap_succ (show n ≤ 4611686018427387903 by omega)]
          rw [KL_keep _ _ _ (by simp (maxDischargeDepth:=8) only [go_sem,sw.l,sn.l,hl.lv])]
          simp (maxDischargeDepth:=8) only [go_sem]
          exact hgo
      · have e1:decide (L8.take (n + 1)=L.take (n + 1))=false:=decide_eq_false (by rw [t1,t2]; intro h; exact he (List.append_inj_left h hlen))
        rw [e1] at hgo
        simp (maxDischargeDepth:=8) only [go_sem,show decide ((n:Int) < ((W.w.toNat * W.h.toNat:Nat):Int))=true from decide_eq_true (by omega),hw,sw.l,sn.l,hl.lv,decide_eq_false he,wrap_succ (show n ≤ 4611686018427387903 by omega)]
        rw [KL_keep _ _ _ (by simp (maxDischargeDepth:=8) only [go_sem,sw.l,sn.l,hl.lv])]
        simp (maxDischargeDepth:=8) only [go_sem]
        exact hgo
    · obtain rfl:n=W.w.toNat * W.h.toNat:=by omega
      clear ihn
      have hdd:decide (L8.take (W.w.toNat * W.h.toNat)=L.take (W.w.toNat * W.h.toNat))=decide (L=L8):=by
        rw [List.take_of_length_le (by omega),List.take_of_length_le (by omega)]
        by_cases h:L=L8
        · rw [decide_eq_true h,decide_eq_true h.symm]
        · rw [decide_eq_false h,decide_eq_false (fun h'=>h h'.symm)]
      rw [hdd]
      generalize decide (L=L8)=bb
      have hbb:(!bb != !bb)=false:=by cases bb <;> rfl
      simp (maxDischargeDepth:=8) only [go_sem,show decide (((W.w.toNat * W.h.toNat:Nat):Int) < ((W.w.toNat * W.h.toNat:Nat):Int))=false from decide_eq_false (by omega),hw,sw.l,sn.l,hl.lv,show ((0:Int) != 0)=false from rfl]
      generalize hz:RF tb f_law08_right _ _=z
      rw [← qk5] at hz
      have E8:Ed H.length H8 p5 q5 N5 bl5:=(E6.keep k7 (by simp) (by simp)).keep k8 (by simp) (by simp)
      have P8:PartsS H8 k kf p5 N5 cl sz flv lv6 fv6 zv6 rt6 L8 F6 Z6 num6:=(P6.keep k7 (by simp)).keep k8 (by simp)
      obtain ⟨H9,rfl,k9⟩:=right08 hz (show PA (Hm H8) k N5 L8 F6 Z6 from P8.pa w15 w25) P8.lab P8.rel (show RefOwn H8 q5 N5 bl5 from E8.r) (fun a b=>atL_perm E8.pm a b) E8.gd (by simp (maxDischargeDepth:=8) only [go_sem,hw]) (by show X.hb ≤ H8.length; omega)
      change Keep [] H8 H9 at k9
      have plt5:=P5.lt
      have plt6:=P6.lt
      have E9:=E8.keep k9 (by simp) (by simp)
      have P9:=P8.keep k9 (by simp)
      have w9:=ol.keep k9 (by simp)
      have hdn:∀ i,(i ∈ p5.fp ∨ i ∈ q5.fp) → i ∉ paFp k kf flv lv6 fv6 zv6 ∧ i ∉ slFp nv:=fun j hj=>by
        have hjl:j < H5.length:=hj.elim (fun h=>E5.o.at_.lt j h) (fun h=>E5.r.lt j h)
        have hjn:j ∉ paFp k kf flv lv fv zv:=hj.elim (fun h=>(dp5 j h).1) (fun h=>(dq5 j h).1)
        refine ⟨fun h=>?_,fun h=>by have:=fw j h; omega⟩
        rcases fr6 j h with h' | h'
        · exact hjn h'
        · omega
      have hHk:=Ikp.1
      have I9 : PuT H.length H k kf flv W cl sz p q ⟨i + 1,H9,escMin (escMin e u5) u6,p5,q5,N5,bl5,lv6,fv6,zv6,nv,rt6,L8,F6,Z6,num6⟩:=by
        refine ⟨E9,P9,w9,⟨hsame.1.trans Iwh.1,hsame.2.1.trans Iwh.2⟩,by dsimp only; omega,pk5.trans Ipk,qk5.trans Iqk,fun j hj=>hdn j (.inl hj),fun j hj=>hdn j (.inr hj),fun j hj=>?_,fun j hj=>?_,?_⟩
        · rcases fr6 j hj with h | h
          · exact Ibo j h
          · omega
        · have hj':j < H6.length → False:=fun h=>by have:=fw j hj; omega
          exact ⟨fun e=>hj' (by rw [e]; exact plt6 _ (by simp [paFp])),fun e=>hj' (by rw [e]; exact plt6 _ (by simp [paFp])),fun e=>hj' (plt6 _ (by simp [paFp,e]))⟩
        · refine ((((Ikp.trans' kk5 fun j hj hjl=>?_).trans' k6 fun j hj hjl=>?_).trans k7).trans k8).trans k9
          · rcases List.mem_append.1 hj with h | h
            · have:=Ied.lo j h; omega
            · have:=Ied.lo' j h; omega
          · have:=Ibo j (by
              simp only [List.mem_cons] at hj
              simp only [paFp,List.mem_cons,List.mem_append]
              rcases hj with h | h | h
              · exact .inl h
              · exact .inr (.inl h)
              · exact .inr (.inr (.inl (.inl (.inl h)))))
            omega
      have hgo:=ih ⟨i + 1,H9,escMin (escMin e u5) u6,p5,q5,N5,bl5,lv6,fv6,zv6,nv,rt6,L8,F6,Z6,num6⟩ ⟨by dsimp only; omega,I9⟩ (by dsimp only; omega)
      dsimp only at hgo
      simp (maxDischargeDepth:=8) only [go_sem,hw,sw.l,sn.l,hl.lv,wrap_succ (show i ≤ 4611686018427387903 by omega)]
      rw [KL_keep _ _ _ (by simp (maxDischargeDepth:=8) only [go_sem,sw.l,sn.l,hl.lv])]
      simp (maxDischargeDepth:=8) only [go_sem]
      rw [Ipk,Iqk]
      exact hgo
  · obtain rfl:i=es.length:=by omega
    simp (maxDischargeDepth:=8) only [go_sem,show decide ((es.length:Int) < (es.length:Int))=false from decide_eq_false (by omega),hw]
    generalize hz:RF tb f_law08_awake _ _=z
    obtain ⟨H',u,rfl,-⟩:=aw08 hz (by simp (maxDischargeDepth:=8) only [go_sem,hw]) hle
    simp (maxDischargeDepth:=8) only [go_sem,hw]
    exact ⟨_,rfl⟩
theorem r_law08_PartsUpdates {X:Mem} {tv bv sv:SV} {W:Wd} {es:List Et} (hd:W.dirty=[]) (hm:MapIn X tv bv W.tiles W.bl) (hl:LiesD edF (Hm X.heap) sv es) (hw:X.Wf) (hhb:X.hb ≤ X.hl) (cl sz:Int):∃ m',RF tb f_law08_PartsUpdates [.agg [.int .i64 W.w,.int .i64 W.h,tv,bv],.agg [.int .i64 cl,.int .i64 sz],sv] X=some (.bool true,m'):=by
  rw [RF_go t_law08_PartsUpdates _ _ rfl,push_hp]
  generalize hH:X.heap=H at *
  have hHl:X.hl=H.length:=by rw [← hH]; rfl
  simp (maxDischargeDepth:=8) only [go_sem,s_law08_PartsUpdates,hw,hm.t.cell,hm.b.cell,hl.cell,hH]
  generalize hz:RF tb f_law06_Both _ _=z
  rcases both_ofC hd hz ⟨by rw [← hH] at *; exact hm.t,hm.g,by rw [← hH] at *; exact hm.b,hm.n⟩ (by simp (maxDischargeDepth:=8) only [go_sem,hw]) (by show X.hb ≤ H.length; omega) with ⟨H',u,rfl,k⟩ | ⟨H',u,p,q,rfl,E,k⟩
  · have hle:X.hb ≤ H'.length:=by have:=k.1; change H.length ≤ H'.length at this; omega
    simp (maxDischargeDepth:=8) only [go_sem,hw,parts_new0]
    generalize hz:RF tb f_law08_awake _ _=z
    obtain ⟨H',u,rfl,-⟩:=aw08 hz (by simp (maxDischargeDepth:=8) only [go_sem,hw]) hle
    simp (maxDischargeDepth:=8) only [go_sem,hw]
    exact ⟨_,rfl⟩
  · change Keep [] H H' at k
    change Ed H.length H' p q W W.bl at E
    have hle:X.hb ≤ H'.length:=by have:=k.1; omega
    simp (maxDischargeDepth:=8) only [go_sem,hw]
    generalize hz:RF tb f_parts_New _ _=z
    rcases parts_newS_of hz E.o E.gd (by simp (maxDischargeDepth:=8) only [go_sem,hw]) hle with ⟨hms,H1,u1,rfl,k1⟩ | ⟨hms,H3,kp,kf,flv,lv,fv,zv,L,F,Z,num,rt,u1,rfl,P,k3,fr⟩
    · change Keep [] H' H1 at k1
      have hle1:X.hb ≤ H1.length:=by have:=k1.1; omega
      simp (maxDischargeDepth:=8) only [go_sem,hw,show ((1:Int) != 0)=true from rfl]
      generalize hz:RF tb f_law08_awake _ _=z
      obtain ⟨H',u,rfl,-⟩:=aw08 hz (by simp (maxDischargeDepth:=8) only [go_sem,hw]) hle1
      simp (maxDischargeDepth:=8) only [go_sem,hw]
      exact ⟨_,rfl⟩
    · change Keep [] H' H3 at k3
      change ∀ i ∈ paFp kp kf flv lv fv zv,H'.length ≤ i at fr
      have hle3:X.hb ≤ H3.length:=by have:=k3.1; omega
      have w1:=E.o.at_.w1
      have w2:=E.o.at_.h1
      have h48:W.w.toNat * W.h.toNat ≤ 128 * 128:=Nat.mul_le_mul (by omega) (by omega)
      have e5:W.w * W.h=((W.w.toNat * W.h.toNat:Nat):Int):=by rw [Int.natCast_mul,Int.toNat_of_nonneg (show 0 ≤ W.w by omega),Int.toNat_of_nonneg (show 0 ≤ W.h by omega)]
      have ewh:IntKind.wrap .i64 (W.w * W.h)=((W.w.toNat * W.h.toNat:Nat):Int):=by rw [← e5]; exact wrap_small (by omega) (by omega)
      by_cases hbig:1500 < W.w.toNat * W.h.toNat
      · simp (maxDischargeDepth:=8) only [go_sem,hw,hl.len,ewh,show ((0:Int) != 0)=false from rfl,show decide (((W.w.toNat * W.h.toNat:Nat):Int) > 1500)=true from decide_eq_true (by omega)]
        generalize hz:RF tb f_law08_awake _ _=z
        obtain ⟨H',u,rfl,-⟩:=aw08 hz (by simp (maxDischargeDepth:=8) only [go_sem,hw]) hle3
        simp (maxDischargeDepth:=8) only [go_sem,hw]
        exact ⟨_,rfl⟩
      · by_cases hlong:60 < es.length
        · simp (maxDischargeDepth:=8) only [go_sem,hw,hl.len,ewh,show ((0:Int) != 0)=false from rfl,show decide (((W.w.toNat * W.h.toNat:Nat):Int) > 1500)=false from decide_eq_false (by omega),show decide ((es.length:Int) > 60)=true from decide_eq_true (by omega)]
          generalize hz:RF tb f_law08_awake _ _=z
          obtain ⟨H',u,rfl,-⟩:=aw08 hz (by simp (maxDischargeDepth:=8) only [go_sem,hw]) hle3
          simp (maxDischargeDepth:=8) only [go_sem,hw]
          exact ⟨_,rfl⟩
        · simp (maxDischargeDepth:=8) only [go_sem,hw,hl.len,ewh,show ((0:Int) != 0)=false from rfl,show decide (((W.w.toNat * W.h.toNat:Nat):Int) > 1500)=false from decide_eq_false (by omega),show decide ((es.length:Int) > 60)=false from decide_eq_false (by omega)]
          have E3:Ed H.length H3 p q W W.bl:=E.keep k3 (by simp) (by simp)
          generalize hz:RF tb f_ref08_Of _ _=z
          obtain ⟨gv,H4,rfl,og,fg,k4⟩:=gr_of (cl:=cl) (sz:=sz) (W:=W) hz E3.r (fun _ _=>rfl) E.gd (by simp (maxDischargeDepth:=8) only [go_sem,hw]) hle3
          change Keep [] H3 H4 at k4
          have sg:=og.isSl boolF_even
          have hl4:=k4.1
          simp (maxDischargeDepth:=8) only [go_sem,hw,grV,sg.l,sg.c,sg.k,sg.o]
          generalize hz:RF tb f_ref08_Ground_Labels _ _=z
          obtain ⟨H5,wv,L5,nn,rfl,ol,hOut,k5,fw⟩:=labels_of (rt:=rt) (cl:=cl) (sz:=sz) (W:=W) hz (og.lies boolF_even) w1 w2 (nb_ok w1 w2 P.rel) (by simp (maxDischargeDepth:=8) only [go_sem,hw]) (by show X.hb ≤ H4.length; omega)
          change Keep [] H4 H5 at k5
          change ∀ i ∈ slFp wv,H4.length ≤ i at fw
          obtain rfl:=canon_eq hOut.len P.lab.len hOut.canon P.lab.ca
          have sw:=ol.isSl natF_even
          simp (maxDischargeDepth:=8) only [go_sem,hw,sw.l,hl.lv]
          rw [KL_keep _ _ _ (by simp (maxDischargeDepth:=8) only [go_sem,sw.l,hl.lv])]
          simp (maxDischargeDepth:=8) only [go_sem]
          have lH':=k.1
          have lH3:=k3.1
          have lH4:=k4.1
          have lH5:=k5.1
          have plt:=P.lt
          have nw:∀ i ∈ slFp wv,¬ i < H3.length:=fun i hi h=>by have:=fw i hi; omega
          exact pu_edits (p:=p) (q:=q) (k:=kp) (kf:=kf) (flv:=flv) (es:=es) (cl:=cl) (sz:=sz) (W:=W) hH hw hhb hl (by omega) (mayS_in.1 hms).2 w1 w2 ⟨0,H5,escMin u u1,p,q,W,W.bl,lv,fv,zv,wv,rt,L5,F,Z,num⟩ rfl
            ⟨(E3.keep k4 (by simp) (by simp)).keep k5 (by simp) (by simp),(P.keep k4 (by simp)).keep k5 (by simp),ol,⟨rfl,rfl⟩,by dsimp only; rw [hd]; exact Nat.le_refl _,rfl,rfl,
              fun i hi=>by
                have:=E.o.at_.lt i hi
                exact ⟨fun h=>by have:=fr i h; omega,fun h=>by have:=fw i h; omega⟩,
              fun i hi=>by
                have:=E.r.lt i hi
                exact ⟨fun h=>by have:=fr i h; omega,fun h=>by have:=fw i h; omega⟩,
              fun i hi=>by have:=fr i hi; omega,
              fun i hi=>⟨fun e=>nw i hi (by rw [e]; exact plt _ (by simp [paFp])),fun e=>nw i hi (by rw [e]; exact plt _ (by simp [paFp])),fun e=>nw i hi (plt _ (by simp [paFp,e]))⟩,
              k.trans (k3.trans (k4.trans k5))⟩
section
open Go.RowKit Go.WideShapes
abbrev Et':=Bool × Bl'
abbrev edF':Fl Et':=Fl.pair Fl.bool bldF'
theorem edF'_even:edF'.Even:=⟨fun _=>rfl⟩
def ed6 (b:Et'):Et:=(b.1,bl5 b.2)
theorem ed6_lies {m:Mem} {v:SV} {l:List Et'} (h:LiesD edF' m v l):LiesD edF m v (l.map ed6):=by
  unfold LiesD at *
  rw [List.length_map,show (l.map ed6).flatMap edF.enc=l.flatMap edF'.enc by rw [List.flatMap_map]; rfl]
  exact h
end
section
open Go.RowKit Go.WideShapes
theorem law08_PartsUpdates {P:Program} {e e' e'':TypeId} {okB:Bl' → Prop} {okE:Et' → Prop} (a:MT) (c:Int × Int) (s:Sl Et') (h1:slOk P e (inR .u8) a.2.2.1) (h2:slOk P e' okB a.2.2.2) (hB:P.bytesOf e'=40) (h3:slOk P e'' okE s) {n0 n1 n2:In} (e0:n0.map (·.2)=rdM.blks a 0) (e2:n2.map (·.2)=slB edF' s) :
    ∃ m',RF tb f_law08_PartsUpdates [.agg (rdM.cells a 0),.agg [.int .i64 c.1,.int .i64 c.2],slV edF' s ([] ++ n0 ++ n1).length] (In.mem ([] ++ n0 ++ n1 ++ n2))=some (.bool true,m'):=by
  rw [rdM_blks] at e0
  have hl:=sl_inG edF'_even h3 (pre:=[] ++ n0 ++ n1) (post:=[]) (A:=[]) (B:=[]) (by simpa using e2)
  rw [List.append_nil] at hl
  have hm:=mapIn_of (pre:=[]) (post:=n1 ++ n2) h1 h2 hB e0
  rw [← List.append_assoc] at hm
  exact r_law08_PartsUpdates (W:=⟨a.1,a.2.1,a.2.2.1.l,a.2.2.2.l.map bl5,[]⟩) rfl hm (ed6_lies hl) (In.wf _) (Nat.zero_le _) _ _
end
end Go.Sh.T
