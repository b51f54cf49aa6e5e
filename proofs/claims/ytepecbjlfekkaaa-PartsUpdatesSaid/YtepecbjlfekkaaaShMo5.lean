import Derived.Test.YtepecbjlfekkaaaShMo4
set_option linter.all false
set_option linter.unusedVariables false
set_option linter.unusedSimpArgs false
set_option autoImplicit false
namespace Go.Sh
variable {P:Program}
theorem r_zero' {t:TypeId} {z:SV} (h:zeroT P t=some z):∃ v,(∀ w,(zeroValue t).run P w=.ok v w) ∧ ∀ μ,VR μ z v:=by
  unfold zeroT at h
  simp only [Option.bind_eq_some_iff] at h
  obtain ⟨v,⟨i,hi,hz⟩,hv⟩:=h
  exact ⟨v,fun w=>by simp [zeroValue,typeInfo,hi,hz],fun μ=>ofV_rel _ _ _ hv⟩
theorem lenS_lenv {x:SV} {n:Nat} (h:lenS x=some n):lenv x=some n:=by cases x <;> simp [lenS] at h <;> simpa [lenv] using h
theorem lenOf_run {μ:Mu} {x:SV} {u:Value} {n:Nat} (h:lenv x=some n) (hr:VR μ x u) (w:World):(Builtin.lenOf u).run P w=.ok n w:=by
  rcases lenv_run h hr with ⟨rfl,rfl,_⟩ | ⟨a,c,rfl⟩ | ⟨s,rfl,rfl,_⟩ <;> simp [Builtin.lenOf]
theorem zeroCells_len (zs:Array Value) (n:Nat):(Builtin.zeroCells zs n).toList.length=n * zs.size:=by simp [Builtin.zeroCells]
theorem append_sound {t u e : TypeId} {d:TypeDesc} {s by_:Nat} {z:SV} {loose:List Opd} {x y:Opd} {ux uy:Value} {μ:Mu} {fr:Fr} {m m':Mem} {v:SV} {w:World} (ht:P.underlying t=some (.slice e)) (hu:P.underlying u=some d) (hd:∀ k,d ≠ .int k)
    (hsz:szT P e=some s) (hby:byT P e=some by_) (hz:zeroT P e=some z) (rx:VR μ (x.ev fr) ux) (ry:VR μ (y.ev fr) uy) (hs:Sim P μ m w) (h:memop (.append s by_ z.cells loose x y) fr m=some (v,m')) (ty:TypeId) :
    ∃ r w' μ',(Builtin.append_ #[t,u] ty #[ux,uy]).run P w=.ok r w' ∧ VR μ' v r ∧ Post P μ m w μ' m' w':=by
  obtain ⟨zv,hzr,hzv⟩:=r_zero' hz
  have hcs:=(hzv μ).cells (zeroT_known hz)
  simp only [memop] at h
  split at h
  · rename_i sl n hsl hn
    simp only [Option.bind_eq_some_iff] at h
    obtain ⟨new,hnew,h⟩:=h
    have hln:=lenOf_run (P:=P) hn ry w
    obtain ⟨nw,hnw,hnr⟩:=elems_run hs hnew ry (by simp [hn])
    -- the slice itself
    have hslv:=lenS_lenv hsl
    obtain ⟨base,sc,hux,hsc⟩:∃ base sc,ux=.slice base sl sc ∧ sl ≤ sc:=by
      generalize x.ev fr=xv at hsl rx
      cases xv <;> simp [lenS] at hsl
      · subst hsl; exact ⟨none,0,rx.nils_inv,Nat.le_refl _⟩
      · subst hsl
        obtain ⟨r,b',N,hmu,⟨k,hk,hk1,_⟩ | ⟨a,hk,h0,_⟩⟩:=rx.sl_inv
        · exact ⟨_,k,hk,hk1⟩
        · subst h0; exact ⟨_,0,hk,Nat.le_refl _⟩
      · subst hsl
        obtain ⟨a,ha⟩:=rx.emp_inv
        exact ⟨_,0,ha,Nat.le_refl _⟩
    by_cases hn0:n=0
    · rw [if_pos hn0] at h
      simp only [Option.some.injEq,Prod.mk.injEq] at h
      obtain ⟨rfl,rfl⟩:=h
      subst hn0
      have hnwe:nw=[]:=by
        have h1:=elems_len hnew hn
        have h2:=hnr.length
        rw [h1] at h2
        simp at h2
        exact List.eq_nil_of_length_eq_zero h2.symm
      subst hnwe
      refine ⟨ux,w,μ,?_,rx,.refl hs⟩
      subst hux
      rw [append_in (w:=w) ht hu hd hsz hby hzr hln hnw ty hsc]
      cases base <;> simp [storeCells] <;> rfl
    · rw [if_neg hn0] at h
      split at h
      · rename_i hc
        obtain ⟨hzl,hpos,hok,hlim,hlim2⟩:=hc
        have hzs:zv.cells.size=s:=by rw [← hzl,hcs.length]; simp
        split at h
        · -- nil: a new array
          rename_i e1
          simp only [Option.map_eq_some_iff,Prod.mk.injEq] at h
          obtain ⟨⟨b,m2⟩,hnewb,rfl,rfl⟩:=h
          rw [e1] at rx hsl
          simp [lenS] at hsl
          subst hsl
          have hux2:=rx.nils_inv
          subst hux2
          obtain ⟨cap,dr,hcap,hrun⟩:=append_new (w:=w) (old:=[]) ht hu hd hsz hby hzr hln hnw (base:=none) (sl:=0) (sc:=0) (fun dr=>by simp [Builtin.firstCells]) ty hlim hlim2 (by omega)
          obtain ⟨hp,hb⟩:=hs.newDrawn (y:=(Builtin.zeroCells zv.cells (cap - (0 + n))).toList) e dr hnewb hnr (new_alls0 (m:=m) (m':=m2) (st:=false) (x:=.cells true new) hok)
          refine ⟨_,_,_,hrun,?_,hp⟩
          have hN:n * s + (cap - (0 + n)) * s=cap * s:=by rw [← Nat.add_mul]; congr 1; omega
          have hnl:=elems_len hnew hn
          have hlen:(nw ++ (Builtin.zeroCells zv.cells (cap - (0 + n))).toList).length=cap * s:=by
            rw [List.length_append,zeroCells_len,hzs,← hnr.length,hnl]; exact hN
          have:=VR.sl (off:=0) (len:=0 + n) (c:=cap) (z:=s) (cap:=none) hb (by omega) (fun k hk=>by cases hk) (by rw [hlen]; omega)
          simpa using this
        · -- empty: a new array
          rename_i e1
          simp only [Option.map_eq_some_iff,Prod.mk.injEq] at h
          obtain ⟨⟨b,m2⟩,hnewb,rfl,rfl⟩:=h
          rw [e1] at rx hsl
          simp [lenS] at hsl
          subst hsl
          obtain ⟨ea,hux2⟩:=rx.emp_inv
          subst hux2
          obtain ⟨cap,dr,hcap,hrun⟩:=append_new (w:=w) (old:=[]) ht hu hd hsz hby hzr hln hnw (base:=some ea) (sl:=0) (sc:=0) (fun dr=>by simp [Builtin.firstCells,loadCells,loadCellsFrom]) ty hlim hlim2 (by omega)
          obtain ⟨hp,hb⟩:=hs.newDrawn (y:=(Builtin.zeroCells zv.cells (cap - (0 + n))).toList) e dr hnewb hnr (new_alls0 (m:=m) (m':=m2) (st:=false) (x:=.cells true new) hok)
          refine ⟨_,_,_,hrun,?_,hp⟩
          have hN:n * s + (cap - (0 + n)) * s=cap * s:=by rw [← Nat.add_mul]; congr 1; omega
          have hnl:=elems_len hnew hn
          have hlen:(nw ++ (Builtin.zeroCells zv.cells (cap - (0 + n))).toList).length=cap * s:=by
            rw [List.length_append,zeroCells_len,hzs,← hnr.length,hnl]; exact hN
          have:=VR.sl (off:=0) (len:=0 + n) (c:=cap) (z:=s) (cap:=none) hb (by omega) (fun k hk=>by cases hk) (by rw [hlen]; omega)
          simpa using this
        · -- a slice
          rename_i b off len capo z' e1
          simp only [Option.bind_eq_some_iff] at h
          obtain ⟨oldv,hold,h⟩:=h
          rw [e1] at rx hsl
          simp [lenS] at hsl
          subst hsl
          split at h
          · rename_i hc2
            obtain ⟨hok2,hz'⟩:=hc2
            subst hz'
            have hslv':lenv (.sl b off len capo z')=some len:=rfl
            obtain ⟨ow,how,hor⟩:=elems_run hs hold rx (by simp [lenv])
            have hol:=elems_len hold hslv'
            have hnl:=elems_len hnew hn
            rw [hux] at how rx
            have hall:VRs μ (oldv ++ new) (ow ++ nw):=hor.append hnr
            have hokall:SV.cellsOk 0 0 (oldv ++ new)=true:=by
              simp only [SV.cellsOk,List.all_append,Bool.and_eq_true]; exact ⟨hok2,hok⟩
            have newcap:∀ cap:Nat,len + n ≤ cap → (ow ++ nw ++ (Builtin.zeroCells zv.cells (cap - (len + n))).toList).length=cap * z':=by
              intro cap hcap
              rw [List.length_append,zeroCells_len,hzs,List.length_append,← hnr.length,hnl,← hor.length,hol,← Nat.add_mul,← Nat.add_mul]
              congr 1; omega
            subst hux
            by_cases hk:noRoom capo (len + n)=true
            · -- no room: told so
              rw [if_pos hk] at h
              simp only [Option.map_eq_some_iff,Prod.mk.injEq] at h
              obtain ⟨⟨b2,m2⟩,hnewb,rfl,rfl⟩:=h
              obtain ⟨k,rfl,hk⟩:∃ k,capo=some k ∧ k < len + n:=by
                cases capo with
                | none=>simp [noRoom] at hk
                | some k=>exact ⟨k,rfl,by simpa [noRoom] using hk⟩
              have hsck:sc=k:=by
                obtain ⟨r,b',N,hmu,⟨q,hq,_,hq2,_⟩ | ⟨a,hq,h0,hq2⟩⟩:=rx.sl_inv
                · simp at hq; rw [hq.2]; exact hq2 k rfl
                · simp at hq; rw [hq.2.2]; exact (hq2 k rfl).symm
              obtain ⟨cap,dr,hcap,hrun⟩:=append_new (w:=w) ht hu hd hsz hby hzr hln hnw how ty hlim hlim2 (by omega)
              obtain ⟨hp,hb⟩:=hs.newDrawn (y:=(Builtin.zeroCells zv.cells (cap - (len + n))).toList) e dr hnewb hall (new_alls0 (m:=m) (m':=m2) (st:=false) (x:=.cells true new) hokall)
              refine ⟨_,_,_,hrun,?_,hp⟩
              have:=VR.sl (off:=0) (len:=len + n) (c:=cap) (z:=z') (cap:=none) hb hcap (fun k hk=>by cases hk) (by rw [newcap cap hcap]; omega)
              simpa using this
            · rw [if_neg hk] at h
              split at h
              · rename_i k v' c' hg
                split at h
                · rename_i hmay
                  obtain ⟨hmay,_⟩:=hmay
                  simp only [Option.some.injEq,Prod.mk.injEq] at h
                  obtain ⟨rfl,rfl⟩:=h
                  have hnames:∀ B,SV.hxs new ≤ B → SV.alls (lowB B) c'=true → SV.alls (lowB B) (oldv ++ new)=true:=by
                    intro B hB hc
                    rw [lowB_split,Bool.and_eq_true]
                    refine ⟨?_,(SV.hxs_alls B new).1 hB⟩
                    simp only [Mem.elems,hg] at hold
                    split at hold
                    · cases hold; exact lowB_part B _ _ hc
                    · cases hold
                  have hBall:VRs (μ.on (Bk.lv 0 0)) (oldv ++ new) (ow ++ nw):=hall.restrict _ (cellsOk_all hokall)
                  obtain ⟨r,b',N,hmu,hcases⟩:=rx.sl_inv
                  by_cases hroom:len + n ≤ sc
                  · -- there is room
                    obtain ⟨q,hq,hq1,hq2,hq3⟩ | ⟨a,hq,h0,hq2⟩:=hcases
                    · simp only [Value.slice.injEq] at hq
                      obtain ⟨rfl,_,rfl⟩:=hq
                      obtain ⟨C,et,lo,hi,hh,hN,hbl,hvr,hfz⟩:=hs.row hmu hg
                      have hmul:(len + n) * z' ≤ sc * z':=Nat.mul_le_mul_right z' hroom
                      have hmul2:(len + n) * z'=len * z' + n * z':=Nat.add_mul _ _ _
                      have hnwl:nw.length=n * z':=by rw [← hnr.length]; exact hnl
                      have howl:ow.length=len * z':=by rw [← hor.length]; exact hol
                      obtain ⟨w',hst,h1,h2,h3,h4,h5,h6⟩:=run_storeCells' P nw w C (b' + off + len * z') 0 hh (by omega) (ones_of_cells hok hnr) (fun k hk1 hk2 hk3=>by have:=hfz rfl; simp at hk3; omega)
                      have hrun:=append_in (w:=w) (base:=some ⟨r,b' + off,none⟩) ht hu hd hsz hby hzr hln hnw ty hroom
                      simp only [add_none] at hrun
                      rw [Sem.run_bind',hst] at hrun
                      have hlt:r < w.heap.size:=(hs.dom _ _ hmu).2
                      have hCl:C.toList.length=C.size:=by simp
                      obtain ⟨hp,hb2⟩:=hs.over (w':=w') (x':=(r,b' + off,N)) hmu hg hmay rfl (.inl rfl) (by rw [h3]; exact hlt) ⟨_,et,lo,hi,h1,by simp only [Array.size,List.length_append,List.length_take,List.length_drop]; simp; omega,by simp only [List.length_append,hol,hnl]; omega,by
                          have e3:(oldv ++ new).length=len * z' + n * z':=by rw [List.length_append,hol,hnl]
                          rw [e3]
                          simp only [Nat.add_zero]
                          rw [splice C.toList nw (b' + off) (len * z') (len * z' + n * z') (by omega) (by omega)]
                          have e4:((C.toList.drop (b' + off)).take (len * z' + n * z')).take (len * z')=ow:=by
                            have h0:=how w.drawn
                            have h0:(loadCells ⟨r,b' + off,none⟩ (len * z')).run P w=.ok ⟨ow⟩ w:=h0
                            rw [run_loadCells' P hh (by omega)] at h0
                            simp at h0
                            rw [List.take_take,Nat.min_eq_left (by omega)]
                            exact h0
                          have e5:((C.toList.drop (b' + off)).take (len * z' + n * z')).drop (len * z' + nw.length)=[]:=by
                            apply List.drop_eq_nil_of_le
                            rw [List.length_take]; omega
                          rw [e4,e5,List.append_nil]
                          exact hBall,fun _=>hfz rfl⟩ (fun j _ hj=>h2 j hj) (by omega) h4 h5 h6 hnames
                      refine ⟨_,w',_,hrun,?_,hp⟩
                      have:=VR.sl (off:=0) (len:=len + n) (c:=sc) (z:=z') (cap:=none) hb2 hroom (fun k hk=>by cases hk) (by omega)
                      simpa using this
                    · simp only [Value.slice.injEq] at hq
                      omega
                  · -- there is none
                    obtain ⟨cap,dr,hcap,hrun⟩:=append_new (w:=w) ht hu hd hsz hby hzr hln hnw how ty hlim hlim2 (by omega)
                    have hln':(ow ++ nw).length=(oldv ++ new).length:=hall.length.symm
                    obtain ⟨hp,hb2⟩:=hs.over (w':=(({ w with drawn:=dr }:World).alloc (.cells ⟨ow ++ nw ++ (Builtin.zeroCells zv.cells (cap - (len + n))).toList⟩ e))) (x':=(w.heap.size,0,(ow ++ nw ++ (Builtin.zeroCells zv.cells (cap - (len + n))).toList).length)) hmu hg hmay rfl
                      (.inr (Nat.le_refl _)) (by show w.heap.size < (w.heap.push _).size; simp) ⟨_,e,0,0,by show (w.heap.push _)[w.heap.size]? = _; simp,rfl,by have:=hln'; simp only [List.length_append] at this ⊢; omega,by
                        have:((ow ++ nw ++ (Builtin.zeroCells zv.cells (cap - (len + n))).toList).drop 0).take (oldv ++ new).length=ow ++ nw:=by rw [← hln',List.drop_zero]; exact List.take_left' rfl
                        rw [this]; exact hBall,fun _=>.inl rfl⟩ (fun j hj _=>by show (w.heap.push _)[j]? = _; rw [Array.getElem?_push,if_neg (by omega)]) (by show w.heap.size ≤ (w.heap.push _).size; simp) rfl rfl rfl hnames
                    refine ⟨_,_,_,hrun,?_,hp⟩
                    have:=VR.sl (off:=0) (len:=len + n) (c:=cap) (z:=z') (cap:=none) hb2 hcap (fun k hk=>by cases hk) (by rw [newcap cap hcap]; omega)
                    simpa using this
                · cases h
              · cases h
          · cases h
        · cases h
      · cases h
  · cases h
end Go.Sh
