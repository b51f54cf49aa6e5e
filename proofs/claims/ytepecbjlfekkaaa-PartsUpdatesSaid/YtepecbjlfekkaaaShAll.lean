import Derived.Test.YtepecbjlfekkaaaShDraw6
set_option linter.all false
set_option linter.unusedVariables false
set_option linter.unusedSimpArgs false
set_option autoImplicit false
namespace Go.Sh
variable {P:Program}
theorem sr_step (hm:P.follows .mixedOrders=true) {Tb:Tbl} {n:Nat} (hP:∀ n',n' < n → SP P Tb n'):SR P Tb n:=by
  intro draw l fr m fr' m' h oc nt ops hT F hw id B k μ w a hs hf hnt hmk
  cases draw with
  | false=>exact sr_plain hP h hT hw hs hf hnt hmk
  | true=>exact sr_draw hm hP h hT hw hs hf hnt hmk
structure AllOk (P:Program) (Tb:Tbl) (n:Nat):Prop where
  c:SC P Tb n
  l:SL P Tb n
  p:SP P Tb n
  v:SVy P Tb n
  f:SF P Tb n
  m:SM P Tb n
theorem allOk (hm:P.follows .mixedOrders=true) {Tb:Tbl} (hT:TblOk P Tb):∀ n,AllOk P Tb n:=by
  intro n
  induction n using Nat.strongRecOn with
  | _ n ih =>
    cases n with
    | zero =>
      refine ⟨?_,?_,?_,?_,?_,?_⟩
      · intro sc fr m e fr' m' h; simp [runC] at h
      · intro kk ks sc fr m e fr' m' h; simp [runL] at h
      · intro so fr m v m' h; simp [runP] at h
      · intro b args m v m' h; simp [runV] at h
      · intro f args m v m' h; simp [callF] at h
      · intro b kk it nx more out next pair ks asg body es fr m e fr' m' h; simp [runM] at h
    | succ n =>
      have A:=ih n (Nat.lt_succ_self n)
      exact ⟨sc_step A.c (sr_step hm fun n' hn'=>(ih n' (by omega)).p) A.l A.f A.m (fun n' hn'=>(ih n' (by omega)).p),sl_step A.c A.l,sp_step A.f A.v fun n' hn'=>(ih n' (by omega)).f,svy_step A.c,sf_step hT A.c,sm_step (fun n' hn'=>(ih n' (by omega)).p) A.c A.m⟩
theorem call_sound (hm:P.follows .mixedOrders=true) {Tb:Tbl} (hT:TblOk P Tb) {n:Nat} {f:FuncId} {args:List SV} {m:Mem} {v:SV} {m':Mem} (h:callF Tb n f args m=some (v,m')) {μ:Mu} {w:World} {rargs:List Value} (hs:Sim P μ m w) (ha:VRs μ args rargs) :
    Calls P f ⟨rargs⟩ w (RetP P μ m w v m') :=
  (callsIn_wide (n:=0)).1 ((allOk hm hT n).f f args m v m' h Fence.wide ⟨fun _=>trivial,rfl⟩ 0 μ w rargs hs ha).2
end Go.Sh
