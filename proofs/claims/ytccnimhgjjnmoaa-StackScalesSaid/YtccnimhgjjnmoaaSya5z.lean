/-
  Texts of the claims: Sya5z. No condition: lemmas and contracts.
-/
import Derived.Test.YtccnimhgjjnmoaaSya1z
import Derived.Test.YtccnimhgjjnmoaaSya2z
import Derived.Test.YtccnimhgjjnmoaaSya3z
import Derived.Test.YtccnimhgjjnmoaaSya4z
import Derived.Scope
import Derived.Sort.Grow
set_option linter.all false
set_option maxRecDepth 100000
set_option maxHeartbeats 40000000
section
namespace Go.Sy
open Go Go.RowKit
universe u
section
variable {P:Program} {Γ:bn} {E:Env} {cl:Cl} {rd:Rd} {M:Nat->Prop} {w0:World} {ρ:Keys} {st:St} {vs:Fv} {a:Act} {w:World}
def Ex.exit':Ex->Exit
 | .normal=> .normal
 | .exit id=> .exit id
 | .ret=> .ret
def Iz (P:Program) (Γ:bn) (rd:Rd):Prop:=
 ∀ r args st K,rd r args st K->∀ (ro:Option Nat) (n:Nat) (M:Nat->Prop) (w0:World) (ρ:Keys) (vs:Fv) (a:Act) (w:World) (a8:List Value),Rel Γ M w0 ρ st vs a w->be (Tm.ok st.rg.length ρ) args a8->
  ∃ fn tmps kU body,(Instr.yield (ρ r []).b a8.toArray).run P w= .ok (.round (ρ r []).b fn tmps kU body) w/\
   RoundIn (qb ro) n P (ρ r []).b fn tmps kU body w fun e w'=>∃ v an ρ' x,e= .returned v/\Rel Γ M w0 ρ' an vs a w'/\Tm.ok an.rg.length ρ' x v/\K x an
theorem ER {o:Oper} {K:St->Prop} (h:gO E cl st o K):∀ c,o.op≠ .defer c:=by
 intro c hc;simp only[gO,oc,hc,oo,aBj]at h;exact h.elim
theorem yS {o:Oper} {c:Call} (ho:o.op= .call c) {fo:Operand} (hc:c.callee= .value fo) {l:Nat} (hv:a.eval fo= .func (.yield l) #[] #[]) {nx:Next} (hy:(Instr.yield l (c.args.toList.map a.eval).toArray).run P w= .ok nx w):
 (execOp a.eval o).run P w= .ok nx w:=by
 have e:c.args.map a.eval=(c.args.toList.map a.eval).toArray:=Array.ext' (by simp)
 cases c;simp only at hc;subst hc;simp only[execOp,ho,resolve,hv,Deferred.ofValue];simp only[Sem.run_bind,Sem.run_pure,Result.andThen_ok,Array.empty_append,invoke];simp only at e;rw[e,hy]
theorem jE (hP:aL P Γ E) (hC:ju P Γ E cl) (hR:Iz P Γ rd) {ro:Option Nat} {n:Nat} {ops:Array Oper} {K:St->Prop} {Q:Exit->Act->World->Prop} (hK:∀ an a' w' ρ',K an->Rel Γ M w0 ρ' an vs a' w'->Q .normal a' w'):
 ∀ (l:List Oper) (st:St) (a:Act) (w:World) (ρ:Keys),om E cl rd ops l st K->Rel Γ M w0 ρ st vs a w->wpListIn (qb ro) n P ops Q l a w
 |[],st,a,w,ρ,he,h=>hK _ _ _ _ he h
 |o::rest,st,a,w,ρ,he,h=>by
  change cV E.aN st ops o.guard (fun st=>match yieldOf st o with
   |some (r,args)=>rd r args st (fun x st=>st.aBS o.dst x (fun st=>om E cl rd ops rest st K))
   |none=>gO E cl st o (fun st=>om E cl rd ops rest st K)) (fun st=>st.aBS o.dst (.a .un) (fun st=>om E cl rd ops rest st K))at he
  unfold wpListIn;rcases dz h he with⟨an,hy,h',hw⟩|⟨an,hn,h',hw⟩
  ·rw[if_pos hw];split at hy
   ·rename_i r args vh;unfold yieldOf at vh;split at vh;case h_2=>cases vh
    rename_i c hop;split at vh;case h_2=>cases vh
    rename_i fo agL;split at vh;case h_2=>cases vh
    rename_i r' l hf hl;simp only[Option.some.injEq,Prod.mk.injEq]at vh;obtain⟨rfl,rfl⟩:=vh;obtain⟨hlt,hv⟩:=ax h' hf;obtain⟨fn,tmps,kU,body,NH,AO⟩:=hR _ _ _ _ hy ro (n-1) M w0 ρ vs _ w _ h' (kJ h' hl);refine⟨fun _ _=>trivial,?_⟩
    rw[Oper.semAt_eq _ _ _ (by simp[hop]),yS hop agL hv NH]
    refine⟨fun hh=>(by cases hh),AO.mono ?_⟩
    rintro e w' ⟨v,oM,nP,x,rfl,aBB,hx,hk⟩;rw[St.aZ]at hk;exact jE hP hC hR hK rest _ _ _ _ hk.2 (aBB.put o.dst hx)
   ·exact agU (ER hy) (oZ hP hC h' hy fun oM a2 w2 nP hk hr=>jE hP hC hR hK rest oM a2 w2 nP hk hr)
  ·rw[if_neg (by rw[hw];simp)]
   simp only[St.aZ]at hn;exact⟨fun _ _=>trivial,jE hP hC hR hK rest _ _ _ _ hn.2 (h'.put o.dst (x:=.a .un) (y:=undef) rfl)⟩
theorem Dh {N N':Nat} {aCb:Keys} (hρ:∀ r,r<N->aCb r=ρ r) (hN:N<=N'):∀ {aBd:List Nat},(∀ r∈aBd,r<N)->be (Tm.ok N' aCb) (aBd.map fun r=>Tm.a (.p r [] 0 0)) (aBd.map fun r=>Value.pointer (some ((ρ r []).at 0)))
 |[],_=>trivial
 |c::cs,h=>⟨⟨Nat.lt_of_lt_of_le (h c List.mem_cons_self) hN,by rw[hρ c (h c List.mem_cons_self)];simp⟩,Dh hρ hN fun r hr=>h r (List.mem_cons_of_mem _ hr)⟩
theorem yL (hP:aL P Γ E) (hC:ju P Γ E cl) {rn:Option (Nat×Nat)} {n:Nat} {g:Operand} {ps:Array Tmp} {kU body:Code} {K:Ex->St->Prop} {Q:Exit->Act->World->Prop} (he:akd E cl rn g ps kU body st K) (h:Rel Γ M w0 ρ st vs a w)
 (hK:∀ e an a' w' ρ' M' cu ds',iH M w0 M' cu vs.ds ds'->K e an->Rel Γ M' cu ρ' an ⟨vs.fs,ds'⟩ a' w'->Q e.exit' a' w'):(Code.rangeFunc g ps kU body).wpIn (qb (rn.map (·.2))) n P Q a w:=by
 unfold akd at he;split at he;case h_2=>exact he.elim
 rename_i f aBd hg;split at he;case h_2=>exact he.elim
 rename_i b hct hb;obtain⟨aBC,he⟩:=he;obtain⟨aaf,Rt⟩:=ax h hg;refine wpIn_rangeFunc fun fn _=>?_
 obtain⟨l,mk,w1,M',cu,D,aCb,azR,Qq,h1,agM,QJ⟩:=CL h aBC fn ps kU body;have hk:=he l fn a.tmps D;simp only[dX,St.cS]at hk;obtain⟨Sf,f1,f2,f3⟩:=(hP.inl f b hb).fn.h;have O0:=hC f b hb _ _ _ hk M' cu aCb _ _ w1 (.func (.yield l) #[] #[]::aBd.map fun r=>Value.pointer (some ((ρ r []).at 0))) h1 ⟨⟨by simp[St.push],by rw[agM]⟩,Dh QJ (by simp[St.push]) aaf⟩
 have Rm:∀ args w,(callFunc f args).run P w= .ok (.enter f args) w:=fun args w=>by
  simp only[callFunc,Sem.run_bind,run_program,Result.andThen_ok,f1,f2,f3,Bool.false_eq_true,if_false,Sem.run_pure]
 refine⟨l,mk,w1,{target:=.fn (.func f) (aBd.map fun r=>Value.pointer (some ((ρ r []).at 0))).toArray,args:=#[.func (.yield l) #[] #[]]},w1,f,(.func (.yield l) #[] #[]::aBd.map fun r=>Value.pointer (some ((ρ r []).at 0))).toArray,w1,azR,?_,fun _ _=>trivial,?_,fun hh=>(by cases hh),(zT O0).mono ?_⟩
 ·simp only[resolve,Rt];simp[go_sem]
 ·simp only[invoke];rw[Rm];simp
 ·rintro e w2 ⟨v,oM,nP,x,rfl,h2,_,lQ⟩;split at lQ;case h_2=>exact lQ.elim
  rename_i l' s' L' q j Vo;obtain⟨rfl,lQ⟩:=lQ;rw[St.aks]at lQ;have aBB:=bg Vo (by simp)
  obtain⟨_,_,_,hh,jJ⟩:=h2.rs.blk _ _ [] true (.lp l' s' L' q j) aBB ⟨rfl,rfl,rfl⟩;rw[jJ]at hh;have fin:q≠ .busy->(Instr.endLoop l').run P w2= .ok j (w2.putObj l' (.loop {L' with state:=.exhausted,pending:=j})):=fun hq=>run_endLoop hh hq
  have h3:=h2.IV aBB {L' with state:=.exhausted,pending:=j};have out:∀ e,K e (oM.aBZ st.rg.length .dead)->Q e.exit' {a with defers:=mk++a.defers} (w2.putObj l' (.loop {L' with state:=.exhausted,pending:=j})):=fun e hk=>hK e _ _ _ _ _ _ _ Qq hk h3
  split at lQ
  ·exact⟨_,_,fin (by simp),out .normal lQ⟩
  ·exact⟨_,_,fin (by simp),wpIn_ret (out .ret lQ)⟩
  ·exact⟨_,_,fin (by simp),wpIn_exit (out (.exit _) lQ)⟩
  ·exact lQ.elim
theorem pO {ro:Option Nat} {n:Nat} {ops:Array Oper} (iP:∀ (i:Nat) (o:Oper),ops[i]?=some o->∀ c,o.op≠ .defer c) {R:Act->World->Prop}:
 ∀ (l:List Nat) (a:Act) (w:World),wpOps P ops (fY R) l a w->wpOpsIn (qb ro) n P ops (fY R) l a w
 |[],a,w,h=>h
 |i::rest,a,w,h=>by
  unfold wpOps at h;unfold wpOpsIn;split at h
  ·rename_i ho;rw[ho];exact pO iP rest a w h
  ·rename_i o ho;rw[ho];simp only;split at h
   ·rename_i hw;rw[if_pos hw];rcases h with h|⟨_,a0,w0,h⟩
    ·exact agU (iP i o ho) (Oper.wp_mono (fun a w=>pO iP rest a w) h)
    ·exact h.elim
   ·rename_i hw;rw[if_neg hw];exact⟨fun _ _=>trivial,pO iP rest _ _ h⟩
theorem wD (hP:aL P Γ E) (hC:ju P Γ E cl) (h:Rel Γ M w0 ρ st vs a w) {ro:Option Nat} {n:Nat} {id:Nat} {l:List Oper} (iP:bZ sC l=true) {K:St->Prop} (he:Z5 E cl id l st K) {Q:Exit->Act->World->Prop}
 (hK:∀ an a' w' ρ',K an->Rel Γ M w0 ρ' an vs a' w'->Q .normal a' w'):(Code.region id l.toArray true).wpIn (qb ro) n P Q a w:=by
 refine Code.wpIn_mono (Q:=fY (Q .normal)) (fun e a w hq=>by cases e<;>first|exact hq|exact hq.elim) (wpIn_region_draw fun t=>?_)
 refine pO (fun i o ho c hc=>?_) _ _ _ ?_
 ·have h1:=iI iP o (List.mem_of_getElem? (by simpa using ho))
  unfold sC at h1;rw[hc]at h1;cases h1
 ·simp only[Region.schedule,hP.mixed,Bool.true_or,if_true];exact wpAny_sound _ t _ a _ (uS hP hC h he hK)
theorem cR (hP:aL P Γ E) (hC:ju P Γ E cl) (hR:Iz P Γ rd) {rn:Option (Nat×Nat)} {n:Nat}:∀ (c:Code) (M:Nat->Prop) (w0:World) (vs:Fv) (st:St) (a:Act) (w:World) (ρ:Keys) (K:Ex->St->Prop) (Q:Exit->Act->World->Prop),jD E cl rd rn c st K->Rel Γ M w0 ρ st vs a w->
 (∀ e an a' w' ρ' M' cu ds',iH M w0 M' cu vs.ds ds'->K e an->Rel Γ M' cu ρ' an ⟨vs.fs,ds'⟩ a' w'->Q e.exit' a' w')->c.wpIn (qb (rn.map (·.2))) n P Q a w
 | .skip,M,w0,vs,st,a,w,ρ,K,Q,he,h,hK=>wpIn_skip (hK .normal _ _ _ _ _ _ _ (iH.refl _ _ _) he h)
 | .region id ops draw,M,w0,vs,st,a,w,ρ,K,Q,he,h,hK=>by
   have e1:ops=ops.toList.toArray:=by simp
   cases draw with
   |true=>
    cases rn with
    |none=>
     change Z5 E cl id ops.toList st (K .normal)at he;rw[e1];exact wpIn_wide.2 (Ag hP hC h he fun an a' w' ρ' hk hr=>hK .normal _ _ _ _ _ _ _ (iH.refl _ _ _) hk hr)
    |some p=>
     change (match bZ sC ops.toList with|true=>Z5 E cl id ops.toList st (K .normal)|false=>False)at he
     split at he
     ·rename_i iP;rw[e1];exact wD hP hC h iP he fun an a' w' ρ' hk hr=>hK .normal _ _ _ _ _ _ _ (iH.refl _ _ _) hk hr
     ·exact he.elim
   |false=>
    change om E cl rd ops ops.toList st (K .normal)at he;exact wpIn_region_list (jE hP hC hR (fun an a' w' ρ' hk hr=>hK .normal _ _ _ _ _ _ _ (iH.refl _ _ _) hk hr) _ _ _ _ _ he h)
 | .seq x y,M,w0,vs,st,a,w,ρ,K,Q,he,h,hK=>by
   change (match E.aBf x with
    |true=>∃ (X:Type) (I:X->Prop) (S:X->St),jD E cl rd rn x st (fun e an=>match e with| .normal=>∃ (x:X) (is:List Nat),I x/\Le is an (S x)|e=>K e an)/\∀ x,I x->jD E cl rd rn y (S x) K
    |false=>jD E cl rd rn x st (fun e st=>match e with| .normal=>jD E cl rd rn y st K|e=>K e st))at he
   split at he
   ·obtain⟨X,I,S,h1,h2⟩:=he;refine wpIn_seq (cR hP hC hR x M w0 vs st a w ρ _ _ h1 h fun e an a' w' ρ' M' cu ds' ha hk hr=>?_)
    cases e with
    |normal=>
     obtain⟨z,is,hI,hle⟩:=hk;obtain⟨nP,aBB⟩:=hr.le hle;exact cR hP hC hR y M' cu ⟨vs.fs,ds'⟩ (S z) a' w' nP _ _ (h2 z hI) aBB fun e oM a2 w2 nP M2 yA xE hb lQ aBB=>hK e _ _ _ _ _ _ _ (ha.trans hb) lQ aBB
    |exit id=>exact hK (.exit id) _ _ _ _ _ _ _ ha hk hr
    |ret=>exact hK .ret _ _ _ _ _ _ _ ha hk hr
   refine wpIn_seq (cR hP hC hR x M w0 vs st a w ρ _ _ he h fun e an a' w' ρ' M' cu ds' ha hk hr=>?_)
   cases e with
   |normal=>exact cR hP hC hR y M' cu ⟨vs.fs,ds'⟩ an a' w' ρ' _ _ hk hr fun e oM a2 w2 nP M2 yA xE hb lQ aBB=>hK e _ _ _ _ _ _ _ (ha.trans hb) lQ aBB
   |exit id=>exact hK (.exit id) _ _ _ _ _ _ _ ha hk hr
   |ret=>exact hK .ret _ _ _ _ _ _ _ ha hk hr
 | .cond c x y,M,w0,vs,st,a,w,ρ,K,Q,he,h,hK=>by
   change (match ev st c with
    |some (.a .tt)=>jD E cl rd rn x st K
    |some (.a .ff)=>jD E cl rd rn y st K
    |some (.a (.v (.bool t)))=>(match E.aN with|true=>(match t with|true=>jD E cl rd rn x st K|false=>jD E cl rd rn y st K)|false=>(t=true->jD E cl rd rn x st K)/\(t=false->jD E cl rd rn y st K))
    |_=>False)at he
   split at he
   ·rename_i hc;exact wpIn_cond_true (ax h hc) (cR hP hC hR x M w0 vs st a w ρ _ _ he h hK)
   ·rename_i hc;exact wpIn_cond_false (ax h hc) (cR hP hC hR y M w0 vs st a w ρ _ _ he h hK)
   ·rename_i t hc;have hv:a.eval c= .bool t:=(ax h hc).1;split at he
    ·cases t with
     |true=>exact wpIn_cond_true hv (cR hP hC hR x M w0 vs st a w ρ _ _ he h hK)
     |false=>exact wpIn_cond_false hv (cR hP hC hR y M w0 vs st a w ρ _ _ he h hK)
    cases t with
    |true=>exact wpIn_cond_true hv (cR hP hC hR x M w0 vs st a w ρ _ _ (he.1 rfl) h hK)
    |false=>exact wpIn_cond_false hv (cR hP hC hR y M w0 vs st a w ρ _ _ (he.2 rfl) h hK)
   ·exact he.elim
 | .block id body,M,w0,vs,st,a,w,ρ,K,Q,he,h,hK=>by
   change jD E cl rd rn body st (fun e st=>match e with
    | .exit id'=>(match Nat.beq id id' with|true=>K .normal st|false=>K (.exit id') st)
    |e=>K e st)at he
   refine wpIn_block (cR hP hC hR body M w0 vs st a w ρ _ _ he h fun e an a' w' ρ' M' cu ds' ha hk hr=>?_)
   cases e with
   |normal=>exact hK .normal _ _ _ _ _ _ _ ha hk hr
   |ret=>exact hK .ret _ _ _ _ _ _ _ ha hk hr
   |exit id'=>
    simp only[Ex.exit',Exit.inBlock];simp only at hk;split at hk
    ·rename_i anY;rw[if_pos (Nat.eq_of_beq_eq_true anY).symm];exact hK .normal _ _ _ _ _ _ _ ha hk hr
    ·rename_i anY;rw[if_neg (fun e=>by subst e;simp at anY)];exact hK (.exit id') _ _ _ _ _ _ _ ha hk hr
 | .loop body,M,w0,vs,st,a,w,ρ,K,Q,he,h,hK=>by
   change Ai (fun st K=>jD E cl rd rn body st K) E.un st K at he
   have inv:∀ (st:St) (a:Act) (w:World) (ρ:Keys) (K:Ex->St->Prop) (Q:Exit->Act->World->Prop),C3 (fun st K=>jD E cl rd rn body st K) st K->Rel Γ M w0 ρ st vs a w->
    (∀ e an a' w' ρ' M' cu ds',iH M w0 M' cu vs.ds ds'->K e an->Rel Γ M' cu ρ' an ⟨vs.fs,ds'⟩ a' w'->Q e.exit' a' w')->(Code.loop body).wpIn (qb (rn.map (·.2))) n P Q a w:=by
    intro st a w ρ K Q he h hK;obtain⟨X,I,S,μ,x0,PY,Ra,hle,AO⟩:=he;obtain⟨R2,h0⟩:=h.le hle;refine wpIn_loop_ghost (fun n a w=>∃ x ρ M' cu ds',iH M w0 M' cu vs.ds ds'/\I x/\μ x=n/\Rel Γ M' cu ρ (S x) ⟨vs.fs,ds'⟩ a w) (μ x0) ⟨x0,R2,M,w0,vs.ds,iH.refl _ _ _,Ra,rfl,h0⟩ ?_
    rintro n a1 w1 ⟨x,aCb,M1,Ox,Dn,ox,Rb,rfl,hr⟩;refine cR hP hC hR body M1 Ox ⟨vs.fs,Dn⟩ (S x) a1 w1 aCb _ _ (AO x Rb) hr fun e an a' w' ρ' M' cu ds' ha hk hr'=>?_
    cases e with
    |normal=>
     obtain⟨x',is,Q9,hle',hlt⟩:=hk;obtain⟨nP,h2⟩:=hr'.le hle';exact⟨μ x',hlt,x',nP,M',cu,ds',ox.trans ha,Q9,rfl,h2⟩
    |exit id=>exact hK (.exit id) _ _ _ _ _ _ _ (ox.trans ha) hk hr'
    |ret=>exact hK .ret _ _ _ _ _ _ _ (ox.trans ha) hk hr'
   unfold Ai at he;split at he
   ·exact inv st a w ρ K Q he h hK
   ·rename_i m _;refine wpIn_loop_rounds (m+1) ?_;generalize m+1=m at he;clear inv;induction m generalizing st a w ρ M w0 vs with
    |zero=>exact he.elim
    |succ m ih=>
     change jD E cl rd rn body st (fun e an=>match e with| .normal=>D4 (fun st K=>jD E cl rd rn body st K) m an K|e=>K e an)at he
     refine cR hP hC hR body M w0 vs st a w ρ _ _ he h fun e an a' w' ρ' M' cu ds' ha hk hr=>?_
     cases e with
     |normal=>exact ih M' cu ⟨vs.fs,ds'⟩ an a' w' ρ' hr (fun e oM a2 w2 nP M2 yA xE hb lQ aBB=>hK e _ _ _ _ _ _ _ (ha.trans hb) lQ aBB) hk
     |exit id=>exact hK (.exit id) _ _ _ _ _ _ _ ha hk hr
     |ret=>exact hK .ret _ _ _ _ _ _ _ ha hk hr
 | .rangeFunc g ps kU body,M,w0,vs,st,a,w,ρ,K,Q,he,h,hK=>yL hP hC he h hK
 | .exit id,M,w0,vs,st,a,w,ρ,K,Q,he,h,hK=>wpIn_exit (hK (.exit id) _ _ _ _ _ _ _ (iH.refl _ _ _) he h)
 | .ret,M,w0,vs,st,a,w,ρ,K,Q,he,h,hK=>wpIn_ret (hK .ret _ _ _ _ _ _ _ (iH.refl _ _ _) he h)
 | .scope body,M,w0,vs,st,a,w,ρ,K,Q,he,h,hK=>by
   cases rn with
   |some _=>exact he.elim
   |none=>
    change jD E cl rd none body st K at he;refine wpIn_wide.2 (wp_scope_straight ((wpIn_wide (n:=n)).1 (cR hP hC hR body M w0 vs st a w ρ _ (Exit.noGoto Q) he h fun e an a' w' ρ' M' cu ds' ha hk hr=>?_)))
    have:=hK e _ _ _ _ _ _ _ ha hk hr;cases e<;>exact this
 | .label _,M,w0,vs,st,a,w,ρ,K,Q,he,h,hK=>wpIn_label (hK .normal _ _ _ _ _ _ _ (iH.refl _ _ _) he h)
 | .goto _,_,_,_,_,_,_,_,_,_,he,_,_=>he.elim
 | .refuse _,_,_,_,_,_,_,_,_,_,he,_,_=>he.elim
/-! ### A function's results -/
def rG (tmps:Array Value):ResultVar->Sem Value
 | .tmp t=>pure (tmps.getD t undef)
 | .cell a t=>do loadVar t (<-asAddr (tmps.getD a undef))
theorem qB (hE:bE P Γ E) (h:Rel Γ M w0 ρ st vs a w) {r:ResultVar} {q:List aa} {x:Tm} (he:qA E st r=some (q,x)) (hq:bW q):
 ∃ y,(rG a.tmps r).run P w= .ok y w/\x.ok st.rg.length ρ y:=by
 cases r with
 |tmp t=>
  simp only[qA,Option.some.injEq,Prod.mk.injEq]at he;obtain⟨rfl,rfl⟩:=he;exact⟨_,rfl,aBu h t⟩
 |cell ad t=>
  simp only[qA]at he;obtain⟨y,h1,h2⟩:=mE hE h (aBu h ad) he hq;have h1:=h1 w (Below.refl _ _);refine⟨y,?_,h2⟩;unfold qw at he;split at he
  ·rename_i r π i j hx;have hv:=aBu h ad;rw[hx]at hv;obtain⟨_,hv⟩:=hv;simp only[rG];rw[hv]at h1 ⊢;simpa[Instr.loadAt,Instr.sureAddr,asAddr]using h1
  ·cases he
theorem EE {N:Nat} {x:Tm} {c:C1} {y:Value} (he:II x=some c) (h:x.ok N ρ y):c.ok N ρ y:=by
 cases x<;>simp only[II,Option.some.injEq,reduceCtorEq]at he<;>subst he<;>exact h
theorem qC (hE:bE P Γ E) (h:Rel Γ M w0 ρ st vs a w):∀ {rs:List ResultVar} {q:List aa} {l:List C1},aBl E st rs=some (q,l)->bW q->
 ∃ ys:List Value,(rs.mapM (rG a.tmps)).run P w= .ok ys w/\be (C1.ok st.rg.length ρ) l ys
 |[],q,l,he,hq=>by
  simp only[aBl,Option.some.injEq,Prod.mk.injEq]at he;obtain⟨rfl,rfl⟩:=he;exact⟨[],by simp,trivial⟩
 |r::rs,q,l,he,hq=>by
  simp only[aBl]at he;split at he
  ·rename_i q1 t q2 l2 h1 h2;split at he
   ·rename_i c hc;simp only[Option.some.injEq,Prod.mk.injEq]at he;obtain⟨rfl,rfl⟩:=he;rw[aH]at hq;obtain⟨y,r1,k1⟩:=qB hE h h1 hq.1;obtain⟨ys,r2,k2⟩:=qC hE h h2 hq.2;exact⟨y::ys,by simp only[List.mapM_cons,Sem.run_bind,r1,r2,Result.andThen_ok,Sem.run_pure],EE hc k1,k2⟩
   ·cases he
  ·cases he
theorem Fw (fn:Func) (tmps:Array Value):results fn tmps=(do let vs<-fn.results.mapM (rG tmps);pure (if h:vs.size=1 then vs[0]else .tuple vs)):=by
 unfold results
 congr 1
theorem tq {fn:Func} {rs:List ResultVar} (hr:fn.results=rs.toArray) {ys:List Value} (h:(rs.mapM (rG a.tmps)).run P w= .ok ys w):
 (results fn a.tmps).run P w= .ok (match ys with|[y]=>y|ys=> .tuple ys.toArray) w:=by
 rw[Fw,hr];simp only[List.mapM_toArray,Sem.run_bind,Sem.run_map,h,Result.andThen_ok,Sem.run_pure]
 congr 1
 match ys with
 |[]=>simp
 |[y]=>simp
 |y::z::zs=>simp
theorem sX (hE:bE P Γ E) (h:Rel Γ M w0 ρ st vs a w) {fn:Func} {rs:List ResultVar} (hr:fn.results=rs.toArray) {q:List aa} {x:Tm} (he:nl E st rs=some (q,x)) (hq:bW q):
 ∃ y,(results fn a.tmps).run P w= .ok y w/\x.ok st.rg.length ρ y:=by
 unfold nl at he;split at he
 ·obtain⟨y,h1,h2⟩:=qB hE h he hq;exact⟨y,tq hr (ys:=[y]) (by simp[h1]),h2⟩
 ·rename_i hne;split at he
  ·rename_i q' l hl;simp only[Option.some.injEq,Prod.mk.injEq]at he;obtain⟨rfl,rfl⟩:=he;obtain⟨ys,h1,h2⟩:=qC hE h hl hq;refine⟨_,tq hr h1,?_⟩;have hlen:ys.length≠1:=by
    intro hh;have e1:l.length=1:=by rw[h2.length,hh]
    match l,e1 with
    |[c],_=>
     have:rs.length=1:=by
      clear h1 hr;have gen:∀ (rs:List ResultVar) (q:List aa) (l:List C1),aBl E st rs=some (q,l)->rs.length=l.length:=by
       intro rs;induction rs with
       |nil=>intro q l hl;simp only[aBl,Option.some.injEq,Prod.mk.injEq]at hl;obtain⟨_,rfl⟩:=hl;rfl
       |cons r rs ih=>
        intro q l hl;simp only[aBl]at hl;split at hl
        ·rename_i h1 h2;split at hl
         ·simp only[Option.some.injEq,Prod.mk.injEq]at hl;obtain⟨_,rfl⟩:=hl;simp[ih _ _ h2]
         ·cases hl
        ·cases hl
      exact gen rs _ _ hl
     match rs,this with
     |[r],_=>exact hne r rfl
   match ys,hlen with
   |[],_=>exact⟨[],rfl,h2⟩
   |[y],hlen=>exact absurd rfl hlen
   |y::z::zs,_=>exact⟨_,rfl,h2⟩
  ·cases he
/-! ### Frames -/
theorem Az:∀ (d:Nat) (k:Tr->Prop),EY d k=k (Tr.full d)
 |0,_=>rfl
 |d+1,k=>by
  show EY d (fun t=>k (.node (.a .un) t t))=_
  rw[Az d];rfl
def iX:List Tm->Nat->Tr->Tr
 |[],_,t=>t
 |x::l,i,t=>iX l (i+1) (t.put i x)
theorem BE:∀ (l:List Tm) (i:Nat) (t:Tr) (k:Tr->Prop),Ft l i t k=k (iX l i t)
 |[],_,_,_=>rfl
 |x::l,i,t,k=>by
  show agI x (fun x=>t.aBS i x (fun t=>Ft l (i+1) t k))=_
  rw[nr,Tr.oE,BE l];rfl
theorem aId:∀ (d i:Nat),(Tr.full d).get i= .a .un\/(Tr.full d).get i= .a .any
 |0,_=> .inr rfl
 |d+1,i=>by
  rw[show Tr.full (d+1)= .node (.a .un) (Tr.full d) (Tr.full d)from rfl];simp only[Tr.get];split
  ·exact .inl rfl
  ·split
   ·exact aId d _
   ·exact aId d _
theorem BF {N:Nat}:∀ (l:List Tm) (k:Nat) (t:Tr) (us:List Value),be (Tm.ok N ρ) l us->(∀ i,k<=i->(t.get i).ok N ρ undef)->
 (∀ i,i<k->((iX l k t).get i=t.get i))/\(∀ i,((iX l k t).get (k+i)).ok N ρ (us.getD i undef))
 |[],k,t,[],_,ht=>⟨fun i _=>rfl,fun i=>by simpa[iX]using ht (k+i) (Nat.le_add_right _ _)⟩
 |x::l,k,t,u::us,h,ht=>by
  obtain⟨h1,h2⟩:=BF l (k+1) (t.put k x) us h.2 (fun i hi=>by rw[Tr.jF _ _ _ _ (by omega)];exact ht i (by omega))
  refine⟨fun i hi=>?_,fun i=>?_⟩
  ·show(iX l (k+1) (t.put k x)).get i=_;rw[h1 i (by omega),Tr.jF _ _ _ _ (by omega)]
  ·show((iX l (k+1) (t.put k x)).get (k+i)).ok N ρ _;cases i with
   |zero=>
    show((iX l (k+1) (t.put k x)).get k).ok N ρ u;rw[h1 k (by omega)]
    rcases Tr.ake t k x with hg|hg
    ·rw[hg];exact h.1
    ·rw[hg];exact trivial
   |succ i=>rw[show k+(i+1)=k+1+i by omega];exact h2 i
theorem uX {n:Nat} {args:List Tm} {k:Sl->Prop} (h:qJ n args k):args.length<=n/\k ⟨n,iX args 0 (Tr.full (jg n))⟩:=by
 unfold qJ at h;rw[mo]at h;split at h
 ·rename_i hb;rw[Az,BE]at h;exact⟨Nat.le_of_ble_eq_true hb,h⟩
 ·exact h.elim
theorem Ay {N n:Nat} {args:List Tm} {us:List Value} (h:be (Tm.ok N ρ) args us) (hn:args.length<=n):Sl.ok N ρ ⟨n,iX args 0 (Tr.full (jg n))⟩ (us.toArray++Array.replicate (n-us.length) undef):=by
 refine⟨?_,fun i=>?_⟩
 ·rw[h.length]at hn;simp;omega
 ·have:=(BF args 0 (Tr.full (jg n)) us h (fun i _=>by
   rcases aId (jg n) i with hg|hg
   ·rw[hg];exact rfl
   ·rw[hg];exact trivial)).2 i
  rw[Nat.zero_add]at this;have e:(us.toArray++Array.replicate (n-us.length) undef).getD i undef=us.getD i undef:=by
   simp only[Array.getD_eq_getD_getElem?,Array.getElem?_append,List.size_toArray,List.getElem?_toArray,List.getD_eq_getElem?_getD];split
   ·rfl
   ·rename_i hlt;rw[List.getElem?_eq_none (by omega)]
    simp only[Array.getElem?_replicate];split<;>rfl
  rw[e];exact this
def Ii (P:Program) (Γ:bn) (go:Option (Nat×Nat)->Code->St->(Ex->St->Prop)->Prop):Prop:=
 ∀ (rn:Option (Nat×Nat)) (n:Nat) (M:Nat->Prop) (w0:World) (vs:Fv) (c:Code) (st:St) (a:Act) (w:World) (ρ:Keys) (K:Ex->St->Prop) (Q:Exit->Act->World->Prop),go rn c st K->Rel Γ M w0 ρ st vs a w->
  (∀ e an a' w' ρ' M' cu ds',iH M w0 M' cu vs.ds ds'->K e an->Rel Γ M' cu ρ' an ⟨vs.fs,ds'⟩ a' w'->Q e.exit' a' w')->c.wpIn (qb (rn.map (·.2))) n P Q a w
theorem Ez (hP:aL P Γ E) {go:Option (Nat×Nat)->Code->St->(Ex->St->Prop)->Prop} (hgo:Ii P Γ go):ju P Γ E (GG E (go none)):=by
 intro f b hb st args K hc M w0 ρ vs a w a8 h hargs;obtain⟨fn,h1,h2,h3,h4,h5⟩:=(hP.inl f b hb).h;obtain⟨tm,fr,rg⟩:=st;change qJ b.n args (fun s=>go none b.code ⟨s,tm::fr,rg⟩ (fun e an=>match e with
  | .exit _=>False
  |_=>(match nl E an b.rs with
   |some (q,x)=>aBP E.aN q (match an with|⟨_,H9::fr',cE⟩=>K x ⟨H9,fr',cE⟩|_=>False)
   |none=>False)))at hc
 obtain⟨hn,hc⟩:=uX hc;have cC:Rel Γ M w0 ρ ⟨⟨b.n,iX args 0 (Tr.full (jg b.n))⟩,tm::fr,rg⟩ ⟨a.tmps::vs.fs,[]⟩ {tmps:=a8.toArray++Array.replicate (b.n-a8.length) undef,defers:=[]} w:=
  ⟨Ay hargs hn,⟨h.tm,h.fr⟩,rfl,h.rs,h.bl,h.gl,h.gn⟩
 refine callsIn_wide.1 (callsIn_of_wp_marks (n:=0) h1 h3 trivial ?_ rfl);rw[h4];rw[show a8.toArray.size=a8.length by simp]
 refine hgo none 0 M w0 ⟨a.tmps::vs.fs,[]⟩ b.code _ _ _ _ _ _ hc cC fun e an a' w' ρ' M' cu ds' ha hk hr'=>?_
 obtain⟨tK,Ds,hds,iP,G8⟩:=ha;have jk:=hr'.fq tK h.gn;have Hh:a'.defers=Ds.map mark:=by have:=hr'.df;simp only at this;rw[this,hds];simp
 have fin:(match nl E an b.rs with
  |some (q,x)=>aBP E.aN q (match (generalizing:=false) an with|⟨_,H9::fr',cE⟩=>K x ⟨H9,fr',cE⟩|_=>False)
  |none=>False)->LeavesInM Fence.wide 0 P fn a'.tmps (fun e w'=>∃ v an ρ' x,e= .returned v/\Rel Γ M w0 ρ' an vs a w'/\Tm.ok an.rg.length ρ' x v/\K x an) a'.defers .returning w':=by
  intro hk;rw[Hh];refine nV (Γ:=Γ) (M:=M) (w0:=w0) (ρ:=ρ') (st:=an) (vs:=⟨a.tmps::vs.fs,ds'⟩) (a:=a') (fun w2 aBB=>?_) Ds w' jk iP (fun D hD=>⟨(G8 D hD).1.now hr'.bl,(G8 D hD).2⟩)
  split at hk
  ·rename_i q x hx;rw[aV]at hk;obtain⟨y,k1,k2⟩:=sX hP.env aBB h5 hx hk.1;obtain⟨_,hk⟩:=hk;obtain⟨Sw,QZ,RU⟩:=an;cases QZ with
   |nil=>exact hk.elim
   |cons RX Q0=>exact⟨y,k1,y,⟨RX,Q0,RU⟩,ρ',x,rfl,⟨aBB.fr.1,aBB.fr.2,h.df,aBB.rs,aBB.bl,aBB.gl,aBB.gn⟩,k2,hk⟩
  ·exact hk.elim
 cases e with
 |exit id=>exact hk.elim
 |normal=>exact fin hk
 |ret=>exact fin hk
theorem th {N:Nat}:∀ (ps:List Nat) (args:List Tm) (s:Sl) (k:Sl->Prop) (a8:List Value) (t:Array Value),Fp ps args s k->be (Tm.ok N ρ) args a8->s.ok N ρ t->
 a8.length=ps.length/\∃ s',k s'/\s'.ok N ρ ((ps.zip a8).foldl (fun(t:Array Value) (p:Nat×Value)=>t.setIfInBounds p.1 p.2) t)
 |[],[],s,k,[],t,h,_,hs=>⟨rfl,s,h,hs⟩
 |[],_::_,s,k,_,t,h,_,hs=>h.elim
 |p::ps,[],s,k,_,t,h,_,hs=>by cases s;exact h.elim
 |p::ps,x::args,⟨n,tr⟩,k,v::a8,t,h,ha,hs=>by
  change (match Nat.blt p n with|true=>agI x (fun x=>tr.aBS p x (fun tr=>Fp ps args ⟨n,tr⟩ k))|false=>False)at h
  split at h
  ·rename_i hb;rw[nr,Tr.oE]at h;have hs':Sl.ok N ρ ⟨n,tr.put p x⟩ (t.setIfInBounds p v):=by
    have:=hs.put p ha.1;simp only[Sl.put,hb]at this;exact this
   obtain⟨h1,s',h2,h3⟩:=th ps args _ k a8 _ h ha.2 hs';exact⟨by simp[h1],s',h2,h3⟩
  ·exact h.elim
theorem CV {go:Option (Nat×Nat)->Code->St->(Ex->St->Prop)->Prop} (hgo:Ii P Γ go):Iz P Γ (wF go):=by
 intro r args st K hk ro n M w0 ρ vs a w a8 h hargs;obtain⟨tm,fr,rg⟩:=st;unfold wF at hk;simp only at hk;split at hk;case h_2=>exact hk.elim
 rename_i l s L j hg;obtain⟨_,_,hs,hh,hl⟩:=h.rs.blk r _ [] true (.lp l s L .ready j) (bg hg (by simp)) ⟨rfl,rfl,rfl⟩
 rw[hl]at hh ⊢;obtain⟨hlen,s',hk,hs'⟩:=th _ _ _ _ _ _ hk hargs hs;have hy:=run_yield (P:=P) (args:=a8.toArray) hh (by simp[hlen])
 refine⟨_,_,_,_,hy,roundIn_of_wpIn trivial ?_⟩;have hf:((L.params.zip a8.toArray).foldl (fun(t:Array Value) (p:Nat×Value)=>t.setIfInBounds p.1 p.2) L.tmps)=(L.params.toList.zip a8).foldl (fun(t:Array Value) (p:Nat×Value)=>t.setIfInBounds p.1 p.2) L.tmps:=by
  rw[<-Array.foldl_toList,Array.toList_zip]
 have cC:Rel Γ M w0 ρ ⟨s',tm::fr,rg⟩ ⟨a.tmps::vs.fs,[]⟩ {tmps:=(L.params.toList.zip a8).foldl (fun(t:Array Value) (p:Nat×Value)=>t.setIfInBounds p.1 p.2) L.tmps,defers:=[]} w:=
  ⟨hs',⟨h.tm,h.fr⟩,rfl,h.rs,h.bl,h.gl,h.gn⟩
 rw[<-hf]at cC;refine hgo (some (r,l)) n M w0 ⟨a.tmps::vs.fs,[]⟩ L.assign _ _ _ _ _ _ hk cC fun e aIT a1 w1 aCb M1 Ox Dn ox hk s7=>?_
 cases e with
 |exit id=>exact hk.elim
 |ret=>exact hk.elim
 |normal=>
  simp only at hk;split at hk;case h_2=>exact hk.elim
  rename_i l1 s1 L1 j1 hg1;obtain⟨rfl,hk⟩:=hk;have hg1:=bg hg1 (by simp)
  obtain⟨_,_,_,xU,agM⟩:=s7.rs.blk r _ [] true (.lp l1 s1 L1 .ready j1) hg1 ⟨rfl,rfl,rfl⟩;rw[agM]at xU;rw[St.aks]at hk;refine⟨_,run_beginRound xU rfl,?_⟩;have aBB:=s7.BX (q':=.busy) (j':=j1) hg1;refine hgo (some (r,l1)) n M1 Ox ⟨a.tmps::vs.fs,Dn⟩ L.body _ _ _ _ _ _ hk aBB fun e On a3 w3 KQ M3 SA Pu Ri hk DI=>?_
  obtain⟨Ov,M0,HT⟩:=On;cases M0 with
  |nil=>exact hk.elim
  |cons P9 PF=>
   simp only at hk;split at hk;case h_2=>exact hk.elim
   rename_i l3 s3 L3 j3 Km;obtain⟨rfl,hk⟩:=hk;have Km:=bg (st:=⟨Ov,P9::PF,HT⟩) Km (by simp)
   obtain⟨_,_,_,Kn,oz⟩:=DI.rs.blk r _ [] true (.lp l3 s3 L3 .busy j3) Km ⟨rfl,rfl,rfl⟩;rw[oz]at Kn;have tK:=(ox.trans Ri).ext;have back:∀ (q:LoopState) (j:Option Code),Rel Γ M w0 KQ ((⟨P9,PF,HT⟩:St).aBZ r (.lp l3 s3 L3 q j)) vs a (w3.putObj l3 (.loop {L3 with state:=q,pending:=j})):=fun q j=>by
    have h4:=(DI.BX (q':=q) (j':=j) Km).fq tK h.gn;exact⟨h4.fr.1,h4.fr.2,h.df,h4.rs,h4.bl,h4.gl,h4.gn⟩
   cases e with
   |normal=>
    simp only[nG,St.aks]at hk;exact⟨_,_,run_endRound none Kn,_,_,KQ,.a .tt,rfl,back .ready none,rfl,hk⟩
   |ret=>
    simp only[nG,St.aks]at hk;exact⟨_,_,run_endRound (some .ret) Kn,_,_,KQ,.a .ff,rfl,back .done (some .ret),rfl,hk⟩
   |exit id=>
    simp only[nG,St.aks]at hk;exact⟨_,_,run_endRound (some (.exit id)) Kn,_,_,KQ,.a .ff,rfl,back .done (some (.exit id)),rfl,hk⟩
theorem qx (hP:aL P Γ E):∀ (d:Nat),Ii P Γ (MC E d)
 |0=>fun rn n M w0 vs c st a w ρ K Q he h hK=>cR hP (cl:=fun _ _ _ _=>False) (rd:=fun _ _ _ _=>False) (fun _ _ _ _ _ _ hc=>hc.elim) (fun _ _ _ _ hc=>hc.elim) c M w0 vs st a w ρ K Q he h hK
 |d+1=>fun rn n M w0 vs c st a w ρ K Q he h hK=>cR hP (Ez hP (qx hP d)) (CV (qx hP d)) c M w0 vs st a w ρ K Q he h hK
end
end Go.Sy
end
section
namespace Go.Sy
open Go Go.RowKit
universe u
abbrev aAS:=List (Option (Nat×Path))
def N3 (is:aAS) (n:Nat):List Nat->List Nat->Prop
 |[],[]=>True
 |r::l,r'::l'=>(r'<n/\is[r']?=some (some (r,[])))/\N3 is n l l'
 |_,_=>False
def yp (is:aAS) (n:Nat) (x x':At):Prop:=
 match x' with
 | .any=>True
 | .p r' aW i' j'=>(∃ r dD,x= .p r (aW++dD) i' j'/\r'<n/\is[r']?=some (some (r,dD)))
 | .sl r' aW lo k=>((x= .v (.slice none 0 0)\/x= .z)/\lo=0/\k=0/\r'<n/\is[r']?=some none)\/(∃ r dD,x= .sl r (aW++dD) lo k/\r'<n/\is[r']?=some (some (r,dD)))
 | .fn f l'=>∃ l,x= .fn f l/\N3 is n l l'
 | .mp r'=>∃ r,x= .mp r/\r'<n/\is[r']?=some (some (r,[]))
 | .it _=>False
 | .yl _=>False
 | .v (.bool b)=>x= .v (.bool b)\/(x= .tt/\b=true)\/(x= .ff/\b=false)
 |x'=>x=x'
def rE (is:aAS) (n:Nat):List At->List At->Prop
 |[],[]=>True
 |x::l,x'::l'=>yp is n x x'/\rE is n l l'
 |_,_=>False
def P0 (is:aAS) (n:Nat):C1->C1->Prop
 | .a x,.a y=>yp is n x y
 | .agg l,.agg l'=>rE is n l l'
 |_,_=>False
def Jv (is:aAS) (n:Nat):List C1->List C1->Prop
 |[],[]=>True
 |x::l,x'::l'=>P0 is n x x'/\Jv is n l l'
 |_,_=>False
def agW (is:aAS) (n:Nat):Tm->Tm->Prop
 | .a x,.a y=>yp is n x y
 | .agg l,.agg l'=>rE is n l l'
 | .bF l,.bF l'=>Jv is n l l'
 |_,_=>False
def Jw (is:aAS) (n:Nat):List Tm->List Tm->Prop
 |[],[]=>True
 |x::l,x'::l'=>agW is n x x'/\Jw is n l l'
 |_,_=>False
def agV (rg:List az) (is:aAS) (n:Nat) (r':Nat):az->Prop
 | .dead=>True
 | .box o l'=>o=false/\∃ r o0 l,is[r']?=some (some (r,[]))/\rg[r]?=some (.box o0 l)/\rE is n l l'
 | .arr te tg xs o i=>o=false/\i=false/\((is[r']?=some none/\xs=[]/\tg≠[])\/∃ r dD q,is[r']?=some (some (r,dD))/\(rg.getD r .dead).dn dD=some (q,⟨te,tg,xs⟩)/\bW q)
 | .map t k c es o=>o=false/\∃ r o0,is[r']?=some (some (r,[]))/\rg[r]?=some (.map t k c es o0)
 |_=>False
structure qc (args:List Tm) (rg:List az) (is:aAS) (args':List Tm) (cE:List az):Prop where
 args:Jw is cE.length args args'
 mX:∀ (r:Nat) (g:az),cE[r]?=some g->agV rg is cE.length r g
section
variable {P:Program} {Γ:bn} {E:Env} {M:Nat->Prop} {w0:World} {ρ:Keys} {st:St} {vs:Fv} {a:Act} {w:World}
def jd (ρ:Keys) (is:aAS) (cE:List az):Keys:=fun r τ=>
 match is[r]? with
 |some (some (r0,dD))=>ρ r0 (τ++dD)
 |_=>{iC with m:=(match cE.getD r .dead with| .arr _ tg _ _ _=>tg.length|_=>0)}
theorem cJ {is:aAS} {cE:List az} {r r0:Nat} {dD τ:Path} (h:is[r]?=some (some (r0,dD))):jd ρ is cE r τ=ρ r0 (τ++dD):=by simp only[jd,h]
theorem lC {is:aAS} {cE:List az} {r:Nat} {τ:Path} (h:is[r]?=some none):(jd ρ is cE r τ).aC=true:=by simp only[jd,h];rfl
theorem yq {N n:Nat} {is:aAS} {cE:List az}:∀ {l l':List Nat},N3 is n l l'->(∀ r∈l,r<N)->(∀ r∈l',r<n)/\l.map (fun r=>Value.pointer (some ((ρ r []).at 0)))=l'.map (fun r=>Value.pointer (some ((jd ρ is cE r []).at 0)))
 |[],[],_,_=>⟨by simp,rfl⟩
 |r::l,r'::l',h,hN=>by
  obtain⟨⟨h1,h2⟩,h3⟩:=h;obtain⟨h4,h5⟩:=yq (cE:=cE) h3 fun x hx=>hN x (List.mem_cons_of_mem _ hx)
  refine⟨fun x hx=>?_,?_⟩
  ·rcases List.mem_cons.1 hx with rfl|hx
   ·exact h1
   ·exact h4 x hx
  ·simp only[List.map_cons,h5,cJ h2,List.append_nil]
theorem nE {N n:Nat} {is:aAS} {cE:List az} {x x':At} {y:Value} (hl:yp is n x x') (h:x.ok N ρ y):x'.ok n (jd ρ is cE) y:=by
 cases x'<;>simp only[yp]at hl
 case any=>trivial
 case un=>subst hl;exact h
 case v y'=>
  split at hl;all_goals(rename_i heq;first|cases heq|skip)
  ·rcases hl with rfl|⟨rfl,rfl⟩|⟨rfl,rfl⟩
   ·exact h
   ·obtain rfl:y= .bool true:=h;exact⟨rfl,rfl⟩
   ·obtain rfl:y= .bool false:=h;exact⟨rfl,rfl⟩
  ·subst hl;exact h
 case tt=>subst hl;exact h
 case ff=>subst hl;exact h
 case z=>subst hl;exact h
 case err=>subst hl;exact h
 case p r' aW i' j'=>
  obtain⟨r,dD,rfl,h1,h2⟩:=hl;exact⟨h1,by rw[cJ h2];exact h.2⟩
 case sl r' aW lo k=>
  rcases hl with⟨hx,rfl,rfl,h1,h2⟩|⟨r,dD,rfl,h1,h2⟩
  ·refine⟨h1,?_⟩;rcases hx with rfl|rfl
   ·obtain⟨rfl,_⟩:=h;exact nN (lC h2)
   ·obtain⟨a0,rfl⟩:=h;exact nN (lC h2)
  ·exact⟨h1,by rw[cJ h2];exact h.2⟩
 case mp r'=>
  obtain⟨r,rfl,h1,h2⟩:=hl;exact⟨h1,by rw[cJ h2];exact h.2⟩
 case fn f l'=>
  obtain⟨l,rfl,h1⟩:=hl;obtain⟨h2,h3⟩:=yq (ρ:=ρ) (cE:=cE) h1 h.1;exact⟨h2,by rw[h.2,h3]⟩
theorem pH {N n:Nat} {is:aAS} {cE:List az}:∀ {l l':List At} {ys:List Value},rE is n l l'->be (At.ok N ρ) l ys->be (At.ok n (jd ρ is cE)) l' ys
 |[],[],[],_,_=>trivial
 |_::_,_::_,_::_,hl,h=>⟨nE hl.1 h.1,pH hl.2 h.2⟩
theorem HP {N n:Nat} {is:aAS} {cE:List az} {x x':C1} {y:Value} (hl:P0 is n x x') (h:x.ok N ρ y):x'.ok n (jd ρ is cE) y:=by
 cases x<;>cases x'<;>first|exact hl.elim|skip
 ·exact nE hl h
 ·obtain⟨ys,h1,h2⟩:=h;exact⟨ys,h1,pH hl h2⟩
theorem vD {N n:Nat} {is:aAS} {cE:List az}:∀ {l l':List C1} {ys:List Value},Jv is n l l'->be (C1.ok N ρ) l ys->be (C1.ok n (jd ρ is cE)) l' ys
 |[],[],[],_,_=>trivial
 |_::_,_::_,_::_,hl,h=>⟨HP hl.1 h.1,vD hl.2 h.2⟩
theorem HQ {N n:Nat} {is:aAS} {cE:List az} {x x':Tm} {y:Value} (hl:agW is n x x') (h:x.ok N ρ y):x'.ok n (jd ρ is cE) y:=by
 cases x<;>cases x'<;>first|exact hl.elim|skip
 ·exact nE hl h
 ·obtain⟨ys,h1,h2⟩:=h;exact⟨ys,h1,pH hl h2⟩
 ·obtain⟨ys,h1,h2⟩:=h;exact⟨ys,h1,vD hl h2⟩
theorem pI {N n:Nat} {is:aAS} {cE:List az}:∀ {l l':List Tm} {ys:List Value},Jw is n l l'->be (Tm.ok N ρ) l ys->be (Tm.ok n (jd ρ is cE)) l' ys
 |[],[],[],_,_=>trivial
 |_::_,_::_,_::_,hl,h=>⟨HQ hl.1 h.1,pI hl.2 h.2⟩
theorem By {is:aAS} {n:Nat}:∀ {l l':List At},rE is n l l'->∀ (j:Nat) (x':At),l'[j]?=some x'->∃ x,l[j]?=some x/\yp is n x x'
 |[],[],_,j,x',h=>by simp at h
 |x::_,_::_,hl,0,x',h=>by simp at h;subst h;exact⟨x,rfl,hl.1⟩
 |_::_,_::_,hl,j+1,x',h=>by
  obtain⟨x,h1,h2⟩:=By hl.2 j x' (by simpa using h)
  exact⟨x,by simpa using h1,h2⟩
theorem CK.aA.along {η bU:Path->RI} {dD π:Path} {i j:Nat} (he:∀ τ,bU τ=η (τ++dD)):∀ {c:CK} {x:c.ty} {y:Value},c.aA η (π++dD) i j x y->c.aA bU π i j x y
 | .int _,_,_,h=>h
 | .bool,_,_,h=>h
 | .str,_,_,h=>h
 | .sl _ _,_,_,h=>by
   show RI.head (bU ((i,j)::π)) 0 _ _;rw[he];exact h
theorem ai.aA.along {η bU:Path->RI} {dD π:Path} {i:Nat} (he:∀ τ,bU τ=η (τ++dD)):∀ {tg:List CK} {j:Nat} {x:ai tg} {ys:List Value},ai.aA η (π++dD) i j tg x ys->ai.aA bU π i j tg x ys
 |[],_,_,_,h=>h
 |[c],_,_,_,h=>by obtain⟨y,h1,h2⟩:=h;exact⟨y,h1,h2.along he⟩
 |c::c'::cs,_,_,_,h=>by obtain⟨y,ys',h1,h2,h3⟩:=h;exact⟨y,ys',h1,h2.along he,h3.along (tg:=c'::cs) he⟩
theorem Ar.aA.along {η bU:Path->RI} {dD π:Path} {A:Ar} (he:∀ τ,bU τ=η (τ++dD)) (h:A.aA w η (π++dD)):A.aA w bU π where
 tg:=h.tg
 m:=by rw[he];exact h.m
 aC:=by rw[he];exact h.aC
 len:=by rw[he];exact h.len
 cell:=fun i hi=>by
  obtain⟨ys,h1,h2⟩:=h.cell i hi;exact⟨ys,h1.along he,fun s y hy=>by rw[he];exact h2 s y hy⟩
theorem cA.HR {rg cE:List az} {is:aAS} {args args':List Tm} (h:cA M w0 rg.length ρ rg w) (hp:qc args rg is args' cE):cA (fun _=>False) w cE.length (jd ρ is cE) cE w:=by
 have arr:∀ (r':Nat) te tg xs o i,cE[r']?=some (.arr te tg xs o i)->∀ π f A,(az.arr te tg xs o i).has π f (.arr A)->
  f=false/\((is[r']?=some none/\π=[]/\A=⟨te,tg,[]⟩/\tg≠[])\/∃ r dD g f0,is[r']?=some (some (r,dD))/\rg[r]?=some g/\g.has (π++dD) f0 (.arr A)):=by
  intro r' te tg xs o i hr π f A hh;obtain⟨rfl,rfl,hc⟩:=hp.mX r' _ hr;have hf:f=false:=by obtain⟨rfl,_⟩:=hh;cases π<;>rfl
  refine⟨hf,?_⟩;rcases hc with⟨h1,rfl,h2⟩|⟨r,dD,q,h1,h2,h3⟩
  ·obtain⟨Sv,P8,akl,p1,p2,p3,p4⟩:=DX (g:=.arr te tg [] false false) ⟨rfl,h2⟩ hh;injection p3 with q1 q2 q3 q4 q5;subst q1 q2;injection p4 with p4;exact .inl ⟨h1,p1,p4,h2⟩
  ·obtain⟨_,iP,_,k4⟩:=az.kY h2 h3;obtain⟨_,A',hA,nu⟩:=hh;injection nu with nu;subst nu;rcases k4 π A hA with⟨RV,RW,KJ,o0,i0,hg,k1⟩|⟨f0,k1⟩
   ·exact .inr ⟨r,dD,_,_,h1,bg (st:=⟨⟨0,.nil⟩,[],rg⟩) hg (by simp),rfl,A,fe.2 ⟨_,k1,hA⟩,rfl⟩
   ·exact .inr ⟨r,dD,_,f0,h1,bg (st:=⟨⟨0,.nil⟩,[],rg⟩) rfl iP,k1⟩
 have box:∀ (r':Nat) o l',cE[r']?=some (.box o l')->o=false/\∃ r o0 l,is[r']?=some (some (r,[]))/\rg[r]?=some (.box o0 l)/\rE is cE.length l l':=fun r' o l' hr=>hp.mX r' _ hr
 have HK:∀ (r':Nat) (g':az) π B,cE[r']?=some g'->g'.has π true B->False:=by
  intro r' g' π B hr hh;cases g' with
  |dead=>exact hh
  |box o l'=>obtain⟨_,h2,_⟩:=hh;rw[(box r' o l' hr).1]at h2;cases h2
  |arr te tg xs o i=>
   obtain⟨A,rfl,_,_⟩:=Ar.gQ hh;have:=(arr r' te tg xs o i hr π true A hh).1;cases this
  |map t k c es o=>obtain⟨_,h2,_⟩:=hh;rw[(hp.mX r' _ hr).1]at h2;cases h2
  |bH=>exact(hp.mX r' _ hr).elim
  |iter=>exact(hp.mX r' _ hr).elim
  |lp=>exact(hp.mX r' _ hr).elim
 refine⟨fun r' g' π o B hr hh=>?_,fun r' g' π o B hr hh hv=>?_,fun r' g' π B hr hh _=>(HK r' g' π B hr hh).elim,fun r1 r2 g1 g2 π aW o' B B' e1 _ k1 _ _ _ _=>(HK r1 g1 π B e1 k1).elim⟩
 ·cases g' with
  |dead=>exact hh.elim
  |map t k c es o'=>
   obtain⟨rfl,rfl,rfl⟩:=hh;obtain⟨_,r,o0,h1,h2⟩:=hp.mX r' _ hr;obtain⟨_,b2,b3⟩:=h.blk r _ [] o0 (.map k c es) h2 ⟨rfl,rfl,rfl⟩;exact⟨rfl,by rw[cJ h1];exact b2,by rw[cJ h1];exact b3⟩
  |bH=>exact(hp.mX r' _ hr).elim
  |iter=>exact(hp.mX r' _ hr).elim
  |lp=>exact(hp.mX r' _ hr).elim
  |box o' l'=>
   obtain⟨rfl,rfl,rfl⟩:=hh;obtain⟨_,r,o0,l,h1,h2,h3⟩:=box r' _ l' hr;obtain⟨_,b2,b3,b4⟩:=h.blk r _ [] o0 (.box l) h2 ⟨rfl,rfl,rfl⟩;refine⟨rfl,by rw[cJ h1];exact b2,by rw[cJ h1];exact b3,fun j x' hx=>?_⟩
   obtain⟨x,hx,hle⟩:=By h3 j x' hx;obtain⟨y,hy,hc⟩:=b4 j x hx;exact⟨y,nE hle hy,by rw[cJ h1];exact hc⟩
  |arr te tg xs o' i'=>
   obtain⟨A,rfl,_,_⟩:=Ar.gQ hh;rcases(arr r' te tg xs o' i' hr π o A hh).2 with⟨h1,rfl,rfl,h2⟩|⟨r,dD,g,f0,h1,h2,h3⟩
   ·refine⟨h2,?_,fun _=>rfl,fun hf=>?_,fun i hi=>by simp at hi⟩
    ·simp only[jd,h1];simp[List.getD,hr]
    ·rw[lC h1]at hf;cases hf
   ·exact Ar.aA.along (fun τ=>cJ h1) (h.blk r g (π++dD) f0 (.arr A) h2 h3)
 ·cases g' with
  |dead=>exact hh.elim
  |map t k c es o'=>
   obtain⟨rfl,rfl,rfl⟩:=hh;obtain⟨_,r,o0,h1,h2⟩:=hp.mX r' _ hr;rw[cJ h1]at hv ⊢;exact h.lt r _ [] o0 (.map k c es) h2 ⟨rfl,rfl,rfl⟩ hv
  |bH=>exact(hp.mX r' _ hr).elim
  |iter=>exact(hp.mX r' _ hr).elim
  |lp=>exact(hp.mX r' _ hr).elim
  |box o' l'=>
   obtain⟨rfl,rfl,rfl⟩:=hh;obtain⟨_,r,o0,l,h1,h2,h3⟩:=box r' _ l' hr;rw[cJ h1]at hv ⊢;exact h.lt r _ [] o0 (.box l) h2 ⟨rfl,rfl,rfl⟩ hv
  |arr te tg xs o' i'=>
   obtain⟨A,rfl,_,_⟩:=Ar.gQ hh;rcases(arr r' te tg xs o' i' hr π o A hh).2 with⟨h1,rfl,rfl,h2⟩|⟨r,dD,g,f0,h1,h2,h3⟩
   ·rw[lC h1]at hv;cases hv
   ·rw[cJ h1]at hv ⊢;exact h.lt r g (π++dD) f0 (.arr A) h2 h3 hv
end
end Go.Sy
end
section
namespace Go.Sy
open Go Go.RowKit
universe u
/-! ### Values that speak of no region;of regions below n -/
def At.lt (n:Nat):At->Bool
 | .p r _ _ _=>Nat.blt r n
 | .sl r _ _ _=>Nat.blt r n
 | .fn _ l=>bZ (fun r=>Nat.blt r n) l
 | .mp r=>Nat.blt r n
 | .it r=>Nat.blt r n
 | .yl r=>Nat.blt r n
 |_=>true
def C1.lt (n:Nat):C1->Bool
 | .a x=>x.lt n
 | .agg l=>bZ (At.lt n) l
def Tm.lt (n:Nat):Tm->Bool
 | .a x=>x.lt n
 | .agg l=>bZ (At.lt n) l
 | .bF l=>bZ (C1.lt n) l
section
variable {P:Program} {Γ:bn} {E:Env} {M:Nat->Prop} {w0:World} {ρ ρ':Keys} {st:St} {vs:Fv} {a:Act} {w:World}
theorem At.lE {N N':Nat} (n:Nat) {f g:Nat->Nat} (hN:∀ r,r<n->g r<N') (hρ:∀ r,r<n->ρ' (g r)=ρ (f r)) {x:At} {y:Value} (hl:x.lt n=true) (h:(x.oF f).ok N ρ y):(x.oF g).ok N' ρ' y:=by
 cases x<;>try exact h
 case p r π i j=>
  have hr:r<n:=Nat.le_of_ble_eq_true hl;exact⟨hN r hr,by rw[hρ r hr];exact h.2⟩
 case sl r π lo k=>
  have hr:r<n:=Nat.le_of_ble_eq_true hl;exact⟨hN r hr,by rw[hρ r hr];exact h.2⟩
 case fn k l=>
  have hr:∀ r∈l,r<n:=fun r hr=>Nat.le_of_ble_eq_true (iI hl r hr)
  refine⟨fun r' hr'=>?_,?_⟩
  ·obtain⟨r,h1,rfl⟩:=List.mem_map.1 hr';exact hN r (hr r h1)
  ·show y=_;rw[h.2];simp only[List.map_map]
   congr 2
   exact List.map_congr_left fun r h1=>by simp only[Function.comp];rw[hρ r (hr r h1)]
 case mp r=>
  have hr:r<n:=Nat.le_of_ble_eq_true hl;exact⟨hN r hr,by rw[hρ r hr];exact h.2⟩
 case it r=>
  have hr:r<n:=Nat.le_of_ble_eq_true hl;exact⟨hN r hr,by rw[hρ r hr];exact h.2⟩
 case yl r=>
  have hr:r<n:=Nat.le_of_ble_eq_true hl;exact⟨hN r hr,by rw[hρ r hr];exact h.2⟩
theorem pG {α:Type} {R R':α->Value->Prop} {F G:α->α} {p:α->Bool} (hf:∀ x y,p x=true->R (F x) y->R' (G x) y):∀ {l:List α} {ys:List Value},bZ p l=true->be R (l.map F) ys->be R' (l.map G) ys
 |[],[],_,_=>trivial
 |x::l,y::ys,hs,h=>by
  simp only[bZ]at hs;split at hs
  ·rename_i hx;exact⟨hf x y hx h.1,pG hf hs h.2⟩
  ·cases hs
theorem C1.lE {N N':Nat} (n:Nat) {f g:Nat->Nat} (hN:∀ r,r<n->g r<N') (hρ:∀ r,r<n->ρ' (g r)=ρ (f r)) {x:C1} {y:Value} (hl:x.lt n=true) (h:(x.mapA (At.oF f)).ok N ρ y):(x.mapA (At.oF g)).ok N' ρ' y:=by
 cases x with
 |a x=>exact At.lE n hN hρ hl h
 |agg l=>obtain⟨ys,h1,h2⟩:=h;exact⟨ys,h1,pG (fun _ _ hp hh=>At.lE n hN hρ hp hh) hl h2⟩
theorem Tm.lE {N N':Nat} (n:Nat) {f g:Nat->Nat} (hN:∀ r,r<n->g r<N') (hρ:∀ r,r<n->ρ' (g r)=ρ (f r)) {x:Tm} {y:Value} (hl:x.lt n=true) (h:(x.oF f).ok N ρ y):(x.oF g).ok N' ρ' y:=by
 cases x with
 |a x=>exact At.lE n hN hρ hl h
 |agg l=>obtain⟨ys,h1,h2⟩:=h;exact⟨ys,h1,pG (fun _ _ hp hh=>At.lE n hN hρ hp hh) hl h2⟩
 |bF l=>obtain⟨ys,h1,h2⟩:=h;exact⟨ys,h1,pG (fun _ _ hp hh=>C1.lE n hN hρ hp hh) hl h2⟩
def C1.plain:C1->Bool
 | .a x=>x.plain
 | .agg l=>bZ At.plain l
def Tm.plain:Tm->Bool
 | .a x=>x.plain
 | .agg l=>bZ At.plain l
 | .bF l=>bZ C1.plain l
theorem At.fZ {N N':Nat} {x:At} {y:Value} (hp:x.plain=true) (h:x.ok N ρ y):x.ok N' ρ' y:=by
 cases x<;>first|exact h|simp[At.plain]at hp
theorem sD {α:Type} {R R':α->Value->Prop} {f:α->Bool} (hf:∀ x y,f x=true->R x y->R' x y):∀ {l:List α} {ys:List Value},bZ f l=true->be R l ys->be R' l ys
 |[],[],_,_=>trivial
 |x::l,y::ys,hs,h=>by
  simp only[bZ]at hs;split at hs
  ·rename_i hx;exact⟨hf x y hx h.1,sD hf hs h.2⟩
  ·cases hs
theorem C1.fZ {N N':Nat} {x:C1} {y:Value} (hp:x.plain=true) (h:x.ok N ρ y):x.ok N' ρ' y:=by
 cases x with
 |a x=>exact At.fZ hp h
 |agg l=>obtain⟨ys,h1,h2⟩:=h;exact⟨ys,h1,sD (fun _ _=>At.fZ) hp h2⟩
theorem Tm.fZ {N N':Nat} {x:Tm} {y:Value} (hp:x.plain=true) (h:x.ok N ρ y):x.ok N' ρ' y:=by
 cases x with
 |a x=>exact At.fZ hp h
 |agg l=>obtain⟨ys,h1,h2⟩:=h;exact⟨ys,h1,sD (fun _ _=>At.fZ) hp h2⟩
 |bF l=>obtain⟨ys,h1,h2⟩:=h;exact⟨ys,h1,sD (fun _ _=>C1.fZ) hp h2⟩
theorem qu {N:Nat} {x y:At} {v:Value} (he:GA x y) (h:x.ok N ρ v):y.ok N ρ v:=by
 unfold GA at he;split at he
 ·exact h
 ·exact h
 ·subst he;obtain rfl:v= .bool true:=h;exact⟨rfl,rfl⟩
 ·subst he;obtain rfl:v= .bool false:=h;exact⟨rfl,rfl⟩
 ·subst he;exact h.1
 ·subst he;exact h.1
 ·trivial
 ·obtain⟨rfl,rfl,rfl,rfl⟩:=he;exact h
 ·obtain⟨rfl,rfl,rfl,rfl⟩:=he;exact h
 ·obtain⟨rfl,rfl⟩:=he;exact h
 ·subst he;exact h
 ·subst he;exact h
 ·subst he;exact h
 ·exact h
 ·exact h
 ·exact h
 ·exact⟨_,h.1⟩
 ·obtain⟨rfl,rfl⟩:=he;exact h
 ·subst he;exact h
 ·subst he;exact h
 ·exact he.elim
theorem oX {N:Nat}:∀ {l l':List At} {ys:List Value},EQ l l'->be (At.ok N ρ) l ys->be (At.ok N ρ) l' ys
 |[],[],[],_,_=>trivial
 |_::_,_::_,_::_,he,h=>⟨qu he.1 h.1,oX he.2 h.2⟩
theorem GB {N:Nat} {x y:C1} {v:Value} (he:Pv x y) (h:x.ok N ρ v):y.ok N ρ v:=by
 cases x<;>cases y<;>first|exact he.elim|skip
 ·exact qu he h
 ·obtain⟨ys,h1,h2⟩:=h;exact⟨ys,h1,oX he h2⟩
theorem uP {N:Nat}:∀ {l l':List C1} {ys:List Value},Vm l l'->be (C1.ok N ρ) l ys->be (C1.ok N ρ) l' ys
 |[],[],[],_,_=>trivial
 |_::_,_::_,_::_,he,h=>⟨GB he.1 h.1,uP he.2 h.2⟩
theorem xI {N:Nat} {x y:Tm} {v:Value} (he:iL x y) (h:x.ok N ρ v):y.ok N ρ v:=by
 cases x<;>cases y<;>first|exact he.elim|skip
 ·exact qu he h
 ·obtain⟨ys,h1,h2⟩:=h;exact⟨ys,h1,oX he h2⟩
 ·obtain⟨ys,h1,h2⟩:=h;exact⟨ys,h1,uP he h2⟩
/-! ### A function's walk -/
def cQ (E:Env) (d:Nat) (b:Body) (args:List Tm) (rg:List az) (K:Tm->St->Prop):Prop:=
 qJ b.n args (fun s=>fD ou rg (fun rg=>MC E d none b.code ⟨s,[],rg⟩ (fun e an=>match e with
  | .exit _=>False
  |_=>(match nl E an b.rs with
   |some (q,x)=>aBP E.aN q (K x an)
   |none=>False))))
theorem FB {M:Nat->Prop} {w0:World} (hP:aL P Γ E) {fn:Func} {c:Code} {rs:List ResultVar} (h5:fn.results=rs.toArray) {d:Nat} {fs:List (Array Value)} {st:St} {a:Act} {ρ:Keys} {K:Tm->St->Prop}
 (hc:MC E d none c st (fun e an=>match e with
   | .exit _=>False
   |_=>(match nl E an rs with
    |some (q,x)=>aBP E.aN q (K x an)
    |none=>False))) (cC:Rel Γ M w0 ρ st ⟨fs,[]⟩ a w) {R:Ending->World->Prop}
 (hR:∀ v an ρ' x a' w' ds,Rel Γ M w0 ρ' an ⟨fs,ds⟩ a' w'->Tm.ok an.rg.length ρ' x v->K x an->R (.returned v) w'):c.wpIn Fence.wide 0 P (bodyPostM Fence.wide 0 P fn R) a w:=by
 refine qx hP d none 0 M w0 ⟨fs,[]⟩ c _ _ _ _ _ _ hc cC fun e an a' w' ρ' M' cu ds' ha hk hr'=>?_
 obtain⟨tK,Ds,hds,iP,G8⟩:=ha;have jk:=hr'.fq tK cC.gn;have Hh:a'.defers=Ds.map mark:=by have:=hr'.df;simp only at this;rw[this,hds];simp
 have fin:(match nl E an rs with
  |some (q,x)=>aBP E.aN q (K x an)
  |none=>False)->LeavesInM Fence.wide 0 P fn a'.tmps R a'.defers .returning w':=by
  intro hk;rw[Hh];refine nV (Γ:=Γ) (M:=M) (w0:=w0) (ρ:=ρ') (st:=an) (vs:=⟨fs,ds'⟩) (a:=a') (fun w2 aBB=>?_) Ds w' jk iP (fun D hD=>⟨(G8 D hD).1.now hr'.bl,(G8 D hD).2⟩)
  split at hk
  ·rename_i q x hx;rw[aV]at hk;obtain⟨y,k1,k2⟩:=sX hP.env aBB h5 hx hk.1;exact⟨y,k1,hR y an ρ' x a' w2 ds' aBB k2 hk.2⟩
  ·exact hk.elim
 cases e with
 |exit id=>exact hk.elim
 |normal=>exact fin hk
 |ret=>exact fin hk
theorem yy (hP:aL P Γ E) {f:FuncId} {b:Body} (hf:bQ P f b) {d:Nat} {args:List Tm} {rg:List az} {K:Tm->St->Prop} (he:cQ E d b args rg K) (qR:∀ b,b<Γ.n->b<w.heap.size) (nv:Γ.G w)
 {us:List Value} (hargs:be (Tm.ok rg.length ρ) args us) (nw:cA (fun _=>False) w rg.length ρ rg w):
 Calls P f us.toArray w fun e w'=>∃ v an ρ' x a' ds,e= .returned v/\Rel Γ (fun _=>False) w ρ' an ⟨[],ds⟩ a' w'/\Tm.ok an.rg.length ρ' x v/\K x an/\Below w.heap.size w w':=by
 obtain⟨fn,h1,h2,h3,h4,h5⟩:=hf.h;unfold cQ at he;obtain⟨hn,hc⟩:=uX he;rw[fx nq]at hc;have cC:Rel Γ (fun _=>False) w ρ ⟨⟨b.n,iX args 0 (Tr.full (jg b.n))⟩,[],rg⟩ ⟨[],[]⟩ {tmps:=us.toArray++Array.replicate (b.n-us.length) undef,defers:=[]} w:=
  ⟨Ay hargs hn,trivial,rfl,nw,Frame.refl _ _,nv,fun b hb=>⟨id,qR b hb⟩⟩
 refine callsIn_wide.1 (callsIn_of_wp_marks (n:=0) h1 h3 trivial ?_ rfl);rw[h4];rw[show us.toArray.size=us.length by simp]
 exact FB hP h5 hc cC fun v an ρ' x a' w' ds hr hx hk=>⟨v,an,ρ',x,a',ds,rfl,hr,hx,hk,⟨hr.bl.os,hr.bl.tape,hr.bl.output,hr.bl.size,fun k hk=>hr.bl.block k hk id⟩⟩
theorem au.aBp (hP:aL P Γ E) {f:FuncId} {b:Body} (hf:bQ P f b) {d:Nat} {F:List Tm->List az->Option (List aa×Tm)}
 (H:∀ args rg q t,F args rg=some (q,t)->bW q->t.plain=true/\∃ is args' cE,qc args rg is args' cE/\cQ E d b args' cE (fun x _=>iL x t)):au.Ok P Γ f (.fn F):=by
 intro args rg q t hF hq M w0 ρ w us hl qR nv hargs s8;obtain⟨aai,is,args',cE,hp,aag⟩:=H args rg q t hF hq;refine(yy hP hf aag qR nv (pI hp.args hargs) (s8.HR hp)).mono ?_;rintro e w' ⟨v,an,ρ',x,a',_,rfl,_,hx,heq,hb⟩;exact⟨v,rfl,Tm.fZ aai (xI heq hx),hb⟩
/-! ### New memory handed back -/
def az.out:az->Bool
 | .box true l=>bZ At.plain l
 | .arr _ tg _ true i=>(match i with|true=>true|false=>aaa tg)
 | .map _ _ _ _ o=>o
 | .bH _ _ _ _ _ o i=>fu o i
 |_=>false
theorem LA {g:az} (h:g.out=true) {π:Path} {o:Bool} {B:aD0} (hh:g.has π o B):o=true:=by
 cases g with
 |dead=>cases h
 |map=>exact hh.2.1.trans h
 |bH t kk e tg es o1 i1=>
  cases o1 with
  |false=>cases h
  |true=>
   obtain rfl:i1=true:=h;rcases hh with⟨_,h1,_⟩|⟨_,_,h1,_⟩<;>exact h1
 |iter=>cases h
 |lp=>cases h
 |box o1 l=>cases o1 with
  |false=>cases h
  |true=>exact hh.2.1
 |arr te tg xs o1 i1=>
  cases o1 with
  |false=>cases h
  |true=>
   obtain⟨rfl,A,hA,_⟩:=hh;cases π with
   |nil=>rfl
   |cons p π=>
    cases i1 with
    |true=>rfl
    |false=>obtain⟨hp,_⟩:=fT (te:=te) (tg:=tg) (xs:=xs) h hA;cases hp
def sG (st:St):List Nat->List az->Prop
 |[],[]=>True
 |i::is,g::gs=>st.rg.getD i .dead=g/\g.out=true/\(∀ j∈is,i≠j)/\sG st is gs
 |_,_=>False
theorem aap {st:St}:∀ {is:List Nat} {gs:List az},sG st is gs->∀ (r:Nat) (g:az),gs[r]?=some g->∃ i,is[r]?=some i/\st.rg[i]?=some g/\g.out=true
 |[],[],_,r,g,h=>by simp at h
 |i::is,g::gs,h,r,g',hr=>by
  obtain⟨h1,h2,_,h6⟩:=h;cases r with
  |zero=>
   simp at hr;subst hr;exact⟨i,rfl,bg h1 (by intro e;subst e;cases h2),h2⟩
  |succ r=>
   obtain⟨j,a,b⟩:=aap h6 r g' (by simpa using hr)
   exact⟨j,by simpa using a,b⟩
theorem tk {st:St}:∀ {is:List Nat} {gs:List az},sG st is gs->∀ (r r' i:Nat),is[r]?=some i->is[r']?=some i->r=r'
 |[],[],_,r,r',i,h,_=>by simp at h
 |i0::is,g::gs,h,r,r',i,h1,h2=>by
  obtain⟨_,_,h5,h6⟩:=h;cases r with
  |zero=>
   simp at h1;subst h1;cases r' with
   |zero=>rfl
   |succ r'=>exact absurd rfl (h5 i0 (List.mem_of_getElem? (by simpa using h2)))
  |succ r=>
   cases r' with
   |zero=>simp at h2;subst h2;exact absurd rfl (h5 i0 (List.mem_of_getElem? (by simpa using h1)))
   |succ r'=>rw[tk h6 r r' i (by simpa using h1) (by simpa using h2)]
def N9 (K:cM->Prop) (x:Tm) (st:St):Prop:=∃ (res:cM) (js:List Nat),K res/\sG st js res.rg/\res.tm.lt res.rg.length=true/\iL x (res.tm.oF (fun r=>js.getD r 0))
end
end Go.Sy
end
section
namespace Go.Sy
open Go Go.RowKit
def uc (P:Program) (t:TypeId):Option (List (Nat×Nat)):=
 match P.underlying t with
 |some (.struct fields)=>fields.toList.mapM (fun f=>(P.info? f.type).map fun i=>(f.offset,i.size))
 |_=>none
theorem yW {P:Program} {t:TypeId} {fs:List (Nat×Nat)} (h:uc P t=some fs):
 ∃ fields,P.underlying t=some (.struct fields)/\fields.toList.mapM (fun f=>(P.info? f.type).map fun i=>(f.offset,i.size))=some fs:=by
 unfold uc at h;split at h
 ·rename_i fields hu;exact⟨fields,hu,h⟩
 ·cases h
/-! ### Tables of contracts -/
structure bq (P:Program) (bs:List (Nat×Body)):Prop where
 h:∀ f b,look bs f=some b->bQ P f b
theorem bq.nil {P:Program}:bq P []:=⟨fun f b h=>by cases h⟩
theorem bq.cons {P:Program} {bs:List (Nat×Body)} (hb:bq P bs) {f:Nat} {b:Body} (h:bQ P f b):bq P ((f,b)::bs):=⟨fun g c hg=>by
 unfold look at hg;split at hg
 ·rename_i he;obtain rfl:=Nat.eq_of_beq_eq_true he;obtain rfl:=Option.some.inj hg;exact h
 ·exact hb.h g c hg⟩
structure aR (P:Program) (Γ:bn) (l:List (Nat×au)):Prop where
 h:∀ f c,look l f=some c->zk P f/\au.Ok P Γ f c
theorem aR.nil {P:Program} {Γ:bn}:aR P Γ []:=⟨fun f b h=>by cases h⟩
theorem aR.cons {P:Program} {Γ:bn} {l:List (Nat×au)} (hl:aR P Γ l) {f:Nat} {c:au} (hf:zk P f) (hc:au.Ok P Γ f c):aR P Γ ((f,c)::l):=⟨fun g c' hg=>by
 unfold look at hg;split at hg
 ·rename_i he;obtain rfl:=Nat.eq_of_beq_eq_true he;obtain rfl:=Option.some.inj hg;exact⟨hf,hc⟩
 ·exact hl.h g c' hg⟩
end Go.Sy
end
section
namespace Go.Sy
open Go Go.RowKit
universe u
inductive Tb (α:Type) where
 |nil
 |node (x:Option α) (l r:Tb α)
def Tb.get {α:Type}:Tb α->Nat->Option α
 | .nil,_=>none
 | .node x l r,i=>match Nat.beq i 0 with
   |true=>x
   |false=>(match Nat.beq (i%2) 1 with|true=>l.get (i / 2)|false=>r.get (i / 2-1))
def Tb.all {α:Type} (f:Nat->α->Bool):Tb α->(Nat->Nat)->Bool
 | .nil,_=>true
 | .node x l r,g=>
   (match x with|some a=>f (g 0) a|none=>true)&&(l.all f (fun i=>g (2*i+1))&&r.all f (fun i=>g (2*i+2)))
theorem Tb.aAV {α:Type} {f:Nat->α->Bool}:∀ {t:Tb α} {g:Nat->Nat},t.all f g=true->∀ i a,t.get i=some a->f (g i) a=true
 | .nil,_,_,_,_,h=>by cases h
 | .node x l r,g,hall,i,a,h=>by
   simp only[Tb.all,Bool.and_eq_true]at hall;unfold Tb.get at h;split at h
   ·rename_i h0;obtain rfl:=Nat.eq_of_beq_eq_true h0;have:=hall.1;rw[h]at this;exact this
   ·rename_i h0;have hi:i≠0:=fun e=>by subst e;simp at h0
    split at h
    ·rename_i ho;have ho:=Nat.eq_of_beq_eq_true ho;have:=Tb.aAV hall.2.1 _ _ h;rwa[show 2*(i / 2)+1=i by omega]at this
    ·rename_i ho;have ho:i%2≠1:=fun e=>by rw[e]at ho;simp at ho
     have:=Tb.aAV hall.2.2 _ _ h;rwa[show 2*(i / 2-1)+2=i by omega]at this
/-! ### Types -/
def iY (P:Program) (t n:Nat):Bool:=match P.info? t with|some i=>Nat.beq i.size n|none=>false
theorem aas {P:Program} {t n:Nat} (h:iY P t n=true):(P.info? t).map (·.size)=some n:=by
 unfold iY at h;split at h
 ·rename_i i hi;rw[hi];exact congrArg some (Nat.eq_of_beq_eq_true h)
 ·cases h
def vE:List (Nat×Nat)->List (Nat×Nat)->Bool
 |[],[]=>true
 |(a,b)::l,(c,d)::m=>Nat.beq a c&&Nat.beq b d&&vE l m
 |_,_=>false
theorem tf:∀ {l m:List (Nat×Nat)},vE l m=true->l=m
 |[],[],_=>rfl
 |[],_::_,h=>by cases h
 |_::_,[],h=>by cases h
 |(a,b)::l,(c,d)::m,h=>by
  simp only[vE,Bool.and_eq_true]at h;rw[Nat.eq_of_beq_eq_true h.1.1,Nat.eq_of_beq_eq_true h.1.2,tf h.2]
def aIq (P:Program) (t:Nat):Ty->Bool
 | .int k=>(match P.underlying t with|some (.int k')=>sameKind k' k|_=>false)&&iY P t 1
 | .bool=>(match P.underlying t with|some .bool=>true|_=>false)&&iY P t 1
 | .str=>(match P.underlying t with|some .string=>true|_=>false)&&iY P t 1
 | .st fs n=>(match uc P t with|some l=>vE l fs|_=>false)&&iY P t n
 | .sl e m=>(match P.underlying t with|some (.slice e')=>Nat.beq e' e|_=>false)&&(iY P e m&&iY P t 1)
 | .ar e m n=>(match P.underlying t with|some (.array n' e')=>Nat.beq n' n&&Nat.beq e' e|_=>false)&&(iY P e m&&iY P t (n*m))
 | .map k e=>(match P.underlying t with|some (.map k' e')=>Nat.beq k' k&&Nat.beq e' e|_=>false)&&iY P t 1
 | .word=>(match P.underlying t with|some d=>lD d|_=>false)&&iY P t 1
 | .other=>true
theorem JM {P:Program} {t:Nat} {y:Ty} (h:aIq P t y=true):qf P t y:=by
 cases y with
 |other=>trivial
 |int k=>
  simp only[aIq,Bool.and_eq_true]at h;refine⟨?_,aas h.2⟩;have:=h.1;split at this
  ·rename_i hu;rw[hu,akr this]
  ·cases this
 |bool=>
  simp only[aIq,Bool.and_eq_true]at h;refine⟨?_,aas h.2⟩;have:=h.1;split at this
  ·rename_i hu;exact hu
  ·cases this
 |str=>
  simp only[aIq,Bool.and_eq_true]at h;refine⟨?_,aas h.2⟩;have:=h.1;split at this
  ·rename_i hu;exact hu
  ·cases this
 |st fs n=>
  simp only[aIq,Bool.and_eq_true]at h;refine⟨yW ?_,aas h.2⟩;have:=h.1;split at this
  ·rename_i hu;rw[hu,tf this]
  ·cases this
 |sl e m=>
  simp only[aIq,Bool.and_eq_true]at h;refine⟨?_,aas h.2.1,aas h.2.2⟩;have:=h.1;split at this
  ·rename_i hu;rw[hu,Nat.eq_of_beq_eq_true this]
  ·cases this
 |ar e m n=>
  simp only[aIq,Bool.and_eq_true]at h;refine⟨?_,aas h.2.1,aas h.2.2⟩;have:=h.1;split at this
  ·rename_i hu;simp only[Bool.and_eq_true]at this;rw[hu,Nat.eq_of_beq_eq_true this.1,Nat.eq_of_beq_eq_true this.2]
  ·cases this
 |map k e=>
  simp only[aIq,Bool.and_eq_true]at h;refine⟨?_,aas h.2⟩;have:=h.1;split at this
  ·rename_i hu;simp only[Bool.and_eq_true]at this;rw[hu,Nat.eq_of_beq_eq_true this.1,Nat.eq_of_beq_eq_true this.2]
  ·cases this
 |word=>
  simp only[aIq,Bool.and_eq_true]at h;refine⟨?_,aas h.2⟩;have:=h.1;split at this
  ·rename_i d hu;exact⟨d,hu,this⟩
  ·cases this
/-! ### Zero values -/
def zB:At->Value->Bool
 | .v (.int k n),.int k' n'=>sameKind k k'&&n==n'
 | .ff,.bool b=>!b
 | .v (.string s),.string s'=>s.data.toList==s'.data.toList
 | .v (.slice none 0 0),.slice none 0 0=>true
 | .v (.map none),.map none=>true
 | .v .nilIface,.nilIface=>true
 | .v (.pointer none),.pointer none=>true
 | .v .nilFunc,.nilFunc=>true
 |_,_=>false
theorem L9 {x:At} {v:Value} (h:zB x v=true):x.one=true/\∀ N ρ,x.ok N ρ v:=by
 unfold zB at h;split at h<;>first|(cases h;done)|skip
 ·simp only[Bool.and_eq_true,beq_iff_eq]at h;obtain⟨h1,rfl⟩:=h;obtain rfl:=akr h1;exact⟨rfl,fun _ _=>⟨rfl,rfl⟩⟩
 ·rename_i b;cases b with
  |true=>cases h
  |false=>exact⟨rfl,fun _ _=>rfl⟩
 ·rename_i s s';have e:s=s':=by
   have h:=beq_iff_eq.1 h;cases s;cases s'
   congr 1
   exact Array.ext' h
  subst e;exact⟨rfl,fun _ _=>⟨rfl,rfl⟩⟩
 all_goals exact⟨rfl,fun _ _=>⟨rfl,rfl⟩⟩
def KM:List At->List Value->Bool
 |[],[]=>true
 |x::l,v::m=>zB x v&&KM l m
 |_,_=>false
theorem Cj:∀ {l:List At} {m:List Value},KM l m=true->bZ At.one l=true/\∀ N ρ,be (At.ok N ρ) l m
 |[],[],_=>⟨rfl,fun _ _=>trivial⟩
 |[],_::_,h=>by cases h
 |_::_,[],h=>by cases h
 |x::l,v::m,h=>by
  simp only[KM,Bool.and_eq_true]at h;obtain⟨h1,h2⟩:=L9 h.1;obtain⟨h3,h4⟩:=Cj h.2;refine⟨?_,fun N ρ=>⟨h2 N ρ,h4 N ρ⟩⟩
  simp only[bZ,h1];exact h3
def aB9 (P:Program) (t:Nat) (l:List At):Bool:=match P.info? t with|some i=>(match i.zero with|some z=>KM l z.cells.toList|none=>false)|none=>false
/-! ### Arrays' elements,map's values -/
def vB:Value->Value->Bool
 | .int k n,.int k' n'=>sameKind k k'&&n==n'
 | .bool a,.bool b=>a==b
 | .string s,.string s'=>s.data.toList==s'.data.toList
 | .slice none 0 0,.slice none 0 0=>true
 |_,_=>false
theorem Ef {x v:Value} (h:vB x v=true):x=v:=by
 unfold vB at h;split at h<;>first|(cases h;done)|skip
 ·simp only[Bool.and_eq_true,beq_iff_eq]at h;obtain⟨h1,rfl⟩:=h;rw[akr h1]
 ·rw[beq_iff_eq.1 h]
 ·rename_i s s';have h:=beq_iff_eq.1 h;cases s;cases s'
  congr 2
  exact Array.ext' h
 ·rfl
def KI:List Value->List Value->Bool
 |[],[]=>true
 |x::l,v::m=>vB x v&&KI l m
 |_,_=>false
theorem B5:∀ {l m:List Value},KI l m=true->l=m
 |[],[],_=>rfl
 |[],_::_,h=>by cases h
 |_::_,[],h=>by cases h
 |x::l,v::m,h=>by
  simp only[KI,Bool.and_eq_true]at h;rw[Ef h.1,B5 h.2]
def NP (P:Program) (t:Nat) (tg:List CK):Bool:=
 (match tg with|[]=>false|_=>true)&&(bZ CK.ne tg&&(match P.info? t with
   |some i=>Nat.beq i.size tg.length&&(Nat.ble i.bytes (32*tg.length)&&(match i.zero with|some z=>KI z.cells.toList (ai.zero tg)|none=>false))
   |none=>false))
def P7 (P:Program) (t:Nat) (c:CK):Bool:=match P.info? t with|some i=>(match i.zero with|some z=>vB z (c.val c.d)|none=>false)|none=>false
def zj:List Nat->List Nat->Bool
 |[],[]=>true
 |a::l,b::m=>Nat.beq a b&&zj l m
 |_,_=>false
theorem vA:∀ {l m:List Nat},zj l m=true->l=m
 |[],[],_=>rfl
 |[],_::_,h=>by cases h
 |_::_,[],h=>by cases h
 |a::l,b::m,h=>by
  simp only[zj,Bool.and_eq_true]at h;rw[Nat.eq_of_beq_eq_true h.1,vA h.2]
def MA (P:Program) (t:Nat) (ks:List Nat):Bool:=
 (match dB P 8 t with|some l=>zj l ks|none=>false)&&((match eO P t with|none=>true|some _=>false)&&!(P.eqGuardType P.depth t))
def NV (P:Program) (t:Nat) (l:List Bool):Bool:=
 match P.underlying t with
 |some (.struct fields)=>l.length<=fields.size&&(List.range l.length).all fun f=>!(l.getD f false)||(match fields[f]? with|some fd=>(match P.underlying fd.type with|some (.struct _)=>false|some (.array _ _)=>false|some _=>true|none=>false)|none=>false)
 |_=>false
theorem Jk {P:Program} {t:Nat} {l:List Bool} (h:NV P t l=true) {f:Nat} (hf:l.getD f false=true) {fields:Array Field} {fd:Field} (hu:P.underlying t=some (.struct fields)) (Nj:fields[f]?=some fd) (w:World):(isAgg fd.type).run P w= .ok false w:=by
 unfold NV at h;rw[hu]at h;simp only[Bool.and_eq_true,List.all_eq_true,List.mem_range]at h;have hlt:f<l.length:=by
  rcases Nat.lt_or_ge f l.length with hl|hl
  ·exact hl
  ·rw[List.getD_eq_getElem?_getD,List.getElem?_eq_none hl]at hf;cases hf
 have:=h.2 f hlt;rw[hf,Nj]at this;simp only[Bool.not_true,Bool.false_or]at this;split at this
 ·cases this
 ·cases this
 ·rename_i d h1 h2 hd;unfold isAgg;simp only[Sem.run_bind,run_underlying hd,Result.andThen_ok];cases d<;>first|rfl|exact absurd hd (h1 _)|exact absurd hd (h2 _ _)
 ·cases this
structure wc where
 ty:Tb Ty
 zero:Tb (List At)
 kd:Tb (List CK)
 sc:Tb CK
 alp:Tb (List Nat)
 lf:Tb (List Bool)
structure F2 (P:Program) (T:wc):Prop where
 ty:T.ty.all (aIq P) id=true
 zero:T.zero.all (aB9 P) id=true
 kd:T.kd.all (NP P) id=true
 sc:T.sc.all (P7 P) id=true
 alp:T.alp.all (MA P) id=true
 lf:T.lf.all (NV P) id=true
def wc.env (T:wc) (l:List (Nat×au)) (bs:List (Nat×Body)) (aN:Bool) (un:Nat):Env:=
 {ty:=fun t=>match T.ty.get t with|some y=>y|none=> .other,zero:=T.zero.get,alp:=T.alp.get,sc:=T.sc.get,kd:=T.kd.get,lf:=fun t f=>(match T.lf.get t with|some l=>l.getD f false|none=>false),ct:=look l,inl:=look bs,exact:=!aN,aN,un}
theorem wc.OX {P:Program} {Γ:bn} {T:wc} (hT:F2 P T) {l:List (Nat×au)} (hl:aR P Γ l) (bs:List (Nat×Body)) (aN:Bool) (un:Nat):bE P Γ (T.env l bs aN un) where
 aht:=fun t h=>by cases h
 ty:=fun t=>by
  show qf P t (match T.ty.get t with|some y=>y|none=> .other)
  split
  ·rename_i y hy;exact JM (Tb.aAV hT.ty t y hy)
  ·trivial
 zero:=fun t l h=>by
  have:=Tb.aAV hT.zero t l h;unfold aB9 at this;split at this
  ·rename_i i hi;split at this
   ·rename_i z hz;obtain⟨h1,h2⟩:=Cj this;exact⟨h1,i,z,hi,hz,h2⟩
   ·cases this
  ·cases this
 alp:=fun t ks h=>by
  have:=Tb.aAV hT.alp t ks h;simp only[MA,Bool.and_eq_true]at this;obtain⟨h1,h2,h3⟩:=this;refine⟨?_,?_,by simpa using h3⟩
  ·split at h1
   ·rename_i hl;rw[show dB P 8 t=_ from hl,vA h1]
   ·cases h1
  ·split at h2
   ·assumption
   ·cases h2
 kd:=fun t tg h=>by
  have:=Tb.aAV hT.kd t tg h;simp only[NP,Bool.and_eq_true]at this;obtain⟨h1,h2,h3⟩:=this;refine⟨(fun e=>by subst e;cases h1),?_⟩
  split at h3
  ·rename_i i hi;simp only[Bool.and_eq_true]at h3;obtain⟨h4,h5,h6⟩:=h3;split at h6
   ·rename_i z hz;exact⟨i,z,hi,Nat.eq_of_beq_eq_true h4,hz,B5 h6,Nat.le_of_ble_eq_true h5⟩
   ·cases h6
  ·cases h3
 kn:=fun t tg h=>by
  have:=Tb.aAV hT.kd t tg h;simp only[NP,Bool.and_eq_true]at this;exact this.2.1
 sc:=fun t c h=>by
  have:=Tb.aAV hT.sc t c h;unfold P7 at this;split at this
  ·rename_i i hi;split at this
   ·rename_i z hz;exact⟨i,hi,by rw[hz,Ef this]⟩
   ·cases this
  ·cases this
 lf:=fun t f h fields fd hu Nj w=>by
  have h:(match T.lf.get t with|some l=>l.getD f false|none=>false)=true:=h
  split at h
  ·rename_i l hl';exact Jk (Tb.aAV hT.lf t l hl') h hu Nj w
  ·cases h
 ct:=fun f c h=>(hl.h f c h).2
end Go.Sy
end
section
namespace Go.Sy
open Go Go.RowKit
universe u
section
variable {P:Program} {Γ:bn} {E:Env} {M:Nat->Prop} {w0:World} {ρ:Keys} {w:World}
theorem aIc {te:TypeId} {tg:List CK} {xs:List (ai tg)} {o i:Bool} {π:Path} {f:Bool} {B:aD0} (hf:aaa tg=true) (hh:(az.arr te tg xs o i).has π f B):π=[]/\f=o/\B= .arr ⟨te,tg,xs⟩:=by
 obtain⟨A,rfl,hA,e⟩:=Ar.gQ hh;obtain⟨rfl,rfl⟩:=fT hf hA;exact⟨rfl,e,rfl⟩
theorem adq {te:TypeId} {tg:List CK} {xs:List (ai tg)} {o i:Bool}:(az.arr te tg xs o i).has [] o (.arr ⟨te,tg,xs⟩):=⟨rfl,_,rfl,rfl⟩
end
end Go.Sy
end
section
namespace Go.Sy
open Go Go.RowKit
universe u
section
variable {P:Program} {Γ:bn} {E:Env} {M:Nat->Prop} {w0:World} {ρ ρ':Keys} {st:St} {vs:Fv} {a:Act} {w:World}
def At.vd (r:Nat):At->At
 | .v (.slice none 0 0)=> .sl r [] 0 0
 | .z=> .sl r [] 0 0
 |x=>x
inductive bu (K:cM->Prop):Tm->St->Prop
 |base {x st} (h:N9 K x st):bu K x st
 |aC {x st} (e:TypeId) (tg:List CK) (ci:tg≠[]) (h:bu K (x.mapA (At.vd st.rg.length)) (st.push [.arr e tg [] true true])):bu K x st
theorem At.FE {N r:Nat} {x:At} {y:Value} (hr:r<N) (hv:(ρ r []).aC=true) (h:x.ok N ρ y):(x.vd r).ok N ρ y:=by
 unfold At.vd;split
 ·obtain⟨rfl,_⟩:=h;exact⟨hr,fun _=>⟨rfl,_,rfl⟩,fun h=>by rw[hv]at h;cases h⟩
 ·obtain⟨a,rfl⟩:=h;exact⟨hr,fun _=>⟨rfl,_,rfl⟩,fun h=>by rw[hv]at h;cases h⟩
 ·exact h
theorem Bu {N r:Nat} (hr:r<N) (hv:(ρ r []).aC=true):∀ {l:List At} {ys:List Value},be (At.ok N ρ) l ys->be (At.ok N ρ) (l.map (At.vd r)) ys
 |[],[],_=>trivial
 |[],_::_,h=>h.elim
 |_::_,[],h=>h.elim
 |_::_,_::_,h=>⟨At.FE hr hv h.1,Bu hr hv h.2⟩
theorem OS {N r:Nat} {x:C1} {y:Value} (hr:r<N) (hv:(ρ r []).aC=true) (h:x.ok N ρ y):(x.mapA (At.vd r)).ok N ρ y:=by
 cases x with
 |a x=>exact At.FE hr hv h
 |agg l=>obtain⟨ys,rfl,h⟩:=h;exact⟨ys,rfl,Bu hr hv h⟩
theorem HO {N r:Nat} (hr:r<N) (hv:(ρ r []).aC=true):∀ {l:List C1} {ys:List Value},be (C1.ok N ρ) l ys->be (C1.ok N ρ) (l.map (C1.mapA (At.vd r))) ys
 |[],[],_=>trivial
 |[],_::_,h=>h.elim
 |_::_,[],h=>h.elim
 |_::_,_::_,h=>⟨OS hr hv h.1,HO hr hv h.2⟩
theorem Po {N r:Nat} {x:Tm} {y:Value} (hr:r<N) (hv:(ρ r []).aC=true) (h:x.ok N ρ y):(x.mapA (At.vd r)).ok N ρ y:=by
 cases x with
 |a x=>exact At.FE hr hv h
 |agg l=>obtain⟨ys,rfl,h⟩:=h;exact⟨ys,rfl,Bu hr hv h⟩
 |bF l=>obtain⟨ys,rfl,h⟩:=h;exact⟨ys,rfl,HO hr hv h⟩
theorem LK {K:cM->Prop} {x:Tm} {st:St} (hk:bu K x st):∀ {ρ:Keys} {y:Value},Rel Γ M w0 ρ st vs a w->x.ok st.rg.length ρ y->∃ x' an ρ',Rel Γ M w0 ρ' an vs a w/\x'.ok an.rg.length ρ' y/\N9 K x' an:=by
 induction hk with
 |base h=>exact fun hr hx=>⟨_,_,_,hr,hx,h⟩
 |@aC x st e tg ci h ih=>
  intro ρ y hr hx;have hv:=hr.Eg e ci;refine ih hv ?_;have hx':=hx.mono (N':=(st.push [.arr e tg [] true true]).rg.length) (ρ':=aE ρ st.rg.length fun _=>{iC with m:=tg.length}) (by simp[St.push]) (fun r hr π=>by rw[bB hr])
  exact Po (by simp[St.push]) (by rw[aF];rfl) hx'
theorem au.fM (hP:aL P Γ E) {f:FuncId} {b:Body} (hf:bQ P f b) {d:Nat} {C:List Tm->List az->(cM->Prop)->Prop}
 (H:∀ args rg K,C args rg K->∃ is args' cE,qc args rg is args' cE/\∃ Kx,cQ E d b args' cE Kx/\∀ x st,Kx x st->bu K x st):au.Ok P Γ f (.new C):=by
 intro args rg K hC M w0 ρ w us hl qR nv hargs s8;obtain⟨is,args',cE,hp,Kx,aag,Re⟩:=H args rg K hC;refine(yy hP hf aag (fun b hb=>Nat.lt_of_lt_of_le (qR b hb).2 hl) nv (pI hp.args hargs) (s8.HR hp)).mono ?_
 rintro e w' ⟨v,an,ρ',x,a',_,rfl,hr',hx,DE,hb⟩;obtain⟨x,an,ρ',hr',hx,⟨res,js,hK,Nx,hlt,heq⟩⟩:=LK (Re _ _ DE) hr' hx;have eN:=aap Nx;let aCb:Keys:=fun r=>if r<rg.length then ρ r else ρ' (js.getD (r-rg.length) 0)
 have e1:∀ r,r<rg.length->aCb r=ρ r:=fun r hr=>by simp[aCb,hr]
 have e2:∀ r,aCb (rg.length+r)=ρ' (js.getD r 0):=fun r=>by
  show(if rg.length+r<rg.length then _ else _)=_
  rw[if_neg (by omega),Nat.add_sub_cancel_left]
 have hv:(res.tm.oF (fun r=>rg.length+r)).ok (rg.length+res.rg.length) aCb v:=
  Tm.lE res.rg.length (f:=fun r=>js.getD r 0) (ρ:=ρ') (N:=an.rg.length) (fun r hr=>by omega) (fun r _=>e2 r) hlt (xI heq hx)
 refine⟨v,res,aCb,rfl,hK,hb,fun r hr π=>by rw[e1 r hr],hv,?_⟩
 have hold:=s8.cX hb.size hb.block;have key:∀ (r:Nat) (g:az),(rg++res.rg)[r]?=some g->(r<rg.length/\rg[r]?=some g/\aCb r=ρ r)\/(∃ s i,r=rg.length+s/\res.rg[s]?=some g/\js[s]?=some i/\an.rg[i]?=some g/\g.out=true/\aCb r=ρ' i):=by
  intro r g hr;rcases Nat.lt_or_ge r rg.length with hl|hl
  ·rw[List.getElem?_append_left hl]at hr;exact .inl ⟨hl,hr,e1 r hl⟩
  ·rw[List.getElem?_append_right hl]at hr;obtain⟨i,h1,h2,h3⟩:=eN _ g hr;refine .inr ⟨r-rg.length,i,by omega,hr,h1,h2,h3,?_⟩
   rw[show r=rg.length+(r-rg.length) by omega,e2]
   simp[List.getD,h1]
 have fresh:∀ (i:Nat) (g:az),an.rg[i]?=some g->g.out=true->∀ π o B,g.has π o B->(ρ' i π).aC=false->w.heap.size<=(ρ' i π).b:=by
  intro i g hi ho π o B hh dV;obtain rfl:=LA ho hh;have:=hr'.rs.own i g π B hi hh dV;have:False\/w.heap.size<=(ρ' i π).b:=by cases B with|box=>exact this.own|map=>exact this.own|bH=>exact this.own|it=>exact this.own|lp=>exact this.own|arr=>exact this.1.own
  exact this.elim False.elim id
 refine⟨fun r g π o B hr hh=>?_,fun r g π o B hr hh dV=>?_,fun r g π B hr hh dV=>?_,fun r r' g g' π aW o' B B' h1 h2 k1 k2 v1 v2 hne=>?_⟩
 ·rcases key r g hr with⟨hl,hg,he⟩|⟨s,i,rfl,_,_,hg,ho,he⟩
  ·exact(hold.blk r g π o B hg hh).cX (fun π=>by rw[he]) (Nat.le_add_right _ _) (fun r hr π=>by rw[e1 r hr]) (fun _=>rfl)
  ·have hb:=hr'.rs.blk i g π o B hg hh;cases B with
   |arr A=>show Ar.aA w' (aCb (rg.length+s)) π A;rw[he];exact hb
   |map k c es=>
    obtain⟨b1,b2,b3⟩:=hb;exact⟨b1,by rw[he];exact b2,by rw[he];exact b3⟩
   |bH kk tg es=>
    obtain⟨b1,b2,b3⟩:=hb;exact⟨b1,by rw[he];exact b2,by rw[he];exact b3⟩
   |it=>
    cases g with
    |dead=>cases ho
    |iter=>cases ho
    |lp=>cases ho
    |map=>obtain⟨_,_,hB⟩:=hh;cases hB
    |bH=>rcases hh with⟨_,_,hB⟩|⟨_,_,_,_,_,hB⟩<;>cases hB
    |box=>obtain⟨_,_,hB⟩:=hh;cases hB
    |arr=>obtain⟨_,A,_,hA⟩:=hh;cases hA
   |lp=>
    cases g with
    |dead=>cases ho
    |iter=>cases ho
    |lp=>cases ho
    |map=>obtain⟨_,_,hB⟩:=hh;cases hB
    |bH=>rcases hh with⟨_,_,hB⟩|⟨_,_,_,_,_,hB⟩<;>cases hB
    |box=>obtain⟨_,_,hB⟩:=hh;cases hB
    |arr=>obtain⟨_,A,_,hA⟩:=hh;cases hA
   |box l=>
    obtain⟨b1,b2,b3,b4⟩:=hb;refine⟨b1,by rw[he];exact b2,by rw[he];exact b3,fun j x PV=>?_⟩
    obtain⟨y,hy,hc⟩:=b4 j x PV;have aai:bZ At.plain l=true:=by
     cases g with
     |dead=>cases ho
     |map=>obtain⟨_,_,hB⟩:=hh;cases hB
     |bH=>rcases hh with⟨_,_,hB⟩|⟨_,_,_,_,_,hB⟩<;>cases hB
     |iter=>cases ho
     |lp=>cases ho
     |arr=>obtain⟨_,A,_,hA⟩:=hh;cases hA
     |box o1 l1=>
      obtain⟨_,_,hB⟩:=hh;injection hB with hB;subst hB;cases o1 with
      |false=>cases ho
      |true=>exact ho
    exact⟨y,At.fZ (iI aai x (List.mem_of_getElem? PV)) hy,by rw[he];exact hc⟩
 ·rcases key r g hr with⟨hl,hg,he⟩|⟨s,i,rfl,_,_,hg,ho,he⟩
  ·rw[he]at dV ⊢;exact hold.lt r g π o B hg hh dV
  ·rw[he]at dV ⊢;exact hr'.rs.lt i g π o B hg hh dV
 ·rcases key r g hr with⟨hl,hg,he⟩|⟨s,i,rfl,_,_,hg,ho,he⟩
  ·rw[he]at dV ⊢;exact hold.own r g π B hg hh dV
  ·rw[he]at dV ⊢;have hm:=hr'.rs.own i g π B hg hh dV;have hfr:=fresh i g hg ho π true B hh dV;cases B with
   |box l=>exact⟨.inr (Nat.le_trans hl hfr),hm.fz⟩
   |map=>exact⟨.inr (Nat.le_trans hl hfr),hm.fz⟩
   |bH=>exact⟨.inr (Nat.le_trans hl hfr),hm.fz⟩
   |it=>exact⟨.inr (Nat.le_trans hl hfr),hm.fz⟩
   |lp=>exact⟨.inr (Nat.le_trans hl hfr),hm.fz⟩
   |arr A=>exact⟨⟨.inr (Nat.le_trans hl hfr),hm.1.fz⟩,hm.2⟩
 ·rcases key r g h1 with⟨_,hg,he⟩|⟨s,i,q1,_,q2,hg,ho,he⟩<;>rcases key r' g' h2 with⟨_,lh,he'⟩|⟨s',i',RT,_,P4,lh,mJ,he'⟩
  ·rw[he]at v1 ⊢;rw[he']at v2 ⊢;exact s8.dj r r' g g' π aW o' B B' hg lh k1 k2 v1 v2 hne
  ·rw[he]at v1 ⊢;rw[he']at v2 ⊢;have:=s8.lt r g π true B hg k1 v1;have:=fresh i' g' lh mJ aW o' B' k2 v2;omega
  ·rw[he]at v1 ⊢;rw[he']at v2 ⊢;have:=s8.lt r' g' aW o' B' lh k2 v2;have:=fresh i g hg ho π true B k1 v1;omega
  ·rw[he]at v1 ⊢;rw[he']at v2 ⊢;refine hr'.rs.dj i i' g g' π aW o' B B' hg lh k1 k2 v1 v2 fun aBx=>hne ⟨?_,aBx.2⟩
   rw[<-aBx.1]at P4;rw[q1,RT,tk Nx s s' i q2 P4]
def C1.pl:C1->Bool
 | .a (.v _)=>true
 | .a .tt=>true
 | .a .ff=>true
 |_=>false
end
end Go.Sy
end
section
namespace Go.Sy
open Go Go.RowKit Go.Sort
universe u
section
variable {P:Program} {Γ:bn} {M:Nat->Prop} {w0:World} {ρ:Keys} {w:World}
abbrev ade:Int->Value:=Value.int .i64
def agi (B:Nat) (F:List Int->List Int):au:=.rel fun args rg K=>match args with
 |[.a (.sl r [] 0 n)]=>(match rg.getD r .dead with
  | .arr te [.int .i64] xs true i=>Ob (n=List.length (α:=Int) xs/\List.length (α:=Int) xs<=B)/\K [(r,.arr te [.int .i64] (F xs) true i)] ⟨[],.bF []⟩
  |_=>False)
 |_=>False
def afD (B:Nat) (F:List Int->List Int):au:=.rel fun args rg K=>match args with
 |[.a (.sl r [] 0 n)]=>(match rg.getD r .dead with
  | .arr te [.int .i64] xs true i=>Ob (n=List.length (α:=Int) xs/\List.length (α:=Int) xs<=B)/\K [(r,.dead)] ⟨[.arr te [.int .i64] (F xs) true i],.a (.sl 0 [] 0 (List.length (α:=Int) (F xs)))⟩
  |_=>False)
 |_=>False
theorem adk {η:Path->RI} {te:TypeId} {xs:List Int} (h:Ar.aA w η [] ⟨te,[.int .i64],xs⟩):
 (η []).m=1/\∀ k,k<xs.length->w.cell? ((η []).at k)=some (ade (xs.getD k 0)):=by
 have hm:(η []).m=1:=h.m;refine⟨hm,fun k hk=>?_⟩
 obtain⟨ys,h1,h2⟩:=h.cell k hk;obtain⟨y,rfl,hy⟩:=h1;have hy:y=ade (xs.getD k 0):=hy;have:=h2 0 y rfl;rw[hm,Nat.mul_one,Nat.add_zero]at this;rw[this,hy]
theorem aeF {η:Path->RI} {te:TypeId} {xs:List Int} (hm:(η []).m=1) (hv:(η []).aC=false) (hl:xs.length<=(η []).cap) (hc:∀ k,k<xs.length->w.cell? ((η []).at k)=some (ade (xs.getD k 0))):
 Ar.aA w η [] ⟨te,[.int .i64],xs⟩ where
 tg:=by simp
 m:=hm
 aC:=fun h=>by rw[hv]at h;cases h
 len:=fun _=>hl
 cell:=fun k hk=>⟨[ade (xs.getD k 0)],⟨_,rfl,rfl⟩,fun s y hy=>by
  cases s with
  |zero=>
   cases hy;rw[hm,Nat.mul_one,Nat.add_zero];exact hc k hk
  |succ s=>cases hy⟩
theorem ads {I:RI} {xs:List Int} (hf:∀ j,w.frozen? ⟨I.b,j,none⟩=false) (hc:∀ k,k<xs.length->w.cell? (I.at k)=some (ade (xs.getD k 0))):Holds ade w I.b I.off xs.toArray:=by
 intro j hj;have hj:j<xs.length:=by simpa using hj
 refine⟨?_,hf _⟩;have:=hc j hj;unfold RI.at at this;rw[this];simp[hj]
theorem adx {n b off k:Nat} {os:Array Obj} {d:Array Int} (hk:k<w.heap.size) (hne:k≠b):(grow (putRow ade (Sort.ahead w n) b off d) os).heap[k]?=w.heap[k]?:=by
 rw[heap_grow_old _ _ (by simpa using hk)]
 simp[putRow,mapBlock,Sort.ahead,Array.getElem?_modify,hne.symm]
theorem aev {n b off:Nat} {os:Array Obj} {d:Array Int} {cur:Array Value} {e:TypeId} {fr:Nat×Nat} (hb:w.heap[b]?=some (.cells cur e fr)):
 (grow (putRow ade (Sort.ahead w n) b off d) os).heap[b]?=some (.cells (putCells ade off d cur) e fr):=by
 have hg:b<w.heap.size:=(Array.getElem?_eq_some_iff.1 hb).1;rw[heap_grow_old _ _ (by simpa using hg)]
 simp[putRow,mapBlock,Sort.ahead,Array.getElem?_modify,hb,onCells]
theorem cA.ints {rg:List az} (h:cA M w0 rg.length ρ rg w) {r:Nat} {te:TypeId} {xs ys:List Int} {i:Bool} (hr:rg[r]?=some (.arr te [.int .i64] xs true i)) (hv:(ρ r []).aC=false) (hl:ys.length=xs.length) {n:Nat} {os:Array Obj}:
 cA M w0 rg.length ρ (rg.set r (.arr te [.int .i64] ys true i)) (grow (putRow ade (Sort.ahead w n) (ρ r []).b (ρ r []).off ys.toArray) os):=by
 have cZ:aaa [CK.int .i64]=true:=rfl;have has:(az.arr te [.int .i64] xs true i).has [] true (.arr ⟨te,[.int .i64],xs⟩):=adq;have akZ:Ar.aA w (ρ r) [] ⟨te,[.int .i64],xs⟩:=h.blk r _ [] true _ hr has;have aah:bY M w0 w (ρ r [])/\Whole w (ρ r []) te:=h.own r _ [] _ hr has hv;have hlt:=h.lt r _ [] true _ hr has hv;obtain⟨hm,hc⟩:=adk akZ;have hH:=ads aah.1.fz hc;have hlen:xs.length<=(ρ r []).cap:=akZ.len hv;have aeE:∀ (r1:Nat) (g1:az) π o B,rg[r1]?=some g1->g1.has π o B->r1≠r->(ρ r1 π).aC=false->(grow (putRow ade (Sort.ahead w n) (ρ r []).b (ρ r []).off ys.toArray) os).heap[(ρ r1 π).b]?=w.heap[(ρ r1 π).b]?:=fun r1 g1 π o B e1 k1 hne v1=>
  adx (h.lt r1 g1 π o B e1 k1 v1) fun e=>h.dj r r1 _ g1 [] π o _ B hr e1 has k1 hv v1 (fun hh=>hne hh.1.symm) e.symm
 have mT:∀ {r1:Nat} {g1:az} {π o B},(rg.set r (.arr te [.int .i64] ys true i))[r1]?=some g1->g1.has π o B->(r1=r/\π=[]/\B= .arr ⟨te,[.int .i64],ys⟩/\o=true)\/(r1≠r/\rg[r1]?=some g1):=by
  intro r1 g1 π o B e1 k1;rcases cF e1 with⟨rfl,rfl,_⟩|⟨hne,e1⟩
  ·obtain⟨rfl,rfl,rfl⟩:=aIc cZ k1;exact .inl ⟨rfl,rfl,rfl,rfl⟩
  ·exact .inr ⟨hne,e1⟩
 have aec:∀ {r1:Nat} {g1:az} {π o B},(rg.set r (.arr te [.int .i64] ys true i))[r1]?=some g1->g1.has π o B->∃ g2 B2,rg[r1]?=some g2/\g2.has π o B2:=by
  intro r1 g1 π o B e1 k1;rcases mT e1 k1 with⟨rfl,rfl,rfl,rfl⟩|⟨_,e1⟩
  ·exact⟨_,_,hr,has⟩
  ·exact⟨_,_,e1,k1⟩
 refine⟨fun r1 g1 π o B e1 k1=>?_,fun r1 g1 π o B e1 k1 v1=>?_,fun r1 g1 π B e1 k1 v1=>?_,fun r1 r2 g1 g2 π aW o' B B' e1 e2 k1 k2 v1 v2 hne=>?_⟩
 ·rcases mT e1 k1 with⟨rfl,rfl,rfl,rfl⟩|⟨hne,e1⟩
  ·show Ar.aA _ (ρ r1) [] ⟨te,[.int .i64],ys⟩;refine aeF hm hv (by omega) fun k hk=>?_
   rw[cell?_grow _ _ _ (by simpa[RI.at]using hlt)]
   show(putRow ade (Sort.ahead w n) (ρ r1 []).b (ρ r1 []).off ys.toArray).cell? ⟨(ρ r1 []).b,(ρ r1 []).off+k,none⟩=_;rw[cell?_putRow ade (Sort.ahead w n) _ _ xs.toArray ys.toArray (fun j hj=>hH j hj) (by simpa using hl) k (by simpa using hk)]
   simp[hk]
  ·exact(h.blk r1 g1 π o B e1 k1).cX (fun _=>rfl) (Nat.le_refl _) (fun _ _ _=>rfl) (fun v1=>aeE r1 g1 π o B e1 k1 hne v1)
 ·obtain⟨g2,B2,a1,a2⟩:=aec e1 k1;refine Nat.lt_of_lt_of_le (h.lt r1 g2 π o B2 a1 a2 v1) ?_;simp[Sort.ahead]
 ·rcases mT e1 k1 with⟨rfl,rfl,rfl,_⟩|⟨hne,e1⟩
  ·refine⟨⟨aah.1.own,fun s=>?_⟩,aah.2.cap,?_⟩
   ·rw[frozen?_grow _ _ _ (by simpa using hlt),frozen?_putRow]
    exact aah.1.fz s
   ·obtain⟨cur,h1,h2⟩:=aah.2.blk;exact⟨_,aev h1,by simp[putCells,h2]⟩
  ·exact(h.own r1 g1 π B e1 k1 v1).cX (aeE r1 g1 π true B e1 k1 hne v1)
 ·obtain⟨g3,B3,a1,a2⟩:=aec e1 k1;obtain⟨g4,B4,a3,a4⟩:=aec e2 k2;exact h.dj r1 r2 g3 g4 π aW o' B3 B4 a1 a3 a2 a4 v1 v2 hne
theorem adI {rg:List az} {r:Nat} {te:TypeId} {xs ys:List Int} {i:Bool} (hr:rg[r]?=some (.arr te [.int .i64] xs true i)) (hv:(ρ r []).aC=false) {n:Nat} {os:Array Obj}:
 Frame (fun b=>∃ (r:Nat) (g:az) (π:Path) (B:aD0),rg[r]?=some g/\g.has π true B/\(ρ r π).aC=false/\(ρ r π).b=b) w (grow (putRow ade (Sort.ahead w n) (ρ r []).b (ρ r []).off ys.toArray) os) where
 os:=rfl
 tape:=rfl
 output:=rfl
 size:=by simp[Sort.ahead]
 block:=fun k hk hne=>adx hk fun e=>hne ⟨r,_,[],_,hr,adq,hv,e.symm⟩
theorem ad5 {rg:List az} {r:Nat} {g:az} (h:rg.getD r .dead=g) (hd:g≠ .dead):rg[r]?=some g:=by
 rw[List.getD_eq_getElem?_getD]at h;cases hx:rg[r]? with
 |none=>rw[hx]at h;exact absurd h.symm hd
 |some a=>rw[hx]at h;exact congrArg some h
theorem afO {f:FuncId} {B:Nat} {F:List Int->List Int} (hl:∀ xs,(F xs).length=xs.length)
 (h0:∀ p cap w,Calls P f #[.slice p 0 cap] w fun e w'=>e= .returned (.tuple #[])/\w'=w)
 (h1:∀ blk off cap (zs:List Int) w,Holds ade w blk off zs.toArray->blk<w.heap.size->zs.length<=cap->zs.length<=B->
   Calls P f #[.slice (some ⟨blk,off,none⟩) zs.length cap] w fun e w'=>e= .returned (.tuple #[])/\∃ n os,w'=grow (putRow ade (Sort.ahead w n) blk off (F zs).toArray) os):au.Ok P Γ f (agi B F):=by
 intro args rg K hC M w0 ρ w vs hlo qR nv hargs s8;split at hC;rotate_left
 ·exact hC.elim
 rename_i r n;split at hC;rotate_left
 ·exact hC.elim
 rename_i te KJ i hx;obtain⟨xs,hxs⟩:∃ xs:List Int,xs=KJ:=⟨KJ,rfl⟩;subst hxs;obtain⟨⟨rfl,hB⟩,hK⟩:=hC;have hr:=ad5 hx (by simp)
 have has:(az.arr te [.int .i64] xs true i).has [] true (.arr ⟨te,[.int .i64],xs⟩):=adq;have akZ:Ar.aA w (ρ r) [] ⟨te,[.int .i64],xs⟩:=s8.blk r _ [] true _ hr has;obtain⟨v,rfl,hv⟩:∃ v,vs=[v]/\Tm.ok rg.length ρ (.a (.sl r [] 0 (List.length (α:=Int) xs))) v:=by
  cases vs with
  |nil=>exact hargs.elim
  |cons v vs=>cases vs with
   |nil=>exact⟨v,rfl,hargs.1⟩
   |cons=>exact hargs.2.elim
 have hv:r<rg.length/\(ρ r []).head 0 (List.length (α:=Int) xs) v:=hv;cases dV:(ρ r []).aC with
 |true=>
  obtain⟨hz,a,rfl⟩:=hv.2.1 dV;have e:xs=[]:=akZ.aC dV;refine(h0 a 0 w).mono ?_;rintro e' w' ⟨rfl,rfl⟩;refine⟨_,_,_,ρ,rfl,hK,Frame.refl _ _,fun _ _ _=>rfl,fun c hc=>?_,⟨[],rfl,trivial⟩,?_⟩
  ·rw[List.mem_singleton.1 hc];exact hv.1
  ·have e2:F xs=xs:=by
    have:=hl xs;rw[e]at this ⊢;exact List.length_eq_zero_iff.1 this
   simp only[List.foldl_cons,List.foldl_nil,List.append_nil,List.length_nil,Nat.add_zero];rw[e2,show rg.set r (.arr te [.int .i64] xs true i)=rg by
    obtain⟨h2,h3⟩:=List.getElem?_eq_some_iff.1 hr;rw[<-h3];exact List.set_getElem_self h2]
   exact s8
 |false=>
  obtain⟨hcap,a,rfl,ha⟩:=hv.2.2 dV;obtain⟨hm,hc⟩:=adk akZ;have aah:bY M w0 w (ρ r [])/\Whole w (ρ r []) te:=s8.own r _ [] _ hr has dV;have hlt:=s8.lt r _ [] true _ hr has dV;have hH:=ads aah.1.fz hc;have fin:∀ n os,∃ (v:Value) (ch:List (Nat×az)) (res:cM) (ρ':Keys),Ending.returned (.tuple #[])= .returned v/\K ch res/\
   Frame (fun b=>∃ (r:Nat) (g:az) (π:Path) (B:aD0),rg[r]?=some g/\g.has π true B/\(ρ r π).aC=false/\(ρ r π).b=b) w (grow (putRow ade (Sort.ahead w n) (ρ r []).b (ρ r []).off (F xs).toArray) os)/\
   (∀ r,r<rg.length->∀ π,ρ' r π=ρ r π)/\(∀ c∈ch,c.1<rg.length)/\(res.tm.oF (fun r=>rg.length+r)).ok (rg.length+res.rg.length) ρ' v/\
   cA M w0 (rg.length+res.rg.length) ρ' (ch.foldl (fun rg c=>rg.set c.1 c.2) rg++res.rg) (grow (putRow ade (Sort.ahead w n) (ρ r []).b (ρ r []).off (F xs).toArray) os):=fun n os=>by
   refine⟨_,_,_,ρ,rfl,hK,adI hr dV,fun _ _ _=>rfl,fun c hc=>?_,⟨[],rfl,trivial⟩,?_⟩
   ·rw[List.mem_singleton.1 hc];exact hv.1
   ·simp only[List.foldl_cons,List.foldl_nil,List.append_nil,List.length_nil,Nat.add_zero];exact s8.ints hr dV (hl xs)
  by_cases hz:(ρ r []).cap=0
  ·
   have e:xs=[]:=List.length_eq_zero_iff.1 (by have:=akZ.len dV;omega)
   have ez:List.length (α:=Int) xs=0:=by rw[e];rfl
   rw[ez];refine(h0 a _ w).mono ?_;rintro e' w' ⟨rfl,rfl⟩;have:=fin 0 #[];have e2:grow (putRow ade (Sort.ahead w' 0) (ρ r []).b (ρ r []).off (F xs).toArray) #[]=w':=by
    have:F xs=xs:=by
     have:=hl xs;rw[e]at this ⊢;exact List.length_eq_zero_iff.1 this
    rw[grow_empty,this,ahead_zero,putRow_self _ _ _ _ _ hH]
   rw[e2]at this;exact this
  ·have e:a=some ⟨(ρ r []).b,(ρ r []).off,none⟩:=by rw[ha (by omega)];unfold RI.at;rw[Nat.zero_mul,Nat.add_zero]
   rw[e];refine(h1 _ _ _ xs w hH hlt (by have:=akZ.len dV;omega) hB).mono ?_
   rintro e' w' ⟨rfl,n,os,rfl⟩;exact fin n os
theorem cA.afV {rg:List az} (h:cA M w0 rg.length ρ rg w) {r:Nat} {g:az} (hr:rg[r]?=some g) (hb:∀ π o B,g.has π o B->∃ A,B= .arr A):
 cA M w0 (rg.length+1) (aE ρ rg.length (ρ r)) (rg.set r .dead++[g]) w:=by
 have h1:=h.weaken hr (CY (M:=M) (w0:=w0) (w:=w) (N:=rg.length) (ρ:=ρ) (r:=r) (g:=g));have hl:(rg.set r .dead).length=rg.length:=by simp
 have old:∀ (r':Nat) (g':az) π o B,(rg.set r .dead)[r']?=some g'->g'.has π o B->r'≠r/\rg[r']?=some g':=by
  intro r' g' π o B h1 h2;rcases cF h1 with⟨_,rfl,_⟩|h1
  ·exact h2.elim
  ·exact h1
 have e:aE ρ rg.length (ρ r)=aE ρ (rg.set r .dead).length (ρ r):=by rw[hl]
 rw[e];refine h1.snoc (Nat.le_succ _) (by rw[hl];omega) ?_ ?_ ?_ ?_ ?_ ?_
 ·intro π o B hB;have:=h.blk r g π o B hr hB;obtain⟨A,rfl⟩:=hb π o B hB;exact Ar.aA.cX (w:=w) (η:=ρ r) (fun σ=>by rw[aF]) (fun _=>rfl) this
 ·intro π o B hB hv;exact h.lt r g π o B hr hB hv
 ·intro π B hB hv;exact h.own r g π B hr hB hv
 ·intro π B hB hv r' g' aW o' B' k1 k2 v';obtain⟨hne,k1⟩:=old r' g' aW o' B' k1 k2;exact h.dj r r' g g' π aW o' B B' hr k1 hB k2 hv v' (fun e=>hne e.1.symm)
 ·intro π o B hB hv r' g' aW B' k1 k2 v';obtain⟨hne,k1⟩:=old r' g' aW true B' k1 k2;exact h.dj r' r g' g aW π o B' B k1 hr k2 hB v' hv (fun e=>hne e.1)
 ·intro π aW o' B B' k k' v v' hne;exact h.dj r r g g π aW o' B B' hr hr k k' v v' (fun e=>hne e.2)
theorem adX {N r:Nat} {te:TypeId} {xs ys:List Int} {i:Bool}:gI M w0 w N ρ r (.arr te [.int .i64] (xs++ys) true i) (.arr te [.int .i64] xs true i):=by
 intro π o B hB;obtain⟨rfl,rfl,rfl⟩:=aIc (tg:=[.int .i64]) rfl hB;refine⟨true,_,adq,id,fun h=>?_,id⟩
 have h:Ar.aA w (ρ r) [] ⟨te,[.int .i64],xs++ys⟩:=h;show Ar.aA w (ρ r) [] ⟨te,[.int .i64],xs⟩;obtain⟨hm,hc⟩:=adk h;refine⟨by simp,hm,fun hv=>(List.append_eq_nil_iff.1 (h.aC hv)).1,fun hv=>?_,fun k hk=>?_⟩
 ·have:(xs++ys).length<=(ρ r []).cap:=h.len hv;rw[List.length_append]at this;show xs.length<=(ρ r []).cap;omega
 ·have hk:k<xs.length:=hk;have:=hc k (by simp only[List.length_append];omega)
  refine⟨[ade (xs.getD k 0)],⟨_,rfl,rfl⟩,fun s y hy=>?_⟩
  cases s with
  |zero=>
   cases hy;rw[hm,Nat.mul_one,Nat.add_zero,this,List.getD_eq_getElem?_getD,List.getD_eq_getElem?_getD,List.getElem?_append_left hk]
  |succ s=>cases hy
theorem afn {f:FuncId} {B:Nat} {F:List Int->List Int} (hl:∀ xs,(F xs).length<=xs.length)
 (h0:∀ p cap w,Calls P f #[.slice p 0 cap] w fun e w'=>e= .returned (.slice p 0 cap)/\w'=w)
 (h1:∀ blk off cap (zs:List Int) w,Holds ade w blk off zs.toArray->blk<w.heap.size->zs.length<=cap->zs.length<=B->
   Calls P f #[.slice (some ⟨blk,off,none⟩) zs.length cap] w fun e w'=>e= .returned (.slice (some ⟨blk,off,none⟩) (F zs).length cap)/\∃ n,w'=putRow ade (Sort.ahead w n) blk off (F zs++List.replicate (zs.length-(F zs).length) 0).toArray):au.Ok P Γ f (afD B F):=by
 intro args rg K hC M w0 ρ w vs hlo qR nv hargs s8;split at hC;rotate_left
 ·exact hC.elim
 rename_i r n;split at hC;rotate_left
 ·exact hC.elim
 rename_i te KJ i hx;obtain⟨xs,hxs⟩:∃ xs:List Int,xs=KJ:=⟨KJ,rfl⟩;subst hxs;obtain⟨⟨rfl,hB⟩,hK⟩:=hC;have hr:=ad5 hx (by simp)
 have has:(az.arr te [.int .i64] xs true i).has [] true (.arr ⟨te,[.int .i64],xs⟩):=adq;have akZ:Ar.aA w (ρ r) [] ⟨te,[.int .i64],xs⟩:=s8.blk r _ [] true _ hr has;obtain⟨v,rfl,hv⟩:∃ v,vs=[v]/\Tm.ok rg.length ρ (.a (.sl r [] 0 (List.length (α:=Int) xs))) v:=by
  cases vs with
  |nil=>exact hargs.elim
  |cons v vs=>cases vs with
   |nil=>exact⟨v,rfl,hargs.1⟩
   |cons=>exact hargs.2.elim
 have hv:r<rg.length/\(ρ r []).head 0 (List.length (α:=Int) xs) v:=hv;have hprefix:∀ w' (zs:List Int),cA M w0 rg.length ρ (rg.set r (.arr te [.int .i64] (F xs++zs) true i)) w'->cA M w0 (rg.length+1) (aE ρ rg.length (ρ r)) (rg.set r .dead++[.arr te [.int .i64] (F xs) true i]) w':=fun w' zs h=>by
  have hg:(rg.set r (.arr te [.int .i64] (F xs++zs) true i))[r]?=some (.arr te [.int .i64] (F xs++zs) true i):=List.getElem?_set_self hv.1;have h2:=h.weaken hg adX;rw[List.set_set]at h2;have AJ:(rg.set r (.arr te [.int .i64] (F xs) true i))[r]?=some (.arr te [.int .i64] (F xs) true i):=List.getElem?_set_self hv.1;have hlen:(rg.set r (.arr te [.int .i64] (F xs) true i)).length=rg.length:=by simp
  have h3:=cA.afV (rg:=rg.set r (.arr te [.int .i64] (F xs) true i)) (by rw[hlen];exact h2) AJ (fun π o B hB=>by
   obtain⟨rfl,rfl,rfl⟩:=aIc (tg:=[.int .i64]) rfl hB;exact⟨_,rfl⟩)
  rw[List.set_set,hlen]at h3;exact h3
 have ae0:∀ c∈[(r,az.dead)],c.1<rg.length:=fun c hc=>by rw[List.mem_singleton.1 hc];exact hv.1
 cases dV:(ρ r []).aC with
 |true=>
  obtain⟨hz,a,rfl⟩:=hv.2.1 dV;have e:xs=[]:=akZ.aC dV;have e2:F xs=[]:=by
   have:=hl xs;rw[e]at this ⊢;exact List.length_eq_zero_iff.1 (Nat.le_zero.1 this)
  refine(h0 a 0 w).mono ?_;rintro e' w' ⟨rfl,rfl⟩;refine⟨_,_,_,aE ρ rg.length (ρ r),rfl,hK,Frame.refl _ _,fun r1 h1 π=>by rw[bB h1],ae0,?_,?_⟩
  ·show rg.length+0<rg.length+1/\(aE ρ rg.length (ρ r) (rg.length+0) []).head 0 (List.length (α:=Int) (F xs)) _;rw[Nat.add_zero,aF,e2];exact⟨Nat.lt_succ_self _,fun _=>⟨rfl,a,rfl⟩,fun h=>by rw[dV]at h;cases h⟩
  ·refine hprefix w' [] ?_;rw[List.append_nil,e2,<-e];rw[show rg.set r (.arr te [.int .i64] xs true i)=rg by
    obtain⟨h2,h3⟩:=List.getElem?_eq_some_iff.1 hr;rw[<-h3];exact List.set_getElem_self h2]
   exact s8
 |false=>
  obtain⟨hcap,a,rfl,ha⟩:=hv.2.2 dV;obtain⟨hm,hc⟩:=adk akZ;have aah:bY M w0 w (ρ r [])/\Whole w (ρ r []) te:=s8.own r _ [] _ hr has dV;have hlt:=s8.lt r _ [] true _ hr has dV;have hH:=ads aah.1.fz hc;have aaj:=akZ.len dV;have aaj:xs.length<=(ρ r []).cap:=aaj;have Si:=hl xs;by_cases hz:(ρ r []).cap=0
  ·have e:xs=[]:=List.length_eq_zero_iff.1 (by omega)
   have e2:F xs=[]:=List.length_eq_zero_iff.1 (by omega)
   have ez:List.length (α:=Int) xs=0:=by rw[e];rfl
   rw[ez];refine(h0 a _ w).mono ?_;rintro e' w' ⟨rfl,rfl⟩;refine⟨_,_,_,aE ρ rg.length (ρ r),rfl,hK,Frame.refl _ _,fun r1 h1 π=>by rw[bB h1],ae0,?_,?_⟩
   ·show rg.length+0<rg.length+1/\(aE ρ rg.length (ρ r) (rg.length+0) []).head 0 (List.length (α:=Int) (F xs)) _;rw[Nat.add_zero,aF,e2];exact⟨Nat.lt_succ_self _,fun h=>by(rw[dV]at h;cases h),fun _=>⟨by simp,a,rfl,fun h=>by omega⟩⟩
   ·refine hprefix w' [] ?_;rw[List.append_nil,e2,<-e];rw[show rg.set r (.arr te [.int .i64] xs true i)=rg by
     obtain⟨h2,h3⟩:=List.getElem?_eq_some_iff.1 hr;rw[<-h3];exact List.set_getElem_self h2]
    exact s8
  ·have e:a=some ⟨(ρ r []).b,(ρ r []).off,none⟩:=by rw[ha (by omega)];unfold RI.at;rw[Nat.zero_mul,Nat.add_zero]
   rw[e];refine(h1 _ _ _ xs w hH hlt (by omega) hB).mono ?_
   rintro e' w' ⟨rfl,n,rfl⟩;have hR:=s8.ints (ys:=F xs++List.replicate (xs.length-(F xs).length) 0) hr dV (by rw[List.length_append,List.length_replicate];omega) (n:=n) (os:=#[])
   rw[grow_empty]at hR;have af8:=adI (ys:=F xs++List.replicate (xs.length-(F xs).length) 0) hr dV (w:=w) (n:=n) (os:=#[]);rw[grow_empty]at af8;refine⟨_,_,_,aE ρ rg.length (ρ r),rfl,hK,af8,fun r1 h1 π=>by rw[bB h1],ae0,?_,hprefix _ _ hR⟩
   show rg.length+0<rg.length+1/\(aE ρ rg.length (ρ r) (rg.length+0) []).head 0 (List.length (α:=Int) (F xs)) _;rw[Nat.add_zero,aF];exact⟨Nat.lt_succ_self _,fun h=>by(rw[dV]at h;cases h),fun _=>⟨by omega,_,rfl,fun _=>by unfold RI.at;rw[Nat.zero_mul,Nat.add_zero]⟩⟩
end
end Go.Sy
end
