/-
  Texts of the claims: Sy4. No condition: lemmas and contracts.
-/
import Derived.Test.YtccnimhgjjnmoaaSy3
import Derived.RangeFuncLeaves
import Derived.RangeFuncRecord
import Derived.TacticsIn
import Derived.LoopNIn
import Derived.Sort.LoopGhostIn
import Derived.Scope
set_option linter.all false
set_option maxRecDepth 100000
set_option maxHeartbeats 40000000
section
namespace Go.Sy
open Go Go.RowKit
universe u
section
variable {P:Program} {Γ:bn} {E:Env} {cl:Cl} {M:Nat->Prop} {w0:World} {ρ:Keys} {st:St} {vs:Fv} {a:Act} {w:World}
theorem Rel.KA (h:Rel Γ M w0 ρ st vs a w) {d:Nat} {x:Tm} (hx:x.ok st.rg.length ρ (a.tmps.getD d undef)):Rel Γ M w0 ρ (st.put (some d) x) vs a w:=by
 have e:a.tmps.setIfInBounds d (a.tmps.getD d undef)=a.tmps:=by
  apply Array.ext (by simp)
  intro i h1 h2;rw[Array.getElem_setIfInBounds (by simpa using h2)]
  split
  ·rename_i hi;subst hi;simp[Array.getD,h2]
  ·rfl
 have:=h.tm.put d hx;rw[e]at this;exact⟨this,h.fr,h.df,h.rs,h.bl,h.gl,h.gn⟩
theorem aBu (h:Rel Γ M w0 ρ st vs a w) (t:Nat):(st.tm.get t).ok st.rg.length ρ (a.tmps.getD t undef):=h.tm.h t
theorem pP {ops:Array Oper} {j d:Nat} (hd:(ops[j]?).bind (·.dst)=some d) {b:Bool} (hb:a.tmps.getD d undef= .bool b):yielded ops a.tmps j=some b:=by
 unfold yielded;rw[hd];cases hh:a.tmps[d]? with
 |none=>simp[Array.getD_eq_getD_getElem?,hh,undef]at hb
 |some y=>
  have:y= .bool b:=by simpa[Array.getD_eq_getD_getElem?,hh]using hb
  subst this;simp[hh]
theorem FH {ops:Array Oper} {j d:Nat} (hd:(ops[j]?).bind (·.dst)=some d) (hb:a.tmps.getD d undef=undef):yielded ops a.tmps j=none:=by
 unfold yielded;rw[hd];cases hh:a.tmps[d]? with
 |none=>simp[hh]
 |some y=>
  have:y=undef:=by simpa[Array.getD_eq_getD_getElem?,hh]using hb
  subst this;simp[hh,undef]
theorem dz (h:Rel Γ M w0 ρ st vs a w) {ops:Array Oper} {o:Oper} {ni no:St->Prop} {cc:Bool} (he:cV cc st ops o.guard ni no):
 (∃ an,ni an/\Rel Γ M w0 ρ an vs a w/\Region.wanted o (yielded ops a.tmps)=true)\/(∃ an,no an/\Rel Γ M w0 ρ an vs a w/\Region.wanted o (yielded ops a.tmps)=false):=by
 unfold cV at he;unfold Region.wanted;split at he
 ·rename_i hg;exact .inl ⟨st,he,h,by simp[hg]⟩
 ·rename_i j want hg;simp only[hg];split at he
  ·exact he.elim
  ·rename_i d hd;have hok:=aBu h d;split at he
   ·rename_i ht;rw[ht]at hok;rw[FH hd hok];exact .inr ⟨st,he,h,by simp⟩
   ·rename_i ht;rw[ht]at hok;rw[pP hd hok];cases want with
    |true=>exact .inl ⟨st,he,h,by simp⟩
    |false=>exact .inr ⟨st,he,h,by simp⟩
   ·rename_i ht;rw[ht]at hok;rw[pP hd hok];cases want with
    |true=>exact .inr ⟨st,he,h,by simp⟩
    |false=>exact .inl ⟨st,he,h,by simp⟩
   ·rename_i b ht;rw[ht]at hok;have hok:a.tmps.getD d undef= .bool b:=hok.1;rw[pP hd hok];have eT:b=true->Rel Γ M w0 ρ (st.put (some d) (.a .tt)) vs a w:=fun hb=>h.KA (by rw[hok,hb];rfl)
    have Kl:b=false->Rel Γ M w0 ρ (st.put (some d) (.a .ff)) vs a w:=fun hb=>h.KA (by rw[hok,hb];rfl)
    split at he
    ·cases b<;>cases want<;>simp only[St.aZ]at he
     ·exact .inl ⟨_,he.2,Kl rfl,by simp⟩
     ·exact .inr ⟨_,he.2,Kl rfl,by simp⟩
     ·exact .inr ⟨_,he.2,eT rfl,by simp⟩
     ·exact .inl ⟨_,he.2,eT rfl,by simp⟩
    cases want with
    |true=>
     simp only[St.aZ]at he;cases b with
     |true=>exact .inl ⟨_,(he.1 rfl).2,eT rfl,by simp⟩
     |false=>exact .inr ⟨_,(he.2 rfl).2,Kl rfl,by simp⟩
    |false=>
     simp only[St.aZ]at he;cases b with
     |true=>exact .inr ⟨_,(he.1 rfl).2,eT rfl,by simp⟩
     |false=>exact .inl ⟨_,(he.2 rfl).2,Kl rfl,by simp⟩
   ·exact he.elim
theorem iM (hP:aL P Γ E) (hC:ju P Γ E cl) {ops:Array Oper} {K:St->Prop} {Q:Exit->Act->World->Prop} (hK:∀ an a' w' ρ',K an->Rel Γ M w0 ρ' an vs a' w'->Q .normal a' w'):
 ∀ (l:List Oper) (st:St) (a:Act) (w:World) (ρ:Keys),lZ E cl ops l st K->Rel Γ M w0 ρ st vs a w->wpList P ops Q l a w
 |[],st,a,w,ρ,he,h=>hK _ _ _ _ he h
 |o::rest,st,a,w,ρ,he,h=>by
  change cV E.aN st ops o.guard (fun st=>gO E cl st o (fun st=>lZ E cl ops rest st K)) (fun st=>st.aBS o.dst (.a .un) (fun st=>lZ E cl ops rest st K))at he
  unfold wpList;rcases dz h he with⟨an,hy,h',hw⟩|⟨an,hn,h',hw⟩
  ·rw[if_pos hw];exact .inl (oZ hP hC h' hy fun oM a2 w2 nP hk hr=>iM hP hC hK rest oM a2 w2 nP hk hr)
  ·rw[if_neg (by rw[hw];simp)]
   simp only[St.aZ]at hn;exact iM hP hC hK rest _ _ _ _ hn.2 (h'.put o.dst (x:=.a .un) (y:=undef) rfl)
theorem At.fun {N:Nat} {x:At} {y y':Value} (hs:x.sure=true) (h:x.ok N ρ y) (h':x.ok N ρ y'):y=y':=by
 cases x<;>first|(simp[At.sure]at hs;done)|exact h.trans h'.symm|exact h.1.trans h'.1.symm|exact h.2.trans h'.2.symm|exact h.2.2.trans h'.2.2.symm
theorem sE {α:Type} {R:α->Value->Prop} {f:α->Bool} (hf:∀ x y y',f x=true->R x y->R x y'->y=y'):∀ {l:List α} {ys ys':List Value},bZ f l=true->be R l ys->be R l ys'->ys=ys'
 |[],[],[],_,_,_=>rfl
 |x::l,y::ys,y'::ys',hs,h,h'=>by
  simp only[bZ]at hs;split at hs
  ·rename_i hx;rw[hf x y y' hx h.1 h'.1,sE hf hs h.2 h'.2]
  ·cases hs
theorem C1.fun {N:Nat} {x:C1} {y y':Value} (hs:x.sure=true) (h:x.ok N ρ y) (h':x.ok N ρ y'):y=y':=by
 cases x with
 |a x=>exact At.fun hs h h'
 |agg l=>
  obtain⟨ys,rfl,h⟩:=h;obtain⟨ys',rfl,h'⟩:=h';rw[sE (fun _ _ _=>At.fun) hs h h']
theorem Tm.fun {N:Nat} {x:Tm} {y y':Value} (hs:x.sure=true) (h:x.ok N ρ y) (h':x.ok N ρ y'):y=y':=by
 cases x with
 |a x=>exact At.fun hs h h'
 |agg l=>
  obtain⟨ys,rfl,h⟩:=h;obtain⟨ys',rfl,h'⟩:=h';rw[sE (fun _ _ _=>At.fun) hs h h']
 |bF l=>
  obtain⟨ys,rfl,h⟩:=h;obtain⟨ys',rfl,h'⟩:=h';rw[sE (fun _ _ _=>C1.fun) hs h h']
theorem GM (hE:bE P Γ E) (h:Rel Γ M w0 ρ st vs a w) {o:Oper} {q:List aa} {x:Tm} (he:oo E st o=some (q,x)) (hq:bW q) (hc:calm o x=true):
 ∃ y,(∀ w1,Below w.heap.size w w1->(execOp a.eval o).run P w1= .ok (.value y) w1)/\x.ok st.rg.length ρ y:=by
 obtain⟨y,hr,hy⟩:=qy hE h he hq;unfold calm at hc;split at hc
 ·rename_i hro;unfold BH at hro;split at hro
  ·rename_i u hop;refine⟨y,fun w1 _=>?_,hy⟩
   simp only[execOp,hop,Sem.run_pure,Result.ok.injEq]at hr ⊢;exact⟨hr.1,trivial⟩
  ·rename_i u hop;refine⟨y,fun w1 _=>?_,hy⟩
   simp only[execOp,hop,Sem.run_pure,Result.ok.injEq]at hr ⊢;exact⟨hr.1,trivial⟩
  ·rename_i t ad hop;simp only[oo,hop]at he;split at he
   ·rename_i hx;obtain⟨y,h1,h2⟩:=mE hE h (ax h hx) he hq;exact⟨y,fun w1 hw=>by simp[execOp,hop,h1 w1 hw],h2⟩
   ·cases he
  ·rename_i t i hop;refine⟨y,fun w1 _=>?_,hy⟩
   have:(Instr.extract (a.eval t) i).run P w= .ok y w:=by
    simp only[execOp,hop]at hr;cases hh:(Instr.extract (a.eval t) i).run P w with
    |ok v w'=>rw[Sem.run_bind,hh]at hr;simp at hr;rw[hr.1,hr.2]
    |halt e w'=>rw[Sem.run_bind,hh]at hr;cases hr
   have:(Instr.extract (a.eval t) i).run P w1= .ok y w1:=by
    unfold Instr.extract at this ⊢;split at this<;>(try split at this)<;>simp_all
   simp[execOp,hop,this]
  ·rename_i t u lo hi hop;simp only[oo,hop]at he;split at he
   ·rename_i hx;obtain⟨y,h1,h2⟩:=pR hE h (ax h hx) he hq;exact⟨y,fun w1 _=>by simp[execOp,hop,h1 w1],h2⟩
   ·cases he
  ·rename_i t m n hop;simp only[oo,hop]at he;split at he
   ·rename_i kt et ht;split at he
    ·rename_i k c' x k' n' hk Nd hx hi;split at he
     ·rename_i es hs hm;simp only[Option.some.injEq,Prod.mk.injEq]at he;obtain⟨rfl,rfl⟩:=he;obtain⟨hu,_⟩:=hE.mb ht;have No:P.underlying kt=some (.int k):=by have:=hE.ty kt;rw[hk]at this;exact this.1
      obtain rfl:=akr hs;have aBF:a.eval _= .int k' n':=(ax h hi).1;obtain⟨y,h1,h2⟩:=A9 h hu No (hE.sc et c' Nd) hm (ax h hx) n';exact⟨y,fun w1 mL=>by simp[execOp,hop,aBF,h1 w1 mL],h2⟩
     ·cases he
    ·rename_i r l hx hi;split at he
     ·rename_i t' kk e tg es o i aBH e' bX _ hg hk hv;split at he
      ·rename_i q1 q2 q3 k _ _ _ Nd;simp only[Option.some.injEq,Prod.mk.injEq]at he;obtain⟨rfl,rfl⟩:=he;have hin:=hq.1;simp only[aa.ae]at hin;obtain⟨y,h1,h2⟩:=rj hE h ht hg hk hv q1.down Nd hin (ax h hx) (ax h hi);exact⟨y,fun w1 mL=>by simp[execOp,hop,h1 w1 mL],h2⟩
      ·cases he
     ·cases he
    ·cases he
   ·cases he
  ·cases hro
 ·split at hc
  ·rename_i Nt;obtain⟨y,h1,h2⟩:=Aj hE h Nt he hq;exact⟨y,fun w1 _=>h1 w1,h2⟩
  ·exact⟨y,fun w1 hw=>by
    obtain⟨y',hr',hy'⟩:=qy hE (h.cX hw) he hq;rw[hr',Tm.fun hc hy' hy],hy⟩
theorem agG (hP:aL P Γ E) {w1:World} (h:Rel Γ M w0 ρ st vs a w1) {o:Oper} {q:List aa} {x:Tm} (he:kp E st o=some (q,x)) (hq:bW q) (hs:calm o x=true):
 ∃ v,x.ok st.rg.length ρ v/\∀ w,Below w1.heap.size w1 w->o.quietAt P a (fun w'=>Below w.heap.size w w') w v:=by
 unfold kp at he;split at he
 ·rename_i c iN;have hop:o.op= .call c:=by
   unfold oc at iN;split at iN
   ·rename_i c' hop;split at iN
    ·simp only[Option.some.injEq]at iN;subst iN;exact hop
    ·cases iN
   ·cases iN
  have hs:x.sure=true:=by
   unfold calm BH oD at hs;rw[hop]at hs;exact hs
  split at he
  ·rename_i fo agL;split at he
   ·rename_i f pre aBd args AF hargs;obtain⟨ps,us,hv,hpre,aaf⟩:=ol h AF;have hall:=hpre.append ((kJ h hargs).append aaf);split at he
    ·rename_i F hF;have hct:au.Ok P Γ f (.fn F):=hP.env.ct f _ hF;have call:∀ w,Below w1.heap.size w1 w->Calls P f (ps++((c.args.toList.map a.eval)++us)).toArray w fun e w'=>∃ v,e= .returned v/\x.ok st.rg.length ρ v/\Below w.heap.size w w':=fun w hw=>
      hct _ _ _ _ he hq M w0 ρ w _ (h.cX hw).bl.size (fun b hb=>Nat.lt_of_lt_of_le (h.gn b hb).2 (h.cX hw).bl.size) (h.cX hw).gl hall (h.cX hw).rs
     obtain⟨e,w',fr,⟨v,_,PW,_⟩,_⟩:=call w1 (Below.refl _ _) [];refine⟨v,PW,fun w hw=>?_⟩
     unfold Oper.quietAt;rw[mY (hP.fn f _ hF) hop agL hv];refine⟨rfl,(call w hw).mono ?_⟩;rintro e w' ⟨v',rfl,j6,hb⟩;exact⟨by rw[Tm.fun hs j6 PW],hb⟩
    ·cases he
   ·cases he
  ·cases he
 ·obtain⟨y,hr,hy⟩:=GM hP.env h he hq hs;refine⟨y,hy,fun w hw=>?_⟩
  unfold Oper.quietAt;rw[hr w hw];exact⟨rfl,rfl⟩
theorem BG {o:Oper} {a:Act} {C C':World->Prop} {w:World} {v:Value} (hc:∀ w',C w'->C' w') (h:o.quietAt P a C w v):o.quietAt P a C' w v:=by
 unfold Oper.quietAt at*;generalize (execOp a.eval o).run P w=r at*;cases r with
 |ok n w'=>
  cases n<;>simp only[Oper.quietUpon]at h ⊢<;>try exact h
  exact⟨h.1,h.2.mono fun e w'' ⟨he,hw⟩=>⟨he,hc _ hw⟩⟩
 |halt x w'=>exact h
theorem ES (hP:aL P Γ E) {w1:World} (h:Rel Γ M w0 ρ st vs a w1) {o:Oper} {q:List aa} {x:Tm} (he:kp E st o=some (q,x)) (hq:bW q) (hs:calm o x=true):
 ∃ v,x.ok st.rg.length ρ v/\∀ w,Below w1.heap.size w1 w->o.quietAt P a (fun w'=>Below w1.heap.size w1 w') w v:=by
 obtain⟨v,h1,h2⟩:=agG hP h he hq hs;exact⟨v,h1,fun w hw=>BG (fun w' hb=>hw.trans (hb.mono hw.size)) (h2 w hw)⟩
theorem qz (hP:aL P Γ E) {w1:World} {ops:Array Oper} {K:St->Prop} {Qf:Act->Prop} (hK:∀ an a',K an->Rel Γ M w0 ρ an vs a' w1->Qf a'):
 ∀ (l:List Oper) (st:St) (a:Act),Ke E ops l st K->Rel Γ M w0 ρ st vs a w1->wpQuiet P ops (fun w'=>Below w1.heap.size w1 w') Qf l a
 |[],st,a,he,h=>hK _ _ he h
 |o::rest,st,a,he,h=>by
  change cV E.aN st ops o.guard
   (fun st=>match kp E st o with
     |some (q,x)=>aBP E.aN q (match calm o x with|true=>st.iF E o x (fun st=>Ke E ops rest st K)|false=>False)
     |none=>False)
   (fun st=>st.aBS o.dst (.a .un) (fun st=>Ke E ops rest st K))at he
  unfold wpQuiet;rcases dz h he with⟨an,hy,h',hw⟩|⟨an,hn,h',hw⟩
  ·rw[if_pos hw];split at hy
   ·rename_i q x hp;rw[aV]at hy;obtain⟨hq,hy⟩:=hy;split at hy
    ·rename_i hs;rw[St.gZ]at hy;obtain⟨v,hv,hall⟩:=ES hP h' hp hq hs;exact⟨v,hall,qz hP hK rest _ _ hy.2 (h'.put o.dst hv)⟩
    ·exact hy.elim
   ·exact hy.elim
  ·rw[if_neg (by rw[hw];simp)]
   simp only[St.aZ]at hn;exact qz hP hK rest _ _ hn.2 (h'.put o.dst (x:=.a .un) (y:=undef) rfl)
def dW (P:Program) (ops:Array Oper) (S:World->Prop) (o:Oper) (v:Value) (a:Act):Prop:=
 (Region.wanted o (yielded ops a.tmps)=true/\∀ w,S w->o.quietAt P a (fun w'=>Below w.heap.size w w') w v)\/
 (Region.wanted o (yielded ops a.tmps)=false/\v=undef)
theorem dW.of_same {ops:Array Oper} {S:World->Prop} {o:Oper} {v:Value} {a a':Act} (hy:dW P ops S o v a) (he:execOp a'.eval o=execOp a.eval o)
 (hw:Region.wanted o (yielded ops a'.tmps)=Region.wanted o (yielded ops a.tmps)):dW P ops S o v a':=by
 unfold dW Oper.quietAt at*;rw[he,hw];exact hy
theorem dW.sub {ops:Array Oper} {S S':World->Prop} {o:Oper} {v:Value} {a:Act} (hs:∀ w,S' w->S w) (hy:dW P ops S o v a):dW P ops S' o v a:=
 hy.imp (fun⟨h1,h2⟩=>⟨h1,fun w hw=>h2 w (hs w hw)⟩) id
def eU (S:World->Prop):Prop:=∀ w w',S w->Below w.heap.size w w'->S w'
theorem eU.below (w:World):eU (fun w'=>Below w.heap.size w w'):=fun _ _ h h'=>h.trans (h'.mono h.size)
theorem dW.wpOp {ops:Array Oper} {S:World->Prop} {i:Nat} {o:Oper} {v:Value} {Q:Exit->Act->World->Prop} (hi:ops[i]?=some o) (hS:eU S) (hy:dW P ops S o v a) {K:Act->World->Prop}
 (h:∀ w',S w'->K (a.put o.dst v) w') {w:World} (hw:S w):wpOp P ops Q i K a w:=by
 unfold Go.wpOp;simp only[hi];rcases hy with⟨fS,hv⟩|⟨fS,rfl⟩
 ·simp only[fS,if_true];refine .inl ?_;have h3:=hv w hw;unfold Oper.quietAt at h3;unfold Oper.wp;generalize (execOp a.eval o).run P w=r at*;cases r with
  |ok n w'=>
   cases n<;>simp only[Oper.quietUpon]at h3<;>simp only[Oper.upon]
   case value u=>obtain⟨e1,e2⟩:=h3;rw[e1,e2];exact h _ hw
   case skip=>obtain⟨e1,e2⟩:=h3;rw[e1,<-e2];exact h _ hw
   case enter f args=>
    obtain⟨e1,hc⟩:=h3;rw[e1];exact hc.mono fun e w'' ⟨he,QI⟩=>by subst he;exact h _ (hS _ _ hw QI)
  |halt x w'=>simp only[Oper.quietUpon]at h3
 ·simp only[fS,Bool.false_eq_true,if_false];exact h _ hw
theorem If {ops:Array Oper} {S:World->Prop} {j:Nat} {oi oj:Oper} {v:Value} {Q:Exit->Act->World->Prop} (hj:ops[j]?=some oj) (hap:oi.apart ops oj=true)
 (hsi:∀ cs b,oi.op≠ .select cs b) (hsj:∀ cs b,oj.op≠ .select cs b) (hQ:∀ c a w,¬Q (.panic c) a w) {K:Act->World->Prop} {a:Act} {w:World}
 (hy:dW P ops S oi v a) (h:wpOp P ops Q j K (a.put oi.dst v) w):wpOp P ops Q j (fun a' w'=>dW P ops S oi v a'/\K (a'.put oi.dst v) w') a w:=by
 obtain⟨h1,h2,h3⟩:=Oper.apart_spec hap;have keep:∀ (a:Act),dW P ops S oi v a->∀ u,dW P ops S oi v (a.put oj.dst u):=fun a hy u=>
  hy.of_same (execOp_put oi hsi a oj.dst u h3) (wanted_put oi a oj.dst u h3)
 unfold wpOp at*;simp only[hj]at*;rw[wanted_put oj a oi.dst v h1]at h;split
 ·rename_i hw;simp only[hw,if_true]at h;rcases h with h|⟨hasks,O4⟩;case inr=>exact .inr ⟨by unfold Oper.asks at*;rw[execOp_put oj hsj a oi.dst v h1]at hasks;exact hasks,O4⟩
  refine .inl ?_;unfold Oper.wp at*;rw[execOp_put oj hsj a oi.dst v h1]at h;generalize (execOp a.eval oj).run P w=r at*;cases r with
  |ok n w'=>
   cases n<;>simp only[Oper.upon]at h ⊢
   case value u=>exact⟨keep a hy u,by rw[<-Act.put_comm a v u h2];exact h⟩
   case skip=>exact⟨keep a hy _,by rw[<-Act.put_comm a v undef h2];exact h⟩
   case defer d=>
    refine⟨keep {a with defers:=d::a.defers} (hy.of_same rfl rfl) _,?_⟩;rw[<-Act.put_comm _ v undef h2,<-Act.put_defers];exact h
   case enter f args=>
    refine Calls.mono h fun e w'' he=>?_
    cases e with
    |returned u=>exact⟨keep a hy u,by rw[<-Act.put_comm a v u h2];exact he⟩
    |panicked c=>exact absurd he (hQ _ _ _)
    |outgrown=>exact he
   case row row args=>exact Rows.mono h fun u w'' he=>⟨keep a hy u,by rw[<-Act.put_comm a v u h2];exact he⟩
  |halt x w'=>
   cases x<;>simp only[Oper.upon]at h ⊢
   case panic u=>exact absurd h (hQ _ _ _)
 ·rename_i hw;simp only[hw]at h;exact⟨keep a hy _,by rw[<-Act.put_comm a v undef h2];exact h⟩
def fE (P:Program) (ops:Array Oper) (Q:Exit->Act->World->Prop) (n:Nat) (L:Array Bool->Act->World->Prop):Nat->(World->Prop)->Array Bool->Act->Prop
 |0,S,listed,a=>∀ w,S w->L listed a w
 |f+1,S,listed,a=>Region.ready .any ops listed≠[]/\∀ i∈Region.ready .any ops listed,i<n/\
   ∀ w,S w->wpOp P ops Q i (fun a' w'=>∃ S',S' w'/\(∀ v,S' v->S v)/\eU S'/\fE P ops Q n L f S' (listed.setIfInBounds i true) a') a w
theorem my {ops:Array Oper} {Q:Exit->Act->World->Prop} {n g:Nat} {L:Array Bool->Act->World->Prop} (hL:∀ listed a w,L listed a w->wpAny P .any ops Q g listed a w):
 ∀ (f:Nat) (S:World->Prop) (listed:Array Bool) (a:Act) (w:World),S w->fE P ops Q n L f S listed a->wpAny P .any ops Q (f+g) listed a w
 |0,S,listed,a,w,hw,h=>by rw[Nat.zero_add];exact hL _ _ _ (h w hw)
 |f+1,S,listed,a,w,hw,h=>by
  rw[show f+1+g=(f+g)+1 by omega]
  refine⟨fun h0=>absurd h0 h.1,fun i hi=>wpOp_mono (fun a' w' hh=>?_) ((h.2 i hi).2 w hw)⟩
  obtain⟨S',h1,_,_,h4⟩:=hh;exact my hL f S' _ a' w' h1 h4
theorem Et {ops:Array Oper} {Q:Exit->Act->World->Prop} {n i:Nat} {oi:Oper} {v:Value} {L:Array Bool->Act->World->Prop} (hi:ops[i]?=some oi) (hsel:∀ (j:Nat) (o:Oper) cs b,ops[j]?=some o->o.op≠ .select cs b)
 (hQ:∀ c a w,¬Q (.panic c) a w) (ht:jW ops n=true) (hin:i<n) (hdone:∀ listed a w,L listed a w->∀ j∈Region.ready .any ops listed,n<=j):
 ∀ (f:Nat) (S:World->Prop) (listed:Array Bool) (a:Act),HeadInv .any ops n listed->eU S->(∃ w,S w)->
  (∀ j oj,ops[j]?=some oj->j≠i->listed.getD j true=false->(∀ e∈oj.after,Region.binds .any e=true->e.on≠i)->oi.apart ops oj=true)->
  i∈Region.ready .any ops listed->dW P ops S oi v a->fE P ops Q n L f S (listed.setIfInBounds i true) (a.put oi.dst v)->fE P ops Q n L (f+1) S listed a:=by
 have waits:∀ (listed:Array Bool),HeadInv .any ops n listed->i∈Region.ready .any ops listed->∀ j∈Region.ready .any ops listed,j<n:=fun listed inv hr j hj=>by
  simp only[jW,Bool.or_eq_true,Bool.and_eq_true,decide_eq_true_eq]at ht;rcases ht with ht|⟨⟨h1,h2⟩,h3⟩
  ·have:=Nat.eq_of_beq_eq_true ht;obtain⟨_,oj,Hs,_⟩:=mem_ready.1 hj;have:=(Array.getElem?_eq_some_iff.1 Hs).1;omega
  ·exact Nat.lt_of_not_le fun hle=>tail_waits h2 h3 h1 inv _ i rfl hin (mem_ready.1 hr).1 j hle hj
 intro f;induction f with
 |zero=>
  intro S listed a inv hsh hne _ hr hy H;refine⟨fun h0=>(by rw[h0]at hr;cases hr),fun j hj=>?_⟩
  have vc:=waits listed inv hr j hj;refine⟨vc,?_⟩;by_cases xV:j=i
  ·subst xV;exact fun w hw=>hy.wpOp hi hsh (fun w' fS=>⟨S,fS,fun _ h=>h,hsh,H⟩) hw
  ·obtain⟨w,hw⟩:=hne;exact absurd (hdone _ _ _ (H w hw) j (ready_mono hj xV)) (by omega)
 |succ f ih=>
  intro S listed a inv hsh hne hfree hr hy H;refine⟨fun h0=>(by rw[h0]at hr;cases hr),fun j hj=>?_⟩
  have vc:=waits listed inv hr j hj;refine⟨vc,?_⟩;by_cases xV:j=i
  ·subst xV;exact fun w hw=>hy.wpOp hi hsh (fun w' fS=>⟨S,fS,fun _ h=>h,hsh,H⟩) hw
  ·intro w hw;obtain⟨Nl,oj,Hs,hall⟩:=mem_ready.1 hj;have QC:∀ e∈oj.after,Region.binds .any e=true->e.on≠i:=fun e he hb heq=>by
    have h1:=hall e he hb;rw[heq,getD_both (mem_ready.1 hr).1]at h1;cases h1
   have h2:=If Hs (hfree j oj Hs xV Nl QC) (fun cs b=>hsel i oi cs b hi) (fun cs b=>hsel j oj cs b Hs) hQ hy ((H.2 j (ready_mono hj xV)).2 w hw)
   refine wpOp_mono (fun a' w' h3=>?_) h2
   obtain⟨hy',S',b1,b2,b3,b4⟩:=h3;refine⟨S',b1,b2,b3,ih S' (listed.setIfInBounds j true) a' (inv.set hj vc) b3 ⟨w',b1⟩ (fun k ok hk Rw Qz hno=>hfree k ok hk Rw ?_ hno) (ready_mono hr (Ne.symm xV)) (hy'.sub b2) ?_⟩
   ·by_cases vb:j=k
    ·subst vb;exact Nl
    ·rwa[getD_set_ne true vb]at Qz
   ·rw[Array.setIfInBounds_comm _ _ xV];exact b4
theorem gJ {ops:Array Oper} {Q:Exit->Act->World->Prop} {n i:Nat} {oi:Oper} {v:Value} {L:Array Bool->Act->World->Prop} (hi:ops[i]?=some oi) (hsel:Region.noSelect ops=true)
 (hQ:∀ c a w,¬Q (.panic c) a w) (ht:jW ops n=true) (hin:i<n) (hdone:∀ listed a w,L listed a w->∀ j∈Region.ready .any ops listed,n<=j)
 {f:Nat} {S:World->Prop} {listed:Array Bool} {a:Act} (inv:HeadInv .any ops n listed) (hsh:eU S) (hne:∃ w,S w) (hB:jU ops i listed=true) (hy:dW P ops S oi v a)
 (H:fE P ops Q n L f S (listed.setIfInBounds i true) (a.put oi.dst v)):fE P ops Q n L (f+1) S listed a:=by
 simp only[jU,Bool.and_eq_true,Bool.or_eq_true,decide_eq_true_eq]at hB;obtain⟨hr,hB⟩:=hB;have hr':i∈Region.ready .any ops listed:=by simpa using hr
 rcases hB with hB|hB
 ·refine⟨fun h0=>(by rw[h0]at hr';cases hr'),fun j hj=>?_⟩
  rw[hB]at hj;obtain rfl:j=i:=by simpa using hj
  exact⟨hin,fun w hw=>hy.wpOp hi hsh (fun w' fS=>⟨S,fS,fun _ h=>h,hsh,H⟩) hw⟩
 ·exact Et hi (Region.noSelect_spec hsel) hQ ht hin hdone f S listed a inv hsh hne (Region.free_spec hi hB) hr' hy H
theorem vT:∀ (l:List Oper),storeAt l<=l.length
 |[]=>Nat.le_refl _
 |x::l=>by
  simp only[storeAt];split
  ·simp only[List.length_cons];exact Nat.succ_le_succ (vT l)
  ·exact Nat.zero_le _
theorem xK (hP:aL P Γ E) (hC:ju P Γ E cl) {l:List Oper} {n:Nat} {Q:Exit->Act->World->Prop} (hn:n<=l.length) (hsel:Region.noSelect l.toArray=true) (ht:jW l.toArray n=true)
 (hstep:∀ k,k<n->jU l.toArray k (upTo l.toArray k)=true) (po:Region.seqB .any l.toArray (l.toArray.size-n) n (upTo l.toArray n)=true) (hQ:∀ c a w,¬Q (.panic c) a w) {K:St->Prop}
 (hK:∀ an a' w' ρ',K an->Rel Γ M w0 ρ' an vs a' w'->wpList P l.toArray Q (l.drop n) a' w'):
 ∀ (hd:List Oper) (k:Nat),hd=(l.take n).drop k->k<=n->HeadInv .any l.toArray n (upTo l.toArray k)->∀ (st:St) (a:Act) (w:World) (ρ:Keys),GI E cl l l.toArray hd k st K->Rel Γ M w0 ρ st vs a w->
  fE P l.toArray Q n (fun listed a w=>Region.seqB .any l.toArray (l.toArray.size-n) n listed=true/\wpList P l.toArray Q (l.drop n) a w) hd.length (fun w'=>Below w.heap.size w w') (upTo l.toArray k) a
 |[],k,hd,hk,inv,st,a,w,ρ,he,h=>by
  have:k=n:=by
   have:=congrArg List.length hd;simp only[List.length_nil,List.length_drop,List.length_take]at this;omega
  subst this;exact fun w' fS=>⟨po,hK _ _ _ _ he (h.cX fS)⟩
 |o::rest,k,hd,hk,inv,st,a,w,ρ,he,h=>by
  have hkn:k<n:=by
   have:=congrArg List.length hd;simp only[List.length_cons,List.length_drop,List.length_take]at this;omega
  have eN:l.toArray[k]?=some o:=by
   have h1:((l.take n).drop k)[0]?=some o:=by rw[<-hd];rfl
   rw[List.getElem?_drop,Nat.add_zero,List.getElem?_take_of_lt hkn]at h1;simpa using h1
  have O6:rest=(l.take n).drop (k+1):=by
   have h1:((l.take n).drop k).drop 1=rest:=by rw[<-hd];rfl
   rw[<-h1,List.drop_drop]
  have hB:=hstep k hkn;have qM:=hB;simp only[jU,Bool.and_eq_true]at qM;have hr:k∈Region.ready .any l.toArray (upTo l.toArray k):=by simpa using qM.1
  have inv':HeadInv .any l.toArray n (upTo l.toArray (k+1)):=inv.set hr hkn;have hdone:∀ (listed:Array Bool) (a:Act) (w:World),(Region.seqB .any l.toArray (l.toArray.size-n) n listed=true/\wpList P l.toArray Q (l.drop n) a w)->∀ j∈Region.ready .any l.toArray listed,n<=j:=fun listed a w hL=>seqB_ready hL.1
  have IH:=xK hP hC hn hsel ht hstep po hQ hK rest (k+1) O6 hkn inv';change cV E.aN st l.toArray o.guard
   (fun st=>match kp E st o with
     |some (q,x)=>(match calm o x with|true=>aBP E.aN q (st.iF E o x (fun st=>GI E cl l l.toArray rest (k+1) st K))|false=>False)
     |none=>(match keeps E o with|true=>iZ E.aN (sj l.toArray k) (FL l k) (gO E cl st o (fun st=>GI E cl l l.toArray rest (k+1) st K))|false=>False))
   (fun st=>st.aBS o.dst (.a .un) (fun st=>GI E cl l l.toArray rest (k+1) st K))at he
  rcases dz h he with⟨an,hy,h',hw⟩|⟨an,hno,h',hw⟩
  ·split at hy
   ·rename_i q x hp;split at hy
    ·rename_i hs;rw[aV,St.gZ]at hy;obtain⟨hq,hy⟩:=hy;obtain⟨v,hv,hall⟩:=agG hP h' hp hq hs;exact gJ eN hsel hQ ht hkn hdone inv (eU.below w) ⟨w,Below.refl _ _⟩ hB (.inl ⟨hw,fun w' fS=>hall w' fS⟩) (IH _ _ w _ hy.2 (h'.put o.dst hv))
    ·exact hy.elim
   ·split at hy;case h_2=>exact hy.elim
    rename_i hkeep;obtain⟨hfo,hy⟩:=fp Tk.mk hy;have I8:Region.ready .any l.toArray (upTo l.toArray k)=[k]:=by simpa[sj]using hfo.h
    refine⟨fun h0=>(by rw[h0]at hr;cases hr),fun j hj=>?_⟩
    rw[I8]at hj;obtain rfl:j=k:=by simpa using hj
    refine⟨hkn,fun w' fS=>?_⟩
    unfold wpOp;simp only[eN];rw[if_pos hw];refine .inl (aBk hP hC (h'.cX fS) hy fun Om Ps w'' OL AK AN AD=>?_)
    have xR:Below w'.heap.size w' w'':=AD hkeep;exact⟨fun v=>Below w''.heap.size w'' v,Below.refl _ _,fun v hv=>(fS.trans (xR.mono fS.size)).trans (hv.mono (Nat.le_trans fS.size xR.size)),eU.below _,IH _ _ _ _ AK AN⟩
  ·rw[St.aZ]at hno;exact gJ eN hsel hQ ht hkn hdone inv (eU.below w) ⟨w,Below.refl _ _⟩ hB (.inr ⟨hw,rfl⟩) (IH _ _ w _ hno.2 (h'.put o.dst (x:=.a .un) (y:=undef) rfl))
theorem BZ (ops:Array Oper) (done:List Nat) (i:Nat):lG ops (done++[i])=(lG ops done).setIfInBounds i true:=by simp[lG,List.foldl_append]
theorem uT (hP:aL P Γ E) (hC:ju P Γ E cl) {l:List Oper} {all:List Nat} {Q:Exit->Act->World->Prop} (hsel:Region.noSelect l.toArray=true) (ht:jW l.toArray all.length=true)
 (hstep:∀ k,k<all.length->jU l.toArray (all.getD k 0) (lG l.toArray (all.take k))=true/\all.getD k 0<all.length) (po:Region.seqB .any l.toArray (l.toArray.size-all.length) all.length (lG l.toArray all)=true) (hQ:∀ c a w,¬Q (.panic c) a w) {K:St->Prop}
 (hK:∀ an a' w' ρ',K an->Rel Γ M w0 ρ' an vs a' w'->wpList P l.toArray Q (l.drop all.length) a' w'):
 ∀ (ord done:List Nat),done++ord=all->HeadInv .any l.toArray all.length (lG l.toArray done)->∀ (st:St) (a:Act) (w:World) (ρ:Keys),Ah E cl l l.toArray ord done st K->Rel Γ M w0 ρ st vs a w->
  fE P l.toArray Q all.length (fun listed a w=>Region.seqB .any l.toArray (l.toArray.size-all.length) all.length listed=true/\wpList P l.toArray Q (l.drop all.length) a w) ord.length (fun w'=>Below w.heap.size w w') (lG l.toArray done) a
 |[],done,hd,inv,st,a,w,ρ,he,h=>by
  rw[List.append_nil]at hd;subst hd;exact fun w' fS=>⟨po,hK _ _ _ _ he (h.cX fS)⟩
 |i::rest,done,hd,inv,st,a,w,ρ,he,h=>by
  have hkn:done.length<all.length:=by rw[<-hd];simp
  have PM:all.getD done.length 0=i:=by rw[<-hd];simp[List.getD]
  have pU:all.take done.length=done:=by rw[<-hd];simp
  obtain⟨hB,hin⟩:=hstep done.length hkn;rw[PM,pU]at hB;rw[PM]at hin;have qM:=hB;simp only[jU,Bool.and_eq_true]at qM;have hr:i∈Region.ready .any l.toArray (lG l.toArray done):=by simpa using qM.1
  have inv':HeadInv .any l.toArray all.length (lG l.toArray (done++[i])):=by rw[BZ];exact inv.set hr hin
  have hdone:∀ (listed:Array Bool) (a:Act) (w:World),(Region.seqB .any l.toArray (l.toArray.size-all.length) all.length listed=true/\wpList P l.toArray Q (l.drop all.length) a w)->∀ j∈Region.ready .any l.toArray listed,all.length<=j:=fun listed a w hL=>seqB_ready hL.1
  have IH:=uT hP hC hsel ht hstep po hQ hK rest (done++[i]) (by rw[<-hd];simp) inv'
  change (match l[i]? with
   |none=>False
   |some o=>cV E.aN st l.toArray o.guard
    (fun st=>match kp E st o with
      |some (q,x)=>(match calm o x with|true=>aBP E.aN q (st.iF E o x (fun st=>Ah E cl l l.toArray rest (done++[i]) st K))|false=>False)
      |none=>(match keeps E o with|true=>iZ E.aN (sk l.toArray done i) (C2 l done i) (gO E cl st o (fun st=>Ah E cl l l.toArray rest (done++[i]) st K))|false=>False))
    (fun st=>st.aBS o.dst (.a .un) (fun st=>Ah E cl l l.toArray rest (done++[i]) st K)))at he
  split at he
  ·exact he.elim
  rename_i o ho;have eN:l.toArray[i]?=some o:=by simpa using ho
  rw[BZ]at IH;rcases dz h he with⟨an,hy,h',hw⟩|⟨an,hno,h',hw⟩
  ·split at hy
   ·rename_i q x hp;split at hy
    ·rename_i hs;rw[aV,St.gZ]at hy;obtain⟨hq,hy⟩:=hy;obtain⟨v,hv,hall⟩:=agG hP h' hp hq hs;exact gJ eN hsel hQ ht hin hdone inv (eU.below w) ⟨w,Below.refl _ _⟩ hB (.inl ⟨hw,fun w' fS=>hall w' fS⟩) (IH _ _ w _ hy.2 (h'.put o.dst hv))
    ·exact hy.elim
   ·split at hy;case h_2=>exact hy.elim
    rename_i hkeep;obtain⟨hfo,hy⟩:=fp Tk.mk hy;have I8:Region.ready .any l.toArray (lG l.toArray done)=[i]:=by simpa[sk]using hfo.h
    refine⟨fun h0=>(by rw[h0]at hr;cases hr),fun j hj=>?_⟩
    rw[I8]at hj;obtain rfl:j=i:=by simpa using hj
    refine⟨hin,fun w' fS=>?_⟩
    unfold wpOp;simp only[eN];rw[if_pos hw];refine .inl (aBk hP hC (h'.cX fS) hy fun Om Ps w'' OL AK AN AD=>?_)
    have xR:Below w'.heap.size w' w'':=AD hkeep;exact⟨fun v=>Below w''.heap.size w'' v,Below.refl _ _,fun v hv=>(fS.trans (xR.mono fS.size)).trans (hv.mono (Nat.le_trans fS.size xR.size)),eU.below _,IH _ _ _ _ AK AN⟩
  ·rw[St.aZ]at hno;exact gJ eN hsel hQ ht hin hdone inv (eU.below w) ⟨w,Below.refl _ _⟩ hB (.inr ⟨hw,rfl⟩) (IH _ _ w _ hno.2 (h'.put o.dst (x:=.a .un) (y:=undef) rfl))
theorem eM (hP:aL P Γ E) (hC:ju P Γ E cl) {l:List Oper} {Q:Exit->Act->World->Prop} {K:St->Prop} (hsel:Region.noSelect l.toArray=true) (hQ:∀ c a w,¬Q (.panic c) a w)
 (hK:∀ an a' w' ρ',K an->Rel Γ M w0 ρ' an vs a' w'->Q .normal a' w'):
 ∀ (t:OT) (n:Nat) (listed:Array Bool) (st:St) (a:Act) (w:World) (ρ:Keys),jC E cl l l.toArray K t st->Rel Γ M w0 ρ st vs a w->
  (nD l.toArray t true n listed=true->t.vl=false->wpAny P .any l.toArray Q n listed a w)/\
  (nD l.toArray t false n listed=true->∀ i∈t.fV,wpOp P l.toArray Q i (wpAny P .any l.toArray Q (n-1) (listed.setIfInBounds i true)) a w)
 | .fin,n,listed,st,a,w,ρ,he,h=>⟨fun _ hf=>(by cases hf),fun _ i hi=>(by cases hi)⟩
 | .take i t,n,listed,st,a,w,ρ,he,h=>by
   refine⟨fun hok _=>?_,fun hok=>(by simp[nD]at hok)⟩
   simp only[nD,Bool.true_and,Bool.and_eq_true,decide_eq_true_eq]at hok;obtain⟨hfree,Ng,hn,hsub⟩:=hok;change (match l[i]? with
    |some o=>cV E.aN st l.toArray o.guard (fun st=>match oD o,oo E st o with
      |true,some (q,x)=>aBP E.aN q (st.iF E o x (fun st=>OT.next t (K st) (jC E cl l l.toArray K t st)))
      |_,_=>False) (fun st=>st.aBS o.dst (.a .un) (fun st=>OT.next t (K st) (jC E cl l l.toArray K t st)))
    |none=>False)at he
   split at he
   ·rename_i o ho;have mJ:l.toArray[i]?=some o:=by simpa using ho
    obtain⟨m,rfl⟩:∃ m,n=m+1:=⟨n-1,by omega⟩
    have next:∀ (an:St) (a':Act) (ρ':Keys),OT.next t (K an) (jC E cl l l.toArray K t an)->Rel Γ M w0 ρ' an vs a' w->wpAny P .any l.toArray Q m (listed.setIfInBounds i true) a' w:=fun an a' ρ' hk hr=>by
     rw[Nat.add_sub_cancel]at hsub;cases t with
     |fin=>
      have jk:Region.ready .any l.toArray (listed.setIfInBounds i true)=[]:=by simpa[nD]using hsub
      exact wpAny_done jk (hK _ _ _ _ hk hr) m
     |alt i2 t2 m2=>exact(eM hP hC hsel hQ hK (.alt i2 t2 m2) m _ an a' w ρ' hk hr).1 hsub rfl
     |take i2 t2=>exact(eM hP hC hsel hQ hK (.take i2 t2) m _ an a' w ρ' hk hr).1 hsub rfl
    rcases dz h he with⟨an,hy,h',hw⟩|⟨an,hno,h',hw⟩
    ·split at hy
     ·rename_i q x Nt aag;rw[aV,St.gZ]at hy;obtain⟨hq,hy⟩:=hy;obtain⟨v,hv,hx⟩:=Aj hP.env h' Nt aag hq;exact wpAny_take mJ hsel hfree Ng (fun c a w hq=>absurd hq (hQ _ _ _)) (.inl ⟨hw,hv⟩) (next _ _ _ hy.2 (h'.put o.dst hx))
     ·exact hy.elim
    ·rw[St.aZ]at hno;exact wpAny_take mJ hsel hfree Ng (fun c a w hq=>absurd hq (hQ _ _ _)) (.inr ⟨hw,rfl⟩) (next _ _ _ hno.2 (h'.put o.dst (x:=.a .un) (y:=undef) rfl))
   ·exact he.elim
 | .alt i t m,n,listed,st,a,w,ρ,he,h=>by
   change (match l[i]? with
    |some o=>cV E.aN st l.toArray o.guard (fun st=>gO E cl st o (fun st=>OT.next t (K st) (jC E cl l l.toArray K t st))) (fun st=>st.aBS o.dst (.a .un) (fun st=>OT.next t (K st) (jC E cl l l.toArray K t st)))
    |none=>False)/\jC E cl l l.toArray K m st at he
   obtain⟨he,hem⟩:=he;have amn:n≠0->nD l.toArray t true (n-1) (listed.setIfInBounds i true)=true->nD l.toArray m false n listed=true->∀ j∈(OT.alt i t m).fV,wpOp P l.toArray Q j (wpAny P .any l.toArray Q (n-1) (listed.setIfInBounds j true)) a w:=by
    intro hn hsub hm j hj;simp only[OT.fV,List.mem_cons]at hj;rcases hj with rfl|hj
    ·have next:∀ (an:St) (a':Act) (w':World) (ρ':Keys),OT.next t (K an) (jC E cl l l.toArray K t an)->Rel Γ M w0 ρ' an vs a' w'->wpAny P .any l.toArray Q (n-1) (listed.setIfInBounds j true) a' w':=by
      intro an a' w' ρ' hk hr;cases t with
      |fin=>
       have jk:Region.ready .any l.toArray (listed.setIfInBounds j true)=[]:=by simpa[nD]using hsub
       exact wpAny_done jk (hK _ _ _ _ hk hr) _
      |alt i2 t2 m2=>exact(eM hP hC hsel hQ hK (.alt i2 t2 m2) _ _ an a' w' ρ' hk hr).1 hsub rfl
      |take i2 t2=>exact(eM hP hC hsel hQ hK (.take i2 t2) _ _ an a' w' ρ' hk hr).1 hsub rfl
     split at he
     ·rename_i o ho;have mJ:l.toArray[j]?=some o:=by simpa using ho
      unfold wpOp;simp only[mJ];rcases dz h he with⟨an,hy,h',hw⟩|⟨an,hno,h',hw⟩
      ·rw[if_pos hw];exact .inl (oZ hP hC h' hy fun oM a2 w2 nP hk hr=>next oM a2 w2 nP hk hr)
      ·rw[if_neg (by rw[hw];simp)]
       simp only[St.aZ]at hno;exact next _ _ _ _ hno.2 (h'.put o.dst (x:=.a .un) (y:=undef) rfl)
     ·exact he.elim
    ·exact(eM hP hC hsel hQ hK m n listed st a w ρ hem h).2 hm j hj
   refine⟨fun hok _=>?_,fun hok=>?_⟩
   ·simp only[nD,Bool.not_true,Bool.false_or,Bool.and_eq_true,decide_eq_true_eq]at hok;obtain⟨hh,hn,h1,h2⟩:=hok;obtain⟨k,rfl⟩:∃ k,n=k+1:=⟨n-1,by omega⟩
    refine wpAny_all hh.symm (by simp[OT.fV]) fun j hj=>?_
    have:=amn (by omega) h1 h2 j hj
    rwa[Nat.add_sub_cancel]at this
   ·simp only[nD,Bool.not_false,Bool.true_or,Bool.true_and,Bool.and_eq_true,decide_eq_true_eq]at hok;exact amn hok.1 hok.2.1 hok.2.2
theorem abA (hP:aL P Γ E) (hC:ju P Γ E cl) {l:List Oper} {n:Nat} {Q:Exit->Act->World->Prop} (hsel:Region.noSelect l.toArray=true) (ht:jW l.toArray n=true) (hQ:∀ c a w,¬Q (.panic c) a w) {K:St->Prop}
 (hK:∀ an a' w' ρ',K an->Rel Γ M w0 ρ' an vs a' w'->wpList P l.toArray Q (l.drop n) a' w'):
 ∀ (t:OT) (f:Nat) (listed:Array Bool) (st:St) (a:Act) (w:World) (ρ:Keys),HeadInv .any l.toArray n listed->uU E cl l l.toArray K t st->Rel Γ M w0 ρ st vs a w->
  (gu l.toArray n t true f listed=true->t.vl=false->fE P l.toArray Q n (fun listed a w=>Region.seqB .any l.toArray (l.toArray.size-n) n listed=true/\wpList P l.toArray Q (l.drop n) a w) f (fun w'=>Below w.heap.size w w') listed a)/\
  (gu l.toArray n t false f listed=true->∀ i∈t.fV,i∈Region.ready .any l.toArray listed->i<n/\∀ w',Below w.heap.size w w'->wpOp P l.toArray Q i (fun a' w2=>∃ S',S' w2/\(∀ v,S' v->Below w.heap.size w v)/\eU S'/\
    fE P l.toArray Q n (fun listed a w=>Region.seqB .any l.toArray (l.toArray.size-n) n listed=true/\wpList P l.toArray Q (l.drop n) a w) (f-1) S' (listed.setIfInBounds i true) a') a w')
 | .fin,f,listed,st,a,w,ρ,inv,he,h=>⟨fun _ hf=>(by cases hf),fun _ i hi=>(by cases hi)⟩
 | .take i t,f,listed,st,a,w,ρ,inv,he,h=>by
   refine⟨fun hok _=>?_,fun hok=>(by simp[gu]at hok)⟩
   simp only[gu,Bool.true_and,Bool.and_eq_true,decide_eq_true_eq]at hok;obtain⟨hB,hin,hf,hsub⟩:=hok;obtain⟨f,rfl⟩:∃ m,f=m+1:=⟨f-1,by omega⟩
   rw[Nat.add_sub_cancel]at hsub;change (match l[i]? with
    |some o=>cV E.aN st l.toArray o.guard (fun st=>match kp E st o with
      |some (q,x)=>(match calm o x with|true=>aBP E.aN q (st.iF E o x (fun st=>OT.next t (K st) (uU E cl l l.toArray K t st)))|false=>False)
      |none=>False) (fun st=>st.aBS o.dst (.a .un) (fun st=>OT.next t (K st) (uU E cl l l.toArray K t st)))
    |none=>False)at he
   have hdone:∀ (listed:Array Bool) (a:Act) (w:World),(Region.seqB .any l.toArray (l.toArray.size-n) n listed=true/\wpList P l.toArray Q (l.drop n) a w)->∀ j∈Region.ready .any l.toArray listed,n<=j:=fun listed a w hL=>seqB_ready hL.1
   have hr:i∈Region.ready .any l.toArray listed:=by
    have qM:=hB;simp only[jU,Bool.and_eq_true]at qM;simpa using qM.1
   have inv':HeadInv .any l.toArray n (listed.setIfInBounds i true):=inv.set hr hin;have next:∀ (an:St) (a':Act) (ρ':Keys),OT.next t (K an) (uU E cl l l.toArray K t an)->Rel Γ M w0 ρ' an vs a' w->
    fE P l.toArray Q n (fun listed a w=>Region.seqB .any l.toArray (l.toArray.size-n) n listed=true/\wpList P l.toArray Q (l.drop n) a w) f (fun w'=>Below w.heap.size w w') (listed.setIfInBounds i true) a':=fun an a' ρ' hk cC=>by
    cases t with
    |fin=>
     simp only[gu,Bool.not_true,Bool.false_or,Bool.and_eq_true]at hsub;obtain⟨h1,h2⟩:=hsub;obtain rfl:=Nat.eq_of_beq_eq_true h1;exact fun w' fS=>⟨h2,hK _ _ _ _ hk (cC.cX fS)⟩
    |alt i2 t2 m2=>exact(abA hP hC hsel ht hQ hK (.alt i2 t2 m2) f _ an a' w ρ' inv' hk cC).1 hsub rfl
    |take i2 t2=>exact(abA hP hC hsel ht hQ hK (.take i2 t2) f _ an a' w ρ' inv' hk cC).1 hsub rfl
   split at he
   ·rename_i o ho;have eN:l.toArray[i]?=some o:=by simpa using ho
    rcases dz h he with⟨an,hy,h',hw⟩|⟨an,hno,h',hw⟩
    ·split at hy
     ·rename_i q x hp;split at hy
      ·rename_i hs;rw[aV,St.gZ]at hy;obtain⟨hq,hy⟩:=hy;obtain⟨v,hv,hall⟩:=agG hP h' hp hq hs;exact gJ eN hsel hQ ht hin hdone inv (eU.below w) ⟨w,Below.refl _ _⟩ hB (.inl ⟨hw,fun w' fS=>hall w' fS⟩) (next _ _ _ hy.2 (h'.put o.dst hv))
      ·exact hy.elim
     ·exact hy.elim
    ·rw[St.aZ]at hno;exact gJ eN hsel hQ ht hin hdone inv (eU.below w) ⟨w,Below.refl _ _⟩ hB (.inr ⟨hw,rfl⟩) (next _ _ _ hno.2 (h'.put o.dst (x:=.a .un) (y:=undef) rfl))
   ·exact he.elim
 | .alt i t m,f,listed,st,a,w,ρ,inv,he,h=>by
   change (match l[i]? with
    |some o=>cV E.aN st l.toArray o.guard (fun st=>match keeps E o with|true=>gO E cl st o (fun st=>OT.next t (K st) (uU E cl l l.toArray K t st))|false=>False) (fun st=>st.aBS o.dst (.a .un) (fun st=>OT.next t (K st) (uU E cl l l.toArray K t st)))
    |none=>False)/\uU E cl l l.toArray K m st at he
   obtain⟨he,hem⟩:=he;have amn:i<n->f≠0->gu l.toArray n t true (f-1) (listed.setIfInBounds i true)=true->gu l.toArray n m false f listed=true->∀ j∈(OT.alt i t m).fV,j∈Region.ready .any l.toArray listed->j<n/\∀ w',Below w.heap.size w w'->wpOp P l.toArray Q j (fun a' w2=>∃ S',S' w2/\(∀ v,S' v->Below w.heap.size w v)/\eU S'/\
    fE P l.toArray Q n (fun listed a w=>Region.seqB .any l.toArray (l.toArray.size-n) n listed=true/\wpList P l.toArray Q (l.drop n) a w) (f-1) S' (listed.setIfInBounds j true) a') a w':=by
    intro hin hf hsub hm j hj Hp;simp only[OT.fV,List.mem_cons]at hj;rcases hj with rfl|hj
    ·have inv':HeadInv .any l.toArray n (listed.setIfInBounds j true):=inv.set Hp hin;have next:∀ (an:St) (a':Act) (w':World) (ρ':Keys),OT.next t (K an) (uU E cl l l.toArray K t an)->Rel Γ M w0 ρ' an vs a' w'->
      fE P l.toArray Q n (fun listed a w=>Region.seqB .any l.toArray (l.toArray.size-n) n listed=true/\wpList P l.toArray Q (l.drop n) a w) (f-1) (fun v=>Below w'.heap.size w' v) (listed.setIfInBounds j true) a':=by
      intro an a' w' ρ' hk cC;cases t with
      |fin=>
       simp only[gu,Bool.not_true,Bool.false_or,Bool.and_eq_true]at hsub;obtain⟨h1,h2⟩:=hsub;rw[Nat.eq_of_beq_eq_true h1];exact fun w2 lS=>⟨h2,hK _ _ _ _ hk (cC.cX lS)⟩
      |alt i2 t2 m2=>exact(abA hP hC hsel ht hQ hK (.alt i2 t2 m2) _ _ an a' w' ρ' inv' hk cC).1 hsub rfl
      |take i2 t2=>exact(abA hP hC hsel ht hQ hK (.take i2 t2) _ _ an a' w' ρ' inv' hk cC).1 hsub rfl
     refine⟨hin,fun w' fS=>?_⟩
     split at he
     ·rename_i o ho;have mJ:l.toArray[j]?=some o:=by simpa using ho
      unfold wpOp;simp only[mJ];rcases dz h he with⟨an,hy,h',hw⟩|⟨an,hno,h',hw⟩
      ·rw[if_pos hw];split at hy
       ·rename_i hkeep;refine .inl (aBk hP hC (h'.cX fS) hy fun Om Ps w'' OL AK AN AD=>?_)
        have xR:Below w'.heap.size w' w'':=AD hkeep;exact⟨fun v=>Below w''.heap.size w'' v,Below.refl _ _,fun v hv=>(fS.trans (xR.mono fS.size)).trans (hv.mono (Nat.le_trans fS.size xR.size)),eU.below _,next _ _ _ _ AK AN⟩
       ·exact hy.elim
      ·rw[if_neg (by rw[hw];simp)]
       simp only[St.aZ]at hno;exact⟨fun v=>Below w'.heap.size w' v,Below.refl _ _,fun v hv=>fS.trans (hv.mono fS.size),eU.below _,next _ _ _ _ hno.2 ((h'.cX fS).put o.dst (x:=.a .un) (y:=undef) rfl)⟩
     ·exact he.elim
    ·exact(abA hP hC hsel ht hQ hK m f listed st a w ρ inv hem h).2 hm j hj Hp
   refine⟨fun hok _=>?_,fun hok=>?_⟩
   ·simp only[gu,Bool.not_true,Bool.false_or,Bool.and_eq_true,decide_eq_true_eq]at hok;obtain⟨hh,hin,hf,h1,h2⟩:=hok;obtain⟨f,rfl⟩:∃ k,f=k+1:=⟨f-1,by omega⟩
    refine⟨by rw[<-hh];simp[OT.fV],fun j hj=>?_⟩
    have:=amn hin hf h1 h2 j (by rw[hh];exact hj) hj
    rwa[Nat.add_sub_cancel]at this
   ·simp only[gu,Bool.not_false,Bool.true_or,Bool.true_and,Bool.and_eq_true,decide_eq_true_eq]at hok;exact amn hok.1 hok.2.1 hok.2.2.1 hok.2.2.2
/-! ### Stores between quiet operations -/
theorem aax:∀ (l:List Nat) {st:St} {K:St->Prop},FG l st K->Rel Γ M w0 ρ st vs a w->∃ an,K an/\Rel Γ M w0 ρ an vs a w
 |[],st,K,he,h=>⟨st,he,h⟩
 |r::l,st,K,he,h=>by
  have he:st.eP r (st.rg.getD r .dead).uv (fun st=>FG l st K):=he
  rw[St.aks]at he;refine aax l he ?_;cases hr:st.rg[r]? with
  |none=>
   have e:st.aBZ r (st.rg.getD r .dead).uv=st:=by
    cases st;simp only[St.aBZ];rw[List.set_eq_of_length_le (List.getElem?_eq_none_iff.1 hr)]
   rw[e];exact h
  |some g=>
   have e:st.rg.getD r .dead=g:=by simp[List.getD,hr]
   rw[e];have hlen:(st.aBZ r g.uv).rg.length=st.rg.length:=by simp[St.aBZ]
   refine⟨by rw[hlen];exact h.tm,by rw[hlen];exact h.fr,h.df,?_,h.bl,h.gl,h.gn⟩
   rw[hlen];refine h.rs.weaken hr ?_;cases g with
   |box o l=>
    rintro π f B ⟨rfl,rfl,rfl⟩;refine⟨_,.box l,⟨rfl,rfl,rfl⟩,id,fun hl=>?_,id⟩
    obtain⟨h1,h2,h3,h4⟩:=hl;refine⟨h1,h2,h3,fun j x hx=>?_⟩
    simp only[List.getElem?_map,Option.map_eq_some_iff]at hx;obtain⟨x0,hx0,rfl⟩:=hx;obtain⟨y,_,hc⟩:=h4 j x0 hx0;exact⟨y,trivial,hc⟩
   |_=>exact gI.refl
theorem Rel.uh (h:Rel Γ M w0 ρ st vs a w) {r:Nat} {cells:List At} (hr:st.rg[r]?=some (.box true cells)) (hall:bZ sr cells=true) {base:Nat} {us:List Value} (hlen:base+us.length<=cells.length):
 Rel Γ M w0 ρ st vs a (w.setCells (ρ r []).b base us):=by
 have hB:(az.box true cells).has [] true (.box cells):=⟨rfl,rfl,rfl⟩;obtain⟨_,h1,h2,h3⟩:=h.rs.blk r _ [] true _ hr hB;have e:st.aBZ r (.box true cells)=st:=by
  cases st;simp only[St.aBZ,St.mk.injEq,true_and];apply List.ext_getElem?;intro i;rw[List.getElem?_set];split
  ·rename_i hi;subst hi;split
   ·exact hr.symm
   ·rename_i hl;simp only at hr;rw[List.getElem?_eq_none (by omega)]at hr;cases hr
  ·rfl
 have lg:∀ j,(ρ r []).at j=⟨(ρ r []).b,j,none⟩:=fun j=>by simp[RI.at,h1]
 have hcell:∀ j,j<cells.length->(w.cell? ⟨(ρ r []).b,j,none⟩).isSome=true:=fun j hj=>by
  obtain⟨y,_,hc⟩:=h3 j cells[j] (List.getElem?_eq_getElem hj);rw[lg]at hc;rw[hc];rfl
 have:=h.write (g':=.box true cells) (base:=base) (us:=us) hr hB h2 (fun σ o B' hh=>⟨B',hh,fun _ _ hl=>hl,fun _ hm=>hm⟩) (fun o B' hh=>by
  obtain⟨_,_,rfl⟩:=hh;refine⟨rfl,h1,h2,fun j x hx=>?_⟩
  have hj:=(List.getElem?_eq_some_iff.1 hx).1;have hx':x= .any:=by
   have:=iI hall x (List.mem_of_getElem? hx);unfold sr at this;split at this
   ·rfl
   ·cases this
  subst hx';have:((w.setCells (ρ r []).b base us).cell? ⟨(ρ r []).b,j,none⟩).isSome=true:=by
   by_cases hin:base<=j/\j<base+us.length
   ·have h5:=World.cell?_setCells_in (ρ r []).b us base w (fun s hs=>hcell _ (by omega)) (j-base) (by omega)
    rw[show base+(j-base)=j by omega]at h5
    rw[h5];rfl
   ·rw[World.cell?_setCells_out]
    ·exact hcell j hj
    ·intro _ _;simp only;omega
  rw[lg];obtain⟨y,hy⟩:=Option.isSome_iff_exists.1 this;exact⟨y,trivial,hy⟩)
 rwa[e]at this
structure uo (st:St) (ρ:Keys) (S:World->Prop):Prop where
 sh:eU S
 wr:∀ (r:Nat) (cells:List At),st.rg[r]?=some (.box true cells)->bZ sr cells=true->∀ base us,base+us.length<=cells.length->∀ w,S w->S (w.setCells (ρ r []).b base us)
theorem Rel.KE:uo st ρ (fun w'=>Rel Γ M w0 ρ st vs a w'):=
 ⟨fun _ _ h hb=>h.cX hb,fun _ _ hr hall _ _ hl _ h=>h.uh hr hall hl⟩
theorem aat (hE:bE P Γ E) {o:Oper} {r j:Nat} {cells l:List At} (hs:pL E st o=some (r,j,cells,l)):
 st.rg[r]?=some (.box true cells)/\bZ sr cells=true/\j+l.length<=cells.length/\o.dst=none/\o.guard=none/\
 ∀ (w:World),Rel Γ M w0 ρ st vs a w->∃ us:List Value,us.length=l.length/\(execOp a.eval o).run P w= .ok .skip (w.setCells (ρ r []).b j us)/\Rel Γ M w0 ρ (st.aBZ r (.box true (Z9 cells j l))) vs a (w.setCells (ρ r []).b j us):=by
 unfold pL at hs;split at hs;case h_2=>cases hs
 rename_i t ad x hop hd hgd;split at hs
 ·cases hs
 ·rename_i ty r' j' x' Ro hex hno;split at hs;case h_2=>cases hs
  rename_i l' cells' hl hg;split at hs;case h_2=>cases hs
  rename_i hlen Qr hall;simp only[Option.some.injEq,Prod.mk.injEq]at hs;obtain⟨rfl,rfl,rfl,rfl⟩:=hs;have Vo:=bg hg (by simp)
  have hj:j'+l'.length<=cells'.length:=Nat.le_of_ble_eq_true Qr;refine⟨Vo,hall,hj,hd,hgd,fun w h=>?_⟩
  obtain⟨jl,ha⟩:=ax h Ro;have Hw:=ax h hex;obtain⟨h1,h2,h3⟩:=eZ Hw hl;have hty:E.ty t≠ .other:=hno;have hlen':=dK hlen;obtain⟨k1,k2⟩:=IF hE h hty Vo hj h1 h3 hlen';obtain⟨_,o1,_,_⟩:=h.rs.blk r' _ [] true (.box cells') Vo ⟨rfl,rfl,rfl⟩;rw[o1]at k1 k2;rw[show 0+(0*(ρ r' []).m+j')=j' by omega]at k1 k2
  refine⟨_,h1.length.symm,?_,k2⟩;simp only[execOp,hop,ha,Sem.run_bind,k1,Result.andThen_ok,Sem.run_pure]
 ·cases hs
/-! ### Writes into a new block,in whatever world -/
def vY (b:Nat):List (Nat×List Value)->World->World
 |[],v=>v
 |x::l,v=>vY b l (v.setCells b x.1 x.2)
theorem aA1 {B b:Nat} (hb:B<=b):∀ (us:List Value) (o:Nat) {u v:World},Below B u v->Below B u (v.setCells b o us)
 |[],_,_,_,h=>h
 |x::us,o,_,_,h=>aA1 hb us (o+1) (h.setCell (p:=⟨b,o,none⟩) hb x)
theorem xm {B b:Nat} (hb:B<=b):∀ (ws:List (Nat×List Value)) {u v:World},Below B u v->Below B u (vY b ws v)
 |[],_,_,h=>h
 |x::ws,_,_,h=>xm hb ws (aA1 hb x.2 x.1 h)
theorem wh {B:Nat} {u v:World} (h:Below B u v) (p:Addr) (x:Value):Below B (u.setCell p x) (v.setCell p x):=
 ⟨h.os,h.tape,h.output,by simpa[World.setCell]using h.size,fun k hk=>by simp only[World.setCell,Array.getElem?_modify];rw[h.block k hk]⟩
theorem jY {B b:Nat}:∀ (us:List Value) (o:Nat) {u v:World},Below B u v->Below B (u.setCells b o us) (v.setCells b o us)
 |[],_,_,_,h=>h
 |x::us,o,_,_,h=>jY us (o+1) (wh h ⟨b,o,none⟩ x)
theorem n8 {B b:Nat}:∀ (ws:List (Nat×List Value)) {u v:World},Below B u v->Below B (vY b ws u) (vY b ws v)
 |[],_,_,h=>h
 |x::ws,_,_,h=>n8 ws (jY x.2 x.1 h)
theorem BR {b:Nat}:∀ (ws:List (Nat×List Value)) (v:World),(vY b ws v).heap.size=v.heap.size
 |[],_=>rfl
 |x::ws,v=>(BR ws _).trans (dA ..)
theorem set_comm (v:World) {p q:Addr} (h:p.block≠q.block) (x y:Value):(v.setCell p x).setCell q y=(v.setCell q y).setCell p x:=by
 simp only[World.setCell,World.mk.injEq,and_true];refine Array.ext_getElem? fun k=>?_
 simp only[Array.getElem?_modify];by_cases h1:q.block=k
 ·by_cases h2:p.block=k
  ·exact absurd (h2.trans h1.symm) h
  ·simp[h1,h2]
 ·by_cases h2:p.block=k<;>simp[h1,h2]
theorem oJ {b:Nat} {p:Addr} (h:p.block≠b) (x:Value):∀ (us:List Value) (o:Nat) (v:World),(v.setCell p x).setCells b o us=(v.setCells b o us).setCell p x
 |[],_,_=>rfl
 |y::us,o,v=>by
  show((v.setCell p x).setCell ⟨b,o,none⟩ y).setCells b (o+1) us=((v.setCell ⟨b,o,none⟩ y).setCells b (o+1) us).setCell p x;rw[set_comm v (q:=⟨b,o,none⟩) h,oJ h x us]
theorem p7 {b b':Nat} (h:b'≠b) (us:List Value) (o:Nat):∀ (lI:List Value) (o':Nat) (v:World),(v.setCells b' o' lI).setCells b o us=(v.setCells b o us).setCells b' o' lI
 |[],_,_=>rfl
 |y::lI,o',v=>by
  show((v.setCell ⟨b',o',none⟩ y).setCells b' (o'+1) lI).setCells b o us=((v.setCells b o us).setCell ⟨b',o',none⟩ y).setCells b' (o'+1) lI;rw[p7 h us o lI,oJ (p:=⟨b',o',none⟩) h]
theorem Ch {b b':Nat} (h:b'≠b) (lI:List Value) (o':Nat):∀ (ws:List (Nat×List Value)) (v:World),vY b ws (v.setCells b' o' lI)=(vY b ws v).setCells b' o' lI
 |[],_=>rfl
 |x::ws,v=>by
  show vY b ws ((v.setCells b' o' lI).setCells b x.1 x.2)=_;rw[p7 h,Ch h lI o' ws];rfl
theorem DZ {N:Nat} {ρ:Keys}:∀ {z:List At} {ys:List Value},be (At.ok N ρ) z ys->be (At.ok N ρ) (z.map fun _=>At.any) ys
 |[],[],_=>trivial
 |[],_::_,h=>h
 |_::_,[],h=>h
 |_::_,_::_,h=>⟨trivial,DZ h.2⟩
theorem CN (hE:bE P Γ E) (h:Rel Γ M w0 ρ st vs a w) {o:Oper} {K:St->Prop} (he:yZ E st o K):
 o.guard=none/\∃ (g:az) (x:Tm) (y:Value) (ob:Obj) (ξ:Path->RI),K ((st.push [g]).put o.dst x)/\(execOp a.eval o).run P w= .ok (.value y) (w.alloc ob)/\
  Rel Γ M w0 (aE ρ st.rg.length ξ) ((st.push [g]).put o.dst x) vs (a.put o.dst y) (w.alloc ob)/\(ξ []).b=w.heap.size:=by
 unfold yZ at he;split at he
 ·rename_i t hop hg;refine⟨hg,?_⟩;split at he
  ·exact he.elim
  ·rename_i z hz hno;obtain⟨_,i,zv,h1,h2,h3⟩:=hE.zero _ _ hz;simp only[dX,St.cS,St.aZ]at he;refine⟨_,_,.pointer (some ⟨w.heap.size,0,none⟩),.cells zv.cells.toList.toArray t,dx w,he.2,?_,?_,rfl⟩
   ·simp[execOp,hop,Instr.alloc,newVar,newRow,zeroValue,typeInfo,h1,h2]
   ·refine(h.box (DZ (h3 _ _)) t).put o.dst ⟨by simp[St.push],?_⟩
    rw[aF];simp[RI.at,dx]
  ·exact he.elim
 ·rename_i t len cap hop hg;refine⟨hg,?_⟩;split at he
  ·rename_i e m n c ht hn hc;split at he
   ·rename_i tg hD;rw[aV]at he;obtain⟨⟨h0,hnc,hsz,_⟩,hm⟩:=he;simp only[aa.ae]at h0 hnc hsz;subst hnc;simp only[dX,St.cS,St.aZ]at hm;obtain⟨kl,el⟩:=jL h hn;obtain⟨kc,ec⟩:=jL h hc;obtain⟨hu,_,_⟩:=hE.aav ht;obtain⟨ci,i,z,hi,hs,hz,vj,hby⟩:=hE.kd e tg hD;have hpos:0<tg.length:=List.length_pos_iff.2 ci;have Hq:n<=16777216:=Int.le_trans (by have:=Int.mul_le_mul_of_nonneg_left (show(1:Int)<=tg.length by omega) h0;omega) hsz
    have hbytes:(i.bytes:Int)*n<=281474976710656:=by
     have h1:(i.bytes:Int)*n<=(32*tg.length:Nat)*n:=Int.mul_le_mul_of_nonneg_right (by exact_mod_cast hby) h0
     have h2:((32*tg.length:Nat):Int)*n=32*(n*tg.length):=by push_cast;rw[Int.mul_assoc,Int.mul_comm (tg.length:Int)]
     omega
    have hrun:=run_make (P:=P) w t e i z hu hi hz kl kc n n h0 (Int.le_refl _) hbytes (by omega)
    have vk:z.cells=(ai.zero tg).toArray:=Array.ext' (by simpa using vj)
    rw[hs,vk]at hrun;have ve:=BI (te:=e) h ci (hE.kn e tg hD) (n:=n.toNat) (by simp only[maxLen];omega) (cs:=(madeCells (ai.zero tg).toArray (n.toNat*tg.length)).toList) (by simp[madeCells])
     (fun i hi s hs=>by have:=Be (ai.zero tg) n.toNat i s hi (by rw[aay];exact hs);rwa[aay]at this)
    simp only[Array.toArray_toList]at ve;refine⟨_,_,.slice (some ⟨w.heap.size,0,none⟩) n.toNat n.toNat,.cells (madeCells (ai.zero tg).toArray (n.toNat*tg.length)) e,_,hm.2,?_,ve.put o.dst ⟨by simp[St.push],?_⟩,?_⟩
    ·simp[execOp,hop,el,ec,hrun]
    ·rw[aF];exact⟨fun hv=>by simp[aac]at hv,fun _=>⟨by simp[aac],some ⟨w.heap.size,0,none⟩,by simp[aac],fun _=>by simp[RI.at,aac]⟩⟩
    ·simp[aac]
   ·exact he.elim
  ·exact he.elim
 ·exact he.elim
theorem fc (hP:aL P Γ E) {l:List Oper} {Q:Exit->Act->World->Prop} (hsel:Region.noSelect l.toArray=true) (hQ:∀ c a w,¬Q (.panic c) a w) {K:St->Prop}
 (hK:∀ an a' w' ρ',K an->Rel Γ M w0 ρ' an vs a' w'->Q .normal a' w'):
 ∀ (t:OT) (f:Nat) (listed:Array Bool) (st:St) (a:Act) (S:World->Prop) (ρ:Keys),HeadInv .any l.toArray l.length listed->uo st ρ S->(∃ w,S w)->(∀ w,S w->Rel Γ M w0 ρ st vs a w)->Ak E l K t st->
  (gu l.toArray l.length t true f listed=true->t.vl=false->fE P l.toArray Q l.length (fun listed a w=>Region.seqB .any l.toArray (l.toArray.size-l.length) l.length listed=true/\wpList P l.toArray Q (l.drop l.length) a w) f S listed a)/\
  (gu l.toArray l.length t false f listed=true->∀ i∈t.fV,i∈Region.ready .any l.toArray listed->i<l.length/\∀ w',S w'->wpOp P l.toArray Q i (fun a' w2=>∃ S',S' w2/\(∀ v,S' v->S v)/\eU S'/\
    fE P l.toArray Q l.length (fun listed a w=>Region.seqB .any l.toArray (l.toArray.size-l.length) l.length listed=true/\wpList P l.toArray Q (l.drop l.length) a w) (f-1) S' (listed.setIfInBounds i true) a') a w')
 | .fin,f,listed,st,a,S,ρ,inv,hS,hne,hR,he=>⟨fun _ hf=>(by cases hf),fun _ i hi=>(by cases hi)⟩
 | .take i t,f,listed,st,a,S,ρ,inv,hS,hne,hR,he=>by
   refine⟨fun hok _=>?_,fun hok=>(by simp[gu]at hok)⟩
   simp only[gu,Bool.true_and,Bool.and_eq_true,decide_eq_true_eq]at hok;obtain⟨hB,hin,hf,hsub⟩:=hok;obtain⟨f,rfl⟩:∃ m,f=m+1:=⟨f-1,by omega⟩
   rw[Nat.add_sub_cancel]at hsub;obtain⟨w,Kt⟩:=hne;have h:=hR w Kt;change (match l[i]? with
    |some o=>(match o.guard,kp E st o with
      |none,some (q,x)=>(match x.sure with|true=>aBP E.aN q (st.iF E o x (fun st=>OT.next t (K st) (Ak E l K t st)))|false=>False)
      |_,_=>False)
    |none=>False)at he
   have ht:jW l.toArray l.length=true:=by simp[jW]
   have hdone:∀ (listed:Array Bool) (a:Act) (w:World),(Region.seqB .any l.toArray (l.toArray.size-l.length) l.length listed=true/\wpList P l.toArray Q (l.drop l.length) a w)->∀ j∈Region.ready .any l.toArray listed,l.length<=j:=fun listed a w hL=>seqB_ready hL.1
   have hr:i∈Region.ready .any l.toArray listed:=by
    have qM:=hB;simp only[jU,Bool.and_eq_true]at qM;simpa using qM.1
   have inv':HeadInv .any l.toArray l.length (listed.setIfInBounds i true):=inv.set hr hin;have next:∀ (an:St) (a':Act),an.rg=st.rg->(∀ w,S w->Rel Γ M w0 ρ an vs a' w)->OT.next t (K an) (Ak E l K t an)->
    fE P l.toArray Q l.length (fun listed a w=>Region.seqB .any l.toArray (l.toArray.size-l.length) l.length listed=true/\wpList P l.toArray Q (l.drop l.length) a w) f S (listed.setIfInBounds i true) a':=fun an a' s8 cC hk=>by
    have sZ:uo an ρ S:=⟨hS.sh,by rw[s8];exact hS.wr⟩
    cases t with
    |fin=>
     simp only[gu,Bool.not_true,Bool.false_or,Bool.and_eq_true]at hsub;obtain⟨h1,h2⟩:=hsub;obtain rfl:=Nat.eq_of_beq_eq_true h1;exact fun w' fS=>⟨h2,by rw[List.drop_length];exact hK _ _ _ _ hk (cC w' fS)⟩
    |alt i2 t2 m2=>exact(fc hP hsel hQ hK (.alt i2 t2 m2) f _ an a' S ρ inv' sZ ⟨w,Kt⟩ cC hk).1 hsub rfl
    |take i2 t2=>exact(fc hP hsel hQ hK (.take i2 t2) f _ an a' S ρ inv' sZ ⟨w,Kt⟩ cC hk).1 hsub rfl
   split at he
   ·rename_i o ho;have eN:l.toArray[i]?=some o:=by simpa using ho
    split at he
    ·rename_i q x hg hp;split at he
     ·rename_i hs;rw[aV,St.gZ]at he;obtain⟨hq,he⟩:=he;have hw:Region.wanted o (yielded l.toArray a.tmps)=true:=by unfold Region.wanted;rw[hg]
      have hc:calm o x=true:=by unfold calm;split<;>first|rfl|(split<;>first|rfl|exact hs)
      obtain⟨v,hv,_⟩:=agG hP h hp hq hc;refine gJ (v:=v) eN hsel hQ ht hin hdone inv hS.sh ⟨w,Kt⟩ hB (.inl ⟨hw,fun w' fS=>?_⟩) (next (st.put o.dst x) (a.put o.dst v) (by cases o.dst<;>rfl) (fun w' fS=>?_) he.2)
      ·obtain⟨v',j6,OZ⟩:=agG hP (hR w' fS) hp hq hc;obtain rfl:=Tm.fun hs hv j6;exact OZ w' (Below.refl _ _)
      ·exact(hR w' fS).put o.dst hv
     ·exact he.elim
    ·exact he.elim
   ·exact he.elim
 | .alt i t m,f,listed,st,a,S,ρ,inv,hS,hne,hR,he=>by
   change (match l[i]? with
    |some o=>(match pL E st o with|some (r,j,cells,l')=>st.eP r (.box true (Z9 cells j l')) (fun st=>OT.next t (K st) (Ak E l K t st))|none=>yZ E st o (fun st=>OT.next t (K st) (Ak E l K t st)))
    |none=>False)/\Ak E l K m st at he
   obtain⟨he,hem⟩:=he;have amn:i<l.length->f≠0->gu l.toArray l.length t true (f-1) (listed.setIfInBounds i true)=true->gu l.toArray l.length m false f listed=true->∀ j∈(OT.alt i t m).fV,j∈Region.ready .any l.toArray listed->j<l.length/\∀ w',S w'->wpOp P l.toArray Q j (fun a' w2=>∃ S',S' w2/\(∀ v,S' v->S v)/\eU S'/\
    fE P l.toArray Q l.length (fun listed a w=>Region.seqB .any l.toArray (l.toArray.size-l.length) l.length listed=true/\wpList P l.toArray Q (l.drop l.length) a w) (f-1) S' (listed.setIfInBounds j true) a') a w':=by
    intro hin hf hsub hm j hj Hp;simp only[OT.fV,List.mem_cons]at hj;rcases hj with rfl|hj
    ·have inv':HeadInv .any l.toArray l.length (listed.setIfInBounds j true):=inv.set Hp hin;split at he
     ·rename_i o ho;have mJ:l.toArray[j]?=some o:=by simpa using ho
      split at he
      ·rename_i r k cells l' RJ;rw[St.aks]at he;refine⟨hin,fun w' fS=>?_⟩
       have Qs:=aat (ρ:=ρ) (st:=st) (vs:=vs) (a:=a) (M:=M) (w0:=w0) hP.env RJ;obtain⟨b1,b2,b3,b4,b5,b6⟩:=Qs;obtain⟨us,u1,u2,u3⟩:=b6 w' (hR w' fS);have hw:Region.wanted o (yielded l.toArray a.tmps)=true:=by unfold Region.wanted;rw[b5]
       unfold wpOp;simp only[mJ];rw[if_pos hw];refine .inl ?_;unfold Oper.wp;rw[u2];have ea:a.put o.dst undef=a:=by rw[b4];rfl
       show ∃ S',S' _/\(∀ v,S' v->S v)/\eU S'/\fE P l.toArray Q l.length _ (f-1) S' (listed.setIfInBounds j true) (a.put o.dst undef);rw[ea];have jl:=fh b1;have eN:∀ (r1:Nat) (c1:List At),(st.aBZ r (.box true (Z9 cells k l'))).rg[r1]?=some (.box true c1)->bZ sr c1=true->(st.rg[r1]?=some (.box true c1)\/r1=r):=fun r1 c1 h1 _=>by
        rcases cF h1 with⟨rfl,_,_⟩|⟨_,h1⟩
        ·exact .inr rfl
        ·exact .inl h1
       let S':World->Prop:=fun v=>S v/\Rel Γ M w0 ρ (st.aBZ r (.box true (Z9 cells k l'))) vs a v
       have lS:S' (w'.setCells (ρ r []).b k us):=⟨hS.wr r cells b1 b2 k us (by omega) w' fS,u3⟩
       have sZ:uo (st.aBZ r (.box true (Z9 cells k l'))) ρ S':=by
        refine⟨fun v v' hv hb=>⟨hS.sh _ _ hv.1 hb,hv.2.cX hb⟩,fun r1 c1 h1 h2 base lI hl' v hv=>⟨?_,hv.2.uh h1 h2 hl'⟩⟩
        rcases eN r1 c1 h1 h2 with h3|rfl
        ·exact hS.wr r1 c1 h3 h2 base lI hl' v hv.1
        ·have hlen:c1.length=cells.length:=by
          rcases cF h1 with⟨_,e,_⟩|⟨hne,_⟩
          ·injection e with _ e;rw[e];have gen:∀ (l cells:List At) (off:Nat),(Z9 cells off l).length=cells.length:=by
            intro l;induction l with
            |nil=>intro _ _;rfl
            |cons x l ih=>intro cells off;simp only[Z9,ih,List.length_set]
           exact gen _ _ _
          ·exact absurd rfl hne
         exact hS.wr r1 cells b1 b2 base lI (by omega) v hv.1
       refine⟨S',lS,fun v hv=>hv.1,sZ.sh,?_⟩
       cases t with
       |fin=>
        simp only[gu,Bool.not_true,Bool.false_or,Bool.and_eq_true]at hsub;obtain⟨h1,h2⟩:=hsub;rw[Nat.eq_of_beq_eq_true h1];exact fun w2 lS=>⟨h2,by rw[List.drop_length];exact hK _ _ _ _ he lS.2⟩
       |alt i2 t2 m2=>exact(fc hP hsel hQ hK (.alt i2 t2 m2) _ _ _ a S' ρ inv' sZ ⟨_,lS⟩ (fun v hv=>hv.2) he).1 hsub rfl
       |take i2 t2=>exact(fc hP hsel hQ hK (.take i2 t2) _ _ _ a S' ρ inv' sZ ⟨_,lS⟩ (fun v hv=>hv.2) he).1 hsub rfl
      ·refine⟨hin,fun w' fS=>?_⟩
       obtain⟨b5,g,x,y,ob,ξ,he,hrun,cC,RO⟩:=CN hP.env (hR w' fS) he;have hw:Region.wanted o (yielded l.toArray a.tmps)=true:=by unfold Region.wanted;rw[b5]
       unfold wpOp;simp only[mJ];rw[if_pos hw];refine .inl ?_;unfold Oper.wp;rw[hrun];let S':World->Prop:=fun v=>(∀ ws,S (vY w'.heap.size ws v))/\Rel Γ M w0 (aE ρ st.rg.length ξ) ((st.push [g]).put o.dst x) vs (a.put o.dst y) v
       have lS:S' (w'.alloc ob):=⟨fun ws=>hS.sh w' _ fS (xm (Nat.le_refl _) ws (agB ob)),cC⟩
       have QF:((st.push [g]).put o.dst x).rg=st.rg++[g]:=by cases o.dst<;>rfl
       have sZ:uo ((st.push [g]).put o.dst x) (aE ρ st.rg.length ξ) S':=by
        refine⟨fun v v' hv hb=>⟨fun ws=>hS.sh _ _ (hv.1 ws) (by rw[BR];exact n8 ws hb),hv.2.cX hb⟩,fun r1 c1 h1 h2 base lI hl' v hv=>⟨fun ws=>?_,hv.2.uh h1 h2 hl'⟩⟩
        rw[QF]at h1;by_cases hlt:r1<st.rg.length
        ·rw[List.getElem?_append_left hlt]at h1;have Kj:(ρ r1 []).b<w'.heap.size:=by
          have hB:(az.box true c1).has [] true (.box c1):=⟨rfl,rfl,rfl⟩;obtain⟨_,_,gU,_⟩:=(hR w' fS).rs.blk r1 _ [] true _ h1 hB;exact(hR w' fS).rs.lt r1 _ [] true _ h1 hB gU
         rw[bB hlt,Ch (by omega)]
         exact hS.wr r1 c1 h1 h2 base lI hl' _ (hv.1 ws)
        ·have s7:r1=st.rg.length:=by
          have:=(List.getElem?_eq_some_iff.1 h1).1;simp only[List.length_append,List.length_singleton]at this;omega
         subst s7;rw[aF,RO];exact hv.1 ((base,lI)::ws)
       refine⟨S',lS,fun v hv=>hv.1 [],sZ.sh,?_⟩
       cases t with
       |fin=>
        simp only[gu,Bool.not_true,Bool.false_or,Bool.and_eq_true]at hsub;obtain⟨h1,h2⟩:=hsub;rw[Nat.eq_of_beq_eq_true h1];exact fun w2 lS=>⟨h2,by rw[List.drop_length];exact hK _ _ _ _ he lS.2⟩
       |alt i2 t2 m2=>exact(fc hP hsel hQ hK (.alt i2 t2 m2) _ _ _ _ S' _ inv' sZ ⟨_,lS⟩ (fun v hv=>hv.2) he).1 hsub rfl
       |take i2 t2=>exact(fc hP hsel hQ hK (.take i2 t2) _ _ _ _ S' _ inv' sZ ⟨_,lS⟩ (fun v hv=>hv.2) he).1 hsub rfl
     ·exact he.elim
    ·exact(fc hP hsel hQ hK m f listed st a S ρ inv hS hne hR hem).2 hm j hj Hp
   refine⟨fun hok _=>?_,fun hok=>?_⟩
   ·simp only[gu,Bool.not_true,Bool.false_or,Bool.and_eq_true,decide_eq_true_eq]at hok;obtain⟨hh,hin,hf,h1,h2⟩:=hok;obtain⟨f,rfl⟩:∃ k,f=k+1:=⟨f-1,by omega⟩
    refine⟨by rw[<-hh];simp[OT.fV],fun j hj=>?_⟩
    have:=amn hin hf h1 h2 j (by rw[hh];exact hj) hj
    rwa[Nat.add_sub_cancel]at this
   ·simp only[gu,Bool.not_false,Bool.true_or,Bool.true_and,Bool.and_eq_true,decide_eq_true_eq]at hok;exact amn hok.1 hok.2.1 hok.2.2.1 hok.2.2.2
def fY (R:Act->World->Prop) (e:Exit) (a:Act) (w:World):Prop:=match e with| .normal=>R a w|_=>False
theorem uS (hP:aL P Γ E) (hC:ju P Γ E cl) (h:Rel Γ M w0 ρ st vs a w) {id:Nat} {l:List Oper} {K:St->Prop} (he:Z5 E cl id l st K) {R:Act->World->Prop}
 (hK:∀ an a' w' ρ',K an->Rel Γ M w0 ρ' an vs a' w'->R a' w'):wpAny P .any l.toArray (fY R) l.toArray.size (Array.replicate l.toArray.size false) a {w with drawn:=w.drawn+1}:=by
 unfold Z5 at he;have h1:Rel Γ M w0 ρ st vs a {w with drawn:=w.drawn+1}:=h.cX ((Below.refl w.heap.size w).drew);split at he
 ·rename_i dt _;obtain⟨ds,t⟩:=dt;obtain⟨hB,he⟩:=fp Tk.mk he;have hB:=hB.h;simp only[rB,Bool.and_eq_true,decide_eq_true_eq]at hB;obtain⟨hsel,hn,ht,Hr,hok⟩:=hB;have mK:l.toArray.size=l.length:=by simp
  obtain⟨p8,he,s7⟩:=aax ds he h1;have pu:HeadInv .any l.toArray l.length (Array.replicate l.toArray.size false):=
   ⟨by simp,fun j oj _ hl=>(by rw[getD_replicate_false]at hl;cases hl),fun t _ ht=>getD_in (by simpa using ht) (getD_replicate_false _ _)⟩
  have H:fE P l.toArray (fY R) l.length (fun listed a w=>Region.seqB .any l.toArray (l.toArray.size-l.length) l.length listed=true/\wpList P l.toArray (fY R) (l.drop l.length) a w) l.length (fun w'=>Rel Γ M w0 ρ p8 vs a w') (Array.replicate l.toArray.size false) a:=by
   cases t with
   |fin=>cases Hr
   |alt i2 t2 m2=>exact(fc (Q:=fY R) hP hsel (fun c a w hq=>hq) (fun an a' w' ρ' hk hr=>hK _ _ _ _ hk hr) (.alt i2 t2 m2) _ _ p8 a _ ρ pu Rel.KE ⟨_,s7⟩ (fun _ h=>h) he).1 hok rfl
   |take i2 t2=>exact(fc (Q:=fY R) hP hsel (fun c a w hq=>hq) (fun an a' w' ρ' hk hr=>hK _ _ _ _ hk hr) (.take i2 t2) _ _ p8 a _ ρ pu Rel.KE ⟨_,s7⟩ (fun _ h=>h) he).1 hok rfl
  have:=my (Q:=fY R) (g:=l.toArray.size-l.length) (fun listed a' w' hL=>by
   have:=wpAny_of_seq (md:=.any) (Q':=fY R) (l.drop l.length) l.length listed a' w' (fun j=>by simp[List.getElem?_drop]) (by rw[List.length_drop,<-mK];exact hL.1) hL.2
   rwa[List.length_drop,<-mK]at this) _ _ _ _ _ s7 H
  rwa[show l.length+(l.toArray.size-l.length)=l.toArray.size by omega]at this
 split at he
 ·rename_i nt _;obtain⟨n,t⟩:=nt;obtain⟨hB,he⟩:=fp Tk.mk he;have hB:=hB.h;simp only[rB,Bool.and_eq_true,decide_eq_true_eq]at hB;obtain⟨hsel,hn,ht,Hr,hok⟩:=hB;have mK:l.toArray.size=l.length:=by simp
  have pu:HeadInv .any l.toArray n (Array.replicate l.toArray.size false):=
   ⟨by simp,fun j oj _ hl=>(by rw[getD_replicate_false]at hl;cases hl),fun t _ ht=>getD_in (by simpa using ht) (getD_replicate_false _ _)⟩
  let Q':Exit->Act->World->Prop:=fY R;have tl:=fun an a' w' ρ' (hk:lZ E cl l.toArray (l.drop n) an K) (hr:Rel Γ M w0 ρ' an vs a' w')=>iM (Q:=Q') hP hC (fun an a' w' ρ' hk hr=>show Q' .normal a' w' from hK _ _ _ _ hk hr) _ _ _ _ _ hk hr
  have H:fE P l.toArray Q' n (fun listed a w=>Region.seqB .any l.toArray (l.toArray.size-n) n listed=true/\wpList P l.toArray Q' (l.drop n) a w) n (fun w'=>Below w.heap.size {w with drawn:=w.drawn+1} w') (Array.replicate l.toArray.size false) a:=by
   cases t with
   |fin=>cases Hr
   |alt i2 t2 m2=>exact(abA (Q:=Q') (w0:=w0) (M:=M) (Γ:=Γ) (vs:=vs) hP hC hsel ht (fun c a w hq=>hq) tl (.alt i2 t2 m2) _ _ st a _ ρ pu he h1).1 hok rfl
   |take i2 t2=>exact(abA (Q:=Q') (w0:=w0) (M:=M) (Γ:=Γ) (vs:=vs) hP hC hsel ht (fun c a w hq=>hq) tl (.take i2 t2) _ _ st a _ ρ pu he h1).1 hok rfl
  have:=my (Q:=Q') (g:=l.toArray.size-n) (fun listed a' w' hL=>by
   have:=wpAny_of_seq (md:=.any) (Q':=Q') (l.drop n) n listed a' w' (fun j=>by simp[List.getElem?_drop]) (by rw[List.length_drop,<-mK];exact hL.1) hL.2
   rwa[List.length_drop,<-mK]at this) _ _ _ _ _ (Below.refl _ _) H
  rwa[show n+(l.toArray.size-n)=l.toArray.size by omega]at this
 split at he
 ·rename_i t _;obtain⟨hB,he⟩:=fp Tk.mk he;have hB:=hB.h;simp only[Bv,Bool.and_eq_true]at hB;obtain⟨hsel,Hr,hok⟩:=hB;let Q':Exit->Act->World->Prop:=fY R;cases t with
  |fin=>cases Hr
  |alt i2 t2 m2=>exact(eM (Q:=Q') hP hC hsel (fun c a w hq=>hq) (fun an a' w' ρ' hk hr=>hK _ _ _ _ hk hr) (.alt i2 t2 m2) _ _ st a _ ρ he h1).1 hok rfl
  |take i2 t2=>exact(eM (Q:=Q') hP hC hsel (fun c a w hq=>hq) (fun an a' w' ρ' hk hr=>hK _ _ _ _ hk hr) (.take i2 t2) _ _ st a _ ρ he h1).1 hok rfl
 split at he
 ·rename_i ord _;obtain⟨hB,he⟩:=fp Tk.mk he;have hB:=hB.h;simp only[Fh,Bool.and_eq_true,decide_eq_true_eq,List.all_eq_true,List.mem_range]at hB;obtain⟨⟨⟨⟨hsel,hn⟩,ht⟩,hstep⟩,po⟩:=hB;have mK:l.toArray.size=l.length:=by simp
  have pu:HeadInv .any l.toArray ord.length (lG l.toArray []):=
   ⟨by simp[lG],fun j oj _ hl=>(by rw[show lG l.toArray []=Array.replicate l.toArray.size false from rfl,getD_replicate_false]at hl;cases hl),fun t _ ht=>getD_in (by simpa[lG]using ht) (getD_replicate_false _ _)⟩
  let Q':Exit->Act->World->Prop:=fY R;have H:=uT (all:=ord) (Q:=Q') (w0:=w0) (M:=M) (Γ:=Γ) (vs:=vs) hP hC hsel ht hstep po (fun c a w hq=>hq) (K:=fun st=>lZ E cl l.toArray (l.drop ord.length) st K)
   (fun an a' w' ρ' hk hr=>iM hP hC (fun an a' w' ρ' hk hr=>show Q' .normal a' w' from hK _ _ _ _ hk hr) _ _ _ _ _ hk hr) ord [] rfl pu st a _ ρ he h1
  have:=my (Q:=Q') (g:=l.toArray.size-ord.length) (fun listed a' w' hL=>by
   have:=wpAny_of_seq (md:=.any) (Q':=Q') (l.drop ord.length) ord.length listed a' w' (fun j=>by simp[List.getElem?_drop]) (by rw[List.length_drop,<-mK];exact hL.1) hL.2
   rwa[List.length_drop,<-mK]at this) _ _ _ _ _ (Below.refl _ _) H
  rwa[show ord.length+(l.toArray.size-ord.length)=l.toArray.size by omega]at this
 split at he
 ·obtain⟨hB,he⟩:=fp Tk.mk he;have hB:=hB.h;simp only[Region.lexB,Bool.and_eq_true]at hB;refine wpAny_of_quiet (C:=fun w'=>Below w.heap.size {w with drawn:=w.drawn+1} w') (Q:=fun a'=>∀ w',Below w.heap.size {w with drawn:=w.drawn+1} w'->R a' w') (fun _ w' fS h=>h w' fS) _ _ _ _ (Below.refl _ _) ?_
  have:=wpAnyQ_lex (C:=fun w'=>Below w.heap.size {w with drawn:=w.drawn+1} w') (md:=.any) hB.1 l 0 (Array.replicate l.toArray.size false) a (by simp) (by simpa using hB.2)
   (qz (w1:={w with drawn:=w.drawn+1}) hP (Qf:=fun a'=>∀ w',Below w.heap.size {w with drawn:=w.drawn+1} w'->R a' w') (fun an a' hk hr w' fS=>hK _ _ _ _ hk (hr.cX fS)) _ _ _ he h1)
  simpa using this
 ·obtain⟨hB,he⟩:=fp Tk.mk he;have hB:=hB.h;simp only[Fg,Bool.and_eq_true,decide_eq_true_eq,List.all_eq_true,List.mem_range]at hB;obtain⟨⟨⟨⟨hsel,hn⟩,ht⟩,hstep⟩,po⟩:=hB;have hn':storeAt l<=l.length:=vT l;have mK:l.toArray.size=l.length:=by simp
  have pu:HeadInv .any l.toArray (storeAt l) (upTo l.toArray 0):=
   ⟨by simp[upTo],fun j oj _ hl=>(by rw[upTo,getD_replicate_false]at hl;cases hl),fun t _ ht=>getD_in (by simpa[upTo]using ht) (getD_replicate_false _ _)⟩
  let Q':Exit->Act->World->Prop:=fY R;have H:=xK (n:=storeAt l) (Q:=Q') (w0:=w0) (M:=M) (Γ:=Γ) (vs:=vs) hP hC hn' hsel ht hstep po (fun c a w hq=>hq) (K:=fun st=>lZ E cl l.toArray (l.drop (storeAt l)) st K)
   (fun an a' w' ρ' hk hr=>iM hP hC (fun an a' w' ρ' hk hr=>show Q' .normal a' w' from hK _ _ _ _ hk hr) _ _ _ _ _ hk hr) (l.take (storeAt l)) 0 (by simp) (Nat.zero_le _) pu st a _ ρ he h1
  have:=my (Q:=Q') (g:=l.toArray.size-storeAt l) (fun listed a' w' hL=>by
   have:=wpAny_of_seq (md:=.any) (Q':=Q') (l.drop (storeAt l)) (storeAt l) listed a' w' (fun j=>by simp[List.getElem?_drop]) (by rw[List.length_drop,<-mK];exact hL.1) hL.2
   rwa[List.length_drop,<-mK]at this) _ _ _ _ _ (Below.refl _ _) H
  rwa[List.length_take,Nat.min_eq_left hn',show storeAt l+(l.toArray.size-storeAt l)=l.toArray.size by omega]at this
theorem Ag (hP:aL P Γ E) (hC:ju P Γ E cl) (h:Rel Γ M w0 ρ st vs a w) {id:Nat} {l:List Oper} {K:St->Prop} (he:Z5 E cl id l st K) {Q:Exit->Act->World->Prop}
 (hK:∀ an a' w' ρ',K an->Rel Γ M w0 ρ' an vs a' w'->Q .normal a' w'):(Code.region id l.toArray true).wp P Q a w:=
 Code.wp_mono (Q:=fY (Q .normal)) (fun e a w hq=>by cases e<;>first|exact hq|exact hq.elim) (wp_region_any hP.mixed (uS hP hC h he hK))
end
end Go.Sy
end
section
namespace Go.Sy
open Go Go.RowKit
universe u
section
variable {P:Program} {Γ:bn} {E:Env} {cl:Cl} {M:Nat->Prop} {w0:World} {ρ:Keys} {st:St} {vs:Fv} {a:Act} {w:World}
def iG (ρ:Keys) (is:List Nat) (m:Nat) (gs:List az):Keys:=fun r π=>
 if rn is r<m then ρ (rn is r) π else{iC with m:=(match gs.getD r .dead with| .arr _ tg _ _ _=>tg.length|_=>0)}
theorem b8 {is:List Nat} {m r:Nat} {gs:List az} (h:rn is r<m):iG ρ is m gs r=ρ (rn is r):=by
 funext π;simp only[iG];rw[if_pos h]
theorem kz {is:List Nat} {m r:Nat} {gs:List az} {π:Path} (h:m<=rn is r):(iG ρ is m gs r π).aC=true:=by
 simp only[iG];rw[if_neg (by omega)];rfl
theorem nN {I:RI} (h:I.aC=true) {a0:Option Addr}:I.head 0 0 (.slice a0 0 0):=⟨fun _=>⟨rfl,_,rfl⟩,fun hf=>by rw[h]at hf;cases hf⟩
theorem nB {is:List Nat} {m n:Nat} {gs:List az} {x x':At} {y:Value} (hl:DP is m n x x') (h:x.ok m ρ y):x'.ok n (iG ρ is m gs) y:=by
 unfold DP at hl;split at hl
 ·trivial
 ·exact h
 ·exact⟨none,h.1⟩
 ·exact h
 ·obtain⟨h1,h2,rfl,rfl,rfl⟩:=hl;obtain⟨rfl,_⟩:=h;exact⟨h2,nN (kz h1)⟩
 ·obtain⟨h1,h2,rfl,rfl,rfl⟩:=hl;obtain⟨a0,rfl⟩:=h;exact⟨h2,nN (kz h1)⟩
 ·obtain⟨rfl,rfl⟩:=hl;exact h
 ·obtain rfl:=hl;exact h
 ·obtain rfl:=hl;exact h
 ·exact h
 ·exact h
 ·obtain rfl:=hl;obtain rfl:y= .bool true:=h;exact⟨rfl,rfl⟩
 ·obtain rfl:=hl;obtain rfl:y= .bool false:=h;exact⟨rfl,rfl⟩
 ·obtain⟨h1,h2,rfl,rfl,rfl,rfl⟩:=hl;exact⟨h1,by rw[b8 h2];exact h.2⟩
 ·obtain⟨h1,h2,rfl,rfl,rfl,rfl⟩:=hl;exact⟨h1,by rw[b8 h2];exact h.2⟩
 ·obtain⟨rfl,rfl,h1⟩:=hl;refine⟨fun r hr=>(h1 r hr).1,?_⟩
  rw[h.2,List.map_map]
  congr 2
  exact List.map_congr_left fun r hr=>by rw[b8 (h1 r hr).2];rfl
 ·obtain⟨h1,h2,rfl⟩:=hl;exact⟨h1,by rw[b8 h2];exact h.2⟩
 ·obtain⟨h1,h2,rfl⟩:=hl;exact⟨h1,by rw[b8 h2];exact h.2⟩
 ·obtain⟨h1,h2,rfl⟩:=hl;exact⟨h1,by rw[b8 h2];exact h.2⟩
 ·exact h
 ·exact hl.elim
theorem aBJ {is:List Nat} {m n:Nat} {gs:List az}:∀ {l l':List At} {ys:List Value},akm is m n l l'->be (At.ok m ρ) l ys->be (At.ok n (iG ρ is m gs)) l' ys
 |[],[],[],_,_=>trivial
 |_::_,_::_,_::_,hl,h=>⟨nB hl.1 h.1,aBJ hl.2 h.2⟩
theorem HD {is:List Nat} {m n:Nat} {gs:List az} {x x':C1} {y:Value} (hl:NT is m n x x') (h:x.ok m ρ y):x'.ok n (iG ρ is m gs) y:=by
 unfold NT at hl;split at hl
 ·exact nB hl h
 ·obtain⟨ys,h1,h2⟩:=h;exact⟨ys,h1,aBJ hl h2⟩
 ·exact hl.elim
theorem vq {is:List Nat} {m n:Nat} {gs:List az}:∀ {l l':List C1} {ys:List Value},Jj is m n l l'->be (C1.ok m ρ) l ys->be (C1.ok n (iG ρ is m gs)) l' ys
 |[],[],[],_,_=>trivial
 |_::_,_::_,_::_,hl,h=>⟨HD hl.1 h.1,vq hl.2 h.2⟩
theorem HE {is:List Nat} {m n:Nat} {gs:List az} {x x':Tm} {y:Value} (hl:DR is m n x x') (h:x.ok m ρ y):x'.ok n (iG ρ is m gs) y:=by
 unfold DR at hl;split at hl
 ·trivial
 ·exact nB hl h
 ·obtain⟨ys,h1,h2⟩:=h;exact⟨ys,h1,aBJ hl h2⟩
 ·obtain⟨ys,h1,h2⟩:=h;exact⟨ys,h1,vq hl h2⟩
 ·exact hl.elim
theorem DS {is:List Nat} {m n:Nat} {x:Tm}:DR is m n x (.a .any):=by cases x<;>exact trivial
theorem mQ {is:List Nat} {m n:Nat}:∀ {t' t:Tr},wM is m n t t'->∀ i,DR is m n (t.get i) (t'.get i)
 | .nil,_,_,i=>DS
 | .node y l r,.nil,h,i=>by
   have h':(match (generalizing:=false) y with| .a .any=>True|_=>False)/\wM is m n .nil l/\wM is m n .nil r:=h
   obtain⟨h1,h2,h3⟩:=h';unfold Tr.get;split
   ·split at h1
    ·exact DS
    ·exact h1.elim
   ·split
    ·exact mQ h2 _
    ·exact mQ h3 _
 | .node y l r,.node x l0 r0,h,i=>by
   have h':DR is m n x y/\wM is m n l0 l/\wM is m n r0 r:=h;obtain⟨h1,h2,h3⟩:=h';unfold Tr.get;split
   ·exact h1
   ·split
    ·exact mQ h2 _
    ·exact mQ h3 _
theorem rf {is:List Nat} {m n:Nat} {gs:List az} {s s':Sl} {xs:Array Value} (hl:Kv is m n s s') (h:s.ok m ρ xs):s'.ok n (iG ρ is m gs) xs:=
 ⟨h.n.trans hl.1,fun i=>HE (mQ hl.2 i) (h.h i)⟩
theorem yd {is:List Nat} {m n:Nat} {gs:List az}:∀ {l l':List Sl} {ys:List (Array Value)},NU is m n l l'->be (Sl.ok m ρ) l ys->be (Sl.ok n (iG ρ is m gs)) l' ys
 |[],[],[],_,_=>trivial
 |_::_,_::_,_::_,hl,h=>⟨rf hl.1 h.1,yd hl.2 h.2⟩
theorem A6 {is:List Nat} {m n:Nat}:∀ {l l':List At},akm is m n l l'->∀ (j:Nat) (x':At),l'[j]?=some x'->∃ x,l[j]?=some x/\DP is m n x x'
 |[],[],_,j,x',h=>by simp at h
 |x::_,_::_,hl,0,x',h=>by simp at h;subst h;exact⟨x,rfl,hl.1⟩
 |_::_,_::_,hl,j+1,x',h=>by
  obtain⟨x,h1,h2⟩:=A6 hl.2 j x' (by simpa using h)
  exact⟨x,by simpa using h1,h2⟩
theorem ik {b b':Bool} (h:mI b b'):b'=true->b=true:=by
 cases b
 ·intro h';rw[show b'=false from h]at h';cases h'
 ·exact fun _=>rfl
theorem lz {is:List Nat} {m n:Nat} {gs:List az} {g g':az} {r:Nat} {π:Path} {o:Bool} {B':aD0} (hl:DQ is m n g g') (aBC:rn is r<m) (h:g'.has π o B'):
 ∃ o2 B,g.has π o2 B/\(o=true->o2=true)/\(B.aA m ρ (rn is r) π w->B'.aA n (iG ρ is m gs) r π w)/\(B.mine M w0 w (ρ (rn is r) π)->B'.mine M w0 w (ρ (rn is r) π)):=by
 unfold DQ at hl;split at hl
 ·exact h.elim
 ·rename_i o1 l N2 l';obtain⟨hf,hl⟩:=hl;obtain⟨rfl,rfl,rfl⟩:=h;refine⟨_,.box l,⟨rfl,rfl,rfl⟩,ik hf,fun hh=>?_,id⟩
  obtain⟨_,h2,h3,h4⟩:=hh;refine⟨rfl,by rw[b8 aBC];exact h2,by rw[b8 aBC];exact h3,fun j x' hx=>?_⟩
  obtain⟨x,hx,hle⟩:=A6 hl j x' hx;obtain⟨y,hy,hc⟩:=h4 j x hx;exact⟨y,nB hle hy,by rw[b8 aBC];exact hc⟩
 ·rename_i te tg xs o1 i1 oO bX xs' N2 RP;obtain⟨⟨hh,rfl,hxs⟩,Ni,jH⟩:=hl;subst hh;obtain rfl:xs=xs':=hxs;obtain⟨A,rfl,hA,rfl⟩:=Ar.gQ h;refine⟨mH π o1 i1,.arr A,⟨rfl,A,hA,rfl⟩,?_,fun hh=>?_,id⟩
  ·cases π with
   |nil=>exact ik Ni
   |cons=>exact ik jH
  ·show A.aA w (iG ρ is m gs r) π;rw[b8 aBC];exact hh
 ·rename_i t k c es o1 t' k' c' es' N2;obtain⟨⟨hh,rfl,rfl,AI⟩,hf⟩:=hl;subst hh;obtain rfl:es=es':=AI;obtain⟨rfl,rfl,rfl⟩:=h;refine⟨_,.map k c es,⟨rfl,rfl,rfl⟩,ik hf,fun hh=>?_,id⟩
  obtain⟨_,h2,h3⟩:=hh;exact⟨rfl,by rw[b8 aBC];exact h2,by rw[b8 aBC];exact h3⟩
 ·rename_i t kk e tg es o1 i1 t' aBH e' bX es' N2 RP;obtain⟨⟨hh,qS,rfl,rfl,AI⟩,Ni,jH⟩:=hl;subst hh;subst qS;obtain rfl:es=es':=AI;rcases h with⟨rfl,rfl,rfl⟩|⟨j,rfl,rfl,hj,hf,rfl⟩
  ·refine⟨_,_,.inl ⟨rfl,rfl,rfl⟩,ik Ni,fun hh=>?_,id⟩
   obtain⟨_,h2,h3⟩:=hh;exact⟨rfl,by rw[b8 aBC];exact h2,by rw[b8 aBC];exact h3⟩
  ·refine⟨_,_,.inr ⟨j,rfl,rfl,hj,hf,rfl⟩,ik jH,fun hh=>?_,id⟩
   show Ar.aA w (iG ρ is m gs r) _ _;rw[b8 aBC];exact hh
 ·rename_i r1 k1 l1 Su Sr Ss;obtain⟨⟨rfl,rfl⟩,a1,a2,a3⟩:=hl;obtain⟨rfl,rfl,rfl⟩:=h;refine⟨_,.it (some r1) k1 l1,⟨rfl,rfl,rfl⟩,id,fun hh=>?_,id⟩
  obtain⟨_,h2,h3,h4⟩:=hh;refine⟨rfl,by rw[b8 aBC];exact h2,fun r' hr'=>by cases hr';exact a1,?_⟩
  rw[b8 aBC,h4];simp only[Option.map_some];rw[a3]at a2;rw[b8 a2,a3]
 ·obtain⟨rfl,rfl⟩:=hl;obtain⟨rfl,rfl,rfl⟩:=h;refine⟨_,.it none _ _,⟨rfl,rfl,rfl⟩,id,fun hh=>?_,id⟩
  obtain⟨_,h2,h3,h4⟩:=hh;exact⟨rfl,by rw[b8 aBC];exact h2,(fun r' hr'=>by cases hr'),by rw[b8 aBC];exact h4⟩
 ·obtain⟨hs,rfl,rfl,rfl,rfl⟩:=hl;obtain⟨rfl,rfl,rfl⟩:=h;refine⟨_,.lp _ _ _ _ _,⟨rfl,rfl,rfl⟩,id,fun hh=>?_,id⟩
  obtain⟨_,h2,h3,h4,h5⟩:=hh;exact⟨rfl,by rw[b8 aBC];exact h2,rf hs h3,by rw[b8 aBC];exact h4,by rw[b8 aBC];exact h5⟩
 ·exact hl.elim
theorem A7 {is:List Nat} {m n:Nat} {rg:List az}:∀ {l:List az} {k:Nat},Ff is m n rg k l->∀ (r:Nat) (g':az),l[r]?=some g'->
 (rn is (k+r)<m/\DQ is m n (rg.getD (rn is (k+r)) .dead) g')\/(m<=rn is (k+r)/\Bm g')
 |[],_,_,r,g',h=>by simp at h
 |y::ys,k,hl,r,g',h=>by
  obtain⟨h1,h2⟩:(match Nat.blt (rn is k) m with|true=>DQ is m n (rg.getD (rn is k) .dead) y|false=>Bm y)/\Ff is m n rg (k+1) ys:=hl
  cases r with
  |zero=>
   simp at h;subst h;rw[Nat.add_zero];split at h1
   ·rename_i hb;exact .inl ⟨Nat.le_of_ble_eq_true hb,h1⟩
   ·rename_i hb;refine .inr ⟨?_,h1⟩;rcases Nat.lt_or_ge (rn is k) m with hlt|hge
    ·rw[show Nat.blt (rn is k) m=true from Nat.ble_eq_true_of_le hlt]at hb;cases hb
    ·exact hge
  |succ r=>
   have:=A7 h2 r g' (by simpa using h)
   rwa[show k+1+r=k+(r+1) by omega]at this
theorem aal {r:Nat}:∀ {l:List Nat},Vq r l=false->r∉l
 |[],_=>by simp
 |x::l,h=>by
  simp only[Vq]at h;split at h
  ·cases h
  ·rename_i hb;intro hm;rcases List.mem_cons.1 hm with rfl|hm
   ·simp at hb
   ·exact aal h hm
theorem qY {is:List Nat} {m:Nat}:∀ {n:Nat} {seen:List Nat},AT is m n seen=true->(∀ j,j<n->rn is j<m->rn is j∉seen)/\(∀ j k,j<n->k<n->j≠k->rn is j<m->rn is k<m->rn is j≠rn is k)
 |0,_,_=>⟨fun j hj=>by omega,fun j k hj=>by omega⟩
 |n+1,seen,h=>by
  simp only[AT]at h;split at h
  ·rename_i hb;have hge:¬rn is n<m:=fun hlt=>by rw[show Nat.blt (rn is n) m=true from Nat.ble_eq_true_of_le hlt]at hb;cases hb
   obtain⟨h1,h2⟩:=qY h;refine⟨fun j hj hm=>?_,fun j k hj hk hne h3 h4=>?_⟩
   ·rcases Nat.lt_succ_iff_lt_or_eq.1 hj with hj|rfl
    ·exact h1 j hj hm
    ·exact absurd hm hge
   ·rcases Nat.lt_succ_iff_lt_or_eq.1 hj with hj|rfl
    ·rcases Nat.lt_succ_iff_lt_or_eq.1 hk with hk|rfl
     ·exact h2 j k hj hk hne h3 h4
     ·exact absurd h4 hge
    ·exact absurd h3 hge
  ·split at h
   ·cases h
   ·rename_i hmem;obtain⟨h1,h2⟩:=qY h;refine⟨fun j hj hm=>?_,fun j k hj hk hne h3 h4=>?_⟩
    ·rcases Nat.lt_succ_iff_lt_or_eq.1 hj with hj|rfl
     ·exact fun hs=>h1 j hj hm (List.mem_cons_of_mem _ hs)
     ·exact aal hmem
    ·rcases Nat.lt_succ_iff_lt_or_eq.1 hj with hj|rfl
     ·rcases Nat.lt_succ_iff_lt_or_eq.1 hk with hk|rfl
      ·exact h2 j k hj hk hne h3 h4
      ·exact fun e=>h1 j hj h3 (by rw[e];exact List.mem_cons_self)
     ·rcases Nat.lt_succ_iff_lt_or_eq.1 hk with hk|rfl
      ·exact fun e=>h1 k hk h4 (by rw[<-e];exact List.mem_cons_self)
      ·exact absurd rfl hne
theorem DX {g:az} (hn:Bm g) {π:Path} {o:Bool} {B:aD0} (h:g.has π o B):∃ te tg akl,π=[]/\tg≠[]/\g= .arr te tg [] o akl/\B= .arr ⟨te,tg,[]⟩:=by
 cases g with
 |dead=>exact h.elim
 |box=>exact hn.elim
 |map=>exact hn.elim
 |bH=>exact hn.elim
 |iter=>exact hn.elim
 |lp=>exact hn.elim
 |arr te tg xs o1 i1=>
  obtain⟨rfl,ci⟩:=hn;obtain⟨A,rfl,hA,rfl⟩:=Ar.gQ h;have none:∀ {π:Path} {A:Ar},Ar.has ⟨te,tg,[]⟩ π A->π=[]/\A=⟨te,tg,[]⟩:=by
   intro π;induction π with
   |nil=>intro A h;exact⟨rfl,h⟩
   |cons p π ih=>
    obtain⟨i,j⟩:=p;rintro A ⟨B,h1,h2,_⟩;obtain⟨_,rfl⟩:=ih h1;simp at h2
  obtain⟨rfl,rfl⟩:=none hA;exact⟨te,tg,i1,rfl,ci,rfl,rfl⟩
theorem Rel.le (h:Rel Γ M w0 ρ st vs a w) {is:List Nat} {an:St} (hl:Le is st an):∃ ρ',Rel Γ M w0 ρ' an vs a w:=by
 unfold Le at hl;rw[mo,mo]at hl;obtain⟨h1,h2,h3,h4⟩:=hl;obtain⟨_,hinj⟩:=qY h4;have get:∀ (r:Nat) (g':az),an.rg[r]?=some g'->(rn is r<st.rg.length/\∃ g,DQ is st.rg.length an.rg.length g g'/\∀ π o B,g'.has π o B->st.rg[rn is r]?=some g)\/(st.rg.length<=rn is r/\Bm g'):=by
  intro r g' hr;rcases A7 h3 r g' hr with⟨k1,k2⟩|k
  ·rw[Nat.zero_add]at k1 k2;refine .inl ⟨k1,_,k2,fun π o B hh=>?_⟩
   simp[List.getD,k1]
  ·rw[Nat.zero_add]at k;exact .inr k
 refine⟨iG ρ is st.rg.length an.rg,rf h1 h.tm,yd h2 h.fr,h.df,⟨fun r g' π o B hr hh=>?_,fun r g' π o B hr hh hv=>?_,fun r g' π B hr hh hv=>?_,fun r1 r2 g1 g2 aCa jr o' B1 B2 e1 e2 k1 k2 v1 v2 hne=>?_⟩,h.bl,h.gl,h.gn⟩
 ·rcases get r g' hr with⟨k1,g,k2,k3⟩|⟨k1,k2⟩
  ·obtain⟨o2,B0,b1,_,b3,_⟩:=lz (ρ:=ρ) (M:=M) (w0:=w0) (w:=w) (gs:=an.rg) k2 k1 hh;exact b3 (h.rs.blk _ g π o2 B0 (k3 π o B hh) b1)
  ·obtain⟨te,tg,akl,rfl,ci,rfl,rfl⟩:=DX k2 hh;refine⟨ci,?_,fun _=>rfl,fun hf=>?_,fun i hi=>by simp at hi⟩
   ·simp only[iG];rw[if_neg (by omega)];simp[List.getD,hr]
   ·rw[kz k1]at hf;cases hf
 ·rcases get r g' hr with⟨k1,g,k2,k3⟩|⟨k1,k2⟩
  ·obtain⟨o2,B0,b1,_,_,_⟩:=lz (ρ:=ρ) (M:=M) (w0:=w0) (w:=w) (gs:=an.rg) k2 k1 hh;rw[b8 k1]at hv ⊢;exact h.rs.lt _ g π o2 B0 (k3 π o B hh) b1 hv
  ·rw[kz k1]at hv;cases hv
 ·rcases get r g' hr with⟨k1,g,k2,k3⟩|⟨k1,k2⟩
  ·obtain⟨o2,B0,b1,b2,_,b4⟩:=lz (ρ:=ρ) (M:=M) (w0:=w0) (w:=w) (gs:=an.rg) k2 k1 hh;obtain rfl:=b2 rfl;rw[b8 k1]at hv ⊢;exact b4 (h.rs.own _ g π B0 (k3 π true B hh) b1 hv)
  ·rw[kz k1]at hv;cases hv
 ·rcases get r1 g1 e1 with⟨p1,g10,p2,p3⟩|⟨p1,p2⟩
  ·rcases get r2 g2 e2 with⟨q1,g20,q2,q3⟩|⟨q1,q2⟩
   ·obtain⟨oa,Ba,a1,a2,_,_⟩:=lz (ρ:=ρ) (M:=M) (w0:=w0) (w:=w) (gs:=an.rg) p2 p1 k1;obtain⟨ob,Bb,b1,_,_,_⟩:=lz (ρ:=ρ) (M:=M) (w0:=w0) (w:=w) (gs:=an.rg) q2 q1 k2;obtain rfl:=a2 rfl;rw[b8 p1]at v1 ⊢;rw[b8 q1]at v2 ⊢;refine h.rs.dj _ _ g10 g20 aCa jr ob Ba Bb (p3 _ _ _ k1) (q3 _ _ _ k2) a1 b1 v1 v2 ?_;rintro⟨x1,x2⟩;by_cases Hu:r1=r2
    ·exact hne ⟨Hu,x2⟩
    ·exact hinj r1 r2 (fh (st:=an) e1) (fh (st:=an) e2) Hu p1 q1 x1
   ·rw[kz q1]at v2;cases v2
  ·rw[kz p1]at v1;cases v1
end
end Go.Sy
end
section
namespace Go.Sy
open Go Go.RowKit
universe u
/-! ### The old world grows -/
structure kQ (M:Nat->Prop) (w0:World) (M':Nat->Prop) (cu:World):Prop where
 fr:Frame M w0 cu
 sub:∀ k,M' k->M k\/w0.heap.size<=k
theorem kQ.refl (M:Nat->Prop) (w0:World):kQ M w0 M w0:=⟨Frame.refl M w0,fun _ h=> .inl h⟩
theorem kQ.frame {M M':Nat->Prop} {w0 cu w:World} (h:kQ M w0 M' cu) (hf:Frame M' cu w):Frame M w0 w:=
 ⟨hf.os.trans h.fr.os,hf.tape.trans h.fr.tape,hf.output.trans h.fr.output,Nat.le_trans h.fr.size hf.size,fun k hk hm=>
   (hf.block k (Nat.lt_of_lt_of_le hk h.fr.size) (fun hm'=>by rcases h.sub k hm' with h1|h1;exact hm h1;omega)).trans (h.fr.block k hk hm)⟩
theorem kQ.trans {M M' M2:Nat->Prop} {w0 cu yA:World} (h:kQ M w0 M' cu) (k:kQ M' cu M2 yA):kQ M w0 M2 yA:=
 ⟨h.frame k.fr,fun j hj=>by
   rcases k.sub j hj with h1|h1
   ·exact h.sub j h1
   ·exact .inr (Nat.le_trans h.fr.size h1)⟩
def mark (D:Nat):Deferred:={target:=.collected D,args:=#[]}
def qd (M:Nat->Prop) (w0:World) (D:Nat):Prop:=D<w0.heap.size/\¬M D/\w0.heap[D]?=some (.deferred (some []))
theorem kQ.Of {M M':Nat->Prop} {w0 cu:World} (h:kQ M w0 M' cu) {D:Nat} (hs:qd M w0 D):qd M' cu D:=
 ⟨Nat.lt_of_lt_of_le hs.1 h.fr.size,fun hm=>by rcases h.sub D hm with h1|h1;exact hs.2.1 h1;exact absurd h1 (Nat.not_le.2 hs.1),(h.fr.block D hs.1 hs.2.1).trans hs.2.2⟩
theorem qd.now {M:Nat->Prop} {w0 w:World} {D:Nat} (hs:qd M w0 D) (hf:Frame M w0 w):w.heap[D]?=some (.deferred (some [])):=(hf.block D hs.1 hs.2.1).trans hs.2.2
structure iH (M:Nat->Prop) (w0:World) (M':Nat->Prop) (cu:World) (ds ds':List Deferred):Prop where
 ext:kQ M w0 M' cu
 marks:∃ Ds:List Nat,ds'=Ds.map mark++ds/\Ds.Nodup/\∀ D∈Ds,qd M' cu D/\w0.heap.size<=D
theorem iH.refl (M:Nat->Prop) (w0:World) (ds:List Deferred):iH M w0 M w0 ds ds:=⟨kQ.refl M w0,[],rfl,List.nodup_nil,by simp⟩
theorem iH.trans {M M' M2:Nat->Prop} {w0 cu yA:World} {ds ds' xE:List Deferred} (h:iH M w0 M' cu ds ds') (k:iH M' cu M2 yA ds' xE):iH M w0 M2 yA ds xE:=by
 obtain⟨h1,Ds,h2,h3,h4⟩:=h;obtain⟨k1,Es,k2,k3,k4⟩:=k;refine⟨h1.trans k1,Es++Ds,by rw[k2,h2];simp,?_,fun D hD=>?_⟩
 ·rw[List.nodup_append];refine⟨k3,h3,fun a ha b hb e=>?_⟩
  subst e;have:=(k4 a ha).2;have:=(h4 a hb).1.1;omega
 ·rcases List.mem_append.1 hD with hD|hD
  ·exact⟨(k4 D hD).1,Nat.le_trans h1.fr.size (k4 D hD).2⟩
  ·exact⟨k1.Of (h4 D hD).1,(h4 D hD).2⟩
theorem bY.fq {M M':Nat->Prop} {w0 cu w:World} (h:kQ M w0 M' cu) {I:RI} (hm:bY M' cu w I):bY M w0 w I:=
 ⟨by rcases hm.own with h1|h1
     ·exact h.sub _ h1
     ·exact .inr (Nat.le_trans h.fr.size h1),hm.fz⟩
theorem aD0.mine.fq {M M':Nat->Prop} {w0 cu w:World} (h:kQ M w0 M' cu) {I:RI} {B:aD0} (hm:B.mine M' cu w I):B.mine M w0 w I:=by
 cases B with
 |arr A=>exact⟨bY.fq h hm.1,hm.2⟩
 |box=>exact bY.fq h hm
 |map=>exact bY.fq h hm
 |bH=>exact bY.fq h hm
 |it=>exact bY.fq h hm
 |lp=>exact bY.fq h hm
theorem cA.fq {M M':Nat->Prop} {w0 cu w:World} (h:kQ M w0 M' cu) {N:Nat} {ρ:Keys} {rg:List az} (hr:cA M' cu N ρ rg w):cA M w0 N ρ rg w:=
 ⟨hr.blk,hr.lt,fun r g π B h1 h2 hv=>(hr.own r g π B h1 h2 hv).fq h,hr.dj⟩
theorem pQ {w:World} {D:Nat} {x:Option (List Deferred)} (h:w.heap[D]?=some (.deferred x)) (o:Nat):w.cell? ⟨D,o,none⟩=none:=by simp[World.cell?,h]
theorem uY {w:World} {D:Nat} {x:Option (List Deferred)} (h:w.heap[D]?=some (.deferred x)) (o:Nat):w.frozen? ⟨D,o,none⟩=false:=by simp[World.frozen?,h]
theorem cA.N7 {M:Nat->Prop} {w0 w:World} {N:Nat} {ρ:Keys} {rg:List az} (h:cA M w0 N ρ rg w) {D:Nat} {x y:Option (List Deferred)} (hD:w.heap[D]?=some (.deferred x)):cA M w0 N ρ rg (w.putObj D (.deferred y)):=by
 have hlt:D<w.heap.size:=(Array.getElem?_eq_some_iff.1 hD).1;have Q4:(w.putObj D (.deferred y)).heap[D]?=some (.deferred y):=World.putObj_heap_same hlt;have other:∀ b,b≠D->(w.putObj D (.deferred y)).heap[b]?=w.heap[b]?:=fun b hb=>World.putObj_heap_other hb
 refine⟨fun r g π o B h1 h2=>?_,fun r g π o B h1 h2 hv=>?_,fun r g π B h1 h2 hv=>?_,h.dj⟩
 ·by_cases hb:(ρ r π).b=D
  ·have hl:=h.blk r g π o B h1 h2;cases B with
   |box cells=>
    obtain⟨rfl,a1,a2,a3⟩:=hl;refine⟨rfl,a1,a2,fun j z hz=>?_⟩
    obtain⟨v,_,hc⟩:=a3 j z hz;have:=pQ hD ((ρ r []).off+j);rw[<-hb]at this;rw[show(ρ r []).at j=⟨(ρ r []).b,(ρ r []).off+j,none⟩from rfl,this]at hc;cases hc
   |arr A=>
    have hl:A.aA w (ρ r) π:=hl;refine⟨hl.tg,hl.m,hl.aC,hl.len,fun i hi=>?_⟩
    obtain⟨ys,c1,c2⟩:=hl.cell i hi;exfalso;have hpos:0<ys.length:=by rw[bL c1];exact List.length_pos_iff.2 hl.tg
    have:=c2 0 ys[0] (List.getElem?_eq_getElem hpos);rw[show(ρ r π).at (i*(ρ r π).m+0)=⟨(ρ r π).b,(ρ r π).off+(i*(ρ r π).m+0),none⟩from rfl,hb,pQ hD]at this;cases this
   |map k c es=>obtain⟨rfl,a1,aD,a2,_⟩:=hl;rw[hb,hD]at a2;cases a2
   |bH kk tg es=>obtain⟨rfl,a1,aD,a2,_⟩:=hl;rw[hb,hD]at a2;cases a2
   |it m n l=>obtain⟨rfl,a1,_,a2⟩:=hl;rw[hb,hD]at a2;cases a2
   |lp b s L q j=>obtain⟨rfl,a1,_,a2,_⟩:=hl;rw[hb,hD]at a2;cases a2
  ·exact(h.blk r g π o B h1 h2).cX (fun _=>rfl) (Nat.le_refl _) (fun _ _ _=>rfl) (fun _=>other _ hb)
 ·rw[World.putObj_size];exact h.lt r g π o B h1 h2 hv
 ·by_cases hb:(ρ r π).b=D
  ·have hl:=h.own r g π B h1 h2 hv;have fz:∀ j,(w.putObj D (.deferred y)).frozen? ⟨(ρ r π).b,j,none⟩=false:=fun j=>by rw[hb];exact uY Q4 j
   cases B with
   |arr A=>obtain⟨_,_,cur,h5,_⟩:=hl;rw[hb,hD]at h5;cases h5
   |box=>exact⟨bY.own hl,fz⟩
   |map=>exact⟨bY.own hl,fz⟩
   |bH=>exact⟨bY.own hl,fz⟩
   |it=>exact⟨bY.own hl,fz⟩
   |lp=>exact⟨bY.own hl,fz⟩
  ·exact(h.own r g π B h1 h2 hv).cX (other _ hb)
/-! ### Frames,of functions and of rounds -/
def qb (ro:Option Nat):Fence:={Fence.wide with round:=ro}
theorem zT {ro:Option Nat} {n:Nat} {P:Program} {f:FuncId} {args:Array Value} {w:World} {R:Ending->World->Prop} (h:Calls P f args w R):CallsIn (qb ro) n P f args w R:=
 ⟨trivial,(callsIn_wide.2 h:CallsIn Fence.wide n P f args w R).2⟩
theorem LM {ro:Option Nat} {n:Nat} {P:Program} {row:String} {args:Array Value} {w:World} {R:Value->World->Prop} (h:Rows P row args w R):RowsIn (qb ro) n P row args w R:=fun c cs _=>by
 obtain⟨v,w',h1,h2⟩:=h c cs;exact⟨v,w',h1,(stepsIn_wide (P:=P)).2 h2⟩
theorem agU {ro:Option Nat} {n:Nat} {P:Program} {o:Oper} {a:Act} {w:World} {next:Act->World->Prop} {Q:Exit->Act->World->Prop} (hd:∀ c,o.op≠ .defer c) (h:o.wp P a w next Q):o.wpIn (qb ro) n P a w next Q:=by
 refine⟨fun _ _=>trivial,?_⟩
 rw[Oper.semAt_eq _ _ _ hd];unfold Oper.wp at h;cases hx:(execOp a.eval o).run P w with
 |ok nx w'=>
  rw[hx]at h;cases nx with
  |value v=>exact h
  |skip=>exact h
  |«defer» d=>exact h
  |enter f args=>exact⟨fun hh=>(by cases hh),zT h⟩
  |row row args=>exact⟨fun hh=>(by cases hh),LM h⟩
  |_=>exact h.elim
 |halt s w'=>
  rw[hx]at h;cases s with
  |panic v=>exact h
  |_=>exact h.elim
end Go.Sy
end
section
namespace Go.Sy
open Go Go.RowKit
universe u
section
variable {P:Program} {Γ:bn} {E:Env} {cl:Cl} {rd:Rd} {M M':Nat->Prop} {w0 cu:World} {ρ:Keys} {st:St} {vs:Fv} {a:Act} {w:World}
theorem Rel.fq (hx:kQ M w0 M' cu) (hg:∀ b,b<Γ.n->¬M b/\b<w0.heap.size) (h:Rel Γ M' cu ρ st vs a w):Rel Γ M w0 ρ st vs a w:=
 ⟨h.tm,h.fr,h.df,h.rs.fq hx,hx.frame h.bl,h.gl,hg⟩
theorem Rel.DW (h:Rel Γ M w0 ρ st vs a w) {L:Loop} (hs:st.tm.ok st.rg.length ρ L.tmps):
 Rel Γ M w0 (aE ρ st.rg.length (dx w)) (st.push [.lp w.heap.size st.tm L .ready none]) vs a (w.alloc (.loop {L with state:=.ready,pending:=none})):=by
 refine h.grow (agB _) (fun r hr π=>by rw[bB hr]) (h.rs.fresh (agB _) ?_ ?_ ?_ ?_)
 ·rintro π o B ⟨rfl,rfl,rfl⟩;exact⟨rfl,by rw[aF];rfl,hs.mono (Nat.le_add_right _ _) (fun r hr π=>by rw[bB hr]),by rw[aF];simp only[dx,akc],by rw[aF];rfl⟩
 ·rintro π o B ⟨rfl,rfl,rfl⟩ _;exact⟨Nat.le_refl _,by simp[dx]⟩
 ·rintro π B ⟨rfl,_,rfl⟩ _;exact⟨.inr h.bl.size,fun j=>by simp only[dx,World.frozen?,akc]⟩
 ·rintro π aW o o' B B' ⟨rfl,_⟩ ⟨rfl,_⟩ _ _;rfl
theorem Rel.BX (h:Rel Γ M w0 ρ st vs a w) {r l:Nat} {s:Sl} {L:Loop} {q q':LoopState} {j j':Option Code} (hr:st.rg[r]?=some (.lp l s L q j)):
 Rel Γ M w0 ρ (st.aBZ r (.lp l s L q' j')) vs a (w.putObj l (.loop {L with state:=q',pending:=j'})):=by
 have hB:(az.lp l s L q j).has [] true (.lp l s L q j):=⟨rfl,rfl,rfl⟩;obtain⟨_,hv,hs,hh,hl⟩:=h.rs.blk r _ [] true _ hr hB;have:=h.uj (g':=.lp l s L q' j') (obj:=.loop {L with state:=q',pending:=j'}) hr hB hv (h.rs.own r _ [] _ hr hB hv) (fun σ o B hh=>by obtain⟨rfl,rfl,rfl⟩:=hh;exact⟨rfl,rfl,fun w' fS=>⟨rfl,hv,hs,fS,hl⟩,fun _ _ hh=>hh⟩) (fun w' b j fS=>by simp[World.frozen?,fS])
 rw[hl]at this;exact this
theorem Rel.IV (h:Rel Γ M w0 ρ st vs a w) {r l:Nat} {s:Sl} {L:Loop} {q:LoopState} {j:Option Code} (hr:st.rg[r]?=some (.lp l s L q j)) (obj:Loop):
 Rel Γ M w0 ρ (st.aBZ r .dead) vs a (w.putObj l (.loop obj)):=by
 have hB:(az.lp l s L q j).has [] true (.lp l s L q j):=⟨rfl,rfl,rfl⟩;obtain⟨_,hv,hs,hh,hl⟩:=h.rs.blk r _ [] true _ hr hB;have:=h.uj (g':=.dead) (obj:=.loop obj) hr hB hv (h.rs.own r _ [] _ hr hB hv) (fun σ o B hh=>hh.elim) (fun w' b j fS=>by simp[World.frozen?,fS])
 rw[hl]at this;exact this
theorem nV {fn:Func} {R:Ending->World->Prop} {n:Nat} (hR:∀ w':World,Rel Γ M w0 ρ st vs a w'->∃ v,(results fn a.tmps).run P w'= .ok v w'/\R (.returned v) w'):
 ∀ (Ds:List Nat) (w:World),Rel Γ M w0 ρ st vs a w->Ds.Nodup->(∀ D∈Ds,w.heap[D]?=some (.deferred (some []))/\w0.heap.size<=D)->LeavesInM Fence.wide n P fn a.tmps R (Ds.map mark) .returning w
 |[],w,h,_,_=>hR w h
 |D::Ds,w,h,hn,hb=>by
  obtain⟨hD,akf⟩:=hb D List.mem_cons_self;refine⟨by simp,.inl ⟨D,_,rfl,run_takeDeferred hD,?_⟩⟩
  have hlt:D<w.heap.size:=(Array.getElem?_eq_some_iff.1 hD).1;have h':Rel Γ M w0 ρ st vs a (w.putObj D (.deferred none)):=
   ⟨h.tm,h.fr,h.df,h.rs.N7 hD,⟨h.bl.os,h.bl.tape,h.bl.output,by rw[World.putObj_size];exact h.bl.size,fun k hk hm=>(World.putObj_heap_other (by omega)).trans (h.bl.block k hk hm)⟩,
     Γ.st _ _ h.gl fun b hb=>World.putObj_heap_other (by have:=(h.gn b hb).2;omega),h.gn⟩
  refine nV hR Ds _ h' (List.nodup_cons.1 hn).2 fun E hE=>⟨?_,(hb E (List.mem_cons_of_mem _ hE)).2⟩
  rw[World.putObj_heap_other (fun e=>by subst e;exact(List.nodup_cons.1 hn).1 hE)]
  exact(hb E (List.mem_cons_of_mem _ hE)).1
theorem CL (h:Rel Γ M w0 ρ st vs a w) {rn:Option (Nat×Nat)} (aBC:match rn with
  |none=>True
  |some (r0,b0)=>(match st.rg.getD r0 .dead with| .lp b1 _ _ _ _=>b1=b0|_=>False)) (fn:FuncId) (ps:Array Tmp) (kU body:Code):
 ∃ (l:Nat) (mk:List Deferred) (w1:World) (M':Nat->Prop) (cu:World) (D:Nat) (ρ':Keys),(Instr.enterLoop fn a.tmps ps kU body (rn.map (·.2))).run P w= .ok (l,mk) w1/\iH M w0 M' cu vs.ds (mk++vs.ds)/\
  Rel Γ M' cu ρ' (st.push [.lp l st.tm {state:=.ready,pending:=none,fn:=fn,tmps:=a.tmps,params:=ps,assign:=kU,body:=body,defers:=D} .ready none]) ⟨vs.fs,mk++vs.ds⟩ {a with defers:=mk++a.defers} w1/\
  (ρ' st.rg.length []).b=l/\∀ r,r<st.rg.length->ρ' r=ρ r:=by
 cases rn with
 |some rb=>
  obtain⟨r0,b0⟩:=rb;simp only at aBC;split at aBC
  ·rename_i b1 s1 L1 q1 j1 hg;subst aBC;obtain⟨_,_,_,hh,hl⟩:=h.rs.blk r0 _ [] true (.lp b1 s1 L1 q1 j1) (bg hg (by simp)) ⟨rfl,rfl,rfl⟩
   rw[hl]at hh;refine⟨w.heap.size,[],_,M,w0,L1.defers,aE ρ st.rg.length (dx w),?_,iH.refl _ _ _,h.DW (L:={state:=.ready,pending:=none,fn:=fn,tmps:=a.tmps,params:=ps,assign:=kU,body:=body,defers:=L1.defers}) h.tm,by rw[aF];rfl,fun r hr=>bB hr⟩
   unfold Instr.enterLoop;simp only[Option.map_some,Sem.run_bind,run_getLoop hh,run_newObj_alloc,Result.andThen,Sem.run_pure]
  ·exact aBC.elim
 |none=>
  have fU:Below w.heap.size w (w.alloc (.deferred (some []))):=agB _;have hnew:(w.alloc (.deferred (some []))).heap[w.heap.size]?=some (.deferred (some [])):=akc _;let M1:Nat->Prop:=fun b=>(M b/\b<w0.heap.size)\/(w0.heap.size<=b/\b<w.heap.size)
  have tK:kQ M w0 M1 (w.alloc (.deferred (some []))):=⟨h.bl.below fU,fun k hk=>by
   rcases hk with hk|hk
   ·exact .inl hk.1
   ·exact .inr hk.1⟩
  have hsz:=h.bl.size;have h1:Rel Γ M1 (w.alloc (.deferred (some []))) ρ st ⟨vs.fs,[mark w.heap.size]++vs.ds⟩ {a with defers:=[mark w.heap.size]++a.defers} (w.alloc (.deferred (some []))):=by
   have hl:=h.cX fU;refine⟨h.tm,h.fr,by rw[h.df],⟨hl.rs.blk,hl.rs.lt,fun r g π B k1 k2 hv=>?_,hl.rs.dj⟩,Frame.refl _ _,hl.gl,fun b hb=>?_⟩
   ·have hm:=hl.rs.own r g π B k1 k2 hv;have hlt:=h.rs.lt r g π true B k1 k2 hv;have conv:∀ {I:RI},I.b<w.heap.size->bY M w0 (w.alloc (.deferred (some []))) I->bY M1 (w.alloc (.deferred (some []))) (w.alloc (.deferred (some []))) I:=fun{I} hI hm=>⟨by
     rcases hm.own with h3|h3
     ·by_cases h4:I.b<w0.heap.size
      ·exact .inl (.inl ⟨h3,h4⟩)
      ·exact .inl (.inr ⟨by omega,hI⟩)
     ·exact .inl (.inr ⟨h3,hI⟩),hm.fz⟩
    cases B with
    |arr A=>exact⟨conv hlt hm.1,hm.2⟩
    |box=>exact conv hlt hm
    |map=>exact conv hlt hm
    |bH=>exact conv hlt hm
    |it=>exact conv hlt hm
    |lp=>exact conv hlt hm
   ·have:=h.gn b hb;refine⟨fun hm=>?_,Nat.lt_of_lt_of_le this.2 (Nat.le_trans hsz (by simp))⟩
    rcases hm with hm|hm
    ·exact this.1 hm.1
    ·omega
  refine⟨w.heap.size+1,[mark w.heap.size],_,M1,_,w.heap.size,aE ρ st.rg.length (dx (w.alloc (.deferred (some [])))),run_enterLoop_outer _ _ _ _ _,⟨tK,[w.heap.size],rfl,by simp,fun D hD=>?_⟩,?_,by rw[aF];simp[dx],fun r hr=>bB hr⟩
  ·obtain rfl:D=w.heap.size:=by simpa using hD
   exact⟨⟨by simp,fun hm=>by rcases hm with hm|hm<;>omega,hnew⟩,hsz⟩
  ·have:=h1.DW (L:={state:=.ready,pending:=none,fn:=fn,tmps:=a.tmps,params:=ps,assign:=kU,body:=body,defers:=w.heap.size}) h.tm;rw[World.size_alloc]at this;exact this
end
end Go.Sy
end
section
namespace Go.Sy
open Go Go.RowKit
universe u
section
variable {P:Program} {Γ:bn} {E:Env} {cl:Cl} {rd:Rd} {M:Nat->Prop} {w0:World} {ρ:Keys} {st:St} {vs:Fv} {a:Act} {w:World}
def Ex.exit':Ex->Exit
 | .normal=> .normal
 | .exit id=> .exit id
 | .ret=> .ret
def Iz (P:Program) (Γ:bn) (rd:Rd):Prop:=
 ∀ r args st K,rd r args st K->∀ (ro:Option Nat) (n:Nat) (M:Nat->Prop) (w0:World) (ρ:Keys) (vs:Fv) (a:Act) (w:World) (a8:List Value),Rel Γ M w0 ρ st vs a w->be (Tm.ok st.rg.length ρ) args a8->
  ∃ fn tmps kU body,(Instr.yield (ρ r []).b a8.toArray).run P w= .ok (.round (ρ r []).b fn tmps kU body) w/\
   RoundIn (qb ro) n P (ρ r []).b fn tmps kU body w fun e w'=>∃ v an ρ' x,e= .returned v/\Rel Γ M w0 ρ' an vs a w'/\Tm.ok an.rg.length ρ' x v/\K x an
theorem ER {o:Oper} {K:St->Prop} (h:gO E cl st o K):∀ c,o.op≠ .defer c:=by
 intro c hc;simp only[gO,oc,hc,oo,aBj]at h;exact h.elim
theorem yS {o:Oper} {c:Call} (ho:o.op= .call c) {fo:Operand} (hc:c.callee= .value fo) {l:Nat} (hv:a.eval fo= .func (.yield l) #[] #[]) {nx:Next} (hy:(Instr.yield l (c.args.toList.map a.eval).toArray).run P w= .ok nx w):
 (execOp a.eval o).run P w= .ok nx w:=by
 have e:c.args.map a.eval=(c.args.toList.map a.eval).toArray:=Array.ext' (by simp)
 cases c;simp only at hc;subst hc;simp only[execOp,ho,resolve,hv,Deferred.ofValue];simp only[Sem.run_bind,Sem.run_pure,Result.andThen_ok,Array.empty_append,invoke];simp only at e;rw[e,hy]
theorem jE (hP:aL P Γ E) (hC:ju P Γ E cl) (hR:Iz P Γ rd) {ro:Option Nat} {n:Nat} {ops:Array Oper} {K:St->Prop} {Q:Exit->Act->World->Prop} (hK:∀ an a' w' ρ',K an->Rel Γ M w0 ρ' an vs a' w'->Q .normal a' w'):
 ∀ (l:List Oper) (st:St) (a:Act) (w:World) (ρ:Keys),om E cl rd ops l st K->Rel Γ M w0 ρ st vs a w->wpListIn (qb ro) n P ops Q l a w
 |[],st,a,w,ρ,he,h=>hK _ _ _ _ he h
 |o::rest,st,a,w,ρ,he,h=>by
  change cV E.aN st ops o.guard (fun st=>match yieldOf st o with
   |some (r,args)=>rd r args st (fun x st=>st.aBS o.dst x (fun st=>om E cl rd ops rest st K))
   |none=>gO E cl st o (fun st=>om E cl rd ops rest st K)) (fun st=>st.aBS o.dst (.a .un) (fun st=>om E cl rd ops rest st K))at he
  unfold wpListIn;rcases dz h he with⟨an,hy,h',hw⟩|⟨an,hn,h',hw⟩
  ·rw[if_pos hw];split at hy
   ·rename_i r args vh;unfold yieldOf at vh;split at vh;case h_2=>cases vh
    rename_i c hop;split at vh;case h_2=>cases vh
    rename_i fo agL;split at vh;case h_2=>cases vh
    rename_i r' l hf hl;simp only[Option.some.injEq,Prod.mk.injEq]at vh;obtain⟨rfl,rfl⟩:=vh;obtain⟨hlt,hv⟩:=ax h' hf;obtain⟨fn,tmps,kU,body,NH,AO⟩:=hR _ _ _ _ hy ro (n-1) M w0 ρ vs _ w _ h' (kJ h' hl);refine⟨fun _ _=>trivial,?_⟩
    rw[Oper.semAt_eq _ _ _ (by simp[hop]),yS hop agL hv NH]
    refine⟨fun hh=>(by cases hh),AO.mono ?_⟩
    rintro e w' ⟨v,oM,nP,x,rfl,aBB,hx,hk⟩;rw[St.aZ]at hk;exact jE hP hC hR hK rest _ _ _ _ hk.2 (aBB.put o.dst hx)
   ·exact agU (ER hy) (oZ hP hC h' hy fun oM a2 w2 nP hk hr=>jE hP hC hR hK rest oM a2 w2 nP hk hr)
  ·rw[if_neg (by rw[hw];simp)]
   simp only[St.aZ]at hn;exact⟨fun _ _=>trivial,jE hP hC hR hK rest _ _ _ _ hn.2 (h'.put o.dst (x:=.a .un) (y:=undef) rfl)⟩
theorem Dh {N N':Nat} {aCb:Keys} (hρ:∀ r,r<N->aCb r=ρ r) (hN:N<=N'):∀ {aBd:List Nat},(∀ r∈aBd,r<N)->be (Tm.ok N' aCb) (aBd.map fun r=>Tm.a (.p r [] 0 0)) (aBd.map fun r=>Value.pointer (some ((ρ r []).at 0)))
 |[],_=>trivial
 |c::cs,h=>⟨⟨Nat.lt_of_lt_of_le (h c List.mem_cons_self) hN,by rw[hρ c (h c List.mem_cons_self)];simp⟩,Dh hρ hN fun r hr=>h r (List.mem_cons_of_mem _ hr)⟩
theorem yL (hP:aL P Γ E) (hC:ju P Γ E cl) {rn:Option (Nat×Nat)} {n:Nat} {g:Operand} {ps:Array Tmp} {kU body:Code} {K:Ex->St->Prop} {Q:Exit->Act->World->Prop} (he:akd E cl rn g ps kU body st K) (h:Rel Γ M w0 ρ st vs a w)
 (hK:∀ e an a' w' ρ' M' cu ds',iH M w0 M' cu vs.ds ds'->K e an->Rel Γ M' cu ρ' an ⟨vs.fs,ds'⟩ a' w'->Q e.exit' a' w'):(Code.rangeFunc g ps kU body).wpIn (qb (rn.map (·.2))) n P Q a w:=by
 unfold akd at he;split at he;case h_2=>exact he.elim
 rename_i f aBd hg;split at he;case h_2=>exact he.elim
 rename_i b hct hb;obtain⟨aBC,he⟩:=he;obtain⟨aaf,Rt⟩:=ax h hg;refine wpIn_rangeFunc fun fn _=>?_
 obtain⟨l,mk,w1,M',cu,D,aCb,azR,Qq,h1,agM,QJ⟩:=CL h aBC fn ps kU body;have hk:=he l fn a.tmps D;simp only[dX,St.cS]at hk;obtain⟨Sf,f1,f2,f3⟩:=(hP.inl f b hb).fn.h;have O0:=hC f b hb _ _ _ hk M' cu aCb _ _ w1 (.func (.yield l) #[] #[]::aBd.map fun r=>Value.pointer (some ((ρ r []).at 0))) h1 ⟨⟨by simp[St.push],by rw[agM]⟩,Dh QJ (by simp[St.push]) aaf⟩
 have Rm:∀ args w,(callFunc f args).run P w= .ok (.enter f args) w:=fun args w=>by
  simp only[callFunc,Sem.run_bind,run_program,Result.andThen_ok,f1,f2,f3,Bool.false_eq_true,if_false,Sem.run_pure]
 refine⟨l,mk,w1,{target:=.fn (.func f) (aBd.map fun r=>Value.pointer (some ((ρ r []).at 0))).toArray,args:=#[.func (.yield l) #[] #[]]},w1,f,(.func (.yield l) #[] #[]::aBd.map fun r=>Value.pointer (some ((ρ r []).at 0))).toArray,w1,azR,?_,fun _ _=>trivial,?_,fun hh=>(by cases hh),(zT O0).mono ?_⟩
 ·simp only[resolve,Rt];simp[go_sem]
 ·simp only[invoke];rw[Rm];simp
 ·rintro e w2 ⟨v,oM,nP,x,rfl,h2,_,lQ⟩;split at lQ;case h_2=>exact lQ.elim
  rename_i l' s' L' q j Vo;obtain⟨rfl,lQ⟩:=lQ;rw[St.aks]at lQ;have aBB:=bg Vo (by simp)
  obtain⟨_,_,_,hh,jJ⟩:=h2.rs.blk _ _ [] true (.lp l' s' L' q j) aBB ⟨rfl,rfl,rfl⟩;rw[jJ]at hh;have fin:q≠ .busy->(Instr.endLoop l').run P w2= .ok j (w2.putObj l' (.loop {L' with state:=.exhausted,pending:=j})):=fun hq=>run_endLoop hh hq
  have h3:=h2.IV aBB {L' with state:=.exhausted,pending:=j};have out:∀ e,K e (oM.aBZ st.rg.length .dead)->Q e.exit' {a with defers:=mk++a.defers} (w2.putObj l' (.loop {L' with state:=.exhausted,pending:=j})):=fun e hk=>hK e _ _ _ _ _ _ _ Qq hk h3
  split at lQ
  ·exact⟨_,_,fin (by simp),out .normal lQ⟩
  ·exact⟨_,_,fin (by simp),wpIn_ret (out .ret lQ)⟩
  ·exact⟨_,_,fin (by simp),wpIn_exit (out (.exit _) lQ)⟩
  ·exact lQ.elim
theorem pO {ro:Option Nat} {n:Nat} {ops:Array Oper} (iP:∀ (i:Nat) (o:Oper),ops[i]?=some o->∀ c,o.op≠ .defer c) {R:Act->World->Prop}:
 ∀ (l:List Nat) (a:Act) (w:World),wpOps P ops (fY R) l a w->wpOpsIn (qb ro) n P ops (fY R) l a w
 |[],a,w,h=>h
 |i::rest,a,w,h=>by
  unfold wpOps at h;unfold wpOpsIn;split at h
  ·rename_i ho;rw[ho];exact pO iP rest a w h
  ·rename_i o ho;rw[ho];simp only;split at h
   ·rename_i hw;rw[if_pos hw];rcases h with h|⟨_,a0,w0,h⟩
    ·exact agU (iP i o ho) (Oper.wp_mono (fun a w=>pO iP rest a w) h)
    ·exact h.elim
   ·rename_i hw;rw[if_neg hw];exact⟨fun _ _=>trivial,pO iP rest _ _ h⟩
theorem wD (hP:aL P Γ E) (hC:ju P Γ E cl) (h:Rel Γ M w0 ρ st vs a w) {ro:Option Nat} {n:Nat} {id:Nat} {l:List Oper} (iP:bZ sC l=true) {K:St->Prop} (he:Z5 E cl id l st K) {Q:Exit->Act->World->Prop}
 (hK:∀ an a' w' ρ',K an->Rel Γ M w0 ρ' an vs a' w'->Q .normal a' w'):(Code.region id l.toArray true).wpIn (qb ro) n P Q a w:=by
 refine Code.wpIn_mono (Q:=fY (Q .normal)) (fun e a w hq=>by cases e<;>first|exact hq|exact hq.elim) (wpIn_region_draw fun t=>?_)
 refine pO (fun i o ho c hc=>?_) _ _ _ ?_
 ·have h1:=iI iP o (List.mem_of_getElem? (by simpa using ho))
  unfold sC at h1;rw[hc]at h1;cases h1
 ·simp only[Region.schedule,hP.mixed,Bool.true_or,if_true];exact wpAny_sound _ t _ a _ (uS hP hC h he hK)
theorem cR (hP:aL P Γ E) (hC:ju P Γ E cl) (hR:Iz P Γ rd) {rn:Option (Nat×Nat)} {n:Nat}:∀ (c:Code) (M:Nat->Prop) (w0:World) (vs:Fv) (st:St) (a:Act) (w:World) (ρ:Keys) (K:Ex->St->Prop) (Q:Exit->Act->World->Prop),jD E cl rd rn c st K->Rel Γ M w0 ρ st vs a w->
 (∀ e an a' w' ρ' M' cu ds',iH M w0 M' cu vs.ds ds'->K e an->Rel Γ M' cu ρ' an ⟨vs.fs,ds'⟩ a' w'->Q e.exit' a' w')->c.wpIn (qb (rn.map (·.2))) n P Q a w
 | .skip,M,w0,vs,st,a,w,ρ,K,Q,he,h,hK=>wpIn_skip (hK .normal _ _ _ _ _ _ _ (iH.refl _ _ _) he h)
 | .region id ops draw,M,w0,vs,st,a,w,ρ,K,Q,he,h,hK=>by
   have e1:ops=ops.toList.toArray:=by simp
   cases draw with
   |true=>
    cases rn with
    |none=>
     change Z5 E cl id ops.toList st (K .normal)at he;rw[e1];exact wpIn_wide.2 (Ag hP hC h he fun an a' w' ρ' hk hr=>hK .normal _ _ _ _ _ _ _ (iH.refl _ _ _) hk hr)
    |some p=>
     change (match bZ sC ops.toList with|true=>Z5 E cl id ops.toList st (K .normal)|false=>False)at he
     split at he
     ·rename_i iP;rw[e1];exact wD hP hC h iP he fun an a' w' ρ' hk hr=>hK .normal _ _ _ _ _ _ _ (iH.refl _ _ _) hk hr
     ·exact he.elim
   |false=>
    change om E cl rd ops ops.toList st (K .normal)at he;exact wpIn_region_list (jE hP hC hR (fun an a' w' ρ' hk hr=>hK .normal _ _ _ _ _ _ _ (iH.refl _ _ _) hk hr) _ _ _ _ _ he h)
 | .seq x y,M,w0,vs,st,a,w,ρ,K,Q,he,h,hK=>by
   change (match E.aBf x with
    |true=>∃ (X:Type) (I:X->Prop) (S:X->St),jD E cl rd rn x st (fun e an=>match e with| .normal=>∃ (x:X) (is:List Nat),I x/\Le is an (S x)|e=>K e an)/\∀ x,I x->jD E cl rd rn y (S x) K
    |false=>jD E cl rd rn x st (fun e st=>match e with| .normal=>jD E cl rd rn y st K|e=>K e st))at he
   split at he
   ·obtain⟨X,I,S,h1,h2⟩:=he;refine wpIn_seq (cR hP hC hR x M w0 vs st a w ρ _ _ h1 h fun e an a' w' ρ' M' cu ds' ha hk hr=>?_)
    cases e with
    |normal=>
     obtain⟨z,is,hI,hle⟩:=hk;obtain⟨nP,aBB⟩:=hr.le hle;exact cR hP hC hR y M' cu ⟨vs.fs,ds'⟩ (S z) a' w' nP _ _ (h2 z hI) aBB fun e oM a2 w2 nP M2 yA xE hb lQ aBB=>hK e _ _ _ _ _ _ _ (ha.trans hb) lQ aBB
    |exit id=>exact hK (.exit id) _ _ _ _ _ _ _ ha hk hr
    |ret=>exact hK .ret _ _ _ _ _ _ _ ha hk hr
   refine wpIn_seq (cR hP hC hR x M w0 vs st a w ρ _ _ he h fun e an a' w' ρ' M' cu ds' ha hk hr=>?_)
   cases e with
   |normal=>exact cR hP hC hR y M' cu ⟨vs.fs,ds'⟩ an a' w' ρ' _ _ hk hr fun e oM a2 w2 nP M2 yA xE hb lQ aBB=>hK e _ _ _ _ _ _ _ (ha.trans hb) lQ aBB
   |exit id=>exact hK (.exit id) _ _ _ _ _ _ _ ha hk hr
   |ret=>exact hK .ret _ _ _ _ _ _ _ ha hk hr
 | .cond c x y,M,w0,vs,st,a,w,ρ,K,Q,he,h,hK=>by
   change (match ev st c with
    |some (.a .tt)=>jD E cl rd rn x st K
    |some (.a .ff)=>jD E cl rd rn y st K
    |some (.a (.v (.bool t)))=>(match E.aN with|true=>(match t with|true=>jD E cl rd rn x st K|false=>jD E cl rd rn y st K)|false=>(t=true->jD E cl rd rn x st K)/\(t=false->jD E cl rd rn y st K))
    |_=>False)at he
   split at he
   ·rename_i hc;exact wpIn_cond_true (ax h hc) (cR hP hC hR x M w0 vs st a w ρ _ _ he h hK)
   ·rename_i hc;exact wpIn_cond_false (ax h hc) (cR hP hC hR y M w0 vs st a w ρ _ _ he h hK)
   ·rename_i t hc;have hv:a.eval c= .bool t:=(ax h hc).1;split at he
    ·cases t with
     |true=>exact wpIn_cond_true hv (cR hP hC hR x M w0 vs st a w ρ _ _ he h hK)
     |false=>exact wpIn_cond_false hv (cR hP hC hR y M w0 vs st a w ρ _ _ he h hK)
    cases t with
    |true=>exact wpIn_cond_true hv (cR hP hC hR x M w0 vs st a w ρ _ _ (he.1 rfl) h hK)
    |false=>exact wpIn_cond_false hv (cR hP hC hR y M w0 vs st a w ρ _ _ (he.2 rfl) h hK)
   ·exact he.elim
 | .block id body,M,w0,vs,st,a,w,ρ,K,Q,he,h,hK=>by
   change jD E cl rd rn body st (fun e st=>match e with
    | .exit id'=>(match Nat.beq id id' with|true=>K .normal st|false=>K (.exit id') st)
    |e=>K e st)at he
   refine wpIn_block (cR hP hC hR body M w0 vs st a w ρ _ _ he h fun e an a' w' ρ' M' cu ds' ha hk hr=>?_)
   cases e with
   |normal=>exact hK .normal _ _ _ _ _ _ _ ha hk hr
   |ret=>exact hK .ret _ _ _ _ _ _ _ ha hk hr
   |exit id'=>
    simp only[Ex.exit',Exit.inBlock];simp only at hk;split at hk
    ·rename_i anY;rw[if_pos (Nat.eq_of_beq_eq_true anY).symm];exact hK .normal _ _ _ _ _ _ _ ha hk hr
    ·rename_i anY;rw[if_neg (fun e=>by subst e;simp at anY)];exact hK (.exit id') _ _ _ _ _ _ _ ha hk hr
 | .loop body,M,w0,vs,st,a,w,ρ,K,Q,he,h,hK=>by
   change Ai (fun st K=>jD E cl rd rn body st K) E.un st K at he
   have inv:∀ (st:St) (a:Act) (w:World) (ρ:Keys) (K:Ex->St->Prop) (Q:Exit->Act->World->Prop),C3 (fun st K=>jD E cl rd rn body st K) st K->Rel Γ M w0 ρ st vs a w->
    (∀ e an a' w' ρ' M' cu ds',iH M w0 M' cu vs.ds ds'->K e an->Rel Γ M' cu ρ' an ⟨vs.fs,ds'⟩ a' w'->Q e.exit' a' w')->(Code.loop body).wpIn (qb (rn.map (·.2))) n P Q a w:=by
    intro st a w ρ K Q he h hK;obtain⟨X,I,S,μ,x0,PY,Ra,hle,AO⟩:=he;obtain⟨R2,h0⟩:=h.le hle;refine wpIn_loop_ghost (fun n a w=>∃ x ρ M' cu ds',iH M w0 M' cu vs.ds ds'/\I x/\μ x=n/\Rel Γ M' cu ρ (S x) ⟨vs.fs,ds'⟩ a w) (μ x0) ⟨x0,R2,M,w0,vs.ds,iH.refl _ _ _,Ra,rfl,h0⟩ ?_
    rintro n a1 w1 ⟨x,aCb,M1,Ox,Dn,ox,Rb,rfl,hr⟩;refine cR hP hC hR body M1 Ox ⟨vs.fs,Dn⟩ (S x) a1 w1 aCb _ _ (AO x Rb) hr fun e an a' w' ρ' M' cu ds' ha hk hr'=>?_
    cases e with
    |normal=>
     obtain⟨x',is,Q9,hle',hlt⟩:=hk;obtain⟨nP,h2⟩:=hr'.le hle';exact⟨μ x',hlt,x',nP,M',cu,ds',ox.trans ha,Q9,rfl,h2⟩
    |exit id=>exact hK (.exit id) _ _ _ _ _ _ _ (ox.trans ha) hk hr'
    |ret=>exact hK .ret _ _ _ _ _ _ _ (ox.trans ha) hk hr'
   unfold Ai at he;split at he
   ·exact inv st a w ρ K Q he h hK
   ·rename_i m _;refine wpIn_loop_rounds (m+1) ?_;generalize m+1=m at he;clear inv;induction m generalizing st a w ρ M w0 vs with
    |zero=>exact he.elim
    |succ m ih=>
     change jD E cl rd rn body st (fun e an=>match e with| .normal=>D4 (fun st K=>jD E cl rd rn body st K) m an K|e=>K e an)at he
     refine cR hP hC hR body M w0 vs st a w ρ _ _ he h fun e an a' w' ρ' M' cu ds' ha hk hr=>?_
     cases e with
     |normal=>exact ih M' cu ⟨vs.fs,ds'⟩ an a' w' ρ' hr (fun e oM a2 w2 nP M2 yA xE hb lQ aBB=>hK e _ _ _ _ _ _ _ (ha.trans hb) lQ aBB) hk
     |exit id=>exact hK (.exit id) _ _ _ _ _ _ _ ha hk hr
     |ret=>exact hK .ret _ _ _ _ _ _ _ ha hk hr
 | .rangeFunc g ps kU body,M,w0,vs,st,a,w,ρ,K,Q,he,h,hK=>yL hP hC he h hK
 | .exit id,M,w0,vs,st,a,w,ρ,K,Q,he,h,hK=>wpIn_exit (hK (.exit id) _ _ _ _ _ _ _ (iH.refl _ _ _) he h)
 | .ret,M,w0,vs,st,a,w,ρ,K,Q,he,h,hK=>wpIn_ret (hK .ret _ _ _ _ _ _ _ (iH.refl _ _ _) he h)
 | .scope body,M,w0,vs,st,a,w,ρ,K,Q,he,h,hK=>by
   cases rn with
   |some _=>exact he.elim
   |none=>
    change jD E cl rd none body st K at he;refine wpIn_wide.2 (wp_scope_straight ((wpIn_wide (n:=n)).1 (cR hP hC hR body M w0 vs st a w ρ _ (Exit.noGoto Q) he h fun e an a' w' ρ' M' cu ds' ha hk hr=>?_)))
    have:=hK e _ _ _ _ _ _ _ ha hk hr;cases e<;>exact this
 | .label _,M,w0,vs,st,a,w,ρ,K,Q,he,h,hK=>wpIn_label (hK .normal _ _ _ _ _ _ _ (iH.refl _ _ _) he h)
 | .goto _,_,_,_,_,_,_,_,_,_,he,_,_=>he.elim
 | .refuse _,_,_,_,_,_,_,_,_,_,he,_,_=>he.elim
/-! ### A function's results -/
def rG (tmps:Array Value):ResultVar->Sem Value
 | .tmp t=>pure (tmps.getD t undef)
 | .cell a t=>do loadVar t (<-asAddr (tmps.getD a undef))
theorem qB (hE:bE P Γ E) (h:Rel Γ M w0 ρ st vs a w) {r:ResultVar} {q:List aa} {x:Tm} (he:qA E st r=some (q,x)) (hq:bW q):
 ∃ y,(rG a.tmps r).run P w= .ok y w/\x.ok st.rg.length ρ y:=by
 cases r with
 |tmp t=>
  simp only[qA,Option.some.injEq,Prod.mk.injEq]at he;obtain⟨rfl,rfl⟩:=he;exact⟨_,rfl,aBu h t⟩
 |cell ad t=>
  simp only[qA]at he;obtain⟨y,h1,h2⟩:=mE hE h (aBu h ad) he hq;have h1:=h1 w (Below.refl _ _);refine⟨y,?_,h2⟩;unfold qw at he;split at he
  ·rename_i r π i j hx;have hv:=aBu h ad;rw[hx]at hv;obtain⟨_,hv⟩:=hv;simp only[rG];rw[hv]at h1 ⊢;simpa[Instr.loadAt,Instr.sureAddr,asAddr]using h1
  ·cases he
theorem EE {N:Nat} {x:Tm} {c:C1} {y:Value} (he:II x=some c) (h:x.ok N ρ y):c.ok N ρ y:=by
 cases x<;>simp only[II,Option.some.injEq,reduceCtorEq]at he<;>subst he<;>exact h
theorem qC (hE:bE P Γ E) (h:Rel Γ M w0 ρ st vs a w):∀ {rs:List ResultVar} {q:List aa} {l:List C1},aBl E st rs=some (q,l)->bW q->
 ∃ ys:List Value,(rs.mapM (rG a.tmps)).run P w= .ok ys w/\be (C1.ok st.rg.length ρ) l ys
 |[],q,l,he,hq=>by
  simp only[aBl,Option.some.injEq,Prod.mk.injEq]at he;obtain⟨rfl,rfl⟩:=he;exact⟨[],by simp,trivial⟩
 |r::rs,q,l,he,hq=>by
  simp only[aBl]at he;split at he
  ·rename_i q1 t q2 l2 h1 h2;split at he
   ·rename_i c hc;simp only[Option.some.injEq,Prod.mk.injEq]at he;obtain⟨rfl,rfl⟩:=he;rw[aH]at hq;obtain⟨y,r1,k1⟩:=qB hE h h1 hq.1;obtain⟨ys,r2,k2⟩:=qC hE h h2 hq.2;exact⟨y::ys,by simp only[List.mapM_cons,Sem.run_bind,r1,r2,Result.andThen_ok,Sem.run_pure],EE hc k1,k2⟩
   ·cases he
  ·cases he
theorem Fw (fn:Func) (tmps:Array Value):results fn tmps=(do let vs<-fn.results.mapM (rG tmps);pure (if h:vs.size=1 then vs[0]else .tuple vs)):=by
 unfold results
 congr 1
theorem tq {fn:Func} {rs:List ResultVar} (hr:fn.results=rs.toArray) {ys:List Value} (h:(rs.mapM (rG a.tmps)).run P w= .ok ys w):
 (results fn a.tmps).run P w= .ok (match ys with|[y]=>y|ys=> .tuple ys.toArray) w:=by
 rw[Fw,hr];simp only[List.mapM_toArray,Sem.run_bind,Sem.run_map,h,Result.andThen_ok,Sem.run_pure]
 congr 1
 match ys with
 |[]=>simp
 |[y]=>simp
 |y::z::zs=>simp
theorem sX (hE:bE P Γ E) (h:Rel Γ M w0 ρ st vs a w) {fn:Func} {rs:List ResultVar} (hr:fn.results=rs.toArray) {q:List aa} {x:Tm} (he:nl E st rs=some (q,x)) (hq:bW q):
 ∃ y,(results fn a.tmps).run P w= .ok y w/\x.ok st.rg.length ρ y:=by
 unfold nl at he;split at he
 ·obtain⟨y,h1,h2⟩:=qB hE h he hq;exact⟨y,tq hr (ys:=[y]) (by simp[h1]),h2⟩
 ·rename_i hne;split at he
  ·rename_i q' l hl;simp only[Option.some.injEq,Prod.mk.injEq]at he;obtain⟨rfl,rfl⟩:=he;obtain⟨ys,h1,h2⟩:=qC hE h hl hq;refine⟨_,tq hr h1,?_⟩;have hlen:ys.length≠1:=by
    intro hh;have e1:l.length=1:=by rw[h2.length,hh]
    match l,e1 with
    |[c],_=>
     have:rs.length=1:=by
      clear h1 hr;have gen:∀ (rs:List ResultVar) (q:List aa) (l:List C1),aBl E st rs=some (q,l)->rs.length=l.length:=by
       intro rs;induction rs with
       |nil=>intro q l hl;simp only[aBl,Option.some.injEq,Prod.mk.injEq]at hl;obtain⟨_,rfl⟩:=hl;rfl
       |cons r rs ih=>
        intro q l hl;simp only[aBl]at hl;split at hl
        ·rename_i h1 h2;split at hl
         ·simp only[Option.some.injEq,Prod.mk.injEq]at hl;obtain⟨_,rfl⟩:=hl;simp[ih _ _ h2]
         ·cases hl
        ·cases hl
      exact gen rs _ _ hl
     match rs,this with
     |[r],_=>exact hne r rfl
   match ys,hlen with
   |[],_=>exact⟨[],rfl,h2⟩
   |[y],hlen=>exact absurd rfl hlen
   |y::z::zs,_=>exact⟨_,rfl,h2⟩
  ·cases he
/-! ### Frames -/
theorem Az:∀ (d:Nat) (k:Tr->Prop),EY d k=k (Tr.full d)
 |0,_=>rfl
 |d+1,k=>by
  show EY d (fun t=>k (.node (.a .un) t t))=_
  rw[Az d];rfl
def iX:List Tm->Nat->Tr->Tr
 |[],_,t=>t
 |x::l,i,t=>iX l (i+1) (t.put i x)
theorem BE:∀ (l:List Tm) (i:Nat) (t:Tr) (k:Tr->Prop),Ft l i t k=k (iX l i t)
 |[],_,_,_=>rfl
 |x::l,i,t,k=>by
  show agI x (fun x=>t.aBS i x (fun t=>Ft l (i+1) t k))=_
  rw[nr,Tr.oE,BE l];rfl
theorem tI:∀ (d i:Nat),(Tr.full d).get i= .a .un\/(Tr.full d).get i= .a .any
 |0,_=> .inr rfl
 |d+1,i=>by
  rw[show Tr.full (d+1)= .node (.a .un) (Tr.full d) (Tr.full d)from rfl];simp only[Tr.get];split
  ·exact .inl rfl
  ·split
   ·exact tI d _
   ·exact tI d _
theorem BF {N:Nat}:∀ (l:List Tm) (k:Nat) (t:Tr) (us:List Value),be (Tm.ok N ρ) l us->(∀ i,k<=i->(t.get i).ok N ρ undef)->
 (∀ i,i<k->((iX l k t).get i=t.get i))/\(∀ i,((iX l k t).get (k+i)).ok N ρ (us.getD i undef))
 |[],k,t,[],_,ht=>⟨fun i _=>rfl,fun i=>by simpa[iX]using ht (k+i) (Nat.le_add_right _ _)⟩
 |x::l,k,t,u::us,h,ht=>by
  obtain⟨h1,h2⟩:=BF l (k+1) (t.put k x) us h.2 (fun i hi=>by rw[Tr.jF _ _ _ _ (by omega)];exact ht i (by omega))
  refine⟨fun i hi=>?_,fun i=>?_⟩
  ·show(iX l (k+1) (t.put k x)).get i=_;rw[h1 i (by omega),Tr.jF _ _ _ _ (by omega)]
  ·show((iX l (k+1) (t.put k x)).get (k+i)).ok N ρ _;cases i with
   |zero=>
    show((iX l (k+1) (t.put k x)).get k).ok N ρ u;rw[h1 k (by omega)]
    rcases Tr.ake t k x with hg|hg
    ·rw[hg];exact h.1
    ·rw[hg];exact trivial
   |succ i=>rw[show k+(i+1)=k+1+i by omega];exact h2 i
theorem uX {n:Nat} {args:List Tm} {k:Sl->Prop} (h:qJ n args k):args.length<=n/\k ⟨n,iX args 0 (Tr.full (jg n))⟩:=by
 unfold qJ at h;rw[mo]at h;split at h
 ·rename_i hb;rw[Az,BE]at h;exact⟨Nat.le_of_ble_eq_true hb,h⟩
 ·exact h.elim
theorem Ay {N n:Nat} {args:List Tm} {us:List Value} (h:be (Tm.ok N ρ) args us) (hn:args.length<=n):Sl.ok N ρ ⟨n,iX args 0 (Tr.full (jg n))⟩ (us.toArray++Array.replicate (n-us.length) undef):=by
 refine⟨?_,fun i=>?_⟩
 ·rw[h.length]at hn;simp;omega
 ·have:=(BF args 0 (Tr.full (jg n)) us h (fun i _=>by
   rcases tI (jg n) i with hg|hg
   ·rw[hg];exact rfl
   ·rw[hg];exact trivial)).2 i
  rw[Nat.zero_add]at this;have e:(us.toArray++Array.replicate (n-us.length) undef).getD i undef=us.getD i undef:=by
   simp only[Array.getD_eq_getD_getElem?,Array.getElem?_append,List.size_toArray,List.getElem?_toArray,List.getD_eq_getElem?_getD];split
   ·rfl
   ·rename_i hlt;rw[List.getElem?_eq_none (by omega)]
    simp only[Array.getElem?_replicate];split<;>rfl
  rw[e];exact this
def Ii (P:Program) (Γ:bn) (go:Option (Nat×Nat)->Code->St->(Ex->St->Prop)->Prop):Prop:=
 ∀ (rn:Option (Nat×Nat)) (n:Nat) (M:Nat->Prop) (w0:World) (vs:Fv) (c:Code) (st:St) (a:Act) (w:World) (ρ:Keys) (K:Ex->St->Prop) (Q:Exit->Act->World->Prop),go rn c st K->Rel Γ M w0 ρ st vs a w->
  (∀ e an a' w' ρ' M' cu ds',iH M w0 M' cu vs.ds ds'->K e an->Rel Γ M' cu ρ' an ⟨vs.fs,ds'⟩ a' w'->Q e.exit' a' w')->c.wpIn (qb (rn.map (·.2))) n P Q a w
theorem Ez (hP:aL P Γ E) {go:Option (Nat×Nat)->Code->St->(Ex->St->Prop)->Prop} (hgo:Ii P Γ go):ju P Γ E (GG E (go none)):=by
 intro f b hb st args K hc M w0 ρ vs a w a8 h hargs;obtain⟨fn,h1,h2,h3,h4,h5⟩:=(hP.inl f b hb).h;obtain⟨tm,fr,rg⟩:=st;change qJ b.n args (fun s=>go none b.code ⟨s,tm::fr,rg⟩ (fun e an=>match e with
  | .exit _=>False
  |_=>(match nl E an b.rs with
   |some (q,x)=>aBP E.aN q (match an with|⟨_,H9::fr',cE⟩=>K x ⟨H9,fr',cE⟩|_=>False)
   |none=>False)))at hc
 obtain⟨hn,hc⟩:=uX hc;have cC:Rel Γ M w0 ρ ⟨⟨b.n,iX args 0 (Tr.full (jg b.n))⟩,tm::fr,rg⟩ ⟨a.tmps::vs.fs,[]⟩ {tmps:=a8.toArray++Array.replicate (b.n-a8.length) undef,defers:=[]} w:=
  ⟨Ay hargs hn,⟨h.tm,h.fr⟩,rfl,h.rs,h.bl,h.gl,h.gn⟩
 refine callsIn_wide.1 (callsIn_of_wp_marks (n:=0) h1 h3 trivial ?_ rfl);rw[h4];rw[show a8.toArray.size=a8.length by simp]
 refine hgo none 0 M w0 ⟨a.tmps::vs.fs,[]⟩ b.code _ _ _ _ _ _ hc cC fun e an a' w' ρ' M' cu ds' ha hk hr'=>?_
 obtain⟨tK,Ds,hds,iP,G8⟩:=ha;have jk:=hr'.fq tK h.gn;have Hh:a'.defers=Ds.map mark:=by have:=hr'.df;simp only at this;rw[this,hds];simp
 have fin:(match nl E an b.rs with
  |some (q,x)=>aBP E.aN q (match (generalizing:=false) an with|⟨_,H9::fr',cE⟩=>K x ⟨H9,fr',cE⟩|_=>False)
  |none=>False)->LeavesInM Fence.wide 0 P fn a'.tmps (fun e w'=>∃ v an ρ' x,e= .returned v/\Rel Γ M w0 ρ' an vs a w'/\Tm.ok an.rg.length ρ' x v/\K x an) a'.defers .returning w':=by
  intro hk;rw[Hh];refine nV (Γ:=Γ) (M:=M) (w0:=w0) (ρ:=ρ') (st:=an) (vs:=⟨a.tmps::vs.fs,ds'⟩) (a:=a') (fun w2 aBB=>?_) Ds w' jk iP (fun D hD=>⟨(G8 D hD).1.now hr'.bl,(G8 D hD).2⟩)
  split at hk
  ·rename_i q x hx;rw[aV]at hk;obtain⟨y,k1,k2⟩:=sX hP.env aBB h5 hx hk.1;obtain⟨_,hk⟩:=hk;obtain⟨Sw,QZ,RU⟩:=an;cases QZ with
   |nil=>exact hk.elim
   |cons RX Q0=>exact⟨y,k1,y,⟨RX,Q0,RU⟩,ρ',x,rfl,⟨aBB.fr.1,aBB.fr.2,h.df,aBB.rs,aBB.bl,aBB.gl,aBB.gn⟩,k2,hk⟩
  ·exact hk.elim
 cases e with
 |exit id=>exact hk.elim
 |normal=>exact fin hk
 |ret=>exact fin hk
theorem th {N:Nat}:∀ (ps:List Nat) (args:List Tm) (s:Sl) (k:Sl->Prop) (a8:List Value) (t:Array Value),Fp ps args s k->be (Tm.ok N ρ) args a8->s.ok N ρ t->
 a8.length=ps.length/\∃ s',k s'/\s'.ok N ρ ((ps.zip a8).foldl (fun(t:Array Value) (p:Nat×Value)=>t.setIfInBounds p.1 p.2) t)
 |[],[],s,k,[],t,h,_,hs=>⟨rfl,s,h,hs⟩
 |[],_::_,s,k,_,t,h,_,hs=>h.elim
 |p::ps,[],s,k,_,t,h,_,hs=>by cases s;exact h.elim
 |p::ps,x::args,⟨n,tr⟩,k,v::a8,t,h,ha,hs=>by
  change (match Nat.blt p n with|true=>agI x (fun x=>tr.aBS p x (fun tr=>Fp ps args ⟨n,tr⟩ k))|false=>False)at h
  split at h
  ·rename_i hb;rw[nr,Tr.oE]at h;have hs':Sl.ok N ρ ⟨n,tr.put p x⟩ (t.setIfInBounds p v):=by
    have:=hs.put p ha.1;simp only[Sl.put,hb]at this;exact this
   obtain⟨h1,s',h2,h3⟩:=th ps args _ k a8 _ h ha.2 hs';exact⟨by simp[h1],s',h2,h3⟩
  ·exact h.elim
theorem CV {go:Option (Nat×Nat)->Code->St->(Ex->St->Prop)->Prop} (hgo:Ii P Γ go):Iz P Γ (wF go):=by
 intro r args st K hk ro n M w0 ρ vs a w a8 h hargs;obtain⟨tm,fr,rg⟩:=st;unfold wF at hk;simp only at hk;split at hk;case h_2=>exact hk.elim
 rename_i l s L j hg;obtain⟨_,_,hs,hh,hl⟩:=h.rs.blk r _ [] true (.lp l s L .ready j) (bg hg (by simp)) ⟨rfl,rfl,rfl⟩
 rw[hl]at hh ⊢;obtain⟨hlen,s',hk,hs'⟩:=th _ _ _ _ _ _ hk hargs hs;have hy:=run_yield (P:=P) (args:=a8.toArray) hh (by simp[hlen])
 refine⟨_,_,_,_,hy,roundIn_of_wpIn trivial ?_⟩;have hf:((L.params.zip a8.toArray).foldl (fun(t:Array Value) (p:Nat×Value)=>t.setIfInBounds p.1 p.2) L.tmps)=(L.params.toList.zip a8).foldl (fun(t:Array Value) (p:Nat×Value)=>t.setIfInBounds p.1 p.2) L.tmps:=by
  rw[<-Array.foldl_toList,Array.toList_zip]
 have cC:Rel Γ M w0 ρ ⟨s',tm::fr,rg⟩ ⟨a.tmps::vs.fs,[]⟩ {tmps:=(L.params.toList.zip a8).foldl (fun(t:Array Value) (p:Nat×Value)=>t.setIfInBounds p.1 p.2) L.tmps,defers:=[]} w:=
  ⟨hs',⟨h.tm,h.fr⟩,rfl,h.rs,h.bl,h.gl,h.gn⟩
 rw[<-hf]at cC;refine hgo (some (r,l)) n M w0 ⟨a.tmps::vs.fs,[]⟩ L.assign _ _ _ _ _ _ hk cC fun e p8 a1 w1 aCb M1 Ox Dn ox hk s7=>?_
 cases e with
 |exit id=>exact hk.elim
 |ret=>exact hk.elim
 |normal=>
  simp only at hk;split at hk;case h_2=>exact hk.elim
  rename_i l1 s1 L1 j1 hg1;obtain⟨rfl,hk⟩:=hk;have hg1:=bg hg1 (by simp)
  obtain⟨_,_,_,xU,agM⟩:=s7.rs.blk r _ [] true (.lp l1 s1 L1 .ready j1) hg1 ⟨rfl,rfl,rfl⟩;rw[agM]at xU;rw[St.aks]at hk;refine⟨_,run_beginRound xU rfl,?_⟩;have aBB:=s7.BX (q':=.busy) (j':=j1) hg1;refine hgo (some (r,l1)) n M1 Ox ⟨a.tmps::vs.fs,Dn⟩ L.body _ _ _ _ _ _ hk aBB fun e On a3 w3 KQ M3 SA Pu Ri hk DI=>?_
  obtain⟨Ov,M0,HT⟩:=On;cases M0 with
  |nil=>exact hk.elim
  |cons P9 PF=>
   simp only at hk;split at hk;case h_2=>exact hk.elim
   rename_i l3 s3 L3 j3 Km;obtain⟨rfl,hk⟩:=hk;have Km:=bg (st:=⟨Ov,P9::PF,HT⟩) Km (by simp)
   obtain⟨_,_,_,Kn,oz⟩:=DI.rs.blk r _ [] true (.lp l3 s3 L3 .busy j3) Km ⟨rfl,rfl,rfl⟩;rw[oz]at Kn;have tK:=(ox.trans Ri).ext;have back:∀ (q:LoopState) (j:Option Code),Rel Γ M w0 KQ ((⟨P9,PF,HT⟩:St).aBZ r (.lp l3 s3 L3 q j)) vs a (w3.putObj l3 (.loop {L3 with state:=q,pending:=j})):=fun q j=>by
    have h4:=(DI.BX (q':=q) (j':=j) Km).fq tK h.gn;exact⟨h4.fr.1,h4.fr.2,h.df,h4.rs,h4.bl,h4.gl,h4.gn⟩
   cases e with
   |normal=>
    simp only[nG,St.aks]at hk;exact⟨_,_,run_endRound none Kn,_,_,KQ,.a .tt,rfl,back .ready none,rfl,hk⟩
   |ret=>
    simp only[nG,St.aks]at hk;exact⟨_,_,run_endRound (some .ret) Kn,_,_,KQ,.a .ff,rfl,back .done (some .ret),rfl,hk⟩
   |exit id=>
    simp only[nG,St.aks]at hk;exact⟨_,_,run_endRound (some (.exit id)) Kn,_,_,KQ,.a .ff,rfl,back .done (some (.exit id)),rfl,hk⟩
theorem qx (hP:aL P Γ E):∀ (d:Nat),Ii P Γ (MC E d)
 |0=>fun rn n M w0 vs c st a w ρ K Q he h hK=>cR hP (cl:=fun _ _ _ _=>False) (rd:=fun _ _ _ _=>False) (fun _ _ _ _ _ _ hc=>hc.elim) (fun _ _ _ _ hc=>hc.elim) c M w0 vs st a w ρ K Q he h hK
 |d+1=>fun rn n M w0 vs c st a w ρ K Q he h hK=>cR hP (Ez hP (qx hP d)) (CV (qx hP d)) c M w0 vs st a w ρ K Q he h hK
end
end Go.Sy
end
section
namespace Go.Sy
open Go Go.RowKit
universe u
abbrev aAS:=List (Option (Nat×Path))
def N3 (is:aAS) (n:Nat):List Nat->List Nat->Prop
 |[],[]=>True
 |r::l,r'::l'=>(r'<n/\is[r']?=some (some (r,[])))/\N3 is n l l'
 |_,_=>False
def yp (is:aAS) (n:Nat) (x x':At):Prop:=
 match x' with
 | .any=>True
 | .p r' aW i' j'=>(∃ r dD,x= .p r (aW++dD) i' j'/\r'<n/\is[r']?=some (some (r,dD)))
 | .sl r' aW lo k=>((x= .v (.slice none 0 0)\/x= .z)/\lo=0/\k=0/\r'<n/\is[r']?=some none)\/(∃ r dD,x= .sl r (aW++dD) lo k/\r'<n/\is[r']?=some (some (r,dD)))
 | .fn f l'=>∃ l,x= .fn f l/\N3 is n l l'
 | .mp r'=>∃ r,x= .mp r/\r'<n/\is[r']?=some (some (r,[]))
 | .it _=>False
 | .yl _=>False
 | .v (.bool b)=>x= .v (.bool b)\/(x= .tt/\b=true)\/(x= .ff/\b=false)
 |x'=>x=x'
def rE (is:aAS) (n:Nat):List At->List At->Prop
 |[],[]=>True
 |x::l,x'::l'=>yp is n x x'/\rE is n l l'
 |_,_=>False
def P0 (is:aAS) (n:Nat):C1->C1->Prop
 | .a x,.a y=>yp is n x y
 | .agg l,.agg l'=>rE is n l l'
 |_,_=>False
def Jv (is:aAS) (n:Nat):List C1->List C1->Prop
 |[],[]=>True
 |x::l,x'::l'=>P0 is n x x'/\Jv is n l l'
 |_,_=>False
def agW (is:aAS) (n:Nat):Tm->Tm->Prop
 | .a x,.a y=>yp is n x y
 | .agg l,.agg l'=>rE is n l l'
 | .bF l,.bF l'=>Jv is n l l'
 |_,_=>False
def Jw (is:aAS) (n:Nat):List Tm->List Tm->Prop
 |[],[]=>True
 |x::l,x'::l'=>agW is n x x'/\Jw is n l l'
 |_,_=>False
def agV (rg:List az) (is:aAS) (n:Nat) (r':Nat):az->Prop
 | .dead=>True
 | .box o l'=>o=false/\∃ r o0 l,is[r']?=some (some (r,[]))/\rg[r]?=some (.box o0 l)/\rE is n l l'
 | .arr te tg xs o i=>o=false/\i=false/\((is[r']?=some none/\xs=[]/\tg≠[])\/∃ r dD q,is[r']?=some (some (r,dD))/\(rg.getD r .dead).dn dD=some (q,⟨te,tg,xs⟩)/\bW q)
 | .map t k c es o=>o=false/\∃ r o0,is[r']?=some (some (r,[]))/\rg[r]?=some (.map t k c es o0)
 |_=>False
structure qc (args:List Tm) (rg:List az) (is:aAS) (args':List Tm) (cE:List az):Prop where
 args:Jw is cE.length args args'
 mX:∀ (r:Nat) (g:az),cE[r]?=some g->agV rg is cE.length r g
section
variable {P:Program} {Γ:bn} {E:Env} {M:Nat->Prop} {w0:World} {ρ:Keys} {st:St} {vs:Fv} {a:Act} {w:World}
def jd (ρ:Keys) (is:aAS) (cE:List az):Keys:=fun r τ=>
 match is[r]? with
 |some (some (r0,dD))=>ρ r0 (τ++dD)
 |_=>{iC with m:=(match cE.getD r .dead with| .arr _ tg _ _ _=>tg.length|_=>0)}
theorem cJ {is:aAS} {cE:List az} {r r0:Nat} {dD τ:Path} (h:is[r]?=some (some (r0,dD))):jd ρ is cE r τ=ρ r0 (τ++dD):=by simp only[jd,h]
theorem lC {is:aAS} {cE:List az} {r:Nat} {τ:Path} (h:is[r]?=some none):(jd ρ is cE r τ).aC=true:=by simp only[jd,h];rfl
theorem yq {N n:Nat} {is:aAS} {cE:List az}:∀ {l l':List Nat},N3 is n l l'->(∀ r∈l,r<N)->(∀ r∈l',r<n)/\l.map (fun r=>Value.pointer (some ((ρ r []).at 0)))=l'.map (fun r=>Value.pointer (some ((jd ρ is cE r []).at 0)))
 |[],[],_,_=>⟨by simp,rfl⟩
 |r::l,r'::l',h,hN=>by
  obtain⟨⟨h1,h2⟩,h3⟩:=h;obtain⟨h4,h5⟩:=yq (cE:=cE) h3 fun x hx=>hN x (List.mem_cons_of_mem _ hx)
  refine⟨fun x hx=>?_,?_⟩
  ·rcases List.mem_cons.1 hx with rfl|hx
   ·exact h1
   ·exact h4 x hx
  ·simp only[List.map_cons,h5,cJ h2,List.append_nil]
theorem nE {N n:Nat} {is:aAS} {cE:List az} {x x':At} {y:Value} (hl:yp is n x x') (h:x.ok N ρ y):x'.ok n (jd ρ is cE) y:=by
 cases x'<;>simp only[yp]at hl
 case any=>trivial
 case un=>subst hl;exact h
 case v y'=>
  split at hl;all_goals(rename_i heq;first|cases heq|skip)
  ·rcases hl with rfl|⟨rfl,rfl⟩|⟨rfl,rfl⟩
   ·exact h
   ·obtain rfl:y= .bool true:=h;exact⟨rfl,rfl⟩
   ·obtain rfl:y= .bool false:=h;exact⟨rfl,rfl⟩
  ·subst hl;exact h
 case tt=>subst hl;exact h
 case ff=>subst hl;exact h
 case z=>subst hl;exact h
 case err=>subst hl;exact h
 case p r' aW i' j'=>
  obtain⟨r,dD,rfl,h1,h2⟩:=hl;exact⟨h1,by rw[cJ h2];exact h.2⟩
 case sl r' aW lo k=>
  rcases hl with⟨hx,rfl,rfl,h1,h2⟩|⟨r,dD,rfl,h1,h2⟩
  ·refine⟨h1,?_⟩;rcases hx with rfl|rfl
   ·obtain⟨rfl,_⟩:=h;exact nN (lC h2)
   ·obtain⟨a0,rfl⟩:=h;exact nN (lC h2)
  ·exact⟨h1,by rw[cJ h2];exact h.2⟩
 case mp r'=>
  obtain⟨r,rfl,h1,h2⟩:=hl;exact⟨h1,by rw[cJ h2];exact h.2⟩
 case fn f l'=>
  obtain⟨l,rfl,h1⟩:=hl;obtain⟨h2,h3⟩:=yq (ρ:=ρ) (cE:=cE) h1 h.1;exact⟨h2,by rw[h.2,h3]⟩
theorem pH {N n:Nat} {is:aAS} {cE:List az}:∀ {l l':List At} {ys:List Value},rE is n l l'->be (At.ok N ρ) l ys->be (At.ok n (jd ρ is cE)) l' ys
 |[],[],[],_,_=>trivial
 |_::_,_::_,_::_,hl,h=>⟨nE hl.1 h.1,pH hl.2 h.2⟩
theorem HP {N n:Nat} {is:aAS} {cE:List az} {x x':C1} {y:Value} (hl:P0 is n x x') (h:x.ok N ρ y):x'.ok n (jd ρ is cE) y:=by
 cases x<;>cases x'<;>first|exact hl.elim|skip
 ·exact nE hl h
 ·obtain⟨ys,h1,h2⟩:=h;exact⟨ys,h1,pH hl h2⟩
theorem vD {N n:Nat} {is:aAS} {cE:List az}:∀ {l l':List C1} {ys:List Value},Jv is n l l'->be (C1.ok N ρ) l ys->be (C1.ok n (jd ρ is cE)) l' ys
 |[],[],[],_,_=>trivial
 |_::_,_::_,_::_,hl,h=>⟨HP hl.1 h.1,vD hl.2 h.2⟩
theorem HQ {N n:Nat} {is:aAS} {cE:List az} {x x':Tm} {y:Value} (hl:agW is n x x') (h:x.ok N ρ y):x'.ok n (jd ρ is cE) y:=by
 cases x<;>cases x'<;>first|exact hl.elim|skip
 ·exact nE hl h
 ·obtain⟨ys,h1,h2⟩:=h;exact⟨ys,h1,pH hl h2⟩
 ·obtain⟨ys,h1,h2⟩:=h;exact⟨ys,h1,vD hl h2⟩
theorem pI {N n:Nat} {is:aAS} {cE:List az}:∀ {l l':List Tm} {ys:List Value},Jw is n l l'->be (Tm.ok N ρ) l ys->be (Tm.ok n (jd ρ is cE)) l' ys
 |[],[],[],_,_=>trivial
 |_::_,_::_,_::_,hl,h=>⟨HQ hl.1 h.1,pI hl.2 h.2⟩
theorem By {is:aAS} {n:Nat}:∀ {l l':List At},rE is n l l'->∀ (j:Nat) (x':At),l'[j]?=some x'->∃ x,l[j]?=some x/\yp is n x x'
 |[],[],_,j,x',h=>by simp at h
 |x::_,_::_,hl,0,x',h=>by simp at h;subst h;exact⟨x,rfl,hl.1⟩
 |_::_,_::_,hl,j+1,x',h=>by
  obtain⟨x,h1,h2⟩:=By hl.2 j x' (by simpa using h)
  exact⟨x,by simpa using h1,h2⟩
theorem CK.aA.along {η bU:Path->RI} {dD π:Path} {i j:Nat} (he:∀ τ,bU τ=η (τ++dD)):∀ {c:CK} {x:c.ty} {y:Value},c.aA η (π++dD) i j x y->c.aA bU π i j x y
 | .int _,_,_,h=>h
 | .bool,_,_,h=>h
 | .str,_,_,h=>h
 | .sl _ _,_,_,h=>by
   show RI.head (bU ((i,j)::π)) 0 _ _;rw[he];exact h
theorem ai.aA.along {η bU:Path->RI} {dD π:Path} {i:Nat} (he:∀ τ,bU τ=η (τ++dD)):∀ {tg:List CK} {j:Nat} {x:ai tg} {ys:List Value},ai.aA η (π++dD) i j tg x ys->ai.aA bU π i j tg x ys
 |[],_,_,_,h=>h
 |[c],_,_,_,h=>by obtain⟨y,h1,h2⟩:=h;exact⟨y,h1,h2.along he⟩
 |c::c'::cs,_,_,_,h=>by obtain⟨y,ys',h1,h2,h3⟩:=h;exact⟨y,ys',h1,h2.along he,h3.along (tg:=c'::cs) he⟩
theorem Ar.aA.along {η bU:Path->RI} {dD π:Path} {A:Ar} (he:∀ τ,bU τ=η (τ++dD)) (h:A.aA w η (π++dD)):A.aA w bU π where
 tg:=h.tg
 m:=by rw[he];exact h.m
 aC:=by rw[he];exact h.aC
 len:=by rw[he];exact h.len
 cell:=fun i hi=>by
  obtain⟨ys,h1,h2⟩:=h.cell i hi;exact⟨ys,h1.along he,fun s y hy=>by rw[he];exact h2 s y hy⟩
theorem cA.HR {rg cE:List az} {is:aAS} {args args':List Tm} (h:cA M w0 rg.length ρ rg w) (hp:qc args rg is args' cE):cA (fun _=>False) w cE.length (jd ρ is cE) cE w:=by
 have arr:∀ (r':Nat) te tg xs o i,cE[r']?=some (.arr te tg xs o i)->∀ π f A,(az.arr te tg xs o i).has π f (.arr A)->
  f=false/\((is[r']?=some none/\π=[]/\A=⟨te,tg,[]⟩/\tg≠[])\/∃ r dD g f0,is[r']?=some (some (r,dD))/\rg[r]?=some g/\g.has (π++dD) f0 (.arr A)):=by
  intro r' te tg xs o i hr π f A hh;obtain⟨rfl,rfl,hc⟩:=hp.mX r' _ hr;have hf:f=false:=by obtain⟨rfl,_⟩:=hh;cases π<;>rfl
  refine⟨hf,?_⟩;rcases hc with⟨h1,rfl,h2⟩|⟨r,dD,q,h1,h2,h3⟩
  ·obtain⟨Sv,P8,akl,p1,p2,p3,p4⟩:=DX (g:=.arr te tg [] false false) ⟨rfl,h2⟩ hh;injection p3 with q1 q2 q3 q4 q5;subst q1 q2;injection p4 with p4;exact .inl ⟨h1,p1,p4,h2⟩
  ·obtain⟨_,iP,_,k4⟩:=az.kY h2 h3;obtain⟨_,A',hA,nu⟩:=hh;injection nu with nu;subst nu;rcases k4 π A hA with⟨RV,RW,KJ,o0,i0,hg,k1⟩|⟨f0,k1⟩
   ·exact .inr ⟨r,dD,_,_,h1,bg (st:=⟨⟨0,.nil⟩,[],rg⟩) hg (by simp),rfl,A,fe.2 ⟨_,k1,hA⟩,rfl⟩
   ·exact .inr ⟨r,dD,_,f0,h1,bg (st:=⟨⟨0,.nil⟩,[],rg⟩) rfl iP,k1⟩
 have box:∀ (r':Nat) o l',cE[r']?=some (.box o l')->o=false/\∃ r o0 l,is[r']?=some (some (r,[]))/\rg[r]?=some (.box o0 l)/\rE is cE.length l l':=fun r' o l' hr=>hp.mX r' _ hr
 have HK:∀ (r':Nat) (g':az) π B,cE[r']?=some g'->g'.has π true B->False:=by
  intro r' g' π B hr hh;cases g' with
  |dead=>exact hh
  |box o l'=>obtain⟨_,h2,_⟩:=hh;rw[(box r' o l' hr).1]at h2;cases h2
  |arr te tg xs o i=>
   obtain⟨A,rfl,_,_⟩:=Ar.gQ hh;have:=(arr r' te tg xs o i hr π true A hh).1;cases this
  |map t k c es o=>obtain⟨_,h2,_⟩:=hh;rw[(hp.mX r' _ hr).1]at h2;cases h2
  |bH=>exact(hp.mX r' _ hr).elim
  |iter=>exact(hp.mX r' _ hr).elim
  |lp=>exact(hp.mX r' _ hr).elim
 refine⟨fun r' g' π o B hr hh=>?_,fun r' g' π o B hr hh hv=>?_,fun r' g' π B hr hh _=>(HK r' g' π B hr hh).elim,fun r1 r2 g1 g2 π aW o' B B' e1 _ k1 _ _ _ _=>(HK r1 g1 π B e1 k1).elim⟩
 ·cases g' with
  |dead=>exact hh.elim
  |map t k c es o'=>
   obtain⟨rfl,rfl,rfl⟩:=hh;obtain⟨_,r,o0,h1,h2⟩:=hp.mX r' _ hr;obtain⟨_,b2,b3⟩:=h.blk r _ [] o0 (.map k c es) h2 ⟨rfl,rfl,rfl⟩;exact⟨rfl,by rw[cJ h1];exact b2,by rw[cJ h1];exact b3⟩
  |bH=>exact(hp.mX r' _ hr).elim
  |iter=>exact(hp.mX r' _ hr).elim
  |lp=>exact(hp.mX r' _ hr).elim
  |box o' l'=>
   obtain⟨rfl,rfl,rfl⟩:=hh;obtain⟨_,r,o0,l,h1,h2,h3⟩:=box r' _ l' hr;obtain⟨_,b2,b3,b4⟩:=h.blk r _ [] o0 (.box l) h2 ⟨rfl,rfl,rfl⟩;refine⟨rfl,by rw[cJ h1];exact b2,by rw[cJ h1];exact b3,fun j x' hx=>?_⟩
   obtain⟨x,hx,hle⟩:=By h3 j x' hx;obtain⟨y,hy,hc⟩:=b4 j x hx;exact⟨y,nE hle hy,by rw[cJ h1];exact hc⟩
  |arr te tg xs o' i'=>
   obtain⟨A,rfl,_,_⟩:=Ar.gQ hh;rcases(arr r' te tg xs o' i' hr π o A hh).2 with⟨h1,rfl,rfl,h2⟩|⟨r,dD,g,f0,h1,h2,h3⟩
   ·refine⟨h2,?_,fun _=>rfl,fun hf=>?_,fun i hi=>by simp at hi⟩
    ·simp only[jd,h1];simp[List.getD,hr]
    ·rw[lC h1]at hf;cases hf
   ·exact Ar.aA.along (fun τ=>cJ h1) (h.blk r g (π++dD) f0 (.arr A) h2 h3)
 ·cases g' with
  |dead=>exact hh.elim
  |map t k c es o'=>
   obtain⟨rfl,rfl,rfl⟩:=hh;obtain⟨_,r,o0,h1,h2⟩:=hp.mX r' _ hr;rw[cJ h1]at hv ⊢;exact h.lt r _ [] o0 (.map k c es) h2 ⟨rfl,rfl,rfl⟩ hv
  |bH=>exact(hp.mX r' _ hr).elim
  |iter=>exact(hp.mX r' _ hr).elim
  |lp=>exact(hp.mX r' _ hr).elim
  |box o' l'=>
   obtain⟨rfl,rfl,rfl⟩:=hh;obtain⟨_,r,o0,l,h1,h2,h3⟩:=box r' _ l' hr;rw[cJ h1]at hv ⊢;exact h.lt r _ [] o0 (.box l) h2 ⟨rfl,rfl,rfl⟩ hv
  |arr te tg xs o' i'=>
   obtain⟨A,rfl,_,_⟩:=Ar.gQ hh;rcases(arr r' te tg xs o' i' hr π o A hh).2 with⟨h1,rfl,rfl,h2⟩|⟨r,dD,g,f0,h1,h2,h3⟩
   ·rw[lC h1]at hv;cases hv
   ·rw[cJ h1]at hv ⊢;exact h.lt r g (π++dD) f0 (.arr A) h2 h3 hv
end
end Go.Sy
end
section
namespace Go.Sy
open Go Go.RowKit
universe u
/-! ### Values that speak of no region;of regions below n -/
def At.lt (n:Nat):At->Bool
 | .p r _ _ _=>Nat.blt r n
 | .sl r _ _ _=>Nat.blt r n
 | .fn _ l=>bZ (fun r=>Nat.blt r n) l
 | .mp r=>Nat.blt r n
 | .it r=>Nat.blt r n
 | .yl r=>Nat.blt r n
 |_=>true
def C1.lt (n:Nat):C1->Bool
 | .a x=>x.lt n
 | .agg l=>bZ (At.lt n) l
def Tm.lt (n:Nat):Tm->Bool
 | .a x=>x.lt n
 | .agg l=>bZ (At.lt n) l
 | .bF l=>bZ (C1.lt n) l
section
variable {P:Program} {Γ:bn} {E:Env} {M:Nat->Prop} {w0:World} {ρ ρ':Keys} {st:St} {vs:Fv} {a:Act} {w:World}
theorem At.lE {N N':Nat} (n:Nat) {f g:Nat->Nat} (hN:∀ r,r<n->g r<N') (hρ:∀ r,r<n->ρ' (g r)=ρ (f r)) {x:At} {y:Value} (hl:x.lt n=true) (h:(x.oF f).ok N ρ y):(x.oF g).ok N' ρ' y:=by
 cases x<;>try exact h
 case p r π i j=>
  have hr:r<n:=Nat.le_of_ble_eq_true hl;exact⟨hN r hr,by rw[hρ r hr];exact h.2⟩
 case sl r π lo k=>
  have hr:r<n:=Nat.le_of_ble_eq_true hl;exact⟨hN r hr,by rw[hρ r hr];exact h.2⟩
 case fn k l=>
  have hr:∀ r∈l,r<n:=fun r hr=>Nat.le_of_ble_eq_true (iI hl r hr)
  refine⟨fun r' hr'=>?_,?_⟩
  ·obtain⟨r,h1,rfl⟩:=List.mem_map.1 hr';exact hN r (hr r h1)
  ·show y=_;rw[h.2];simp only[List.map_map]
   congr 2
   exact List.map_congr_left fun r h1=>by simp only[Function.comp];rw[hρ r (hr r h1)]
 case mp r=>
  have hr:r<n:=Nat.le_of_ble_eq_true hl;exact⟨hN r hr,by rw[hρ r hr];exact h.2⟩
 case it r=>
  have hr:r<n:=Nat.le_of_ble_eq_true hl;exact⟨hN r hr,by rw[hρ r hr];exact h.2⟩
 case yl r=>
  have hr:r<n:=Nat.le_of_ble_eq_true hl;exact⟨hN r hr,by rw[hρ r hr];exact h.2⟩
theorem pG {α:Type} {R R':α->Value->Prop} {F G:α->α} {p:α->Bool} (hf:∀ x y,p x=true->R (F x) y->R' (G x) y):∀ {l:List α} {ys:List Value},bZ p l=true->be R (l.map F) ys->be R' (l.map G) ys
 |[],[],_,_=>trivial
 |x::l,y::ys,hs,h=>by
  simp only[bZ]at hs;split at hs
  ·rename_i hx;exact⟨hf x y hx h.1,pG hf hs h.2⟩
  ·cases hs
theorem C1.lE {N N':Nat} (n:Nat) {f g:Nat->Nat} (hN:∀ r,r<n->g r<N') (hρ:∀ r,r<n->ρ' (g r)=ρ (f r)) {x:C1} {y:Value} (hl:x.lt n=true) (h:(x.mapA (At.oF f)).ok N ρ y):(x.mapA (At.oF g)).ok N' ρ' y:=by
 cases x with
 |a x=>exact At.lE n hN hρ hl h
 |agg l=>obtain⟨ys,h1,h2⟩:=h;exact⟨ys,h1,pG (fun _ _ hp hh=>At.lE n hN hρ hp hh) hl h2⟩
theorem Tm.lE {N N':Nat} (n:Nat) {f g:Nat->Nat} (hN:∀ r,r<n->g r<N') (hρ:∀ r,r<n->ρ' (g r)=ρ (f r)) {x:Tm} {y:Value} (hl:x.lt n=true) (h:(x.oF f).ok N ρ y):(x.oF g).ok N' ρ' y:=by
 cases x with
 |a x=>exact At.lE n hN hρ hl h
 |agg l=>obtain⟨ys,h1,h2⟩:=h;exact⟨ys,h1,pG (fun _ _ hp hh=>At.lE n hN hρ hp hh) hl h2⟩
 |bF l=>obtain⟨ys,h1,h2⟩:=h;exact⟨ys,h1,pG (fun _ _ hp hh=>C1.lE n hN hρ hp hh) hl h2⟩
def C1.plain:C1->Bool
 | .a x=>x.plain
 | .agg l=>bZ At.plain l
def Tm.plain:Tm->Bool
 | .a x=>x.plain
 | .agg l=>bZ At.plain l
 | .bF l=>bZ C1.plain l
theorem At.fZ {N N':Nat} {x:At} {y:Value} (hp:x.plain=true) (h:x.ok N ρ y):x.ok N' ρ' y:=by
 cases x<;>first|exact h|simp[At.plain]at hp
theorem sD {α:Type} {R R':α->Value->Prop} {f:α->Bool} (hf:∀ x y,f x=true->R x y->R' x y):∀ {l:List α} {ys:List Value},bZ f l=true->be R l ys->be R' l ys
 |[],[],_,_=>trivial
 |x::l,y::ys,hs,h=>by
  simp only[bZ]at hs;split at hs
  ·rename_i hx;exact⟨hf x y hx h.1,sD hf hs h.2⟩
  ·cases hs
theorem C1.fZ {N N':Nat} {x:C1} {y:Value} (hp:x.plain=true) (h:x.ok N ρ y):x.ok N' ρ' y:=by
 cases x with
 |a x=>exact At.fZ hp h
 |agg l=>obtain⟨ys,h1,h2⟩:=h;exact⟨ys,h1,sD (fun _ _=>At.fZ) hp h2⟩
theorem Tm.fZ {N N':Nat} {x:Tm} {y:Value} (hp:x.plain=true) (h:x.ok N ρ y):x.ok N' ρ' y:=by
 cases x with
 |a x=>exact At.fZ hp h
 |agg l=>obtain⟨ys,h1,h2⟩:=h;exact⟨ys,h1,sD (fun _ _=>At.fZ) hp h2⟩
 |bF l=>obtain⟨ys,h1,h2⟩:=h;exact⟨ys,h1,sD (fun _ _=>C1.fZ) hp h2⟩
theorem qu {N:Nat} {x y:At} {v:Value} (he:GA x y) (h:x.ok N ρ v):y.ok N ρ v:=by
 unfold GA at he;split at he
 ·exact h
 ·exact h
 ·subst he;obtain rfl:v= .bool true:=h;exact⟨rfl,rfl⟩
 ·subst he;obtain rfl:v= .bool false:=h;exact⟨rfl,rfl⟩
 ·subst he;exact h.1
 ·subst he;exact h.1
 ·trivial
 ·obtain⟨rfl,rfl,rfl,rfl⟩:=he;exact h
 ·obtain⟨rfl,rfl,rfl,rfl⟩:=he;exact h
 ·obtain⟨rfl,rfl⟩:=he;exact h
 ·subst he;exact h
 ·subst he;exact h
 ·subst he;exact h
 ·exact h
 ·exact h
 ·exact h
 ·exact⟨_,h.1⟩
 ·obtain⟨rfl,rfl⟩:=he;exact h
 ·subst he;exact h
 ·subst he;exact h
 ·exact he.elim
theorem oX {N:Nat}:∀ {l l':List At} {ys:List Value},EQ l l'->be (At.ok N ρ) l ys->be (At.ok N ρ) l' ys
 |[],[],[],_,_=>trivial
 |_::_,_::_,_::_,he,h=>⟨qu he.1 h.1,oX he.2 h.2⟩
theorem GB {N:Nat} {x y:C1} {v:Value} (he:Pv x y) (h:x.ok N ρ v):y.ok N ρ v:=by
 cases x<;>cases y<;>first|exact he.elim|skip
 ·exact qu he h
 ·obtain⟨ys,h1,h2⟩:=h;exact⟨ys,h1,oX he h2⟩
theorem uP {N:Nat}:∀ {l l':List C1} {ys:List Value},Vm l l'->be (C1.ok N ρ) l ys->be (C1.ok N ρ) l' ys
 |[],[],[],_,_=>trivial
 |_::_,_::_,_::_,he,h=>⟨GB he.1 h.1,uP he.2 h.2⟩
theorem xI {N:Nat} {x y:Tm} {v:Value} (he:iL x y) (h:x.ok N ρ v):y.ok N ρ v:=by
 cases x<;>cases y<;>first|exact he.elim|skip
 ·exact qu he h
 ·obtain⟨ys,h1,h2⟩:=h;exact⟨ys,h1,oX he h2⟩
 ·obtain⟨ys,h1,h2⟩:=h;exact⟨ys,h1,uP he h2⟩
/-! ### A function's walk -/
def cQ (E:Env) (d:Nat) (b:Body) (args:List Tm) (rg:List az) (K:Tm->St->Prop):Prop:=
 qJ b.n args (fun s=>fD ou rg (fun rg=>MC E d none b.code ⟨s,[],rg⟩ (fun e an=>match e with
  | .exit _=>False
  |_=>(match nl E an b.rs with
   |some (q,x)=>aBP E.aN q (K x an)
   |none=>False))))
theorem FB {M:Nat->Prop} {w0:World} (hP:aL P Γ E) {fn:Func} {c:Code} {rs:List ResultVar} (h5:fn.results=rs.toArray) {d:Nat} {fs:List (Array Value)} {st:St} {a:Act} {ρ:Keys} {K:Tm->St->Prop}
 (hc:MC E d none c st (fun e an=>match e with
   | .exit _=>False
   |_=>(match nl E an rs with
    |some (q,x)=>aBP E.aN q (K x an)
    |none=>False))) (cC:Rel Γ M w0 ρ st ⟨fs,[]⟩ a w) {R:Ending->World->Prop}
 (hR:∀ v an ρ' x a' w' ds,Rel Γ M w0 ρ' an ⟨fs,ds⟩ a' w'->Tm.ok an.rg.length ρ' x v->K x an->R (.returned v) w'):c.wpIn Fence.wide 0 P (bodyPostM Fence.wide 0 P fn R) a w:=by
 refine qx hP d none 0 M w0 ⟨fs,[]⟩ c _ _ _ _ _ _ hc cC fun e an a' w' ρ' M' cu ds' ha hk hr'=>?_
 obtain⟨tK,Ds,hds,iP,G8⟩:=ha;have jk:=hr'.fq tK cC.gn;have Hh:a'.defers=Ds.map mark:=by have:=hr'.df;simp only at this;rw[this,hds];simp
 have fin:(match nl E an rs with
  |some (q,x)=>aBP E.aN q (K x an)
  |none=>False)->LeavesInM Fence.wide 0 P fn a'.tmps R a'.defers .returning w':=by
  intro hk;rw[Hh];refine nV (Γ:=Γ) (M:=M) (w0:=w0) (ρ:=ρ') (st:=an) (vs:=⟨fs,ds'⟩) (a:=a') (fun w2 aBB=>?_) Ds w' jk iP (fun D hD=>⟨(G8 D hD).1.now hr'.bl,(G8 D hD).2⟩)
  split at hk
  ·rename_i q x hx;rw[aV]at hk;obtain⟨y,k1,k2⟩:=sX hP.env aBB h5 hx hk.1;exact⟨y,k1,hR y an ρ' x a' w2 ds' aBB k2 hk.2⟩
  ·exact hk.elim
 cases e with
 |exit id=>exact hk.elim
 |normal=>exact fin hk
 |ret=>exact fin hk
theorem yy (hP:aL P Γ E) {f:FuncId} {b:Body} (hf:bQ P f b) {d:Nat} {args:List Tm} {rg:List az} {K:Tm->St->Prop} (he:cQ E d b args rg K) (qR:∀ b,b<Γ.n->b<w.heap.size) (nv:Γ.G w)
 {us:List Value} (hargs:be (Tm.ok rg.length ρ) args us) (nw:cA (fun _=>False) w rg.length ρ rg w):
 Calls P f us.toArray w fun e w'=>∃ v an ρ' x a' ds,e= .returned v/\Rel Γ (fun _=>False) w ρ' an ⟨[],ds⟩ a' w'/\Tm.ok an.rg.length ρ' x v/\K x an/\Below w.heap.size w w':=by
 obtain⟨fn,h1,h2,h3,h4,h5⟩:=hf.h;unfold cQ at he;obtain⟨hn,hc⟩:=uX he;rw[fx nq]at hc;have cC:Rel Γ (fun _=>False) w ρ ⟨⟨b.n,iX args 0 (Tr.full (jg b.n))⟩,[],rg⟩ ⟨[],[]⟩ {tmps:=us.toArray++Array.replicate (b.n-us.length) undef,defers:=[]} w:=
  ⟨Ay hargs hn,trivial,rfl,nw,Frame.refl _ _,nv,fun b hb=>⟨id,qR b hb⟩⟩
 refine callsIn_wide.1 (callsIn_of_wp_marks (n:=0) h1 h3 trivial ?_ rfl);rw[h4];rw[show us.toArray.size=us.length by simp]
 exact FB hP h5 hc cC fun v an ρ' x a' w' ds hr hx hk=>⟨v,an,ρ',x,a',ds,rfl,hr,hx,hk,⟨hr.bl.os,hr.bl.tape,hr.bl.output,hr.bl.size,fun k hk=>hr.bl.block k hk id⟩⟩
theorem au.aBp (hP:aL P Γ E) {f:FuncId} {b:Body} (hf:bQ P f b) {d:Nat} {F:List Tm->List az->Option (List aa×Tm)}
 (H:∀ args rg q t,F args rg=some (q,t)->bW q->t.plain=true/\∃ is args' cE,qc args rg is args' cE/\cQ E d b args' cE (fun x _=>iL x t)):au.Ok P Γ f (.fn F):=by
 intro args rg q t hF hq M w0 ρ w us hl qR nv hargs s8;obtain⟨aai,is,args',cE,hp,aag⟩:=H args rg q t hF hq;refine(yy hP hf aag qR nv (pI hp.args hargs) (s8.HR hp)).mono ?_;rintro e w' ⟨v,an,ρ',x,a',_,rfl,_,hx,heq,hb⟩;exact⟨v,rfl,Tm.fZ aai (xI heq hx),hb⟩
/-! ### New memory handed back -/
def az.out:az->Bool
 | .box true l=>bZ At.plain l
 | .arr _ tg _ true i=>(match i with|true=>true|false=>aaa tg)
 | .map _ _ _ _ o=>o
 | .bH _ _ _ _ _ o i=>fu o i
 |_=>false
theorem LA {g:az} (h:g.out=true) {π:Path} {o:Bool} {B:aD0} (hh:g.has π o B):o=true:=by
 cases g with
 |dead=>cases h
 |map=>exact hh.2.1.trans h
 |bH t kk e tg es o1 i1=>
  cases o1 with
  |false=>cases h
  |true=>
   obtain rfl:i1=true:=h;rcases hh with⟨_,h1,_⟩|⟨_,_,h1,_⟩<;>exact h1
 |iter=>cases h
 |lp=>cases h
 |box o1 l=>cases o1 with
  |false=>cases h
  |true=>exact hh.2.1
 |arr te tg xs o1 i1=>
  cases o1 with
  |false=>cases h
  |true=>
   obtain⟨rfl,A,hA,_⟩:=hh;cases π with
   |nil=>rfl
   |cons p π=>
    cases i1 with
    |true=>rfl
    |false=>obtain⟨hp,_⟩:=fT (te:=te) (tg:=tg) (xs:=xs) h hA;cases hp
def sG (st:St):List Nat->List az->Prop
 |[],[]=>True
 |i::is,g::gs=>st.rg.getD i .dead=g/\g.out=true/\(∀ j∈is,i≠j)/\sG st is gs
 |_,_=>False
theorem aap {st:St}:∀ {is:List Nat} {gs:List az},sG st is gs->∀ (r:Nat) (g:az),gs[r]?=some g->∃ i,is[r]?=some i/\st.rg[i]?=some g/\g.out=true
 |[],[],_,r,g,h=>by simp at h
 |i::is,g::gs,h,r,g',hr=>by
  obtain⟨h1,h2,_,h6⟩:=h;cases r with
  |zero=>
   simp at hr;subst hr;exact⟨i,rfl,bg h1 (by intro e;subst e;cases h2),h2⟩
  |succ r=>
   obtain⟨j,a,b⟩:=aap h6 r g' (by simpa using hr)
   exact⟨j,by simpa using a,b⟩
theorem tk {st:St}:∀ {is:List Nat} {gs:List az},sG st is gs->∀ (r r' i:Nat),is[r]?=some i->is[r']?=some i->r=r'
 |[],[],_,r,r',i,h,_=>by simp at h
 |i0::is,g::gs,h,r,r',i,h1,h2=>by
  obtain⟨_,_,h5,h6⟩:=h;cases r with
  |zero=>
   simp at h1;subst h1;cases r' with
   |zero=>rfl
   |succ r'=>exact absurd rfl (h5 i0 (List.mem_of_getElem? (by simpa using h2)))
  |succ r=>
   cases r' with
   |zero=>simp at h2;subst h2;exact absurd rfl (h5 i0 (List.mem_of_getElem? (by simpa using h1)))
   |succ r'=>rw[tk h6 r r' i (by simpa using h1) (by simpa using h2)]
def N9 (K:cM->Prop) (x:Tm) (st:St):Prop:=∃ (res:cM) (js:List Nat),K res/\sG st js res.rg/\res.tm.lt res.rg.length=true/\iL x (res.tm.oF (fun r=>js.getD r 0))
end
end Go.Sy
end
section
namespace Go.Sy
open Go Go.RowKit
def uc (P:Program) (t:TypeId):Option (List (Nat×Nat)):=
 match P.underlying t with
 |some (.struct fields)=>fields.toList.mapM (fun f=>(P.info? f.type).map fun i=>(f.offset,i.size))
 |_=>none
theorem yW {P:Program} {t:TypeId} {fs:List (Nat×Nat)} (h:uc P t=some fs):
 ∃ fields,P.underlying t=some (.struct fields)/\fields.toList.mapM (fun f=>(P.info? f.type).map fun i=>(f.offset,i.size))=some fs:=by
 unfold uc at h;split at h
 ·rename_i fields hu;exact⟨fields,hu,h⟩
 ·cases h
/-! ### Tables of contracts -/
structure bq (P:Program) (bs:List (Nat×Body)):Prop where
 h:∀ f b,look bs f=some b->bQ P f b
theorem bq.nil {P:Program}:bq P []:=⟨fun f b h=>by cases h⟩
theorem bq.cons {P:Program} {bs:List (Nat×Body)} (hb:bq P bs) {f:Nat} {b:Body} (h:bQ P f b):bq P ((f,b)::bs):=⟨fun g c hg=>by
 unfold look at hg;split at hg
 ·rename_i he;obtain rfl:=Nat.eq_of_beq_eq_true he;obtain rfl:=Option.some.inj hg;exact h
 ·exact hb.h g c hg⟩
structure aR (P:Program) (Γ:bn) (l:List (Nat×au)):Prop where
 h:∀ f c,look l f=some c->zk P f/\au.Ok P Γ f c
theorem aR.nil {P:Program} {Γ:bn}:aR P Γ []:=⟨fun f b h=>by cases h⟩
theorem aR.cons {P:Program} {Γ:bn} {l:List (Nat×au)} (hl:aR P Γ l) {f:Nat} {c:au} (hf:zk P f) (hc:au.Ok P Γ f c):aR P Γ ((f,c)::l):=⟨fun g c' hg=>by
 unfold look at hg;split at hg
 ·rename_i he;obtain rfl:=Nat.eq_of_beq_eq_true he;obtain rfl:=Option.some.inj hg;exact⟨hf,hc⟩
 ·exact hl.h g c' hg⟩
end Go.Sy
end
