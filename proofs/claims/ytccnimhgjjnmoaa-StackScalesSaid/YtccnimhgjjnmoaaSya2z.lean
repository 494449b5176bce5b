/-
  Texts of the claims: Sya2z. No condition: lemmas and contracts.
-/
import Derived.Test.YtccnimhgjjnmoaaSya1z
import Derived.Laws.Slices
set_option linter.all false
set_option maxRecDepth 100000
set_option maxHeartbeats 40000000
section
namespace Go.Sy
open Go Go.RowKit
universe u
def bW:List aa->Prop
 |[]=>True
 |q::qs=>q.p/\bW qs
theorem aa.ae (p:Prop) [Decidable p]:((aa.of (p))).p=p:=rfl
theorem aV:∀ (c:Bool) (q:List aa) (p:Prop),aBP c q p<->bW q/\p
 |_,[],p=>by show p<->_;simp[bW]
 |c,q::qs,p=>by
  show(match c with|true=>(match q.b with|true=>aBP c qs p|false=>False)|false=>Ob q.p/\aBP c qs p)<->_
  cases c
  ·simp only[bW,aV false qs p,and_assoc,show Ob q.p<->q.p from⟨Ob.h,Ob.mk⟩]
  ·have hq:=q.h;simp only[bW];rw[<-hq,and_assoc,<-aV true qs p];cases q.b<;>simp
theorem aH:∀ (q q':List aa),bW (q++q')<->bW q/\bW q'
 |[],q'=>by simp[bW]
 |q::qs,q'=>by simp only[List.cons_append,bW,aH qs q',and_assoc]
def lD:TypeDesc->Bool
 | .struct _| .array _ _=>false
 |_=>true
def qf (P:Program) (t:TypeId):Ty->Prop
 | .int k=>P.underlying t=some (.int k)/\(P.info? t).map (·.size)=some 1
 | .bool=>P.underlying t=some .bool/\(P.info? t).map (·.size)=some 1
 | .str=>P.underlying t=some .string/\(P.info? t).map (·.size)=some 1
 | .st fs n=>(∃ fields,P.underlying t=some (.struct fields)/\fields.toList.mapM (fun f=>(P.info? f.type).map fun i=>(f.offset,i.size))=some fs)/\(P.info? t).map (·.size)=some n
 | .sl e m=>P.underlying t=some (.slice e)/\(P.info? e).map (·.size)=some m/\(P.info? t).map (·.size)=some 1
 | .ar e m n=>P.underlying t=some (.array n e)/\(P.info? e).map (·.size)=some m/\(P.info? t).map (·.size)=some (n*m)
 | .map k e=>P.underlying t=some (.map k e)/\(P.info? t).map (·.size)=some 1
 | .word=>(∃ d,P.underlying t=some d/\lD d=true)/\(P.info? t).map (·.size)=some 1
 | .other=>True
def ai.zero:(tg:List CK)->List Value
 |[]=>[]
 |c::cs=>(match c with| .int k=> .int k 0| .bool=> .bool false| .str=> .string ByteArray.empty| .sl _ _=> .slice none 0 0)::ai.zero cs
def At.plain:At->Bool
 | .p .. | .sl .. | .fn .. | .mp .. | .it .. | .yl .. =>false
 |_=>true
def az.flat:az->Bool
 | .dead=>true
 | .box _ l=>bZ At.plain l
 | .arr _ tg _ _ _=>aaa tg
 |_=>false
def au.Ok (P:Program) (Γ:bn) (f:FuncId):au->Prop
 | .fn F=>∀ args rg q t,F args rg=some (q,t)->bW q->∀ (M:Nat->Prop) (w0:World) (ρ:Keys) (w:World) (vs:List Value),w0.heap.size<=w.heap.size->(∀ b,b<Γ.n->b<w.heap.size)->Γ.G w->
    be (Tm.ok rg.length ρ) args vs->cA M w0 rg.length ρ rg w->
    Calls P f vs.toArray w fun e w'=>∃ v,e= .returned v/\t.ok rg.length ρ v/\Below w.heap.size w w'
 | .new C=>∀ args rg K,C args rg K->∀ (M:Nat->Prop) (w0:World) (ρ:Keys) (w:World) (vs:List Value),w0.heap.size<=w.heap.size->(∀ b,b<Γ.n->¬M b/\b<w0.heap.size)->Γ.G w->
    be (Tm.ok rg.length ρ) args vs->cA M w0 rg.length ρ rg w->
    Calls P f vs.toArray w fun e w'=>∃ (v:Value) (res:cM) (ρ':Keys),e= .returned v/\K res/\Below w.heap.size w w'/\
     (∀ r,r<rg.length->∀ π,ρ' r π=ρ r π)/\(res.tm.oF (fun r=>rg.length+r)).ok (rg.length+res.rg.length) ρ' v/\
     cA M w0 (rg.length+res.rg.length) ρ' (rg++res.rg) w'
 | .rel C=>∀ args rg K,C args rg K->∀ (M:Nat->Prop) (w0:World) (ρ:Keys) (w:World) (vs:List Value),w0.heap.size<=w.heap.size->(∀ b,b<Γ.n->¬M b/\b<w0.heap.size)->Γ.G w->
    be (Tm.ok rg.length ρ) args vs->cA M w0 rg.length ρ rg w->
    Calls P f vs.toArray w fun e w'=>∃ (v:Value) (ch:List (Nat×az)) (res:cM) (ρ':Keys),e= .returned v/\K ch res/\
     Frame (fun b=>∃ (r:Nat) (g:az) (π:Path) (B:aD0),rg[r]?=some g/\g.has π true B/\(ρ r π).aC=false/\(ρ r π).b=b) w w'/\
     (∀ r,r<rg.length->∀ π,ρ' r π=ρ r π)/\(∀ c∈ch,c.1<rg.length)/\(res.tm.oF (fun r=>rg.length+r)).ok (rg.length+res.rg.length) ρ' v/\
     cA M w0 (rg.length+res.rg.length) ρ' (ch.foldl (fun rg c=>rg.set c.1 c.2) rg++res.rg) w'
def CK.ne:CK->Bool
 | .sl _ []=>false
 |_=>true
structure bE (P:Program) (Γ:bn) (E:Env):Prop where
 ty:∀ t,qf P t (E.ty t)
 zero:∀ t l,E.zero t=some l->bZ At.one l=true/\∃ i z,P.info? t=some i/\i.zero=some z/\∀ N ρ,be (At.ok N ρ) l z.cells.toList
 alp:∀ t ks,E.alp t=some ks->dB P 8 t=some ks/\eO P t=none/\P.eqGuardType P.depth t=false
 kd:∀ t tg,E.kd t=some tg->tg≠[]/\(∃ i z,P.info? t=some i/\i.size=tg.length/\i.zero=some z/\z.cells.toList=ai.zero tg/\i.bytes<=32*tg.length)
 kn:∀ t tg,E.kd t=some tg->bZ CK.ne tg=true
 sc:∀ t c,E.sc t=some c->∃ i,P.info? t=some i/\i.zero=some (c.val c.d)
 lf:∀ t f,E.lf t f=true->∀ fields fd,P.underlying t=some (.struct fields)->fields[f]?=some fd->∀ w,(isAgg fd.type).run P w= .ok false w
 ct:∀ f c,E.ct f=some c->au.Ok P Γ f c
 aht:∀ t,E.aht t=true->P.underlying t=some (.interface (P.methodsAt t))
section
variable {P:Program} {Γ:bn} {E:Env} {M:Nat->Prop} {w0:World} {ρ:Keys} {st:St} {vs:Fv} {a:Act} {w:World}
theorem ax (h:Rel Γ M w0 ρ st vs a w) {o:Operand} {x:Tm} (he:ev st o=some x):x.ok st.rg.length ρ (a.eval o):=by
 cases o with
 |tmp t=>
  simp only[ev,Option.some.injEq]at he;subst he;exact h.tm.h t
 |const v=>
  simp only[ev]at he;cases v<;>simp only[Dl]at he
  case bool b=>cases b<;>simp only[Option.some.injEq]at he<;>subst he<;>rfl
  all_goals first|(simp only[Option.some.injEq]at he;subst he;exact⟨rfl,rfl⟩)|cases he
 |global g=>
  simp only[ev,Option.some.injEq]at he;subst he;exact⟨rfl,rfl⟩
 |func f=>
  simp only[ev,Option.some.injEq]at he;subst he;exact⟨by simp,by simp[Act.eval]⟩
theorem Cz {N:Nat} {x:At} {b:Bool} {y:Value} (hx:x.ok N ρ y) (hb:iV x=some b):y= .bool b:=by
 unfold iV at hb;split at hb<;>simp only[Option.some.injEq,reduceCtorEq]at hb<;>subst hb
 ·exact hx
 ·exact hx
 ·exact hx.1
theorem jw {N:Nat} {x:Tm} {b:Bool} {y:Value} (hx:x.ok N ρ y) (hb:qj x=some b):y= .bool b:=by
 cases x with
 |a x=>exact Cz hx hb
 |agg l=>cases hb
 |bF l=>cases hb
theorem akr {k k':IntKind} (h:sameKind k k'=true):k=k':=by
 cases k<;>cases k'<;>first|rfl|cases h
theorem Je {k:IntKind} {n:Int} (h:ak k n):k.wrap n=n:=by
 cases k<;>simp only[ak]at h
 ·exact IntWalk.i8_in n h
 ·exact IntWalk.i16_in n h
 ·exact IntWalk.i32_in n h
 ·exact IntWalk.i64_in n h
 ·exact IntWalk.u8_in n h
 ·exact IntWalk.u16_in n h
 ·exact IntWalk.u32_in n h
 ·exact IntWalk.u64_in n h
theorem eC {q q0:List aa} {k:IntKind} {n:Int} {x:Tm} (he:wrapped E q0 k n=some (q,x)) (hq:bW q) {N:Nat}:bW q0/\x.ok N ρ (.int k (k.wrap n)):=by
 unfold wrapped at he;split at he<;>simp only[Option.some.injEq,Prod.mk.injEq]at he<;>obtain⟨rfl,rfl⟩:=he
 ·rw[aH]at hq;exact⟨hq.1,⟨by rw[Je hq.2.1],rfl⟩⟩
 ·exact⟨hq,⟨rfl,rfl⟩⟩
theorem al4 {op:BinOp} {t:TypeId} {k k':IntKind} {m n:Int} {q:List aa} {x:Tm} (he:ang E op k m n=some (q,x)) (hq:bW q) (u v:Operand) {N:Nat}:
 ∃ y,(do eqGuard op t u v (.int k m) (.int k' n);binOp op t (.int k m) (.int k' n):Sem Value).run P w= .ok y w/\x.ok N ρ y:=by
 cases op<;>simp only[ang,reduceCtorEq]at he
 case shl=>
  have h1:=eC (ρ:=ρ) (N:=N) he hq;obtain⟨⟨h2,h3,_⟩,h4⟩:=h1;simp only[aa.ae]at h2 h3;have h5:min n.toNat k.bits=n.toNat:=Nat.min_eq_left (by omega)
  exact⟨_,by simp[eqGuard,binOp,Op.shift,Int.not_lt.mpr h2,h5],h4⟩
 case shr=>
  obtain⟨rfl,rfl⟩:=Prod.mk.inj (Option.some.inj he);obtain⟨h2,h3,_⟩:=hq;simp only[aa.ae]at h2 h3;have h5:min n.toNat k.bits=n.toNat:=Nat.min_eq_left (by omega)
  have hp:(0:Int)<=2^n.toNat:=Int.le_of_lt (Int.pow_pos (by omega))
  exact⟨.int k (m / 2^n.toNat),by simp[eqGuard,binOp,Op.shift,Int.not_lt.mpr h2,h5,Int.fdiv_eq_ediv_of_nonneg _ hp],rfl,rfl⟩
theorem alE {b:Nat} {a:Int} (h0:0<=a) (h1:a.toNat<2^b):(BitVec.ofInt b a).toNat=a.toNat:=by
 rw[BitVec.toNat_ofInt,Int.emod_eq_of_lt h0 (by have:((2^b:Nat):Int)=(2:Int)^b:=by simp
                                                omega)]
theorem awb (k:IntKind):∃ p,(∀ c:Nat,c<2^p->ak k c)/\∀ a:Int,0<=a->ak k a->a.toNat<2^p/\a.toNat<2^k.bits:=by
 cases k
 ·exact⟨7,fun c hc=>by simp only[ak];omega,fun a h0 h=>by simp only[ak]at h;exact⟨by omega,by show a.toNat<2^8;omega⟩⟩
 ·exact⟨15,fun c hc=>by simp only[ak];omega,fun a h0 h=>by simp only[ak]at h;exact⟨by omega,by show a.toNat<2^16;omega⟩⟩
 ·exact⟨31,fun c hc=>by simp only[ak];omega,fun a h0 h=>by simp only[ak]at h;exact⟨by omega,by show a.toNat<2^32;omega⟩⟩
 ·exact⟨63,fun c hc=>by simp only[ak];omega,fun a h0 h=>by simp only[ak]at h;exact⟨by omega,by show a.toNat<2^64;omega⟩⟩
 ·exact⟨8,fun c hc=>by simp only[ak];omega,fun a h0 h=>by simp only[ak]at h;exact⟨by omega,by show a.toNat<2^8;omega⟩⟩
 ·exact⟨16,fun c hc=>by simp only[ak];omega,fun a h0 h=>by simp only[ak]at h;exact⟨by omega,by show a.toNat<2^16;omega⟩⟩
 ·exact⟨32,fun c hc=>by simp only[ak];omega,fun a h0 h=>by simp only[ak]at h;exact⟨by omega,by show a.toNat<2^32;omega⟩⟩
 ·exact⟨64,fun c hc=>by simp only[ak];omega,fun a h0 h=>by simp only[ak]at h;exact⟨by omega,by show a.toNat<2^64;omega⟩⟩
theorem auq {k:IntKind} {a b:Int} (h0:0<=a) (h1:0<=b) (h2:ak k a) (h3:ak k b):k.wrap ((BitVec.ofInt k.bits a &&& BitVec.ofInt k.bits b).toNat:Int)=((a.toNat &&& b.toNat:Nat):Int):=by
 obtain⟨p,hp,ha⟩:=awb k;obtain⟨a1,a2⟩:=ha a h0 h2;obtain⟨b1,b2⟩:=ha b h1 h3;rw[BitVec.toNat_and,alE h0 a2,alE h1 b2];exact Je (hp _ (Nat.and_lt_two_pow _ b1))
theorem aw2 {k:IntKind} {a b:Int} (h0:0<=a) (h1:0<=b) (h2:ak k a) (h3:ak k b):k.wrap ((BitVec.ofInt k.bits a ||| BitVec.ofInt k.bits b).toNat:Int)=((a.toNat ||| b.toNat:Nat):Int):=by
 obtain⟨p,hp,ha⟩:=awb k;obtain⟨a1,a2⟩:=ha a h0 h2;obtain⟨b1,b2⟩:=ha b h1 h3;rw[BitVec.toNat_or,alE h0 a2,alE h1 b2];exact Je (hp _ (Nat.or_lt_two_pow a1 b1))
theorem CM {op:BinOp} {t:TypeId} {k:IntKind} {m n:Int} {q:List aa} {x:Tm} (he:uV E op k m n=some (q,x)) (hq:bW q) (u v:Operand) {N:Nat}:
 ∃ y,(do eqGuard op t u v (.int k m) (.int k n);binOp op t (.int k m) (.int k n):Sem Value).run P w= .ok y w/\x.ok N ρ y:=by
 cases op<;>simp only[uV]at he
 case add=>exact⟨_,by simp[eqGuard,binOp,Op.intArith],(eC he hq).2⟩
 case sub=>exact⟨_,by simp[eqGuard,binOp,Op.intArith],(eC he hq).2⟩
 case mul=>exact⟨_,by simp[eqGuard,binOp,Op.intArith],(eC he hq).2⟩
 case quo=>
  have h1:=eC (ρ:=ρ) (N:=N) he hq;exact⟨_,by simp[eqGuard,binOp,Op.intDiv,show n≠0 from h1.1.1],h1.2⟩
 case shl=>exact al4 he hq u v
 case shr=>exact al4 he hq u v
 all_goals first|(simp only[Option.some.injEq,Prod.mk.injEq]at he;obtain⟨rfl,rfl⟩:=he)|cases he
 case and=>exact⟨.int k ((m.toNat &&& n.toNat:Nat):Int),by simp only[eqGuard,binOp,Op.intBits];rw[<-auq hq.1 hq.2.1 hq.2.2.1 hq.2.2.2.1];simp,rfl,rfl⟩
 case or=>exact⟨.int k ((m.toNat ||| n.toNat:Nat):Int),by simp only[eqGuard,binOp,Op.intBits];rw[<-aw2 hq.1 hq.2.1 hq.2.2.1 hq.2.2.2.1];simp,rfl,rfl⟩
 case rem=>exact⟨_,by simp[eqGuard,binOp,Op.intDiv,show n≠0 from hq.1],rfl,rfl⟩
 all_goals exact⟨_,by simp[eqGuard,binOp,Op.intCmp],rfl,rfl⟩
theorem dK {α:Type u}:∀ {l:List α} {n:Nat},fg l n=true->l.length=n
 |[],0,_=>rfl
 |_::l,n+1,h=>by simp[dK (l:=l) (n:=n) h]
 |[],n+1,h=>by simp[fg]at h
 |_::_,0,h=>by simp[fg]at h
theorem run_equal_bool {t:TypeId} (hu:P.underlying t=some .bool) (c d:Bool):(Op.equal t (.bool c) (.bool d)).run P w= .ok (c==d) w:=by
 have:∀ n,(Op.equalIn (n+1) t (.bool c) (.bool d)).run P w= .ok (c==d) w:=fun n=>by
  simp[Op.equalIn,run_underlying hu]
 exact this 9999
theorem Jh {N:Nat} {ρ:Keys} {x:At} {y:Value} (h:x.ok N ρ y) {k:Nat} (hk:Nat.beq k (jN x)=true) (h3:jN x≠3):pM y=some k:=by
 obtain rfl:=Nat.eq_of_beq_eq_true hk;cases x with
 |v x=>obtain⟨rfl,_⟩:=h;cases y<;>first|rfl|(simp[jN]at h3;done)
 |tt=>obtain rfl:y= .bool true:=h;rfl
 |ff=>obtain rfl:y= .bool false:=h;rfl
 |_=>simp[jN]at h3
theorem zA {N:Nat} {ρ:Keys} {x:At} {y:Value} {b:Bool} (h:x.ok N ρ y) (hb:iV x=some b):y= .bool b:=by
 cases x with
 |v x=>obtain⟨rfl,_⟩:=h;cases y<;>simp[iV]at hb;subst hb;rfl
 |tt=>obtain rfl:y= .bool true:=h;simp[iV]at hb;subst hb;rfl
 |ff=>obtain rfl:y= .bool false:=h;simp[iV]at hb;subst hb;rfl
 |_=>simp[iV]at hb
theorem Gp {N:Nat} {ρ:Keys} {x x':At} {y y':Value} {e:Bool} (hc:zU x x'=some e) (h:x.ok N ρ y) (h':x'.ok N ρ y'):rQ y y'=some e/\jN x≠3:=by
 unfold zU at hc;split at hc
 ·rename_i k a k' b;split at hc
  ·rename_i hk;obtain rfl:=akr hk;obtain rfl:=Option.some.inj hc;obtain⟨rfl,_⟩:=h;obtain⟨rfl,_⟩:=h';exact⟨by simp[rQ],by simp[jN]⟩
  ·cases hc
 ·obtain rfl:=Option.some.inj hc;obtain⟨rfl,_⟩:=h;obtain⟨rfl,_⟩:=h';exact⟨rfl,by simp[jN]⟩
 ·split at hc
  ·rename_i a b ha hb;obtain rfl:=Option.some.inj hc;have e1:=zA h ha;have e2:=zA h' hb;subst e1 e2;refine⟨rfl,?_⟩;cases x with
   |v x=>cases x<;>simp[iV]at ha;simp[jN]
   |tt=>simp[jN]
   |ff=>simp[jN]
   |_=>simp[iV]at ha
  ·cases hc
theorem uH {N:Nat} {ρ:Keys}:∀ {l l':List At} {ks:List Nat} {e:Bool} {ys ys':List Value},jc ks l=true->kg l l'=some e->be (At.ok N ρ) l ys->be (At.ok N ρ) l' ys'->eD ks ys/\eB ys ys'=some e
 |[],[],[],e,[],[],_,hc,_,_=>⟨trivial,hc⟩
 |x::l,x'::l',k::ks,e,y::ys,y'::ys',hk,hc,h,h'=>by
  simp only[jc]at hk;simp only[kg]at hc;split at hk
  ·rename_i cB;split at hc
   ·rename_i e1 e2 q1 q2;obtain rfl:=Option.some.inj hc;obtain⟨a1,a2⟩:=Gp q1 h.1 h'.1;obtain⟨b1,b2⟩:=uH hk q2 h.2 h'.2;exact⟨⟨Jh h.1 cB a2,b1⟩,by simp[eB,a1,b2]⟩
   ·cases hc
  ·cases hk
 |[],_::_,_,_,_,_,_,hc,_,_=>by simp[kg]at hc
 |_::_,[],_,_,_,_,_,hc,_,_=>by simp[kg]at hc
 |[],[],_::_,_,_,_,hk,_,_,_=>by simp[jc]at hk
 |_::_,_::_,[],_,_,_,hk,_,_,_=>by simp[jc]at hk
theorem GC {t:TypeId} {ks:List Nat} (hE:dB P 8 t=some ks/\eO P t=none/\P.eqGuardType P.depth t=false) {N:Nat} {ρ:Keys} {l l':List At} {e:Bool} {ys ys':List Value} (hk:jc ks l=true) (hc:kg l l'=some e)
 (h1:be (At.ok N ρ) l ys) (h2:be (At.ok N ρ) l' ys') (x y:Operand) (w:World):
 (do eqGuard .eql t x y (.agg ys.toArray) (.agg ys'.toArray);binOp .eql t (.agg ys.toArray) (.agg ys'.toArray):Sem Value).run P w= .ok (.bool e) w/\
 (do eqGuard .neq t x y (.agg ys.toArray) (.agg ys'.toArray);binOp .neq t (.agg ys.toArray) (.agg ys'.toArray):Sem Value).run P w= .ok (.bool !e) w:=by
 obtain⟨hq,hl,hg⟩:=hE;obtain⟨v1,v2⟩:=uH hk hc h1 h2;have H:=lM 8 10000 (by decide) t ks hq ys ys' e v1 v2 w
 simp only[valOf,hl]at H;constructor
 ·rw[Sem.run_bind,run_eqGuard_agg (hm:=hg),Result.andThen_ok,run_eql_struct,H];rfl
 ·rw[Sem.run_bind,run_eqGuard_agg (hm:=hg),Result.andThen_ok,run_neq_struct,H];rfl
theorem nS (hE:bE P Γ E) {op:BinOp} {t:TypeId} {x y z:Tm} {q:List aa} (he:uR E op t x y=some (q,z)) (hq:bW q) (u v:Operand) {N:Nat} {vx vy:Value}
 (hx:x.ok N ρ vx) (hy:y.ok N ρ vy):∃ r,(do eqGuard op t u v vx vy;binOp op t vx vy:Sem Value).run P w= .ok r w/\z.ok N ρ r:=by
 unfold uR at he;split at he
 ·rename_i k m k' n;split at he
  ·rename_i hk;obtain rfl:=akr hk;obtain⟨rfl,_⟩:=hx;obtain⟨rfl,_⟩:=hy;exact CM he hq u v
  ·obtain⟨rfl,_⟩:=hx;obtain⟨rfl,_⟩:=hy;exact al4 he hq u v
 ·rename_i x y;obtain⟨rfl,_⟩:=hx;obtain⟨rfl,_⟩:=hy;split at he<;>simp only[Option.some.injEq,Prod.mk.injEq,reduceCtorEq]at he<;>obtain⟨rfl,rfl⟩:=he
  ·have h1:¬(((x.size+y.size:Nat):Int)>IntKind.i64.max):=by
    have:(x.size+y.size:Nat)<=9223372036854775807:=hq.1;have h2:IntKind.i64.max=9223372036854775807:=by decide
    rw[h2];omega
   exact⟨.string (x++y),by simp only[eqGuard,binOp,Op.stringOp,Sem.run_bind,Sem.run_pure,Result.andThen_ok];rw[if_neg h1];rfl,rfl,rfl⟩
  ·exact⟨.bool (x.toList==y.toList),by simp[eqGuard,binOp,Op.stringOp],rfl,rfl⟩
  ·exact⟨.bool (!(x.toList==y.toList)),by simp[eqGuard,binOp,Op.stringOp],rfl,rfl⟩
 ·rename_i l l';split at he
  ·rename_i n e hb hce;obtain⟨ys,rfl,h1⟩:=hx;obtain⟨ys',rfl,h2⟩:=hy;have H:=fun hl=>GC (hE.alp t n hb) hl hce h1 h2 u v w
   split at he<;>simp only[Option.some.injEq,Prod.mk.injEq,reduceCtorEq]at he<;>rename_i hlen<;>replace H:=H hlen
   ·obtain⟨rfl,rfl⟩:=he;exact⟨_,H.1,rfl,rfl⟩
   ·obtain⟨rfl,rfl⟩:=he;exact⟨_,H.2,rfl,rfl⟩
  ·cases he
 ·split at he
  ·rename_i c d htb Rj hby;have hu:P.underlying t=some .bool:=by have:=hE.ty t;rw[htb]at this;exact this.1
   have h1:=jw hx Rj;have h2:=jw hy hby;subst h1 h2;split at he<;>simp only[Option.some.injEq,Prod.mk.injEq,reduceCtorEq]at he<;>obtain⟨rfl,rfl⟩:=he
   ·exact⟨.bool (c==d),by simp[eqGuard,binOp,run_equal_bool hu],rfl,rfl⟩
   ·exact⟨.bool (!(c==d)),by simp[eqGuard,binOp,run_equal_bool hu],rfl,rfl⟩
  ·cases he
theorem ET {op:UnOp} {x z:Tm} {q:List aa} (he:Al E op x=some (q,z)) (hq:bW q) {N:Nat} {vx:Value} (hx:x.ok N ρ vx):
 ∃ r,(Op.unary op vx).run P w= .ok r w/\z.ok N ρ r:=by
 unfold Al at he;split at he
 ·obtain⟨rfl,_⟩:=hx;exact⟨_,by simp[Op.unary,Op.intArith],(eC he hq).2⟩
 ·simp only[Option.some.injEq,Prod.mk.injEq]at he;obtain⟨rfl,rfl⟩:=he;obtain rfl:vx= .bool true:=hx;exact⟨_,by simp[Op.unary],rfl⟩
 ·simp only[Option.some.injEq,Prod.mk.injEq]at he;obtain⟨rfl,rfl⟩:=he;obtain rfl:vx= .bool false:=hx;exact⟨_,by simp[Op.unary],rfl⟩
 ·simp only[Option.some.injEq,Prod.mk.injEq]at he;obtain⟨rfl,rfl⟩:=he;obtain⟨rfl,_⟩:=hx;exact⟨_,by simp[Op.unary],rfl,rfl⟩
 ·cases he
theorem GN {op:UnOp} {x z:Tm} {q:List aa} (he:Al E op x=some (q,z)) (hq:bW q) {N:Nat} {vx:Value} (hx:x.ok N ρ vx):
 ∃ r,(∀ w':World,(Op.unary op vx).run P w'= .ok r w')/\z.ok N ρ r:=by
 unfold Al at he;split at he
 ·obtain⟨rfl,_⟩:=hx;exact⟨_,fun _=>by simp[Op.unary,Op.intArith],(eC he hq).2⟩
 ·simp only[Option.some.injEq,Prod.mk.injEq]at he;obtain⟨rfl,rfl⟩:=he;obtain rfl:vx= .bool true:=hx;exact⟨_,fun _=>by simp[Op.unary],rfl⟩
 ·simp only[Option.some.injEq,Prod.mk.injEq]at he;obtain⟨rfl,rfl⟩:=he;obtain rfl:vx= .bool false:=hx;exact⟨_,fun _=>by simp[Op.unary],rfl⟩
 ·simp only[Option.some.injEq,Prod.mk.injEq]at he;obtain⟨rfl,rfl⟩:=he;obtain⟨rfl,_⟩:=hx;exact⟨_,fun _=>by simp[Op.unary],rfl,rfl⟩
 ·cases he
theorem Af (hE:bE P Γ E) {src dst:TypeId} {k:IntKind} (hs:E.ty src= .int k) {x z:Tm} {q:List aa} (he:Ae E dst x=some (q,z)) (hq:bW q) {N:Nat} {vx:Value}
 (hx:x.ok N ρ vx):∃ r,(convert src dst vx).run P w= .ok r w/\z.ok N ρ r:=by
 unfold Ae at he;split at he
 ·rename_i k' k'' n hd;have h1:P.underlying src=some (.int k):=by have:=hE.ty src;rw[hs]at this;exact this.1
  have h2:P.underlying dst=some (.int k'):=by have:=hE.ty dst;rw[hd]at this;exact this.1
  obtain⟨rfl,_⟩:=hx;refine⟨.int k' (k'.wrap n),by simp[convert,run_underlying h1,run_underlying h2,Conv.intToInt],?_⟩
  cases hc:E.cv<;>rw[hc]at he
  ·exact(eC he hq).2
  ·obtain⟨-,rfl⟩:=Prod.mk.inj (Option.some.inj he);exact⟨rfl,rfl⟩
 ·cases he
/-! ### Reading -/
theorem Ar.kY {A:Ar}:∀ {π:Path} {q:List aa} {B:Ar},A.dn π=some (q,B)->bW q->A.has π B
 |[],q,B,he,_=>by simp only[Ar.dn,Option.some.injEq,Prod.mk.injEq]at he;exact he.2.symm
 |(i,j)::π,q,C,he,hq=>by
  simp only[Ar.dn]at he;split at he
  ·rename_i q1 B h1;split at he
   ·rename_i C' h2;simp only[Option.some.injEq,Prod.mk.injEq]at he;obtain⟨rfl,rfl⟩:=he;rw[aH]at hq;exact⟨B,Ar.kY h1 hq.1,hq.2.1,h2⟩
   ·cases he
  ·cases he
theorem CK.DT {N r:Nat} (hr:r<N) {π:Path} {i j:Nat}:∀ {c:CK} {x:c.ty} {y:Value},c.aA (ρ r) π i j x y->(c.at r π i j x).ok N ρ y
 | .int _,_,_,h=>⟨h,rfl⟩
 | .bool,_,_,h=>⟨h,rfl⟩
 | .str,_,_,h=>⟨h,rfl⟩
 | .sl _ _,_,_,h=>⟨hr,h⟩
theorem ai.A8 {N r:Nat} (hr:r<N) {π:Path} {i:Nat}:∀ {tg:List CK} {j:Nat} {x:ai tg} {ys:List Value},ai.aA (ρ r) π i j tg x ys->be (At.ok N ρ) (ai.ats r π i j tg x) ys
 |[],_,_,_,h=>by have h':_=[]:=h;subst h';trivial
 |[c],_,_,_,h=>by obtain⟨y,rfl,h2⟩:=h;exact⟨CK.DT hr h2,trivial⟩
 |c::c'::cs,_,_,_,h=>by obtain⟨y,ys',rfl,h2,h3⟩:=h;exact⟨CK.DT hr h2,ai.A8 hr (tg:=c'::cs) h3⟩
theorem bg {r:Nat} {g:az} (h:st.rg.getD r .dead=g) (hg:g≠ .dead):st.rg[r]?=some g:=by
 cases hr:st.rg[r]? with
 |none=>simp[List.getD,hr]at h;exact absurd h.symm hg
 |some g'=>simp[List.getD,hr]at h;rw[h]
theorem fh {r:Nat} {g:az} (h:st.rg[r]?=some g):r<st.rg.length:=(List.getElem?_eq_some_iff.1 h).1
theorem GW {tg:List CK} (hf:aaa tg=true):∀ (x:ai tg) (j:Nat),ai.sub tg x j=none:=by
 have one:∀ (c:CK) (x:c.ty),c.flat=true->c.sub x=none:=fun c x h=>by cases c<;>first|rfl|cases h
 intro x j;induction tg generalizing j with
 |nil=>rfl
 |cons c cs ih=>
  simp only[aaa]at hf;split at hf
  ·rename_i hc;cases cs with
   |nil=>cases j with
    |zero=>exact one c x hc
    |succ j=>rfl
   |cons c' cs=>
    cases j with
    |zero=>exact one c x.1 hc
    |succ j=>exact ih hf x.2 j
  ·cases hf
theorem xM {te:TypeId} {tg:List CK} {xs:List (ai tg)} (hf:aaa tg=true):∀ {π:Path} {A:Ar},Ar.has ⟨te,tg,xs⟩ π A->π=[]/\A=⟨te,tg,xs⟩
 |[],_,h=>⟨rfl,h⟩
 |(i,j)::π,A,h=>by
  obtain⟨B,h1,_,h3⟩:=h;obtain⟨rfl,rfl⟩:=xM hf h1;rw[GW hf]at h3;cases h3
theorem az.Mw {t:TypeId} {kk:List CK} {e:TypeId} {tg:List CK} {es:List (ai kk×List (ai tg))} {o i:Bool} {π:Path} {q:List aa} {B:Ar} (he:(az.bH t kk e tg es o i).dn π=some (q,B)) (hq:bW q):
 ∃ j,π=[(j,0)]/\j<es.length/\aaa tg=true/\B=⟨e,tg,(es.getD j (ai.d kk,[])).2⟩:=by
 simp only[az.dn]at he;split at he
 ·rename_i j hf;simp only[Option.some.injEq,Prod.mk.injEq]at he;obtain⟨rfl,rfl⟩:=he;exact⟨j,rfl,hq.1,hf,rfl⟩
 ·cases he
theorem az.kY {g:az} {π:Path} {q:List aa} {B:Ar} (he:g.dn π=some (q,B)) (hq:bW q):
 (∃ f,g.has π f (.arr B))/\g≠ .dead/\g.frozen.has π false (.arr B)/\∀ τ D,B.has τ D->(∃ te tg xs o i,g= .arr te tg xs o i/\Ar.has ⟨te,tg,xs⟩ π B)\/∃ f,g.has (τ++π) f (.arr D):=by
 cases g with
 |arr te tg xs o i=>
  have:=Ar.kY he hq;exact⟨⟨_,rfl,B,this,rfl⟩,by simp,⟨by cases π<;>rfl,B,this,rfl⟩,fun τ D hD=> .inl ⟨_,_,_,_,_,rfl,this⟩⟩
 |bH t kk e tg es o i=>
  obtain⟨j,rfl,h1,h2,rfl⟩:=az.Mw he hq;refine⟨⟨_,.inr ⟨j,rfl,rfl,h1,h2,rfl⟩⟩,by simp,.inr ⟨j,rfl,rfl,h1,h2,rfl⟩,fun τ D hD=> .inr ?_⟩
  obtain⟨rfl,rfl⟩:=xM h2 hD;exact⟨_,.inr ⟨j,rfl,rfl,h1,h2,rfl⟩⟩
 |dead=>cases he
 |box=>cases he
 |map=>cases he
 |iter=>cases he
 |lp=>cases he
theorem az.Mv {g:az} {π:Path} {q:List aa} {B:Ar} (hm:g.mine π=true) (he:g.dn π=some (q,B)) (hq:bW q):∃ te tg xs o i,g= .arr te tg xs o i/\Ar.has ⟨te,tg,xs⟩ π B/\g.has π (mH π o i) (.arr B):=by
 cases g with
 |arr te tg xs o i=>
  have:=Ar.kY he hq;exact⟨te,tg,xs,o,i,rfl,this,rfl,B,this,rfl⟩
 |bH=>cases π<;>cases hm
 |dead=>cases he
 |box=>cases he
 |map=>cases he
 |iter=>cases he
 |lp=>cases he
theorem mD (h:Rel Γ M w0 ρ st vs a w) {r:Nat} {π:Path} {q:List aa} {B:Ar} (he:(st.rg.getD r .dead).dn π=some (q,B)) (hq:bW q):r<st.rg.length/\B.aA w (ρ r) π:=by
 obtain⟨⟨f,h2⟩,iP,_⟩:=az.kY he hq;have hr:=bg rfl iP;exact⟨fh hr,h.rs.blk r _ π _ _ hr h2⟩
theorem lK (h:Rel Γ M w0 ρ st vs a w) {r i j n:Nat} {π:Path} {q:List aa} {l:List At} (he:Z3 r (st.rg.getD r .dead) π i j n=some (q,l)) (hq:bW q):
 ∃ ys,be (At.ok st.rg.length ρ) l ys/\l.length=n/\∀ (s:Nat) y,ys[s]?=some y->w.cell? ((ρ r π).at (i*(ρ r π).m+j+s))=some y:=by
 unfold Z3 at he;split at he
 ·rename_i g o cells hg;split at he
  ·rename_i hlen;simp only[Option.some.injEq,Prod.mk.injEq]at he;obtain⟨rfl,rfl⟩:=he;have Vo:=bg hg (by simp)
   obtain⟨_,h1,h2,h4⟩:=h.rs.blk r _ [] o (.box cells) Vo ⟨rfl,rfl,rfl⟩;have hl:=dK hlen;have eN:∀ (s:Nat) x,((cells.drop j).take n)[s]?=some x->∃ y,x.ok st.rg.length ρ y/\w.cell? ((ρ r []).at (j+s))=some y:=fun s x hx=>by
    have hs:s<n:=by
     rcases Nat.lt_or_ge s n with hs|hs
     ·exact hs
     ·rw[List.getElem?_eq_none (by rw[hl];exact hs)]at hx;cases hx
    rw[List.getElem?_take_of_lt hs,List.getElem?_drop]at hx;exact h4 (j+s) x hx
   have hys:∀ (m:Nat) (xs:List At),(∀ (s:Nat) x,xs[s]?=some x->∃ y,x.ok st.rg.length ρ y/\w.cell? ((ρ r []).at (m+s))=some y)->
    ∃ ys,be (At.ok st.rg.length ρ) xs ys/\∀ (s:Nat) y,ys[s]?=some y->w.cell? ((ρ r []).at (m+s))=some y:=by
    intro m xs;induction xs generalizing m with
    |nil=>intro _;exact⟨[],trivial,by simp⟩
    |cons x xs ih=>
     intro hh;obtain⟨y,hy,hc⟩:=hh 0 x (by simp)
     obtain⟨ys,h1,h2⟩:=ih (m+1) (fun s x hx=>by
      obtain⟨y,hy,hc⟩:=hh (s+1) x (by simpa using hx)
      exact⟨y,hy,by rw[show m+1+s=m+(s+1) by omega];exact hc⟩)
     refine⟨y::ys,⟨hy,h1⟩,fun s z hz=>?_⟩
     cases s with
     |zero=>simp at hz;subst hz;exact hc
     |succ s=>rw[show m+(s+1)=m+1+s by omega];exact h2 s z (by simpa using hz)
   obtain⟨ys,h5,h6⟩:=hys j _ eN;exact⟨ys,h5,hl,fun s y hy=>by simpa using h6 s y hy⟩
  ·cases he
 ·split at he
  ·rename_i q' B hd;split at he
   ·rename_i hlen;simp only[Option.some.injEq,Prod.mk.injEq]at he;obtain⟨rfl,rfl⟩:=he;rw[aH]at hq;obtain⟨hr,hB⟩:=mD h hd hq.1;obtain⟨ys,h1,h2⟩:=hB.cell i hq.2.1;have h3:=ai.A8 hr h1;refine⟨_,(h3.drop j).take n,dK hlen,fun s y hy=>?_⟩
    have hs:s<n:=by
     rcases Nat.lt_or_ge s n with hs|hs
     ·exact hs
     ·rw[List.getElem?_eq_none (by simp;omega)]at hy;cases hy
    rw[List.getElem?_take_of_lt hs,List.getElem?_drop]at hy;rw[Nat.add_assoc];exact h2 (j+s) y hy
   ·cases he
  ·cases he
theorem RI.fF (I:RI) (o n:Nat):(I.at o).add n=I.at (o+n):=by
 simp only[RI.at,Addr.add_lit,Nat.add_assoc]
theorem Ls {t:TypeId} {n:Nat} (h:(P.info? t).map (·.size)=some n):∃ i,P.info? t=some i/\i.size=n:=by
 simpa using h
theorem cY {t:TypeId} {n:Nat} (h:(P.info? t).map (·.size)=some n):(sizeOf t).run P w= .ok n w:=by
 obtain⟨i,h1,h2⟩:=Ls h;simp[sizeOf,typeInfo,h1,h2]
theorem vH {t:TypeId} {fields:Array Field} (hu:P.underlying t=some (.struct fields)) {n:Nat} (hs:(P.info? t).map (·.size)=some n) (ad:Addr) (ys:List Value)
 (hl:ys.length=n) (hc:∀ (s:Nat) y,ys[s]?=some y->w.cell? (ad.add s)=some y):(loadVar t ad).run P w= .ok (.agg ys.toArray) w:=by
 subst hl;have:=run_loadCells_list (P:=P) w ad ys hc;simp[loadVar,isAgg,run_underlying hu,cY hs,this]
theorem vJ {t e:TypeId} {k:Nat} (hu:P.underlying t=some (.array k e)) {n:Nat} (hs:(P.info? t).map (·.size)=some n) (ad:Addr) (ys:List Value)
 (hl:ys.length=n) (hc:∀ (s:Nat) y,ys[s]?=some y->w.cell? (ad.add s)=some y):(loadVar t ad).run P w= .ok (.agg ys.toArray) w:=by
 subst hl;have:=run_loadCells_list (P:=P) w ad ys hc;simp[loadVar,isAgg,run_underlying hu,cY hs,this]
theorem vK {t:TypeId} {d:TypeDesc} (hu:P.underlying t=some d) (hd:lD d=true) (ad:Addr) (y:Value)
 (hc:w.cell? ad=some y):(loadVar t ad).run P w= .ok y w:=by
 cases d<;>first|(simp[lD]at hd;done)|simp[loadVar,isAgg,run_underlying hu,run_load,hc]
theorem cell_later {w1:World} (hw:Below w.heap.size w w1) {p:Addr} {y:Value} (h:w.cell? p=some y):w1.cell? p=some y:=by
 have hlt:p.block<w.heap.size:=by
  rcases Nat.lt_or_ge p.block w.heap.size with hl|hl
  ·exact hl
  ·simp[World.cell?,Array.getElem?_eq_none hl]at h
 rw[World.cell?_of_block (w:=w) (hw.block _ hlt)];exact h
theorem mE (hE:bE P Γ E) (h:Rel Γ M w0 ρ st vs a w) {t:TypeId} {ad x:Tm} {q:List aa} {va:Value} (ha:ad.ok st.rg.length ρ va) (he:qw E st t ad=some (q,x)) (hq:bW q):
 ∃ y,(∀ w1,Below w.heap.size w w1->(Instr.loadAt t va).run P w1= .ok y w1)/\x.ok st.rg.length ρ y:=by
 unfold qw at he;split at he
 ·rename_i r π i j;obtain⟨hr,rfl⟩:=ha;have hty:=hE.ty t;have one:∀ {d:TypeDesc},P.underlying t=some d->lD d=true->
   (match Z3 r (st.rg.getD r .dead) π i j 1 with|some (q,[x])=>some (q,Tm.a x)|_=>none)=some (q,x)->
   ∃ y,(∀ w1,Below w.heap.size w w1->(Instr.loadAt t (.pointer (some ((ρ r π).at (i*(ρ r π).m+j))))).run P w1= .ok y w1)/\x.ok st.rg.length ρ y:=by
   intro d hu hd he;split at he
   ·rename_i q' x' hc;simp only[Option.some.injEq,Prod.mk.injEq]at he;obtain⟨rfl,rfl⟩:=he;obtain⟨ys,h1,h2,h3⟩:=lK h hc hq
    match ys,h1 with
    |[y],h1=>
     have:=h3 0 y rfl;exact⟨y,fun w1 hw=>by simpa[Instr.loadAt,Instr.sureAddr]using vK hu hd _ y (cell_later hw this),h1.1⟩
   ·cases he
  split at he
  ·rename_i fs n eT;rw[eT]at hty;obtain⟨⟨fields,hu,_⟩,hs⟩:=hty;split at he
   ·rename_i q' l hc;simp only[Option.some.injEq,Prod.mk.injEq]at he;obtain⟨rfl,rfl⟩:=he;obtain⟨ys,h1,h2,h3⟩:=lK h hc hq;refine⟨.agg ys.toArray,fun w1 hw=>?_,ys,rfl,h1⟩
    have:=vH (w:=w1) hu hs ((ρ r π).at (i*(ρ r π).m+j)) ys (by rw[<-h1.length,h2]) (fun s y hy=>by rw[RI.fF];exact cell_later hw (h3 s y hy))
    simpa[Instr.loadAt,Instr.sureAddr]using this
   ·cases he
  ·rename_i e m n eT;rw[eT]at hty;obtain⟨hu,_,hs⟩:=hty;split at he
   ·rename_i q' l hc;simp only[Option.some.injEq,Prod.mk.injEq]at he;obtain⟨rfl,rfl⟩:=he;obtain⟨ys,h1,h2,h3⟩:=lK h hc hq;refine⟨.agg ys.toArray,fun w1 hw=>?_,ys,rfl,h1⟩
    have:=vJ (w:=w1) hu hs ((ρ r π).at (i*(ρ r π).m+j)) ys (by rw[<-h1.length,h2]) (fun s y hy=>by rw[RI.fF];exact cell_later hw (h3 s y hy))
    simpa[Instr.loadAt,Instr.sureAddr]using this
   ·cases he
  ·cases he
  ·rename_i Hq aBz xW;cases eT:E.ty t with
   |st fs n=>exact absurd eT (Hq fs n)
   |ar e m n=>exact absurd eT (aBz e m n)
   |other=>exact absurd eT xW
   |int k=>rw[eT]at hty;exact one hty.1 rfl he
   |bool=>rw[eT]at hty;exact one hty.1 rfl he
   |str=>rw[eT]at hty;exact one hty.1 rfl he
   |sl e m=>rw[eT]at hty;exact one hty.1 rfl he
   |map k e=>rw[eT]at hty;exact one hty.1 rfl he
   |word=>rw[eT]at hty;obtain⟨⟨d,hu,hd⟩,_⟩:=hty;exact one hu hd he
 ·cases he
theorem akp:∀ (fields:List Field) (fs:List (Nat×Nat)),fields.mapM (fun f=>(P.info? f.type).map fun i=>(f.offset,i.size))=some fs->
 ∀ (f:Nat) off size,fs[f]?=some (off,size)->∃ fd,fields[f]?=some fd/\fd.offset=off/\(P.info? fd.type).map (·.size)=some size
 |[],fs,h,f,off,size,hf=>by simp at h;subst h;simp at hf
 |fd::fields,fs,h,f,off,size,hf=>by
  simp only[List.mapM_cons,Option.bind_eq_bind,Option.pure_def]at h;cases hi:P.info? fd.type with
  |none=>simp[hi]at h
  |some i=>
   cases hr:fields.mapM (fun f=>(P.info? f.type).map fun i=>(f.offset,i.size))with
   |none=>simp[hi,hr]at h
   |some rest=>
    simp[hi,hr]at h;subst h;cases f with
    |zero=>
     simp at hf;exact⟨fd,by simp,hf.1,by simp[hi,hf.2]⟩
    |succ f=>
     obtain⟨fd',h1,h2⟩:=akp fields rest hr f off size (by simpa using hf)
     exact⟨fd',by simpa using h1,h2⟩
theorem oG {s:TypeId} {fields:Array Field} (hu:P.underlying s=some (.struct fields)) {f:Nat} {fd:Field} (hf:fields[f]?=some fd) {size:Nat} (hs:(P.info? fd.type).map (·.size)=some (size+1)) (ad:Addr):
 (Instr.fieldAt s (.pointer (some ad)) f).run P w= .ok (.pointer (some (ad.add fd.offset))) w:=by
 simp[Instr.fieldAt,run_underlying hu,hf,Instr.sureAddr,fieldPlace,cY hs]
theorem Br:∀ {os:List Operand} {l:List Nat},Rel Γ M w0 ρ st vs a w->qv st os=some l->(∀ r∈l,r<st.rg.length)/\os.map a.eval=l.map (fun r=>Value.pointer (some ((ρ r []).at 0)))
 |[],l,_,he=>by simp[qv]at he;subst he;simp
 |o::os,l,h,he=>by
  simp only[qv]at he;split at he
  ·rename_i r l' h1 h2;simp only[Option.some.injEq]at he;subst he;obtain⟨h3,h4⟩:=Br h h2;obtain⟨hr,hp⟩:=ax h h1;refine⟨fun r' hr'=>?_,?_⟩
   ·rcases List.mem_cons.1 hr' with rfl|hr'
    ·exact hr
    ·exact h3 r' hr'
   ·simp only[List.map_cons,h4,hp];simp
  ·cases he
end
end Go.Sy
end
section
namespace Go.Sy
open Go Go.MapKept
universe u
section
variable {P:Program} {w:World}
theorem vo {d:Nat}:∀ (fs:List Field) (off:Nat) (ks:List Nat),jh (dB P d) P fs off=some ks->∀ xs:List Value,eD ks (xs.drop off)->off<=xs.length->
 ∀ f∈fs,f.name≠ "_" /\∃ pV KK,dB P d f.type=some pV/\eD pV KK/\(part f.type xs.toArray f.offset).run P w= .ok (valOf P f.type KK) w
 |[],_,_,_,_,_,_,f,hf=>by simp at hf
 |g::fs,off,ks,hk,xs,hv,hl,f,hf=>by
  unfold jh at hk;split at hk
  ·rename_i pV i hn ho hr hi;split at hk
   ·rename_i r hsz xT;obtain rfl:=Option.some.inj hk;have mJ:g.offset=off:=Nat.eq_of_beq_eq_true ho;have wI:i.size=pV.length:=Nat.eq_of_beq_eq_true hsz;obtain⟨v1,v2⟩:=nh hv;have hlen:=hv.length;rw[List.length_append,List.length_drop]at hlen;rw[List.drop_drop]at v2;have ih:=vo fs (off+pV.length) r xT xs v2 (by omega)
    have hne:g.name≠ "_" :=by simpa using hn
    rcases List.mem_cons.1 hf with rfl|hf
    ·exact⟨hne,pV,_,hr,v1,by rw[mJ];exact ua hr hi wI xs off (by omega) w⟩
    ·exact ih f hf
   ·cases hk
  ·cases hk
theorem kA (em:Bool):∀ (d D:Nat),d<=D->∀ (t:TypeId) (ks:List Nat),dB P d t=some ks->∀ ys:List Value,eD ks ys->(Instr.checkKey em D t (valOf P t ys)).run P w= .ok () w
 |0,_,_,_,_,hk,_,_=>by cases hk
 |d+1,0,hD,_,_,_,_,_=>by omega
 |d+1,D+1,hD,t,ks,hk,ys,hv=>by
  unfold dB at hk;split at hk
  ·rename_i c hc;obtain rfl:=Option.some.inj hk
   match ys,hv with
   |[y],hv=>
    obtain⟨hy,_⟩:=hv;simp only[valOf,hc,List.headD_cons];unfold eO at hc;split at hc
    ·rename_i hu;cases y<;>simp[Instr.checkKey,run_underlying hu]
    ·rename_i hu;cases y<;>simp[Instr.checkKey,run_underlying hu]
    ·rename_i hu;cases y<;>simp[Instr.checkKey,run_underlying hu]
    ·cases hc
  ·rename_i hc;split at hk
   ·rename_i fs hu hp;simp only[valOf,hc];rw[Instr.checkKey];simp only[Sem.run_bind,run_underlying hu,Result.andThen_ok];rw[<-Array.forIn_toList];have each:=vo (w:=w) fs.toList 0 ks hk ys (by simpa using hv) (Nat.zero_le _)
    generalize fs.toList=L at each;induction L with
    |nil=>simp
    |cons f L ih=>
     obtain⟨hn,pV,KK,k1,k2,k3⟩:=each f (by simp)
     have p2:=kA em d D (by omega) f.type pV k1 KK k2
     simp only[List.forIn_cons,Sem.run_bind,hn,ne_eq,not_false_eq_true,if_true,Result.andThen_ok,k3,p2,Sem.run_pure];exact ih (fun y hy=>each y (by simp[hy]))
   ·cases hk
end
/-! ### Keys' values -/
section
variable {ρ:Keys}
theorem tQ {N:Nat} {c:CK} {x:At} {v:c.ty} {y:Value} (h:c.fX x=some v) (hy:x.ok N ρ y):y=c.val v:=by
 have key:∀ u,c.of u=some v->u=c.val v:=by
  intro u hu;cases c with
  |int k=>
   cases u<;>simp only[CK.of]at hu<;>try(cases hu;done)
   split at hu
   ·rename_i hk;obtain rfl:=akr hk;obtain rfl:=Option.some.inj hu;rfl
   ·cases hu
  |bool=>cases u<;>simp only[CK.of]at hu<;>try(cases hu;done)
         obtain rfl:=Option.some.inj hu;rfl
  |str=>cases u<;>simp only[CK.of]at hu<;>try(cases hu;done)
        obtain rfl:=Option.some.inj hu;rfl
  |sl=>cases u<;>cases hu
 cases x<;>simp only[CK.fX]at h<;>try(cases h;done)
 ·obtain⟨rfl,_⟩:=hy;exact key _ h
 ·obtain rfl:y= .bool true:=hy;exact key _ h
 ·obtain rfl:y= .bool false:=hy;exact key _ h
theorem mU {N:Nat}:∀ {kk:List CK} {l:List At} {k:ai kk} {ys:List Value},eu kk l=some k->be (At.ok N ρ) l ys->ys=ai.a8 kk k:=by
 intro kk;induction kk with
 |nil=>
  intro l k ys h hl;cases l with
  |nil=>cases ys with|nil=>rfl|cons=>exact hl.elim
  |cons=>cases h
 |cons c cs ih=>
  intro l k ys h hl;cases cs with
  |nil=>
   match l,h,ys,hl with
   |[x],h,[y],hl=>
    have h:c.fX x=some k:=h;show[y]=[c.val k];rw[tQ h hl.1]
   |x::_::_,h,_,_=>cases h
  |cons c' cs=>
   cases l with
   |nil=>cases h
   |cons x xs=>
    cases ys with
    |nil=>exact hl.elim
    |cons y ys=>
     have h:(match c.fX x,eu (c'::cs) xs with|some y,some z=>some ((y,z):c.ty×ai (c'::cs))|_,_=>none)=some k:=h
     split at h
     ·rename_i u v h1 h2;obtain rfl:=Option.some.inj h;show y::ys=c.val u::ai.a8 (c'::cs) v;rw[tQ h1 hl.1,ih h2 hl.2]
     ·cases h
end
theorem nM:∀ {kk:List CK} {ns:List Nat},kr kk ns=true->∀ x y:ai kk,eD ns (ai.a8 kk x)/\eB (ai.a8 kk x) (ai.a8 kk y)=some (ai.beq kk x y)/\(ai.beq kk x y=true->x=y):=by
 have one:∀ {c:CK} {n:Nat},kr [c] [n]=true->∀ x y:c.ty,pM (c.val x)=some n/\rQ (c.val x) (c.val y)=some (c.beq x y)/\(c.beq x y=true->x=y):=by
  intro c n h x y;cases c with
  |int k=>
   obtain rfl:n=0:=by
    match n,h with
    |0,_=>rfl
   exact⟨rfl,by simp[CK.val,rQ,CK.beq],fun hh=>eq_of_beq (α:=Int) hh⟩
  |bool=>
   obtain rfl:n=1:=by
    match n,h with
    |1,_=>rfl
   exact⟨rfl,by simp[CK.val,rQ,CK.beq],fun hh=>eq_of_beq (α:=Bool) hh⟩
  |str=>
   obtain rfl:n=2:=by
    match n,h with
    |2,_=>rfl
   refine⟨rfl,by simp[CK.val,rQ,CK.beq],fun hh=>?_⟩
   have e:∀ a b:ByteArray,a.toList=b.toList->a=b:=by
    intro a b h;rw[ByteArray.toList_eq,ByteArray.toList_eq]at h;cases a;cases b
    congr 1
    exact Array.ext' h
   exact e x y (eq_of_beq hh)
  |sl=>cases h
 intro kk;induction kk with
 |nil=>
  intro ns h x y;cases ns with
  |nil=>exact⟨trivial,rfl,fun _=>rfl⟩
  |cons=>cases h
 |cons c cs ih=>
  intro ns h x y;cases ns with
  |nil=>cases c<;>cases h
  |cons n ns=>
   have h1:kr [c] [n]=true/\kr cs ns=true:=by
    cases c<;>(first|(cases h;done)|skip)
    all_goals
     match n,h with
     |0,h=>first|exact⟨rfl,h⟩|cases h
     |1,h=>first|exact⟨rfl,h⟩|cases h
     |2,h=>first|exact⟨rfl,h⟩|cases h
     |n+3,h=>cases h
   cases cs with
   |nil=>
    cases ns with
    |cons=>cases h1.2
    |nil=>
     obtain⟨a1,a2,a3⟩:=one h1.1 x y;refine⟨⟨a1,trivial⟩,?_,a3⟩;show eB [c.val x] [c.val y]=_;simp only[eB,a2,Bool.and_true];rfl
   |cons c' cs=>
    obtain⟨a1,a2,a3⟩:=one h1.1 x.1 y.1;obtain⟨b1,b2,b3⟩:=ih h1.2 x.2 y.2;refine⟨⟨a1,b1⟩,?_,fun hh=>?_⟩
    ·show eB (c.val x.1::ai.a8 (c'::cs) x.2) (c.val y.1::ai.a8 (c'::cs) y.2)=_;simp only[eB,a2,b2];rfl
    ·have hh:(c.beq x.1 y.1&&ai.beq (c'::cs) x.2 y.2)=true:=hh;rw[Bool.and_eq_true]at hh;exact Prod.ext (a3 hh.1) (b3 hh.2)
section
variable {α:Type} {kk:List CK} {k:ai kk}
theorem mN (p:ai kk×α) (es:List (ai kk×α)):br kk k (p::es)=match ai.beq kk k p.1 with|true=>0|false=>br kk k es+1:=rfl
theorem A3 (es:List (ai kk×α)):br kk k es<=es.length:=by
 induction es with
 |nil=>exact Nat.le_refl _
 |cons p es ih=>
  rw[mN];split
  ·exact Nat.zero_le _
  ·simp;exact ih
theorem DM:∀ (es:List (ai kk×α)) (p:ai kk×α),es[br kk k es]?=some p->ai.beq kk k p.1=true
 |[],p,h=>by simp at h
 |q::es,p,h=>by
  rw[mN]at h;split at h
  ·rename_i hq;simp at h;subst h;exact hq
  ·exact DM es p (by simpa using h)
theorem mO (v:α):∀ (es:List (ai kk×α)) (j:Nat),(fL kk k v es)[j]?=if j=br kk k es then some ((match es[j]? with|some p=>p.1|none=>k),v)else es[j]?
 |[],j=>by
  cases j with
  |zero=>rfl
  |succ j=>simp[fL,br,jM]
 |p::es,j=>by
  rw[mN];unfold fL;cases hb:ai.beq kk k p.1 with
  |true=>
   cases j with
   |zero=>rfl
   |succ j=>simp
  |false=>
   cases j with
   |zero=>simp
   |succ j=>
    have:=mO v es j;simp only[List.getElem?_cons_succ,this,Nat.add_right_cancel_iff]
theorem nU (v:α) (es:List (ai kk×α)):(fL kk k v es).length=if br kk k es<es.length then es.length else es.length+1:=by
 induction es with
 |nil=>rfl
 |cons p es ih=>
  rw[mN];unfold fL;cases hb:ai.beq kk k p.1 with
  |true=>simp
  |false=>
   simp only[List.length_cons,ih,Nat.add_lt_add_iff_right];split<;>rfl
end
section
variable {P:Program} {w:World}
structure rV (P:Program) (kt:TypeId) (kk:List CK) (ns:List Nat):Prop where
 kk:kr kk ns=true
 eq:dB P 8 kt=some ns
 lf:eO P kt=none
theorem AZ {kt:TypeId} {kk:List CK} {ns:List Nat} (h:rV P kt kk ns):∃ fs,P.underlying kt=some (.struct fs):=by
 have:=h.eq;unfold dB at this;rw[h.lf]at this;simp only at this;split at this
 ·exact⟨_,‹_›⟩
 ·cases this
theorem j8 {α:Type} {kt:TypeId} {kk:List CK} {ns:List Nat} (h:rV P kt kk ns) (k:ai kk):∀ (es:List (ai kk×α)) (aD:List MapEntry) (i:Nat),be (fun p (e:MapEntry)=>e.key= .agg (ai.a8 kk p.1).toArray) es aD->
 (Instr.findAsking kt (.agg (ai.a8 kk k).toArray) aD i).run P w= .ok (match aD[br kk k es]? with|some e=>some (i+br kk k es,e.val)|none=>none) w
 |[],[],_,_=>rfl
 |p::es,e::aD,i,hl=>by
  obtain⟨h1,h2⟩:=hl;obtain⟨v1,v2,_⟩:=nM h.kk k p.1;have heq:=lM 8 10000 (by decide) kt ns h.eq _ _ _ v1 v2 w
  simp only[valOf,h.lf]at heq;have ih:=j8 h k es aD (i+1) h2;rw[mN];simp only[Instr.findAsking,Sem.run_bind,h1,Op.equal,Op.maxDepth,heq,Result.andThen_ok];split
  ·rename_i hb;simp[hb]
  ·rename_i hb;simp only[hb,Bool.false_eq_true,if_false,List.getElem?_cons_succ];rw[ih];cases aD[br kk k es]? with
   |none=>rfl
   |some e=>simp only;rw[Nat.add_assoc,Nat.add_comm 1]
theorem mZ {α:Type} {kt:TypeId} {kk:List CK} {ns:List Nat} (h:rV P kt kk ns) (k:ai kk) (es:List (ai kk×α)) (aD:List MapEntry) (hl:be (fun p (e:MapEntry)=>e.key= .agg (ai.a8 kk p.1).toArray) es aD):
 (Instr.findKey kt (.agg (ai.a8 kk k).toArray) aD).run P w= .ok (match aD[br kk k es]? with|some e=>some (br kk k es,e.val)|none=>none) w:=by
 obtain⟨fs,hu⟩:=AZ h;have h1:=j8 (w:=w) h k es aD 0 hl;have:(Instr.findKey kt (.agg (ai.a8 kk k).toArray) aD).run P w=(Instr.findAsking kt (.agg (ai.a8 kk k).toArray) aD).run P w:=by
  cases aD with
  |nil=>simp[Instr.findKey,run_underlying hu,Instr.findNow,Instr.findAsking]
  |cons e es=>simp[Instr.findKey,run_underlying hu,Instr.findNow,Instr.sameNow]
 rw[this,h1];simp
theorem tc {b:Nat} {η:Path->RI} {kk tg:List CK} {es:List (ai kk×List (ai tg))} (h:kR w b η kk tg es):∃ aD:Array MapEntry,w.heap[b]?=some (.map aD aD.size)/\aD.size=es.length/\aD.toList.map (·.born)=List.range aD.size/\
 be (fun p (e:MapEntry)=>e.key= .agg (ai.a8 kk p.1).toArray) es aD.toList/\∀ (j:Nat) (x:MapEntry),aD[j]?=some x->(η [(j,0)]).head 0 (es.getD j (ai.d kk,[])).2.length x.val:=by
 obtain⟨aD,h1,h2,h3,h4⟩:=h;refine⟨aD,h1,h2,h3,?_,fun j x hx=>(h4 j x hx).2⟩
 have gen:∀ (es:List (ai kk×List (ai tg))) (l:List MapEntry),l.length=es.length->(∀ (j:Nat) (x:MapEntry),l[j]?=some x->x.key= .agg (ai.a8 kk (es.getD j (ai.d kk,[])).1).toArray)->be (fun p (e:MapEntry)=>e.key= .agg (ai.a8 kk p.1).toArray) es l:=by
  intro es;induction es with
  |nil=>intro l hl _;cases l with|nil=>trivial|cons=>simp at hl
  |cons p es ih=>
   intro l hl hk;cases l with
   |nil=>simp at hl
   |cons e l=>
    refine⟨by simpa using hk 0 e rfl,ih l (by simpa using hl) fun j x hx=>?_⟩
    have:=hk (j+1) x (by simpa using hx)
    simpa[List.getD]using this
 exact gen es aD.toList (by simpa using h2) (fun j x hx=>(h4 j x (by simpa using hx)).1)
theorem nJ {t kt et:TypeId} {kk tg:List CK} {ns:List Nat} (hu:P.underlying t=some (.map kt et)) (hk:rV P kt kk ns) (hz:∃ i,P.info? et=some i/\i.zero=some (.slice none 0 0)) {b:Nat} {η:Path->RI} {es:List (ai kk×List (ai tg))}
 (h:kR w b η kk tg es) (k:ai kk) (ok:Bool):
 ∃ v,(∀ w':World,w'.heap[b]?=w.heap[b]?->(Instr.lookup t (.map (some b)) (.agg (ai.a8 kk k).toArray) ok).run P w'= .ok (if ok then .tuple #[v,.bool (decide (br kk k es<es.length))]else v) w')/\
  (br kk k es<es.length->(η [(br kk k es,0)]).head 0 (es.getD (br kk k es) (ai.d kk,[])).2.length v)/\(br kk k es=es.length->v= .slice none 0 0):=by
 obtain⟨aD,h1,h2,_,h4,h5⟩:=tc h;obtain⟨i,hi,Hl⟩:=hz;have mM:∀ w':World,(zeroValue et).run P w'= .ok (.slice none 0 0) w':=fun w'=>by simp[zeroValue,typeInfo,hi,Hl]
 have hf:=fun w':World=>mZ (w:=w') hk k es aD.toList h4
 have hc:∀ (w':World) em,(Instr.checkKey em 10000 kt (.agg (ai.a8 kk k).toArray)).run P w'= .ok () w':=fun w' em=>by
  have:=kA (P:=P) (w:=w') em 8 10000 (by decide) kt ns hk.eq _ (nM hk.kk k k).1
  simpa only[valOf,hk.lf]using this
 unfold Instr.lookup;cases he:aD.toList[br kk k es]? with
 |none=>
  have hl:es.length<=br kk k es:=by
   have:=List.getElem?_eq_none_iff.1 he;simpa[h2]using this
  refine⟨.slice none 0 0,fun w' fS=>?_,fun hh=>by omega,fun _=>rfl⟩
  simp only[Sem.run_bind,run_underlying hu,Result.andThen_ok,Go.MapKept.run_getObj_map (fS.trans h1),Sem.run_pure,hc,hf,he,mM,show decide (br kk k es<es.length)=false from decide_eq_false (by omega)]
 |some e=>
  have hl:br kk k es<es.length:=by
   have:=(List.getElem?_eq_some_iff.1 he).1;simpa[h2]using this
  refine⟨e.val,fun w' fS=>?_,fun _=>h5 _ e (by simpa using he),fun hh=>by omega⟩
  simp only[Sem.run_bind,run_underlying hu,Result.andThen_ok,Go.MapKept.run_getObj_map (fS.trans h1),Sem.run_pure,hc,hf,he,show decide (br kk k es<es.length)=true from decide_eq_true hl]
theorem BL {n:Nat} (k:IntKind) (x:Int):Instr.sameBits n (.int k x) (.int k x)=true:=by cases n<;>simp[Instr.sameBits]
theorem yT {n:Nat} (x:Bool):Instr.sameBits n (.bool x) (.bool x)=true:=by cases n<;>simp[Instr.sameBits]
theorem BM {n:Nat} (x:ByteArray):Instr.sameBits n (.string x) (.string x)=true:=by
 have:(x==x)=true:=(bytes_beq _ _).2 rfl;cases n<;>simpa[Instr.sameBits]using this
theorem yU {n:Nat}:∀ {kk:List CK} {ns:List Nat},kr kk ns=true->∀ x:ai kk,((ai.a8 kk x).zip (ai.a8 kk x)).all (fun(a,b)=>Instr.sameBits n a b)=true:=by
 have one:∀ {c:CK} {m:Nat},kr [c] [m]=true->∀ x:c.ty,Instr.sameBits n (c.val x) (c.val x)=true:=by
  intro c m h x;cases c with
  |sl=>cases h
  |int k=>exact BL (n:=n) k x
  |bool=>exact yT (n:=n) x
  |str=>exact BM (n:=n) x
 intro kk;induction kk with
 |nil=>intro ns _ x;rfl
 |cons c cs ih=>
  intro ns h x;cases ns with
  |nil=>cases c<;>cases h
  |cons m ns=>
   have h1:kr [c] [m]=true/\kr cs ns=true:=by
    cases c<;>(first|(cases h;done)|skip)
    all_goals
     match m,h with
     |0,h=>first|exact⟨rfl,h⟩|cases h
     |1,h=>first|exact⟨rfl,h⟩|cases h
     |2,h=>first|exact⟨rfl,h⟩|cases h
     |n+3,h=>cases h
   cases cs with
   |nil=>
    show([(c.val x,c.val x)]:List (Value×Value)).all _=true;simp[one h1.1 x]
   |cons c' cs=>
    show((c.val x.1,c.val x.1)::(ai.a8 (c'::cs) x.2).zip (ai.a8 (c'::cs) x.2)).all _=true;rw[List.all_cons];have h2:=ih h1.2 x.2;rw[Bool.and_eq_true];exact⟨one h1.1 x.1,h2⟩
theorem BK {t kt et:TypeId} {kk tg:List CK} {ns:List Nat} (hu:P.underlying t=some (.map kt et)) (hk:rV P kt kk ns) {b:Nat} {η:Path->RI} {es:List (ai kk×List (ai tg))} (h:kR w b η kk tg es) (k:ai kk) (xs:List (ai tg)) (v:Value):
 ∃ kF:Array MapEntry,(Instr.mapUpdate t (.map (some b)) (.agg (ai.a8 kk k).toArray) v).run P w= .ok () {w with heap:=w.heap.setIfInBounds b (.map kF kF.size)}/\
  ∀ bU:Path->RI,(∀ j,j≠br kk k es->bU [(j,0)]=η [(j,0)])->(bU [(br kk k es,0)]).head 0 xs.length v->∀ w':World,w'.heap[b]?=some (.map kF kF.size)->kR w' b bU kk tg (fL kk k xs es):=by
 obtain⟨aD,h1,h2,h3,h4⟩:=h;obtain⟨jB,p1,_,_,p4,_⟩:=tc (w:=w) (η:=η) ⟨aD,h1,h2,h3,h4⟩;obtain rfl:jB=aD:=by rw[h1]at p1;injection p1 with p1;injection p1 with p1;exact p1.symm
 have hf:=mZ (w:=w) hk k es jB.toList p4;have hc:(Instr.checkKey false 10000 kt (.agg (ai.a8 kk k).toArray)).run P w= .ok () w:=by
  have:=kA (P:=P) (w:=w) false 8 10000 (by decide) kt ns hk.eq _ (nM hk.kk k k).1
  simpa only[valOf,hk.lf]using this
 have hlk:=A3 (k:=k) es;unfold Instr.mapUpdate;simp only[Sem.run_bind,run_underlying hu,Result.andThen_ok,Go.MapKept.run_getObj_map h1,hc,hf];cases he:jB.toList[br kk k es]? with
 |none=>
  have hl:br kk k es=es.length:=by
   have:=List.getElem?_eq_none_iff.1 he;simp[h2]at this;omega
  refine⟨jB.push {key:=.agg (ai.a8 kk k).toArray,val:=v,born:=jB.size},?_,?_⟩
  ·simp only[Result.andThen_ok,Go.MapKept.run_setObj_map _ h1,Array.size_push]
  ·intro bU e1 e2 w' fS;refine⟨_,fS,?_,?_,fun j x hx=>?_⟩
   ·rw[nU,if_neg (by omega),Array.size_push,h2]
   ·simp[h3,List.range_succ]
   ·rw[List.getD_eq_getElem?_getD,mO];rw[Array.getElem?_push]at hx;by_cases hj:j=br kk k es
    ·rw[if_pos hj];rw[if_pos (by omega)]at hx
     obtain rfl:=Option.some.inj hx;have hn:es[j]?=none:=List.getElem?_eq_none (by omega)
     rw[hn];exact⟨rfl,by rw[hj];exact e2⟩
    ·rw[if_neg hj];rw[if_neg (by omega)]at hx
     have:=h4 j x hx;rw[<-List.getD_eq_getElem?_getD,e1 j hj];exact this
 |some e=>
  have hl:br kk k es<es.length:=by
   have:=(List.getElem?_eq_some_iff.1 he).1;simpa[h2]using this
  have AI:es[br kk k es]?=some es[br kk k es]:=List.getElem?_eq_getElem hl;have hkey:es[br kk k es].1=k:=((nM hk.kk _ _).2.2 (DM es _ AI)).symm;have Rq:e.key= .agg (ai.a8 kk k).toArray:=by
   have:=(h4 _ e (by simpa using he)).1
   rw[List.getD_eq_getElem?_getD,AI]at this;simp only[Option.getD_some,hkey]at this;exact this
  refine⟨jB.modify (br kk k es) fun e=>{e with key:=.agg (ai.a8 kk k).toArray,val:=v},?_,?_⟩
  ·have hks:(Instr.keyThatStays (.agg (ai.a8 kk k).toArray) (.agg (ai.a8 kk k).toArray)).run P w= .ok (.agg (ai.a8 kk k).toArray) w:=by
    have:Instr.sameBits 10000 (.agg (ai.a8 kk k).toArray) (.agg (ai.a8 kk k).toArray)=true:=by
     have:=yU (n:=9999) hk.kk k;simp only[Instr.sameBits,beq_self_eq_true,Bool.true_and];exact this
    simp[Instr.keyThatStays,this]
   simp only[Result.andThen_ok,Sem.run_bind];have:((jB[br kk k es]?).map (·.key)).getD (.agg (ai.a8 kk k).toArray)= .agg (ai.a8 kk k).toArray:=by
    rw[show jB[br kk k es]?=some e by simpa using he];simp[Rq]
   rw[this,hks];simp only[Result.andThen_ok,Go.MapKept.run_setObj_map _ h1,Array.size_modify]
  ·intro bU e1 e2 w' fS;refine⟨_,fS,?_,?_,fun j x hx=>?_⟩
   ·rw[nU,if_pos hl,Array.size_modify,h2]
   ·rw[Array.size_modify,<-h3];apply List.ext_getElem?;intro i;simp only[List.getElem?_map,Array.getElem?_toList,Array.getElem?_modify];by_cases hi:br kk k es=i
    ·subst hi;cases jB[br kk k es]?<;>simp
    ·simp[hi]
   ·rw[List.getD_eq_getElem?_getD,mO];rw[Array.getElem?_modify]at hx;by_cases hj:j=br kk k es
    ·subst hj;rw[if_pos rfl]at hx ⊢;rw[show jB[br kk k es]?=some e by simpa using he]at hx
     obtain rfl:=Option.some.inj hx;rw[AI];simp only[Option.getD_some,hkey];exact⟨trivial,e2⟩
    ·rw[if_neg hj];rw[if_neg (fun e=>hj e.symm)]at hx
     have:=h4 j x hx;rw[<-List.getD_eq_getElem?_getD,e1 j hj];exact this
theorem BD {N:Nat} {ρ:Keys}:∀ (kk:List CK) (x:ai kk),be (At.ok N ρ) (ai.lV kk x) (ai.a8 kk x)
 |[],_=>trivial
 |[_],_=>⟨pJ,trivial⟩
 |_::c'::cs,x=>⟨pJ,BD (c'::cs) x.2⟩
theorem vL {r bm:Nat} {η:Path->RI} {kk tg:List CK} {es:List (ai kk×List (ai tg))} {n:Nat} {seen:List Nat} {ty:TypeId} (hm:kR w bm η kk tg es) (hr:w.heap[r]?=some (.mapIter (some bm) n seen.reverse.toArray n)) (hn:es.length=n):
 ((∀ j,j<n->j∈seen)/\(Instr.next (.pointer (some ⟨r,0,none⟩)) false ty).run P w= .ok (.tuple #[.bool false]) w)\/
 ∃ j,j<n/\j∉seen/\∃ v,∃ w1:World,(w1=w\/w1=w.drew)/\(Instr.next (.pointer (some ⟨r,0,none⟩)) false ty).run P w=
  .ok (.tuple #[.bool true,.agg (ai.a8 kk (es.getD j (ai.d kk,[])).1).toArray,v]) (Go.ChangeMaps.setBlock w1 r (.mapIter (some bm) n (j::seen).reverse.toArray n)):=by
 obtain⟨aD,h1,h2,h3,h4⟩:=hm;have born:∀ j (hj:j<aD.size),aD[j].born=j:=fun j hj=>by
  have e1:(aD.toList.map (·.born))[j]?=some aD[j].born:=by simp[hj]
  rw[h3,List.getElem?_range hj]at e1;exact(Option.some.inj e1).symm
 have hold:∀ x∈aD.toList,x.born<n:=fun x hx=>by
  obtain⟨j,hj,rfl⟩:=pC hx;rw[born j hj];omega
 rcases run_next_at (P:=P) w ty r bm n n seen.reverse.toArray aD aD.size hr h1 hold (Nat.le_refl _)with⟨hz,hrun⟩|⟨e,he,w1,mL,hrun⟩
 ·refine .inl ⟨fun j hj=>?_,hrun⟩
  have hj':j<aD.size:=by omega
  have mM:leftOf aD seen.reverse.toArray=#[]:=Array.eq_empty_of_size_eq_zero hz;unfold leftOf at mM;rw[Array.filter_eq_empty_iff]at mM;have:=mM aD[j] (by simp)
  rw[born j hj']at this;simpa using this
 ·unfold leftOf at he;simp only[Array.toList_filter,List.mem_filter]at he;obtain⟨iO,AH⟩:=he;obtain⟨j,hj,rfl⟩:=pC iO;have b1:=born j hj;have b2:=(h4 j aD[j] (by simp[hj])).1
  rw[b1]at AH hrun;rw[b2]at hrun;refine .inr ⟨j,by omega,by simpa using AH,aD[j].val,w1,mL,?_⟩
  rw[hrun,h2,hn];simp
theorem tY {r bm:Nat} {η:Path->RI} {kk tg:List CK} {es:List (ai kk×List (ai tg))} {n j:Nat} {seen:List Nat} (hm:kR w bm η kk tg es) (hr:w.heap[r]?=some (.mapIter (some bm) n (j::seen).reverse.toArray n)) (hn:es.length=n) (hj:j<n):
 ∃ v,(Instr.entry (.pointer (some ⟨r,0,none⟩))).run P w= .ok (.tuple #[.agg (ai.a8 kk (es.getD j (ai.d kk,[])).1).toArray,v]) w:=by
 obtain⟨aD,h1,h2,h3,h4⟩:=hm;have born:∀ j (hj:j<aD.size),aD[j].born=j:=fun j hj=>by
  have e1:(aD.toList.map (·.born))[j]?=some aD[j].born:=by simp[hj]
  rw[h3,List.getElem?_range hj]at e1;exact(Option.some.inj e1).symm
 have hj':j<aD.size:=by omega
 have b1:=born j hj';have b2:=(h4 j aD[j] (by simp[hj'])).1
 have:=run_entry_at (P:=P) w r bm n seen.reverse.toArray aD aD.size aD[j] (by rw[hr,b1,h2,hn];simp) h1 (by simp) (by rw[h3];exact List.nodup_range)
 rw[b2]at this;exact⟨_,this⟩
end
end Go.Sy
end
section
namespace Go.Sy
open Go Go.RowKit
universe u
section
variable {P:Program} {Γ:bn} {E:Env} {M:Nat->Prop} {w0:World} {ρ:Keys} {st:St} {vs:Fv} {a:Act} {w:World}
theorem iI {α:Type u} {f:α->Bool}:∀ {l:List α},bZ f l=true->∀ x∈l,f x=true
 |x::l,h,y,hy=>by
  simp only[bZ]at h;split at h
  ·rename_i hx;rcases List.mem_cons.1 hy with rfl|hy
   ·exact hx
   ·exact iI h y hy
  ·cases h
theorem At.one_cell {N:Nat} {x:At} {y:Value} (h:x.ok N ρ y) (h1:x.one=true):y.oneCell'=true:=by
 cases x<;>first|(simp[At.one]at h1;done)|skip
 case v x=>obtain⟨rfl,h⟩:=h;exact h
 case tt=>obtain rfl:y= .bool true:=h;rfl
 case ff=>obtain rfl:y= .bool false:=h;rfl
 case p r π i j=>obtain⟨_,rfl⟩:=h;rfl
 case sl r π lo n=>
  obtain⟨_,h1,h2⟩:=h;cases hv:(ρ r π).aC with
  |true=>obtain⟨_,a,rfl⟩:=h1 hv;rfl
  |false=>obtain⟨_,a,rfl,_⟩:=h2 hv;rfl
 case z=>obtain⟨a,rfl⟩:=h;rfl
 case fn f aBd=>obtain⟨_,rfl⟩:=h;rfl
 case mp r=>obtain⟨_,rfl⟩:=h;rfl
 case it r=>obtain⟨_,rfl⟩:=h;rfl
 case yl r=>obtain⟨_,rfl⟩:=h;rfl
 case err=>obtain⟨t,v,rfl⟩:=h;rfl
theorem yP {y:Value} (h:y.oneCell'=true):y.cells=#[y]:=by
 cases y<;>first|rfl|simp[Value.oneCell']at h
theorem agT {N:Nat}:∀ {l:List At} {ys:List Value},be (At.ok N ρ) l ys->bZ At.one l=true->∀ y∈ys,y.oneCell'=true
 |[],[],_,_=>by simp
 |x::l,y::ys,h,h1=>by
  simp only[bZ]at h1;split at h1
  ·rename_i hx;intro z hz;rcases List.mem_cons.1 hz with rfl|hz
   ·exact At.one_cell h.1 hx
   ·exact agT h.2 h1 z hz
  ·cases h1
theorem eZ {N:Nat} {x:Tm} {l:List At} {y:Value} (hx:x.ok N ρ y) (he:iu x=some l):be (At.ok N ρ) l y.cells.toList/\bZ At.one l=true/\∀ z∈y.cells.toList,z.oneCell'=true:=by
 unfold iu at he;split at he
 ·rename_i x;split at he
  ·rename_i h1;simp only[Option.some.injEq]at he;subst he;have h2:=At.one_cell hx h1;rw[yP h2];exact⟨⟨hx,trivial⟩,by simp[bZ,h1],by simp[h2]⟩
  ·cases he
 ·split at he
  ·rename_i l' h1;simp only[Option.some.injEq]at he;subst he;obtain⟨ys,rfl,h2⟩:=hx;exact⟨by simpa[Value.cells]using h2,h1,by simpa[Value.cells]using agT h2 h1⟩
  ·cases he
 ·cases he
theorem Bs {N:Nat}:∀ {l:List At} {ys:List Value} {cells:List At} {zs:List Value} (off:Nat),be (At.ok N ρ) l ys->be (At.ok N ρ) cells zs->
 be (At.ok N ρ) (Z9 cells off l) ((ys.zipIdx.foldl (fun cs cj=>cs.set (off+cj.2) cj.1) zs)):=by
 intro l;have gen:∀ (l:List At) (ys:List Value) (cells:List At) (zs:List Value) (off k:Nat),be (At.ok N ρ) l ys->be (At.ok N ρ) cells zs->
  be (At.ok N ρ) (Z9 cells (off+k) l) ((ys.zipIdx k).foldl (fun cs cj=>cs.set (off+cj.2) cj.1) zs):=by
  intro l;induction l with
  |nil=>intro ys cells zs off k h h';cases ys with|nil=>exact h'|cons=>exact h.elim
  |cons x l ih=>
   intro ys cells zs off k h h';cases ys with
   |nil=>exact h.elim
   |cons y ys=>
    simp only[Z9,List.zipIdx_cons,List.foldl_cons];have:=ih ys (cells.set (off+k) x) (zs.set (off+k) y) off (k+1) h.2 (h'.set _ _ _ h.1);rw[show off+(k+1)=off+k+1 by omega]at this
    exact this
 intro ys cells zs off h h';exact gen l ys cells zs off 0 h h'
theorem bE.xf (hE:bE P Γ E) {t:TypeId} {fs:List (Nat×Nat)} {n:Nat} (h:E.ty t= .st fs n):qf P t (.st fs n):=h▸hE.ty t
theorem bE.aav (hE:bE P Γ E) {t e:TypeId} {n:Nat} (h:E.ty t= .sl e n):qf P t (.sl e n):=h▸hE.ty t
theorem bE.aIp (hE:bE P Γ E) {t e:TypeId} {m n:Nat} (h:E.ty t= .ar e m n):qf P t (.ar e m n):=h▸hE.ty t
theorem bE.FC (hE:bE P Γ E) {t:TypeId} (h:E.ty t= .str):qf P t .str:=h▸hE.ty t
theorem lN (h:Rel Γ M w0 ρ st vs a w) {fs:List (Nat×Nat)}:∀ (parts:List (Nat×Operand)) (cells l:List At) (zs:List Value),oq fs st parts cells=some l->be (At.ok st.rg.length ρ) cells zs->
 ∃ ys:List Value,Instr.fill (fs.toArray[·]?) zs.toArray (parts.map fun p=>(p.1,a.eval p.2))=some ys.toArray/\be (At.ok st.rg.length ρ) l ys
 |[],cells,l,zs,he,hz=>by simp only[oq,Option.some.injEq]at he;subst he;exact⟨zs,rfl,hz⟩
 |(i,o)::rest,cells,l,zs,he,hz=>by
  simp only[oq]at he;split at he
  ·rename_i off size x hf hx;split at he
   ·rename_i lc hc;split at he
    ·rename_i h1 h2;have hv:=ax h hx;obtain⟨c1,c2,c3⟩:=eZ hv hc;have hlen:(a.eval o).cells.size=size:=by
      have:=c1.length;rw[dK h1]at this;simpa using this.symm
     have hfit:off+size<=zs.length:=by
      have:=Nat.le_of_ble_eq_true h2;rw[hz.length]at this;exact this
     have ac2:=Bs (ρ:=ρ) off c1 hz;obtain⟨ys,h3,h4⟩:=lN h rest _ l _ he ac2;refine⟨ys,?_,h4⟩;simp only[List.map_cons,Instr.fill];have e1:(fs.toArray[i]?:Option (Nat×Nat))=some (off,size):=by simpa using hf
     rw[e1];simp only[];rw[if_neg (by rw[hlen];simp;omega)]
     rw[<-h3]
     congr 1
     have gen:∀ (cs:List (Value×Nat)) (zs:List Value),cs.foldl (fun(cs:Array Value) (x:Value×Nat)=>cs.setIfInBounds (off+x.2) x.1) zs.toArray=
      (cs.foldl (fun cs cj=>cs.set (off+cj.2) cj.1) zs).toArray:=by
      intro cs;induction cs with
      |nil=>intro zs;rfl
      |cons c cs ih=>intro zs;simp only[List.foldl_cons,List.setIfInBounds_toArray];exact ih _
     have e2:(a.eval o).cells.zipIdx=((a.eval o).cells.toList.zipIdx).toArray:=by
      rw[<-Array.toList_zipIdx]
     rw[e2];simp only[List.foldl_toArray'];exact gen _ zs
    ·cases he
   ·cases he
  ·cases he
theorem ko (h:Rel Γ M w0 ρ st vs a w) {m:Nat}:∀ (parts:List (Nat×Operand)) (cells l:List At) (zs:List Value),mF m st parts cells=some l->be (At.ok st.rg.length ρ) cells zs->
 ∃ ys:List Value,Instr.fill (fun i=>some (i*m,m)) zs.toArray (parts.map fun p=>(p.1,a.eval p.2))=some ys.toArray/\be (At.ok st.rg.length ρ) l ys
 |[],cells,l,zs,he,hz=>by simp only[mF,Option.some.injEq]at he;subst he;exact⟨zs,rfl,hz⟩
 |(i,o)::rest,cells,l,zs,he,hz=>by
  simp only[mF]at he;split at he
  ·rename_i x hx;split at he
   ·rename_i lc hc;split at he
    ·rename_i h1 h2;have hv:=ax h hx;obtain⟨c1,c2,c3⟩:=eZ hv hc;have hlen:(a.eval o).cells.size=m:=by
      have:=c1.length;rw[dK h1]at this;simpa using this.symm
     have hfit:i*m+m<=zs.length:=by
      have:=Nat.le_of_ble_eq_true h2;rw[hz.length]at this;exact this
     have ac2:=Bs (ρ:=ρ) (i*m) c1 hz;obtain⟨ys,h3,h4⟩:=ko h rest _ l _ he ac2;refine⟨ys,?_,h4⟩;simp only[List.map_cons,Instr.fill];rw[if_neg (by rw[hlen];simp;omega)]
     rw[<-h3]
     congr 1
     have gen:∀ (cs:List (Value×Nat)) (zs:List Value),cs.foldl (fun(cs:Array Value) (x:Value×Nat)=>cs.setIfInBounds (i*m+x.2) x.1) zs.toArray=
      (cs.foldl (fun cs cj=>cs.set (i*m+cj.2) cj.1) zs).toArray:=by
      intro cs;induction cs with
      |nil=>intro zs;rfl
      |cons c cs ih=>intro zs;simp only[List.foldl_cons,List.setIfInBounds_toArray];exact ih _
     have e2:(a.eval o).cells.zipIdx=((a.eval o).cells.toList.zipIdx).toArray:=by
      rw[<-Array.toList_zipIdx]
     rw[e2];simp only[List.foldl_toArray'];exact gen _ zs
    ·cases he
   ·cases he
  ·cases he
theorem rI {t e:TypeId} {m n:Nat} (hu:P.underlying t=some (.array n e)) (hs:(P.info? e).map (·.size)=some m) {i:TypeInfo} {z:Value} (hi:P.info? t=some i) (hz:i.zero=some z)
 (parts:Array (Nat×Value)) (ys:List Value) (hf:Instr.fill (fun i=>some (i*m,m)) z.cells parts.toList=some ys.toArray):(Instr.build t parts).run P w= .ok (.agg ys.toArray) w:=by
 apply run_build;obtain⟨ie,Ru,rfl⟩:=Option.map_eq_some_iff.1 hs;simp only[Program.built,hi,hu,hz,Ru];exact hf
theorem yn {α β:Type} {R:α->β->Prop}:∀ {xs:List α} {ys:List β},be R xs ys->∀ k,be R (xs.drop k) (ys.drop k)
 |_,_,h,0=>h
 |[],[],_,_+1=>trivial
 |_::_,_::_,h,k+1=>yn (xs:=_) (ys:=_) h.2 k
theorem yo {α β:Type} {R:α->β->Prop}:∀ {xs:List α} {ys:List β},be R xs ys->∀ k,be R (xs.take k) (ys.take k)
 |_,_,_,0=>trivial
 |[],[],_,_+1=>trivial
 |_::_,_::_,h,k+1=>⟨h.1,yo h.2 k⟩
theorem rJ {t:TypeId} {fields:Array Field} {fs:List (Nat×Nat)} (hu:P.underlying t=some (.struct fields))
 (hp:fields.toList.mapM (fun f=>(P.info? f.type).map fun i=>(f.offset,i.size))=some fs) {i:TypeInfo} {z:Value} (hi:P.info? t=some i) (hz:i.zero=some z)
 (parts:Array (Nat×Value)) (ys:List Value) (hf:Instr.fill (fs.toArray[·]?) z.cells parts.toList=some ys.toArray):(Instr.build t parts).run P w= .ok (.agg ys.toArray) w:=by
 apply run_build;simp only[Program.built,hi,hu,hz,hp];exact hf
theorem dQ (h:Rel Γ M w0 ρ st vs a w) {d y:Nat} {b:Option Operand} {q:List aa} {n:Nat} (code:BoundsCode) (he:fG st d b=some (q,n)) (hq:bW q) (hy:n<=y):
 ∀ w1,(match b.map a.eval with|some v=>Instr.sliceBound v y code|none=>pure d).run P w1= .ok n w1:=by
 intro w1;cases b with
 |none=>simp only[fG,Option.some.injEq,Prod.mk.injEq]at he;obtain⟨_,rfl⟩:=he;rfl
 |some o=>
  simp only[fG]at he;split at he
  ·rename_i k i hx;simp only[Option.some.injEq,Prod.mk.injEq]at he;obtain⟨rfl,rfl⟩:=he;obtain⟨hv,_⟩:=ax h hx;have h0:0<=i:=hq.1;simp only[Option.map_some,hv];exact run_sliceBound (P:=P) w1 k i y code h0 (by omega)
  ·cases he
theorem nc {t e:TypeId} {m:Nat} (hu:P.underlying t=some (.slice e)) (hm:(P.info? e).map (·.size)=some m) {ad:Option Addr} {len cap:Nat} {lo hi:Option Value} {i j:Nat}
 (hh:(match hi with|some v=>Instr.sliceBound v cap .sliceAcap|none=>pure len).run P w= .ok j w) (hl:(match lo with|some v=>Instr.sliceBound v j .sliceB|none=>pure 0).run P w= .ok i w):
 (Instr.slice t (.slice ad len cap) lo hi none).run P w= .ok (.slice (if cap=i then ad else ad.map (·.add (i*m))) (j-i) (cap-i)) w:=by
 have hb:(Instr.sliceBounds true len cap lo hi none).run P w= .ok (i,j,cap) w:=by
  cases hi with
  |none=>
   obtain rfl:len=j:=by simpa using hh
   cases lo with
   |none=>obtain rfl:0=i:=by simpa using hl
          simp[Instr.sliceBounds]
   |some v=>simp only[Instr.sliceBounds,Sem.run_bind,Sem.run_pure,Result.andThen_ok,Option.isSome_none,Bool.false_eq_true,if_false]
            rw[show(Instr.sliceBound v len .sliceB).run P w=_ from hl];rfl
  |some v=>
   have qS:(Instr.sliceBound v cap .sliceAcap).run P w= .ok j w:=hh;cases lo with
   |none=>obtain rfl:0=i:=by simpa using hl
          simp[Instr.sliceBounds,qS]
   |some u=>have hl':(Instr.sliceBound u j .sliceB).run P w= .ok i w:=hl
            simp[Instr.sliceBounds,qS,hl']
 simp only[Instr.slice,Sem.run_bind,run_underlying hu,Result.andThen_ok,hb,cY hm,Sem.run_pure]
theorem yR {t:TypeId} (hu:P.underlying t=some .string) {s:ByteArray} {lo hi:Option Value} {i j:Nat}
 (hh:(match hi with|some v=>Instr.sliceBound v s.size .sliceAlen|none=>pure s.size).run P w= .ok j w) (hl:(match lo with|some v=>Instr.sliceBound v j .sliceB|none=>pure 0).run P w= .ok i w):
 (Instr.slice t (.string s) lo hi none).run P w= .ok (.string (s.extract i j)) w:=by
 have hb:(Instr.sliceBounds false s.size s.size lo hi none).run P w= .ok (i,j,s.size) w:=by
  cases hi with
  |none=>
   obtain rfl:s.size=j:=by simpa using hh
   cases lo with
   |none=>obtain rfl:0=i:=by simpa using hl
          simp[Instr.sliceBounds]
   |some v=>simp only[Instr.sliceBounds,Sem.run_bind,Sem.run_pure,Result.andThen_ok,Option.isSome_none,Bool.false_eq_true,if_false]
            rw[show(Instr.sliceBound v s.size .sliceB).run P w=_ from hl];rfl
  |some v=>
   have qS:(Instr.sliceBound v s.size .sliceAlen).run P w= .ok j w:=hh;cases lo with
   |none=>obtain rfl:0=i:=by simpa using hl
          simp[Instr.sliceBounds,qS]
   |some u=>have hl':(Instr.sliceBound u j .sliceB).run P w= .ok i w:=hl
            simp[Instr.sliceBounds,qS,hl']
 simp[Instr.slice,run_underlying hu,hb]
theorem RI.aA0 (I:RI) (l i m:Nat):(I.at (l*m)).add (i*m)=I.at ((l+i)*m):=by
 rw[RI.fF,Nat.add_mul]
theorem RI.head.sub {I:RI} {l n i j:Nat} {y:Value} (h:I.head l n y) (hij:i<=j) (vc:j<=n) {ad:Option Addr} {len cap:Nat} (hy:y= .slice ad len cap):
 I.head (l+i) (j-i) (.slice (if cap=i then ad else ad.map (·.add (i*I.m))) (j-i) (cap-i)):=by
 refine⟨fun hv=>?_,fun hv=>?_⟩
 ·obtain⟨h1,b,h2⟩:=h.1 hv;rw[hy]at h2;simp only[Value.slice.injEq]at h2;obtain⟨rfl,rfl,rfl⟩:=h2;have hi:i=0:=by omega
  have hj:j=0:=by omega
  subst hi hj;exact⟨rfl,_,rfl⟩
 ·obtain⟨h1,b,h2,h3⟩:=h.2 hv;rw[hy]at h2;simp only[Value.slice.injEq]at h2;obtain⟨rfl,rfl,rfl⟩:=h2;refine⟨by omega,_,by rw[Nat.sub_sub],fun hlt=>?_⟩
  rw[if_neg (by omega),h3 (by omega)]
  simp only[Option.map_some];rw[RI.aA0]
theorem bE.mb (hE:bE P Γ E) {t k e:TypeId} (h:E.ty t= .map k e):qf P t (.map k e):=by have:=hE.ty t;rwa[h]at this
theorem iq {t e:TypeId} (hu:P.underlying t=some (.slice e)) (x:Value) (lo hi mx:Option Value):(Instr.sliceAt t x lo hi mx).run P w=(Instr.slice t x lo hi mx).run P w:=by simp[Instr.sliceAt,run_underlying hu]
theorem vM {t:TypeId} (hu:P.underlying t=some .string) (x:Value) (lo hi mx:Option Value):(Instr.sliceAt t x lo hi mx).run P w=(Instr.slice t x lo hi mx).run P w:=by simp[Instr.sliceAt,run_underlying hu]
theorem pR (hE:bE P Γ E) (h:Rel Γ M w0 ρ st vs a w) {t:TypeId} {x z:Tm} {lo hi:Option Operand} {q:List aa} {vx:Value} (hx:x.ok st.rg.length ρ vx) (he:wG E st t x lo hi=some (q,z)) (hq:bW q):
 ∃ y,(∀ w1,(Instr.sliceAt t vx (lo.map a.eval) (hi.map a.eval) none).run P w1= .ok y w1)/\z.ok st.rg.length ρ y:=by
 unfold wG at he;split at he
 ·rename_i e m r π l n ht;obtain⟨hu,hm,_⟩:=hE.aav ht;split at he
  ·rename_i q1 i q2 j h1 h2;split at he
   ·rename_i te tg xs o akl hg;split at he
    ·rename_i q3 B hd;split at he
     ·rename_i hm';simp only[Option.some.injEq,Prod.mk.injEq]at he;obtain⟨rfl,rfl⟩:=he;rw[aH,aH,aH]at hq;simp only[bW,aa.ae]at hq;obtain⟨RG,⟨gk,AM⟩,hij,vc,_⟩:=hq;obtain⟨hr,hv⟩:=hx;have hB:=(mD (r:=r) h (by rw[hg];exact hd) RG).2
      have Ns:(ρ r π).m=m:=hB.m.trans (Nat.eq_of_beq_eq_true hm');have dZ:∃ ad cap,vx= .slice ad n cap/\n<=cap:=by
       cases dV:(ρ r π).aC with
       |true=>obtain⟨rfl,ad,e1⟩:=hv.1 dV;exact⟨ad,0,e1,Nat.le_refl _⟩
       |false=>obtain⟨e0,ad,e1,_⟩:=hv.2 dV;exact⟨ad,_,e1,by omega⟩
      obtain⟨ad,cap,rfl,hnc⟩:=dZ;refine⟨_,fun w1=>(iq hu _ _ _ _).trans (nc hu hm (dQ h .sliceAcap h2 AM (by omega) w1) (dQ h .sliceB h1 gk hij w1)),hr,?_⟩
      rw[<-Ns];exact hv.sub hij vc rfl
     ·cases he
    ·cases he
   ·cases he
  ·cases he
 ·rename_i ht;obtain⟨hu,hm,_⟩:=hE.aav ht;split at he
  ·rename_i q1 i q2 j h1 h2;simp only[Option.some.injEq,Prod.mk.injEq]at he;obtain⟨rfl,rfl⟩:=he;rw[aH,aH]at hq;simp only[bW,aa.ae]at hq;obtain⟨⟨gk,AM⟩,rfl,rfl,_⟩:=hq;obtain⟨rfl,_⟩:=hx;refine⟨_,fun w1=>(iq hu _ _ _ _).trans (nc hu hm (dQ (y:=0) h .sliceAcap h2 AM (Nat.le_refl _) w1) (dQ (y:=0) h .sliceB h1 gk (Nat.le_refl _) w1)),rfl,rfl⟩
  ·cases he
 ·rename_i ht;obtain⟨hu,hm,_⟩:=hE.aav ht;split at he
  ·rename_i q1 i q2 j h1 h2;simp only[Option.some.injEq,Prod.mk.injEq]at he;obtain⟨rfl,rfl⟩:=he;rw[aH,aH]at hq;simp only[bW,aa.ae]at hq;obtain⟨⟨gk,AM⟩,rfl,rfl,_⟩:=hq;obtain⟨ad,rfl⟩:=hx;exact⟨_,fun w1=>(iq hu _ _ _ _).trans (nc hu hm (dQ (y:=0) h .sliceAcap h2 AM (Nat.le_refl _) w1) (dQ (y:=0) h .sliceB h1 gk (Nat.le_refl _) w1)),ad,rfl⟩
  ·cases he
 ·rename_i s ht;obtain⟨hu,_⟩:=hE.FC ht;split at he
  ·rename_i q1 i q2 j h1 h2;simp only[Option.some.injEq,Prod.mk.injEq]at he;obtain⟨rfl,rfl⟩:=he;rw[aH,aH]at hq;simp only[bW,aa.ae]at hq;obtain⟨⟨gk,AM⟩,hij,vc,_⟩:=hq;obtain⟨rfl,_⟩:=hx;exact⟨_,fun w1=>(vM hu _ _ _ _).trans (yR hu (dQ h .sliceAlen h2 AM vc w1) (dQ h .sliceB h1 gk hij w1)),rfl,rfl⟩
  ·cases he
 ·cases he
theorem CK.pJ {N:Nat} {ρ:Keys} (c:CK) (x:c.ty):(c.pl x).ok N ρ (c.val x):=by
 cases c with
 |int k=>exact⟨rfl,rfl⟩
 |bool=>exact⟨rfl,rfl⟩
 |str=>exact⟨rfl,rfl⟩
 |sl e tg=>trivial
theorem nC {N:Nat} {ρ:Keys} (c:CK) (es:List (Int×c.ty)) (n:Int) (ok:Bool):(vv c es n ok).ok N ρ (if ok then .tuple #[c.val (aO es n c.d),.bool (wO es n)]else c.val (aO es n c.d)):=by
 cases ok with
 |true=>exact⟨[_,_],rfl,CK.pJ c _,⟨rfl,rfl⟩,trivial⟩
 |false=>exact CK.pJ c _
theorem nT (hE:bE P Γ E) {kt:TypeId} {kk:List CK} (h:aBG E kt=some kk):∃ ns,rV P kt kk ns:=by
 unfold aBG at h;split at h
 ·rename_i aBH ns h1 h2 h3;split at h
  ·rename_i h4;obtain rfl:=Option.some.inj h;obtain⟨e1,e2,_⟩:=hE.alp _ _ h3;exact⟨ns,h4,e1,e2⟩
  ·cases h
 ·cases h
theorem nZ (hE:bE P Γ E) {et e:TypeId} {tg:List CK} (h:pN E et=some (e,tg)):tg≠[]/\aaa tg=true/\∃ i,P.info? et=some i/\i.zero=some (.slice none 0 0):=by
 unfold pN at h;split at h
 ·rename_i e' bX h1;split at h
  ·rename_i iU h2;split at h
   ·rename_i h3 _ h4;simp only[Option.some.injEq,Prod.mk.injEq]at h;obtain⟨rfl,rfl⟩:=h;obtain⟨h5,_⟩:=hE.kd _ _ h2;exact⟨h3.down▸h5,h4,hE.sc _ _ h1⟩
   ·cases h
  ·cases h
 ·cases h
theorem rj (hE:bE P Γ E) (h:Rel Γ M w0 ρ st vs a w) {t kt et:TypeId} (ht:E.ty t= .map kt et) {r:Nat} {t':TypeId} {kk:List CK} {e:TypeId} {tg:List CK} {es:List (ai kk×List (ai tg))} {o i:Bool} (hg:st.rg.getD r .dead= .bH t' kk e tg es o i)
 {aBH:List CK} (hk:aBG E kt=some aBH) {e':TypeId} {bX:List CK} (hv:pN E et=some (e',bX)) (hkk:aBH=kk) {l:List At} {k:ai kk} (hc:eu kk l=some k) (hin:br kk k es<es.length) {vx vi:Value} (hx:(At.mp r).ok st.rg.length ρ vx) (hi:(Tm.agg l).ok st.rg.length ρ vi):
 ∃ y,(∀ w1,Below w.heap.size w w1->(Instr.lookup t vx vi false).run P w1= .ok y w1)/\(At.sl r [(br kk k es,0)] 0 ((es.getD (br kk k es) (ai.d kk,[])).2).length).ok st.rg.length ρ y:=by
 subst hkk;obtain⟨ns,qU⟩:=nT hE hk;obtain⟨_,_,hz⟩:=nZ hE hv;obtain⟨hu,_⟩:=hE.mb ht;obtain⟨hr',rfl⟩:=hx;obtain⟨ys,rfl,hys⟩:=hi;obtain rfl:=mU hc hys;have Vo:=bg hg (by simp)
 have hB:(az.bH t' aBH e tg es o i).has [] o (.bH aBH tg es):=.inl ⟨rfl,rfl,rfl⟩;obtain⟨_,dV,lg⟩:=h.rs.blk r _ [] o (.bH aBH tg es) Vo hB;obtain⟨v,hrun,f1,_⟩:=nJ (P:=P) hu qU hz lg k false;exact⟨v,fun w1 mL=>by have:=hrun w1 (mL.block _ (h.rs.lt r _ [] o _ Vo hB dV));simpa using this,hr',f1 hin⟩
theorem Bc (h:Rel Γ M w0 ρ st vs a w) {t kt et:TypeId} {k:IntKind} {c:CK} (hu:P.underlying t=some (.map kt et)) (hk:P.underlying kt=some (.int k)) (hz:∃ i,P.info? et=some i/\i.zero=some (c.val c.d)) {x:At} {es:List (Int×c.ty)} (hm:mapOf st k c x=some es) {vx:Value} (hx:x.ok st.rg.length ρ vx) (n:Int) (ok:Bool):
 ∃ y,(Instr.lookup t vx (.int k n) ok).run P w= .ok y w/\(vv c es n ok).ok st.rg.length ρ y:=by
 obtain⟨i,hi,Hl⟩:=hz;have mM:(zeroValue et).run P w= .ok (c.val c.d) w:=by simp[zeroValue,typeInfo,hi,Hl]
 unfold mapOf at hm;split at hm
 ·obtain rfl:=Option.some.inj hm;obtain⟨rfl,_⟩:=hx;refine⟨_,oI hu hk mM n ok,?_⟩;exact nC c [] n ok
 ·rename_i r;split at hm
  ·rename_i t2 k2 c2 GD o hg;split at hm
   ·rename_i hh hs hc;obtain rfl:=akr hs;obtain⟨rfl⟩:=hh;obtain rfl:=Option.some.inj hm;obtain⟨hr,rfl⟩:=hx;have Vo:=bg hg (by simp)
    obtain⟨_,_,aD,h1,h2,_⟩:=h.rs.blk r _ [] o (.map k2 c2 GD) Vo ⟨rfl,rfl,rfl⟩;exact⟨_,oH hu hk mM h1 h2 n ok,nC c2 GD n ok⟩
   ·cases hm
  ·cases hm
 ·cases hm
theorem A9 (h:Rel Γ M w0 ρ st vs a w) {t kt et:TypeId} {k:IntKind} {c:CK} (hu:P.underlying t=some (.map kt et)) (hk:P.underlying kt=some (.int k)) (hz:∃ i,P.info? et=some i/\i.zero=some (c.val c.d)) {x:At} {es:List (Int×c.ty)} (hm:mapOf st k c x=some es) {vx:Value} (hx:x.ok st.rg.length ρ vx) (n:Int):
 ∃ y,(∀ w1,Below w.heap.size w w1->(Instr.lookup t vx (.int k n) false).run P w1= .ok y w1)/\(vv c es n false).ok st.rg.length ρ y:=by
 obtain⟨i,hi,Hl⟩:=hz;have mM:∀ w:World,(zeroValue et).run P w= .ok (c.val c.d) w:=fun w=>by simp[zeroValue,typeInfo,hi,Hl]
 unfold mapOf at hm;split at hm
 ·obtain rfl:=Option.some.inj hm;obtain⟨rfl,_⟩:=hx;refine⟨_,fun w1 _=>oI hu hk (mM w1) n false,?_⟩
  exact nC c [] n false
 ·rename_i r;split at hm
  ·rename_i t2 k2 c2 GD o hg;split at hm
   ·rename_i hh hs hc;obtain rfl:=akr hs;obtain⟨rfl⟩:=hh;obtain rfl:=Option.some.inj hm;obtain⟨hr,rfl⟩:=hx;have Vo:=bg hg (by simp)
    obtain⟨_,dV,aD,h1,h2,_⟩:=h.rs.blk r _ [] o (.map k2 c2 GD) Vo ⟨rfl,rfl,rfl⟩;exact⟨_,fun w1 mL=>oH hu hk (mM w1) ((mL.block _ (h.rs.lt r _ [] o _ Vo ⟨rfl,rfl,rfl⟩ dV)).trans h1) h2 n false,nC c2 GD n false⟩
   ·cases hm
  ·cases hm
 ·cases hm
theorem ahl (hE:bE P Γ E) {op:BinOp} {t:TypeId} {x z:Tm} {q:List aa} {y:Operand} (hn:aim y=true) (he:aiC E op t x=some (q,z)) (u:Operand) {N:Nat} {vx:Value} (hx:x.ok N ρ vx):
 ∃ b:Bool,(∀ w:World,(do eqGuard op t u y vx (a.eval y);binOp op t vx (a.eval y):Sem Value).run P w= .ok (.bool b) w)/\z.ok N ρ (.bool b):=by
 have hy:y= .const .nilIface:=by
  cases y with
  |const v=>cases v<;>first|rfl|cases hn
  |_=>cases hn
 subst hy;have ev:a.eval (.const .nilIface)= .nilIface:=rfl;rw[ev];unfold aiC at he;split at he
 ·rename_i x hi;have n1:∀ w:World,_:=fun w=>run_equal_nil_nil (P:=P) w t (hE.aht t hi)
  have n2:∀ (w:World) ti vi,_:=fun w ti vi=>run_equal_held_nil (P:=P) w t ti vi (hE.aht t hi)
  have key:∀ b,ai1 x=some b->(b=true/\vx= .nilIface)\/(b=false/\∃ ti vi,vx= .iface ti vi):=by
   intro b hb;unfold ai1 at hb;split at hb<;>simp only[Option.some.injEq,reduceCtorEq]at hb<;>subst hb
   ·exact .inl ⟨rfl,hx.1⟩
   ·exact .inr ⟨rfl,hx⟩
  split at he<;>simp only[Option.some.injEq,Prod.mk.injEq,reduceCtorEq]at he<;>rename_i hb<;>obtain⟨rfl,rfl⟩:=he<;>rcases key _ hb with⟨h1,rfl⟩|⟨h1,ti,vi,rfl⟩<;>first|cases h1|skip
  ·exact⟨true,fun w=>by simp[eqGuard,binOp,n1 w],rfl⟩
  ·exact⟨false,fun w=>by simp[eqGuard,binOp,n1 w],rfl⟩
  ·exact⟨false,fun w=>by simp[eqGuard,binOp,n2 w ti vi],rfl⟩
  ·exact⟨true,fun w=>by simp[eqGuard,binOp,n2 w ti vi],rfl⟩
 ·cases he
theorem ahP (hE:bE P Γ E) (h:Rel Γ M w0 ρ st vs a w) {src dst e:TypeId} {m:Nat} (hs:E.ty src= .sl e m) {r:Nat} {π:Path} {lo n:Nat} {x:Tm} {q:List aa} {va:Value}
 (ha:Tm.ok st.rg.length ρ (.a (.sl r π lo n)) va) (he:ahD E st e dst r π lo n=some (q,x)) (hq:bW q):∃ y,(convert src dst va).run P w= .ok y w/\x.ok st.rg.length ρ y:=by
 unfold ahD at he;split at he
 ·rename_i q0 te KJ h1 h2 hd;obtain⟨xs,hxs⟩:∃ xs:List Int,xs=KJ:=⟨KJ,rfl⟩;subst hxs;simp only[Option.some.injEq,Prod.mk.injEq]at he;obtain⟨rfl,rfl⟩:=he;rw[aH]at hq;have hin:=hq.2.1;simp only[aa.ae]at hin;have hin:lo+n<=xs.length:=hin;obtain⟨_,hB⟩:=mD h hd hq.1;obtain⟨hu,_⟩:=hE.aav hs;have NC:P.underlying e=some (.int .u8):=by have:=hE.ty e;rw[h1]at this;exact this.1
  have ajA:P.underlying dst=some .string:=by have:=hE.ty dst;rw[h2]at this;exact this.1
  have ha:r<st.rg.length/\(ρ r π).head lo n va:=ha;have hm:(ρ r π).m=1:=hB.m;refine⟨_,?_,rfl,rfl⟩;have empty:∀ ad cap,n=0->(convert src dst (.slice ad n cap)).run P w= .ok (.string (strOfNums ((xs.drop lo).take n))) w:=by
   rintro ad cap rfl;cases ad with
   |none=>exact run_convert_bytes_nil w src e hu NC 0 cap dst ajA
   |some ad=>
    rw[run_convert_bytes_string w src dst e (some ad) 0 cap hu NC ajA,run_bytesToString w ad 0 cap [] (by simpa using run_loadCells_list (P:=P) w ad [] (fun j v hj=>by simp at hj))]
    rfl
  cases dV:(ρ r π).aC with
  |true=>
   obtain⟨hz,ad,rfl⟩:=ha.2.1 dV;have:=empty ad 0 hz;rw[hz]at this ⊢;exact this
  |false=>
   obtain⟨hcap,ad,rfl,had⟩:=ha.2.2 dV;by_cases hn:n=0
   ·exact empty ad _ hn
   have e1:=had (by omega)
   rw[e1];unfold RI.at;rw[hm,Nat.mul_one];refine run_convert_bytes_arg w src e hu NC _ _ _ _ ((xs.drop lo).take n) (by rw[List.length_take,List.length_drop];omega) (fun i hi=>?_) dst ajA
   obtain⟨ys,k1,k2⟩:=hB.cell (lo+i) (by show lo+i<xs.length;omega)
   obtain⟨y,rfl,hy⟩:=k1;have hy:y= .int .u8 (xs.getD (lo+i) 0):=hy;have:=k2 0 y rfl;rw[hm,Nat.mul_one,Nat.add_zero]at this;unfold RI.at at this;rw[Nat.add_assoc,this,hy]
   congr 2
   rw[List.getD_eq_getElem?_getD,List.getD_eq_getElem?_getD,List.getElem?_take_of_lt hi,List.getElem?_drop]
 ·cases he
theorem qy (hE:bE P Γ E) (h:Rel Γ M w0 ρ st vs a w) {o:Oper} {q:List aa} {x:Tm} (he:oo E st o=some (q,x)) (hq:bW q):
 ∃ y,(execOp a.eval o).run P w= .ok (.value y) w/\x.ok st.rg.length ρ y:=by
 unfold oo at he;unfold execOp;split at he<;>rename_i hop<;>simp only[hop]
 ·
  split at he
  ·rename_i hx;simp only[Option.some.injEq,Prod.mk.injEq]at he;obtain⟨rfl,rfl⟩:=he;exact⟨_,rfl,ax h hx⟩
  ·cases he
 ·split at he
  ·rename_i hx;simp only[Option.some.injEq,Prod.mk.injEq]at he;obtain⟨rfl,rfl⟩:=he;exact⟨_,rfl,ax h hx⟩
  ·cases he
 ·
  split at he
  ·rename_i hc ha;simp only[Option.some.injEq,Prod.mk.injEq]at he;obtain⟨rfl,rfl⟩:=he;have h1:a.eval _= .bool true:=ax h hc;exact⟨_,by simp[h1,asBool],ax h ha⟩
  ·rename_i hc ha;simp only[Option.some.injEq,Prod.mk.injEq]at he;obtain⟨rfl,rfl⟩:=he;have h1:a.eval _= .bool false:=ax h hc;exact⟨_,by simp[h1,asBool],ax h ha⟩
  ·rename_i c x y hc ha hb;split at he
   ·rename_i hx hy;simp only[Option.some.injEq,Prod.mk.injEq]at he;obtain⟨rfl,rfl⟩:=he;have h1:a.eval _= .bool c:=(ax h hc).1;have h2:=jw (ax h ha) hx;have h3:=jw (ax h hb) hy;refine⟨_,by simp[h1,asBool];rfl,?_,?_⟩
    ·rw[h2,h3];cases c<;>rfl
    ·rfl
   ·cases he
  ·cases he
 ·
  split at he
  ·rename_i hx;obtain⟨y,h1,h2⟩:=mE hE h (ax h hx) he hq;exact⟨y,by simp[h1 w (Below.refl _ _)],h2⟩
  ·cases he
 ·
  split at he
  ·rename_i aiY;split at he
   ·rename_i hx;obtain⟨y,h1,h2⟩:=ahl (a:=a) hE aiY he _ (ax h hx);refine⟨.bool y,?_,h2⟩;change Sem.run P (do let x<-(do eqGuard _ _ _ _ _ _;binOp _ _ _ _:Sem Value);pure (Next.value x)) w=_
    rw[Sem.run_bind,h1];rfl
   ·cases he
  split at he
  ·rename_i hx hy;obtain⟨y,h1,h2⟩:=nS (ρ:=ρ) (P:=P) (w:=w) hE he hq _ _ (ax h hx) (ax h hy);refine⟨y,?_,h2⟩;change Sem.run P (do let x<-(do eqGuard _ _ _ _ _ _;binOp _ _ _ _:Sem Value);pure (Next.value x)) w=_
   rw[Sem.run_bind,h1];rfl
  ·cases he
 ·
  split at he
  ·rename_i hx;obtain⟨y,h1,h2⟩:=ET (ρ:=ρ) (P:=P) (w:=w) he hq (ax h hx);exact⟨y,by simp[h1],h2⟩
  ·cases he
 ·
  split at he
  ·rename_i hs hx;obtain⟨y,h1,h2⟩:=Af (ρ:=ρ) (P:=P) (w:=w) hE hs he hq (ax h hx);exact⟨y,by simp[h1],h2⟩
  ·rename_i hs hx;obtain⟨y,h1,h2⟩:=ahP hE h hs (ax h hx) he hq;exact⟨y,by simp[h1],h2⟩
  ·cases he
 ·
  split at he
  ·rename_i fs n r π i j hs hx;split at he
   ·rename_i off size hf;simp only[Option.some.injEq,Prod.mk.injEq]at he;obtain⟨rfl,rfl⟩:=he;have hty:=hE.xf hs;obtain⟨⟨fields,hu,hp⟩,_⟩:=hty;obtain⟨fd,h1,h2,h3⟩:=akp fields.toList fs hp _ off (size+1) hf;obtain⟨hr,hv⟩:=ax h hx;rw[hv];refine⟨_,by simp[oG hu (by simpa using h1) h3];rfl,hr,?_⟩
    rw[RI.fF,h2,Nat.add_assoc]
   ·cases he
  ·cases he
 ·
  split at he
  ·rename_i fs n l hs hx hlf;split at he
   ·rename_i off hf;split at he
    ·rename_i y hy;simp only[Option.some.injEq,Prod.mk.injEq]at he;obtain⟨rfl,rfl⟩:=he;obtain⟨⟨fields,hu,hp⟩,_⟩:=hE.xf hs;obtain⟨fd,h1,h2,_⟩:=akp fields.toList fs hp _ _ _ hf;have aIe:=h1;rw[Array.getElem?_toList]at aIe;obtain⟨ys,hv,hl⟩:=ax h hx;obtain⟨v,k1,k2⟩:=hl.get _ _ hy;refine⟨v,?_,k2⟩;rw[hv];simp[Instr.field,run_underlying hu,aIe,part,hE.lf _ _ hlf fields fd hu aIe w,h2,k1,asAgg]
    ·cases he
   ·cases he
  ·cases he
 ·
  split at he
  ·rename_i e m r π lo n k i hs hx hi;split at he
   ·rename_i q1 B hd;split at he
    ·rename_i hm';simp only[Option.some.injEq,Prod.mk.injEq]at he;obtain⟨rfl,rfl⟩:=he;rw[aH]at hq;obtain⟨hu,hm,_⟩:=hE.aav hs;obtain⟨hr,hv⟩:=ax h hx;have aBF:a.eval _= .int k i:=(ax h hi).1;have hin:=hq.2.1;simp only[aa.ae]at hin;obtain⟨_,hB⟩:=mD h hd hq.1;have Na:(ρ r π).m=m:=hB.m.trans (Nat.eq_of_beq_eq_true hm');have j4:(ρ r π).aC=false:=by
      cases hh:(ρ r π).aC with
      |false=>rfl
      |true=>have:=(hv.1 hh).1;omega
     obtain⟨hlc,ad,e1,e2⟩:=hv.2 j4;rw[e1,aBF,e2 (by omega)]
     refine⟨_,by simp[Instr.indexAt,run_underlying hu,asIntOf,cY hm,hin];rfl,hr,?_⟩
     rw[RI.fF,Na,Nat.add_mul,Nat.add_zero]
    ·cases he
   ·cases he
  ·rename_i e m n r π a' j k i hs hx hi;simp only[Option.some.injEq,Prod.mk.injEq]at he;obtain⟨rfl,rfl⟩:=he;obtain⟨hu,hm,_⟩:=hE.aIp hs;obtain⟨hr,hv⟩:=ax h hx;have aBF:a.eval _= .int k i:=(ax h hi).1;have hin:=hq.1;simp only[aa.ae]at hin;rw[hv,aBF];refine⟨_,by simp[Instr.indexAt,Instr.sureAddr,run_underlying hu,asIntOf,cY hm,hin];rfl,hr,?_⟩
   rw[RI.fF,Nat.add_assoc]
  ·cases he
 ·
  split at he
  ·rename_i e m n l k i hs hx hi;split at he
   ·rename_i fs en gT;simp only[Option.some.injEq,Prod.mk.injEq]at he;obtain⟨rfl,rfl⟩:=he;obtain⟨hu,hm,_⟩:=hE.aIp hs;obtain⟨⟨fields,NC,_⟩,_⟩:=hE.xf gT;obtain⟨ys,hv,hl⟩:=ax h hx;have aBF:a.eval _= .int k i:=(ax h hi).1;have hin:=hq.1;simp only[aa.ae]at hin;refine⟨.agg ((ys.drop (i.toNat*m)).take m).toArray,?_,_,rfl,yo (yn hl _) _⟩;rw[hv,aBF];simp[Instr.index,run_underlying hu,asIntOf,cY hm,hin,part,isAgg,run_underlying NC]
   ·cases he
  ·rename_i s k i hs hx hi;simp only[Option.some.injEq,Prod.mk.injEq]at he;obtain⟨rfl,rfl⟩:=he;obtain⟨hu,_⟩:=hE.FC hs;obtain⟨hv,_⟩:=ax h hx;have aBF:a.eval _= .int k i:=(ax h hi).1;have hin:=hq.1;simp only[aa.ae]at hin;rw[hv,aBF];have eN:s[i.toNat]?=some (s.data.getD i.toNat 0):=by
    have hlt:i.toNat<s.data.size:=by have:=hin;simp only[ByteArray.size]at this;omega
    show(if h:i.toNat<s.data.size then some s.data[i.toNat]else none)=_
    rw[dif_pos hlt];unfold Array.getD;rw[dif_pos hlt];rfl
   generalize s.data.getD i.toNat 0=b at eN;have hc:∀ t',P.underlying t'=some .string->(Instr.index t' (.string s) (.int k i)).run P w= .ok (.int .u8 b.toNat) w:=by
    intro t' Hv;simp only[Instr.index,run_underlying Hv,Sem.run_bind,Result.andThen_ok,asIntOf,Sem.run_pure];rw[if_pos hin.1,eN];rfl
   exact⟨_,by simp only[Sem.run_bind,hc _ hu,Result.andThen_ok];rfl,rfl,rfl⟩
  ·cases he
 ·
  split at he
  ·rename_i hx;obtain⟨y,h1,h2⟩:=pR hE h (ax h hx) he hq;exact⟨y,by simp[h1],h2⟩
  ·cases he
 ·
  rename_i ty xo k1 k2;have key:∀ {e:TypeId} {m:Nat},P.underlying ty=some (.slice e)->(P.info? e).map (·.size)=some m->(∃ ad len cap,a.eval xo= .slice ad len cap)->
   ∃ y,(execOp a.eval {o with op:=.slice ty xo none (some (.const (.int k1 0))) (some (.const (.int k2 0)))}).run P w= .ok (.value y) w/\(At.z).ok st.rg.length ρ y:=by
   rintro e m hu hm ⟨ad,len,cap,e1⟩;refine⟨.slice ad 0 0,?_,ad,rfl⟩;have hb:(Instr.sliceBounds true len cap none (some (.int k1 0)) (some (.int k2 0))).run P w= .ok (0,0,0) w:=by
    simp[Instr.sliceBounds,run_sliceBound (P:=P) w _ 0 _ _ (by omega) (by omega)]
   have e2:a.eval (.const (.int k1 0))= .int k1 0:=rfl;have e3:a.eval (.const (.int k2 0))= .int k2 0:=rfl;simp only[execOp,Option.map_some,Option.map_none,Sem.run_bind];rw[e1,e2,e3,iq hu];simp[Instr.slice,run_underlying hu,hb,cY hm]
  split at he
  ·rename_i e m r π lo n ht hx;simp only[Option.some.injEq,Prod.mk.injEq]at he;obtain⟨rfl,rfl⟩:=he;obtain⟨hu,hm,_⟩:=hE.aav ht;obtain⟨_,hv⟩:=ax h hx;obtain⟨y,h1,h2⟩:=key hu hm (by
    cases dV:(ρ r π).aC with
    |true=>obtain⟨_,ad,e1⟩:=hv.1 dV;exact⟨ad,0,0,e1⟩
    |false=>obtain⟨_,ad,e1,_⟩:=hv.2 dV;exact⟨ad,_,_,e1⟩)
   exact⟨y,by simpa[execOp]using h1,h2⟩
  ·rename_i ht hx;simp only[Option.some.injEq,Prod.mk.injEq]at he;obtain⟨rfl,rfl⟩:=he;obtain⟨hu,hm,_⟩:=hE.aav ht;obtain⟨y,h1,h2⟩:=key hu hm ⟨none,0,0,(ax h hx).1⟩;exact⟨y,by simpa[execOp]using h1,h2⟩
  ·rename_i ht hx;simp only[Option.some.injEq,Prod.mk.injEq]at he;obtain⟨rfl,rfl⟩:=he;obtain⟨hu,hm,_⟩:=hE.aav ht;obtain⟨ad,e1⟩:=ax h hx;obtain⟨y,h1,h2⟩:=key hu hm ⟨ad,0,0,e1⟩;exact⟨y,by simpa[execOp]using h1,h2⟩
  ·cases he
 ·
  split at he
  ·rename_i kt et ht;split at he
   ·rename_i k c x k' n hk hc hx hi;split at he
    ·rename_i es hs hm;simp only[Option.some.injEq,Prod.mk.injEq]at he;obtain⟨rfl,rfl⟩:=he;obtain⟨hu,_⟩:=hE.mb ht;have No:P.underlying kt=some (.int k):=by have:=hE.ty kt;rw[hk]at this;exact this.1
     obtain rfl:=akr hs;have aBF:a.eval _= .int k' n:=(ax h hi).1;obtain⟨y,h1,h2⟩:=Bc h hu No (hE.sc et c hc) hm (ax h hx) n _;rw[aBF];exact⟨y,by simp[h1],h2⟩
    ·cases he
   ·rename_i r l hx hi;split at he
    ·rename_i t' kk e tg es o i aBH e' bX hg hk hv;split at he
     ·rename_i q1 q2 q3 k _ _ _ hc;simp only[Option.some.injEq,Prod.mk.injEq]at he;obtain⟨rfl,rfl⟩:=he;have hin:=hq.1;simp only[aa.ae]at hin;obtain⟨y,h1,h2⟩:=rj hE h ht hg hk hv q1.down hc hin (ax h hx) (ax h hi);exact⟨y,by simp[h1 w (Below.refl _ _)],h2⟩
     ·cases he
    ·cases he
   ·cases he
  ·cases he
 ·
  split at he
  ·rename_i r hx;split at he
   ·rename_i m n j seen hg;split at he
    ·rename_i t k c es own qQ;simp only[Option.some.injEq,Prod.mk.injEq]at he;obtain⟨rfl,rfl⟩:=he;obtain⟨hn,hj,_⟩:=hq;simp only[aa.ae]at hn hj;obtain⟨hlt,hv⟩:=ax h hx;obtain⟨_,_,i3,i4⟩:=h.rs.blk r _ [] true (.it (some m) n (j::seen)) (bg hg (by simp)) ⟨rfl,rfl,rfl⟩
     obtain⟨_,_,i6⟩:=h.rs.blk m _ [] own (.map k c es) (bg qQ (by simp)) ⟨rfl,rfl,rfl⟩
     have:=vG (P:=P) i6 i4 hn hj;exact⟨.tuple #[.int k (es.getD j (0,c.d)).1,c.val (es.getD j (0,c.d)).2],by simp[hv,this],[.int k (es.getD j (0,c.d)).1,c.val (es.getD j (0,c.d)).2],rfl,⟨rfl,rfl⟩,pJ,trivial⟩
    ·rename_i t kk e tg es own akl qQ;simp only[Option.some.injEq,Prod.mk.injEq]at he;obtain⟨rfl,rfl⟩:=he;obtain⟨hn,hj,_⟩:=hq;simp only[aa.ae]at hn hj;obtain⟨hlt,hv⟩:=ax h hx;obtain⟨_,_,i3,i4⟩:=h.rs.blk r _ [] true (.it (some m) n (j::seen)) (bg hg (by simp)) ⟨rfl,rfl,rfl⟩
     obtain⟨_,_,i6⟩:=h.rs.blk m _ [] own (.bH kk tg es) (bg qQ (by simp)) (.inl ⟨rfl,rfl,rfl⟩)
     obtain⟨v,this⟩:=tY (P:=P) i6 i4 hn hj;exact⟨.tuple #[.agg (ai.a8 kk (es.getD j (ai.d kk,[])).1).toArray,v],by simp[hv,this],[.agg (ai.a8 kk (es.getD j (ai.d kk,[])).1).toArray,v],rfl,⟨_,rfl,BD _ _⟩,trivial,trivial⟩
    ·cases he
   ·cases he
  ·cases he
 ·
  split at he
  ·rename_i hx;simp only[Option.some.injEq,Prod.mk.injEq]at he;obtain⟨rfl,rfl⟩:=he;obtain⟨h1,h2⟩:=ax h hx;exact⟨_,by simp[h2],h1,rfl⟩
  ·rename_i hx;simp only[Option.some.injEq,Prod.mk.injEq]at he;obtain⟨rfl,rfl⟩:=he;obtain⟨h1,h2⟩:=ax h hx;exact⟨_,by simp[h2],h1,rfl⟩
  ·cases he
 ·
  split at he
  ·rename_i l hx;split at he
   ·rename_i c hc;simp only[Option.some.injEq,Prod.mk.injEq]at he;obtain⟨rfl,rfl⟩:=he;obtain⟨ys,hv,hl⟩:=ax h hx;obtain⟨y,hy,pS⟩:=hl.get _ _ hc;refine⟨y,by simp[hv,Instr.extract,hy],?_⟩
    cases c<;>exact pS
   ·cases he
  ·cases he
 ·
  split at he
  ·rename_i fs n z hs hz;split at he
   ·rename_i l hlen hl;simp only[Option.some.injEq,Prod.mk.injEq]at he;obtain⟨rfl,rfl⟩:=he;have hty:=hE.xf hs;obtain⟨⟨fields,hu,hp⟩,_⟩:=hty;obtain⟨_,i,zv,h1,h2,h3⟩:=hE.zero _ _ hz;obtain⟨ys,h4,h5⟩:=lN h _ _ _ _ hl (h3 _ ρ);refine⟨.agg ys.toArray,?_,ys,rfl,h5⟩;have:=rJ (w:=w) hu hp h1 h2 ((_:Array (Nat×Operand)).map fun x=>(x.1,a.eval x.2)) ys (by simpa using h4)
    simp[this]
   ·cases he
  ·rename_i e m n z hs hz;split at he
   ·rename_i l hlen hl;simp only[Option.some.injEq,Prod.mk.injEq]at he;obtain⟨rfl,rfl⟩:=he;obtain⟨hu,hm,_⟩:=hE.aIp hs;obtain⟨_,i,zv,h1,h2,h3⟩:=hE.zero _ _ hz;obtain⟨ys,h4,h5⟩:=ko h _ _ _ _ hl (h3 _ ρ);refine⟨.agg ys.toArray,?_,ys,rfl,h5⟩;have:=rI (w:=w) hu hm h1 h2 ((_:Array (Nat×Operand)).map fun x=>(x.1,a.eval x.2)) ys (by simpa using h4)
    simp[this]
   ·cases he
  ·cases he
 ·
  split at he
  ·rename_i f l Nk hc;simp only[Option.some.injEq,Prod.mk.injEq]at he;obtain⟨rfl,rfl⟩:=he;obtain⟨h1,h2⟩:=Br h hc;refine⟨_,by simp[Instr.makeFunc];rfl,h1,?_⟩
   have e1:∀ (first:Array Operand),first.toList=[]->first=#[]:=fun first hh=>by simpa using hh
   rename_i first aBd _ _ _
   rw[e1 _ Nk];have e2:aBd.map a.eval=(l.map fun r=>Value.pointer (some ((ρ r []).at 0))).toArray:=Array.ext' (by simpa using h2)
   rw[e2];simp
  ·rename_i f x Nk hc;rename_i first aBd _ _ _
   split at he
   ·rename_i hx;simp only[Option.some.injEq,Prod.mk.injEq]at he;obtain⟨rfl,rfl⟩:=he;obtain⟨h1,h2⟩:=Br h hc;obtain⟨ys,h3,h4⟩:=ax h hx;refine⟨_,by simp[Instr.makeFunc];rfl,?_⟩
    have e0:ys=[]:=by cases ys with|nil=>rfl|cons _ _=>exact h4.elim
    have e1:first=#[x]:=Array.ext' (by simpa using Nk)
    have e2:aBd.map a.eval=#[]:=Array.ext' (by simpa using h2)
    subst e0;rw[e1,e2];simp[h3];exact⟨rfl,rfl⟩
   ·cases he
  ·cases he
 ·
  rename_i c;split at he
  ·rename_i agL;split at he
   ·rename_i x t agJ hty;have e1:c={callee:=.builtin .len,args:=#[x],argTypes:=#[t]}:=by
     cases c;simp only at agL agJ hty;subst agL
     congr 1
     ·exact Array.ext' (by simpa using agJ)
     ·exact Array.ext' (by simpa using hty)
    subst e1;have hrun:∀ (d:TypeDesc) (v y:Value),P.underlying t=some d->a.eval x=v->(Builtin.len_ #[t] o.type #[v]).run P w= .ok y w->
     (do let d<-resolve a.eval {callee:=.builtin .len,args:=#[x],argTypes:=#[t]} o.type;invoke d.target d.args:Sem Next).run P w= .ok (.value y) w:=by
     intro d v y hu hv hr;subst hv;simp[resolve,invoke,builtin,hr]
    split at he;case h_2=>cases he
    rename_i xv ny;unfold Kb at he;have hx:=ax h ny;split at he
    ·rename_i e m r π lo n hs;simp only[Option.some.injEq,Prod.mk.injEq]at he;obtain⟨rfl,rfl⟩:=he;obtain⟨hu,_,_⟩:=hE.aav hs;obtain⟨hr,hv⟩:=hx;have dZ:∃ ad cap,a.eval x= .slice ad n cap:=by
      cases dV:(ρ r π).aC with
      |true=>obtain⟨rfl,ad,e1⟩:=hv.1 dV;exact⟨ad,0,e1⟩
      |false=>obtain⟨_,ad,e1,_⟩:=hv.2 dV;exact⟨ad,_,e1⟩
     obtain⟨ad,cap,hv⟩:=dZ;exact⟨_,hrun _ _ _ hu hv (by simp[Builtin.len_,run_underlying hu];rfl),rfl,rfl⟩
    ·rename_i e m n cap hs;simp only[Option.some.injEq,Prod.mk.injEq]at he;obtain⟨rfl,rfl⟩:=he;obtain⟨hu,_,_⟩:=hE.aav hs;obtain⟨hv,_⟩:=hx;exact⟨_,hrun _ _ _ hu hv (by simp[Builtin.len_,run_underlying hu];rfl),rfl,rfl⟩
    ·rename_i hs;simp only[Option.some.injEq,Prod.mk.injEq]at he;obtain⟨rfl,rfl⟩:=he;obtain⟨hu,_,_⟩:=hE.aav hs;obtain⟨ad,hv⟩:=hx;exact⟨_,hrun _ _ _ hu hv (by simp[Builtin.len_,run_underlying hu];rfl),rfl,rfl⟩
    ·rename_i s hs;simp only[Option.some.injEq,Prod.mk.injEq]at he;obtain⟨rfl,rfl⟩:=he;obtain⟨hu,_⟩:=hE.FC hs;obtain⟨hv,_⟩:=hx;exact⟨_,hrun _ _ _ hu hv (by simp[Builtin.len_,run_underlying hu];rfl),rfl,rfl⟩
    ·rename_i hs;simp only[Option.some.injEq,Prod.mk.injEq]at he;obtain⟨rfl,rfl⟩:=he;obtain⟨hu,_⟩:=hE.mb hs;obtain⟨hv,_⟩:=hx;exact⟨_,hrun _ _ _ hu hv (by simp[Builtin.len_,run_underlying hu];rfl),rfl,rfl⟩
    ·cases he
   ·cases he
  ·rename_i agL;split at he
   ·rename_i x t agJ hty;split at he
    ·rename_i e m n k ht hx;simp only[Option.some.injEq,Prod.mk.injEq]at he;obtain⟨rfl,rfl⟩:=he;obtain⟨hu,_,_⟩:=hE.aav ht;obtain⟨hv,_⟩:=ax h hx;have e1:c.args=#[x]:=Array.ext' (by simpa using agJ)
     have e2:c.argTypes=#[t]:=Array.ext' (by simpa using hty)
     exact⟨_,by simp[resolve,invoke,builtin,agL,e1,e2,hv,Builtin.cap_,run_underlying hu];rfl,rfl,rfl⟩
    ·cases he
   ·cases he
  ·rename_i agL;split at he
   ·rename_i x y hargs;split at he
    ·rename_i k m k' n hx hy;simp only[Option.some.injEq,Prod.mk.injEq]at he;obtain⟨rfl,rfl⟩:=he;obtain⟨Hw,_⟩:=ax h hx;obtain⟨NF,_⟩:=ax h hy;have e1:c.args=#[x,y]:=Array.ext' (by simpa using hargs)
     exact⟨_,by simp[resolve,invoke,builtin,agL,e1,Hw,NF,run_min_int2],rfl,rfl⟩
    ·cases he
   ·cases he
  ·rename_i agL;split at he
   ·rename_i x y hargs;split at he
    ·rename_i k m k' n hx hy;simp only[Option.some.injEq,Prod.mk.injEq]at he;obtain⟨rfl,rfl⟩:=he;obtain⟨Hw,_⟩:=ax h hx;obtain⟨NF,_⟩:=ax h hy;have e1:c.args=#[x,y]:=Array.ext' (by simpa using hargs)
     exact⟨_,by simp[resolve,invoke,builtin,agL,e1,Hw,NF,run_max_int2],rfl,rfl⟩
    ·cases he
   ·cases he
  ·cases he
 ·cases he
theorem kP {E:Env} {pre q:List aa} {k:IntKind} {n:Int} {z:Tm} (h:wrapped E pre k n=some (q,z)):∃ v,z= .a (.v v):=by
 unfold wrapped at h;split at h<;>simp only[Option.some.injEq,Prod.mk.injEq]at h<;>exact⟨_,h.2.symm⟩
theorem apO {E:Env} {op:BinOp} {k:IntKind} {a b:Int} {q:List aa} {z:Tm} (h:ang E op k a b=some (q,z)):∃ v,z= .a (.v v):=by
 unfold ang at h;split at h
 ·exact kP h
 ·simp only[Option.some.injEq,Prod.mk.injEq]at h;exact⟨_,h.2.symm⟩
 ·cases h
theorem GJ {E:Env} {op:BinOp} {k:IntKind} {a b:Int} {q:List aa} {z:Tm} (h:uV E op k a b=some (q,z)):∃ v,z= .a (.v v):=by
 unfold uV at h;split at h
 ·exact kP h
 ·exact kP h
 ·exact kP h
 ·exact kP h
 all_goals first|exact apO h|(simp only[Option.some.injEq,Prod.mk.injEq]at h;exact⟨_,h.2.symm⟩)|cases h
theorem GF {E:Env} {op:BinOp} {t:TypeId} {x y z:Tm} {q:List aa} (h:uR E op t x y=some (q,z)):∃ v,z= .a (.v v):=by
 unfold uR at h;split at h
 ·split at h
  ·exact GJ h
  ·exact apO h
 ·split at h<;>first|(simp only[Option.some.injEq,Prod.mk.injEq]at h;exact⟨_,h.2.symm⟩)|cases h
 ·split at h
  ·split at h<;>first|(simp only[Option.some.injEq,Prod.mk.injEq]at h;exact⟨_,h.2.symm⟩)|cases h
  ·cases h
 ·split at h
  ·split at h<;>first|(simp only[Option.some.injEq,Prod.mk.injEq]at h;exact⟨_,h.2.symm⟩)|cases h
  ·cases h
theorem Aj (hE:bE P Γ E) (h:Rel Γ M w0 ρ st vs a w) {o:Oper} {q:List aa} {x:Tm} (hp:oD o=true) (he:oo E st o=some (q,x)) (hq:bW q):
 ∃ y,(∀ w':World,(execOp a.eval o).run P w'= .ok (.value y) w')/\x.ok st.rg.length ρ y:=by
 unfold oo at he;unfold execOp;unfold oD at hp;split at he<;>rename_i hop<;>simp only[hop]at hp ⊢<;>try(cases hp;done)
 ·
  split at he
  ·rename_i hx;simp only[Option.some.injEq,Prod.mk.injEq]at he;obtain⟨rfl,rfl⟩:=he;exact⟨_,fun _=>rfl,ax h hx⟩
  ·cases he
 ·split at he
  ·rename_i hx;simp only[Option.some.injEq,Prod.mk.injEq]at he;obtain⟨rfl,rfl⟩:=he;exact⟨_,fun _=>rfl,ax h hx⟩
  ·cases he
 ·
  split at he
  ·rename_i aiY;split at he
   ·rename_i hx;obtain⟨y,h1,h2⟩:=ahl (a:=a) hE aiY he _ (ax h hx);refine⟨.bool y,fun w'=>?_,h2⟩
    change Sem.run P (do let x<-(do eqGuard _ _ _ _ _ _;binOp _ _ _ _:Sem Value);pure (Next.value x)) w'=_
    rw[Sem.run_bind,h1];rfl
   ·cases he
  split at he
  ·rename_i hx hy;obtain⟨v,rfl⟩:=GF he;obtain⟨_,_,h3⟩:=nS (ρ:=ρ) (P:=P) (w:=w) hE he hq (.tmp 0) (.tmp 0) (ax h hx) (ax h hy);refine⟨v,fun w'=>?_,⟨rfl,h3.2⟩⟩
   obtain⟨y,h1,h2⟩:=nS (ρ:=ρ) (P:=P) (w:=w') hE he hq _ _ (ax h hx) (ax h hy);obtain rfl:y=v:=h2.1;change Sem.run P (do let x<-(do eqGuard _ _ _ _ _ _;binOp _ _ _ _:Sem Value);pure (Next.value x)) w'=_
   rw[Sem.run_bind,h1];rfl
  ·cases he
 ·
  split at he
  ·rename_i hx;obtain⟨y,h1,h2⟩:=GN (ρ:=ρ) (P:=P) he hq (ax h hx);exact⟨y,fun w'=>by simp[h1 w'],h2⟩
  ·cases he
 ·
  split at he
  ·rename_i fs n r π i j hs hx;split at he
   ·rename_i off size hf;simp only[Option.some.injEq,Prod.mk.injEq]at he;obtain⟨rfl,rfl⟩:=he;have hty:=hE.xf hs;obtain⟨⟨fields,hu,hp⟩,_⟩:=hty;obtain⟨fd,h1,h2,h3⟩:=akp fields.toList fs hp _ off (size+1) hf;obtain⟨hr,hv⟩:=ax h hx;rw[hv];refine⟨_,fun w'=>by simp[oG hu (by simpa using h1) h3];rfl,hr,?_⟩
    rw[RI.fF,h2,Nat.add_assoc]
   ·cases he
  ·cases he
 ·
  split at he
  ·rename_i e m r π lo n k i hs hx hi;split at he
   ·rename_i q1 B hd;split at he
    ·rename_i hm';simp only[Option.some.injEq,Prod.mk.injEq]at he;obtain⟨rfl,rfl⟩:=he;rw[aH]at hq;obtain⟨hu,hm,_⟩:=hE.aav hs;obtain⟨hr,hv⟩:=ax h hx;have aBF:a.eval _= .int k i:=(ax h hi).1;have hin:=hq.2.1;simp only[aa.ae]at hin;obtain⟨_,hB⟩:=mD h hd hq.1;have Na:(ρ r π).m=m:=hB.m.trans (Nat.eq_of_beq_eq_true hm');have j4:(ρ r π).aC=false:=by
      cases hh:(ρ r π).aC with
      |false=>rfl
      |true=>have:=(hv.1 hh).1;omega
     obtain⟨hlc,ad,e1,e2⟩:=hv.2 j4;rw[e1,aBF,e2 (by omega)]
     refine⟨_,fun w'=>by simp[Instr.indexAt,run_underlying hu,asIntOf,cY hm,hin];rfl,hr,?_⟩
     rw[RI.fF,Na,Nat.add_mul,Nat.add_zero]
    ·cases he
   ·cases he
  ·rename_i e m n r π a' j k i hs hx hi;simp only[Option.some.injEq,Prod.mk.injEq]at he;obtain⟨rfl,rfl⟩:=he;obtain⟨hu,hm,_⟩:=hE.aIp hs;obtain⟨hr,hv⟩:=ax h hx;have aBF:a.eval _= .int k i:=(ax h hi).1;have hin:=hq.1;simp only[aa.ae]at hin;rw[hv,aBF];refine⟨_,fun w'=>by simp[Instr.indexAt,Instr.sureAddr,run_underlying hu,asIntOf,cY hm,hin];rfl,hr,?_⟩
   rw[RI.fF,Nat.add_assoc]
  ·cases he
 ·
  split at he
  ·rename_i hx;simp only[Option.some.injEq,Prod.mk.injEq]at he;obtain⟨rfl,rfl⟩:=he;obtain⟨h1,h2⟩:=ax h hx;exact⟨_,fun w'=>by simp[h2],h1,rfl⟩
  ·rename_i hx;simp only[Option.some.injEq,Prod.mk.injEq]at he;obtain⟨rfl,rfl⟩:=he;obtain⟨h1,h2⟩:=ax h hx;exact⟨_,fun w'=>by simp[h2],h1,rfl⟩
  ·cases he
 ·
  split at he
  ·rename_i l hx;split at he
   ·rename_i c hc;simp only[Option.some.injEq,Prod.mk.injEq]at he;obtain⟨rfl,rfl⟩:=he;obtain⟨ys,hv,hl⟩:=ax h hx;obtain⟨y,hy,pS⟩:=hl.get _ _ hc;refine⟨y,fun w'=>by simp[hv,Instr.extract,hy],?_⟩
    cases c<;>exact pS
   ·cases he
  ·cases he
 ·
  split at he
  ·rename_i fs n z hs hz;split at he
   ·rename_i l hlen hl;simp only[Option.some.injEq,Prod.mk.injEq]at he;obtain⟨rfl,rfl⟩:=he;have hty:=hE.xf hs;obtain⟨⟨fields,hu,hp⟩,_⟩:=hty;obtain⟨_,i,zv,h1,h2,h3⟩:=hE.zero _ _ hz;obtain⟨ys,h4,h5⟩:=lN h _ _ _ _ hl (h3 _ ρ);refine⟨.agg ys.toArray,fun w'=>?_,ys,rfl,h5⟩
    have:=rJ (w:=w') hu hp h1 h2 ((_:Array (Nat×Operand)).map fun x=>(x.1,a.eval x.2)) ys (by simpa using h4)
    simp[this]
   ·cases he
  ·rename_i e m n z hs hz;split at he
   ·rename_i l hlen hl;simp only[Option.some.injEq,Prod.mk.injEq]at he;obtain⟨rfl,rfl⟩:=he;obtain⟨hu,hm,_⟩:=hE.aIp hs;obtain⟨_,i,zv,h1,h2,h3⟩:=hE.zero _ _ hz;obtain⟨ys,h4,h5⟩:=ko h _ _ _ _ hl (h3 _ ρ);refine⟨.agg ys.toArray,fun w'=>?_,ys,rfl,h5⟩
    have:=rI (w:=w') hu hm h1 h2 ((_:Array (Nat×Operand)).map fun x=>(x.1,a.eval x.2)) ys (by simpa using h4)
    simp[this]
   ·cases he
  ·cases he
end
end Go.Sy
end
section
namespace Go.Sy
open Go Go.RowKit
universe u
def aE (ρ:Keys) (n:Nat) (η:Path->RI):Keys:=fun r=>if r=n then η else ρ r
section
variable {P:Program} {Γ:bn} {E:Env} {M:Nat->Prop} {w0:World} {ρ:Keys} {st:St} {vs:Fv} {a:Act} {w:World}
theorem bB {n r:Nat} {η:Path->RI} (h:r<n):aE ρ n η r=ρ r:=by simp[aE,Nat.ne_of_lt h]
theorem aF {n:Nat} {η:Path->RI}:aE ρ n η n=η:=by simp[aE]
def gI (M:Nat->Prop) (w0 w:World) (N:Nat) (ρ:Keys) (r:Nat) (g g':az):Prop:=
 ∀ π o B',g'.has π o B'->∃ o2 B,g.has π o2 B/\(o=true->o2=true)/\(B.aA N ρ r π w->B'.aA N ρ r π w)/\(B.mine M w0 w (ρ r π)->B'.mine M w0 w (ρ r π))
theorem gI.refl {N r:Nat} {g:az}:gI M w0 w N ρ r g g:=fun _ o B h=>⟨o,B,h,id,id,id⟩
theorem CY {N r:Nat} {g:az}:gI M w0 w N ρ r g .dead:=fun _ _ _ h=>h.elim
theorem Ar.gQ {te:TypeId} {tg:List CK} {xs:List (ai tg)} {o i:Bool} {π:Path} {f:Bool} {B:aD0} (h:(az.arr te tg xs o i).has π f B):∃ A,B= .arr A/\Ar.has ⟨te,tg,xs⟩ π A/\f=mH π o i:=by
 obtain⟨h1,A,h2,h3⟩:=h;exact⟨A,h3,h2,h1⟩
theorem Cd {N r:Nat} {te:TypeId} {tg:List CK} {xs:List (ai tg)} {o i o' i':Bool} (ho:o'=true->o=true) (hi:i'=true->i=true):
 gI M w0 w N ρ r (.arr te tg xs o i) (.arr te tg xs o' i'):=by
 rintro π f B ⟨rfl,A,hA,rfl⟩;refine⟨mH π o i,.arr A,⟨rfl,A,hA,rfl⟩,?_,id,id⟩;cases π with
 |nil=>exact ho
 |cons=>exact hi
theorem p9 {N r:Nat} {g:az}:gI M w0 w N ρ r g g.frozen:=by
 cases g with
 |dead=>exact gI.refl
 |box o l=>rintro π f B ⟨rfl,rfl,rfl⟩;exact⟨o,.box l,⟨rfl,rfl,rfl⟩,by simp,id,id⟩
 |arr te tg xs o i=>exact Cd (by simp) (by simp)
 |map t k c es o=>rintro π f B ⟨rfl,rfl,rfl⟩;exact⟨o,.map k c es,⟨rfl,rfl,rfl⟩,by simp,id,id⟩
 |bH t kk e tg es o i=>
  rintro π f B (⟨rfl,rfl,rfl⟩|⟨j,rfl,rfl,hj,hf,rfl⟩)
  ·exact⟨o,_,.inl ⟨rfl,rfl,rfl⟩,by simp,id,id⟩
  ·exact⟨i,_,.inr ⟨j,rfl,rfl,hj,hf,rfl⟩,by simp,id,id⟩
 |iter=>exact gI.refl
 |lp=>exact gI.refl
theorem cF {l:List az} {r r':Nat} {g g':az} (h:(l.set r g)[r']?=some g'):(r'=r/\g'=g/\r<l.length)\/(r'≠r/\l[r']?=some g'):=by
 by_cases he:r'=r
 ·subst he;have hlt:r'<l.length:=by have:=(List.getElem?_eq_some_iff.1 h).1;simpa using this
  rw[List.getElem?_set_self hlt]at h;exact .inl ⟨rfl,(Option.some.inj h).symm,hlt⟩
 ·rw[List.getElem?_set_ne (Ne.symm he)]at h;exact .inr ⟨he,h⟩
theorem cA.weaken {N:Nat} {rg:List az} (h:cA M w0 N ρ rg w) {r:Nat} {g g':az} (hr:rg[r]?=some g) (hw:gI M w0 w N ρ r g g'):cA M w0 N ρ (rg.set r g') w where
 blk:=fun r1 g1 π o B h1 h2=>by
  rcases cF h1 with⟨rfl,rfl,_⟩|⟨_,h1⟩
  ·obtain⟨o2,B2,k1,_,k3,_⟩:=hw π o B h2;exact k3 (h.blk _ g π o2 B2 hr k1)
  ·exact h.blk r1 g1 π o B h1 h2
 lt:=fun r1 g1 π o B h1 h2 hv=>by
  rcases cF h1 with⟨rfl,rfl,_⟩|⟨_,h1⟩
  ·obtain⟨o2,B2,k1,_,_,_⟩:=hw π o B h2;exact h.lt _ g π o2 B2 hr k1 hv
  ·exact h.lt r1 g1 π o B h1 h2 hv
 own:=fun r1 g1 π B h1 h2 hv=>by
  rcases cF h1 with⟨rfl,rfl,_⟩|⟨_,h1⟩
  ·obtain⟨o2,B2,k1,k2,_,k4⟩:=hw π true B h2;obtain rfl:=k2 rfl;exact k4 (h.own _ g π B2 hr k1 hv)
  ·exact h.own r1 g1 π B h1 h2 hv
 dj:=fun r1 r2 g1 g2 π aW o' B B' h1 h2 k1 k2 v1 v2 hne=>by
  rcases cF h1 with⟨e1,f1,_⟩|⟨_,p1⟩<;>rcases cF h2 with⟨e2,f2,_⟩|⟨_,p2⟩
  ·subst e1 f1 e2 f2;obtain⟨oa,Ba,a1,a2,_,_⟩:=hw π true B k1;obtain rfl:=a2 rfl;obtain⟨ob,Bb,b1,_,_,_⟩:=hw aW o' B' k2;exact h.dj _ _ g g π aW ob Ba Bb hr hr a1 b1 v1 v2 hne
  ·subst e1 f1;obtain⟨oa,Ba,a1,a2,_,_⟩:=hw π true B k1;obtain rfl:=a2 rfl;exact h.dj _ _ g g2 π aW o' Ba B' hr p2 a1 k2 v1 v2 hne
  ·subst e2 f2;obtain⟨ob,Bb,b1,_,_,_⟩:=hw aW o' B' k2;exact h.dj _ _ g1 g π aW ob B Bb p1 hr k1 b1 v1 v2 hne
  ·exact h.dj _ _ g1 g2 π aW o' B B' p1 p2 k1 k2 v1 v2 hne
theorem cA.snoc {N N':Nat} {rg:List az} (h:cA M w0 N ρ rg w) (hN:N<=N') (Rf:N<=rg.length) {g:az} {η:Path->RI}
 (blk:∀ π o B,g.has π o B->B.aA N' (aE ρ rg.length η) rg.length π w) (lt:∀ π o B,g.has π o B->(η π).aC=false->(η π).b<w.heap.size)
 (own:∀ π B,g.has π true B->(η π).aC=false->B.mine M w0 w (η π))
 (QR:∀ π B,g.has π true B->(η π).aC=false->∀ (r':Nat) (g':az) aW o' B',rg[r']?=some g'->g'.has aW o' B'->(ρ r' aW).aC=false->(η π).b≠(ρ r' aW).b)
 (QO:∀ π o B,g.has π o B->(η π).aC=false->∀ (r':Nat) (g':az) aW B',rg[r']?=some g'->g'.has aW true B'->(ρ r' aW).aC=false->(ρ r' aW).b≠(η π).b)
 (QS:∀ π aW o' B B',g.has π true B->g.has aW o' B'->(η π).aC=false->(η aW).aC=false->π≠aW->(η π).b≠(η aW).b):
 cA M w0 N' (aE ρ rg.length η) (rg++[g]) w:=by
 have key:∀ (r:Nat) (g1:az),(rg++[g])[r]?=some g1->(r<rg.length/\rg[r]?=some g1)\/(r=rg.length/\g1=g):=by
  intro r g1 hr;rcases Nat.lt_or_ge r rg.length with hl|hl
  ·rw[List.getElem?_append_left hl]at hr;exact .inl ⟨hl,hr⟩
  ·rw[List.getElem?_append_right hl]at hr;rcases Nat.eq_or_lt_of_le hl with he|he
   ·rw[<-he]at hr;simp at hr;exact .inr ⟨he.symm,hr.symm⟩
   ·rw[List.getElem?_eq_none (by simp;omega)]at hr;cases hr
 refine⟨fun r g1 π o B h1 h2=>?_,fun r g1 π o B h1 h2 hv=>?_,fun r g1 π B h1 h2 hv=>?_,fun r r' g1 g2 π aW o' B B' h1 h2 k1 k2 v1 v2 hne=>?_⟩
 ·rcases key r g1 h1 with⟨hl,h1⟩|⟨rfl,rfl⟩
  ·exact(h.blk r g1 π o B h1 h2).cX (fun _=>by rw[bB hl]) hN (fun r hr _=>by rw[bB (Nat.lt_of_lt_of_le hr Rf)]) (fun _=>rfl)
  ·exact blk π o B h2
 ·rcases key r g1 h1 with⟨hl,h1⟩|⟨rfl,rfl⟩
  ·rw[bB hl]at hv ⊢;exact h.lt r g1 π o B h1 h2 hv
  ·rw[aF]at hv ⊢;exact lt π o B h2 hv
 ·rcases key r g1 h1 with⟨hl,h1⟩|⟨rfl,rfl⟩
  ·rw[bB hl]at hv ⊢;exact h.own r g1 π B h1 h2 hv
  ·rw[aF]at hv ⊢;exact own π B h2 hv
 ·rcases key r g1 h1 with⟨agM,p1⟩|⟨e1,f1⟩<;>rcases key r' g2 h2 with⟨jJ,p2⟩|⟨e2,f2⟩
  ·rw[bB agM]at v1 ⊢;rw[bB jJ]at v2 ⊢;exact h.dj r r' g1 g2 π aW o' B B' p1 p2 k1 k2 v1 v2 hne
  ·subst e2 f2;rw[bB agM]at v1 ⊢;rw[aF]at v2 ⊢;exact QO aW o' B' k2 v2 r g1 π B p1 k1 v1
  ·subst e1 f1;rw[aF]at v1 ⊢;rw[bB jJ]at v2 ⊢;exact QR π B k1 v1 r' g2 aW o' B' p2 k2 v2
  ·subst e1 f1 e2 f2;rw[aF]at v1 v2 ⊢;exact QS π aW o' B B' k1 k2 v1 v2 fun e=>hne ⟨rfl,e⟩
theorem cA.fresh {rg:List az} (h:cA M w0 rg.length ρ rg w) {w':World} (hb:Below w.heap.size w w') {g:az} {η:Path->RI}
 (blk:∀ π o B,g.has π o B->B.aA (rg.length+1) (aE ρ rg.length η) rg.length π w') (lt:∀ π o B,g.has π o B->(η π).aC=false->w.heap.size<=(η π).b/\(η π).b<w'.heap.size)
 (own:∀ π B,g.has π true B->(η π).aC=false->B.mine M w0 w' (η π))
 (one:∀ π aW o o' B B',g.has π o B->g.has aW o' B'->(η π).aC=false->(η aW).aC=false->π=aW):
 cA M w0 (rg.length+1) (aE ρ rg.length η) (rg++[g]) w':=by
 have h':=h.cX hb.size hb.block;refine h'.snoc (Nat.le_succ _) (Nat.le_refl _) blk (fun π o B k v=>(lt π o B k v).2) own (fun π B k v r' g' aW o' B' h1 h2 v'=>?_) (fun π o B k v r' g' aW B' h1 h2 v'=>?_) (fun π aW o' B B' k k' v v' hne=>absurd (one π aW true o' B B' k k' v v') hne)
 ·have:=(lt π true B k v).1;have:=h.lt r' g' aW o' B' h1 h2 v';omega
 ·have:=(lt π o B k v).1;have:=h.lt r' g' aW true B' h1 h2 v';omega
theorem agB (o:Obj):Below w.heap.size w (w.alloc o):=(Below.refl _ _).alloc (Nat.le_refl _) o
theorem gh (cs:List Value) (t:TypeId) (o:Nat):(w.alloc (.cells cs.toArray t)).cell? ⟨w.heap.size,o,none⟩=cs[o]?:=by
 simp[World.cell?_alloc_new]
theorem cA.front {N:Nat} {rg ex:List az} (h:cA M w0 N ρ (rg++ex) w):cA M w0 N ρ rg w:=by
 have key:∀ (r:Nat) (g:az),rg[r]?=some g->(rg++ex)[r]?=some g:=fun r g hr=>by
  rw[List.getElem?_append_left (List.getElem?_eq_some_iff.1 hr).1];exact hr
 exact⟨fun r g π o B h1=>h.blk r g π o B (key r g h1),fun r g π o B h1=>h.lt r g π o B (key r g h1),fun r g π B h1=>h.own r g π B (key r g h1),
  fun r r' g g' π aW o' B B' h1 h2=>h.dj r r' g g' π aW o' B B' (key r g h1) (key r' g' h2)⟩
theorem Rel.grow (h:Rel Γ M w0 ρ st vs a w) {w':World} (hb:Below w.heap.size w w') {gs:List az} {ρ':Keys} (hρ:∀ r,r<st.rg.length->∀ π,ρ' r π=ρ r π)
 (hr:cA M w0 (st.rg.length+gs.length) ρ' (st.rg++gs) w'):Rel Γ M w0 ρ' (st.push gs) vs a w' where
 tm:=by
  have:=h.tm.mono (ρ':=ρ') (Nat.le_add_right st.rg.length gs.length) hρ;simpa[St.push]using this
 fr:=by
  have:=h.fr.mono (R':=Sl.ok (st.rg.length+gs.length) ρ') fun s v hs=>hs.mono (Nat.le_add_right _ _) hρ
  simpa[St.push]using this
 df:=h.df
 rs:=by simpa[St.push]using hr
 bl:=h.bl.below hb
 gl:=Γ.st _ _ h.gl fun b hlt=>hb.block b (Nat.lt_of_lt_of_le (h.gn b hlt).2 h.bl.size)
 gn:=h.gn
def dx (w:World):Path->RI:=fun _=>⟨w.heap.size,0,0,0,false⟩
theorem Rel.box (h:Rel Γ M w0 ρ st vs a w) {l:List At} {ys:List Value} (hl:be (At.ok st.rg.length ρ) l ys) (t:TypeId):
 Rel Γ M w0 (aE ρ st.rg.length (dx w)) (st.push [.box true l]) vs a (w.alloc (.cells ys.toArray t)):=by
 refine h.grow (agB _) (fun r hr π=>by rw[bB hr]) (h.rs.fresh (agB _) ?_ ?_ ?_ ?_)
 ·rintro π o B ⟨rfl,rfl,rfl⟩;refine⟨rfl,by rw[aF];rfl,by rw[aF];rfl,fun j x hx=>?_⟩
  obtain⟨y,hy,hr⟩:=hl.get j x hx;refine⟨y,hr.mono (Nat.le_succ _) fun r hr π=>by rw[bB hr],?_⟩
  rw[aF];simp only[RI.at,dx,Nat.zero_add];rw[gh];exact hy
 ·rintro π o B ⟨rfl,rfl,rfl⟩ _;exact⟨Nat.le_refl _,by simp[dx]⟩
 ·rintro π B ⟨rfl,_,rfl⟩ _;exact⟨.inr h.bl.size,fun j=>by simp[dx]⟩
 ·rintro π aW o o' B B' ⟨rfl,_⟩ ⟨rfl,_⟩ _ _;rfl
end
end Go.Sy
end
section
namespace Go.Sy
open Go Go.RowKit
universe u
section
variable {cc:Bool} {P:Program} {Γ:bn} {E:Env} {M:Nat->Prop} {w0:World} {ρ:Keys} {st:St} {vs:Fv} {a:Act} {w:World}
structure dS (M:Nat->Prop) (w0 w:World) (ρ:Keys) (st:St) (held:List az):Prop where
 rs:cA M w0 st.rg.length ρ (st.rg++held) w
structure eL (st an:St):Prop where
 tm:an.tm=st.tm
 fr:an.fr=st.fr
 len:an.rg.length=st.rg.length
theorem eL.refl (st:St):eL st st:=⟨rfl,rfl,rfl⟩
theorem eL.trans {a b c:St} (h:eL a b) (k:eL b c):eL a c:=⟨k.tm.trans h.tm,k.fr.trans h.fr,k.len.trans h.len⟩
theorem eL.aBZ (st:St) (r:Nat) (g:az):eL st (st.aBZ r g):=⟨rfl,rfl,by simp[St.aBZ]⟩
def iC:RI:=⟨0,0,0,0,true⟩
theorem mm {te:TypeId} {tg:List CK} {o i:Bool} {π:Path} {f:Bool} {B:aD0} (h:(az.arr te tg [] o i).has π f B):π=[]/\B= .arr ⟨te,tg,[]⟩:=by
 obtain⟨_,A,hA,rfl⟩:=h;have gen:∀ (π:Path) (A:Ar),Ar.has ⟨te,tg,[]⟩ π A->π=[]/\A=⟨te,tg,[]⟩:=by
  intro π;induction π with
  |nil=>intro A h;exact⟨rfl,h⟩
  |cons ij π ih=>
   intro A h;obtain⟨B,h1,h2,_⟩:=h;obtain⟨_,rfl⟩:=ih B h1;simp at h2
 obtain⟨h1,rfl⟩:=gen π A hA;exact⟨h1,rfl⟩
theorem dS.aC {held:List az} (h:dS M w0 w ρ st held) (e:TypeId) {tg:List CK} (ci:tg≠[]):
 dS M w0 w (aE ρ (st.rg.length+held.length) fun _=>{iC with m:=tg.length}) st (held++[.arr e tg [] true true]):=by
 have hl:(st.rg++held).length=st.rg.length+held.length:=by simp
 constructor;rw[<-List.append_assoc,<-hl];refine h.rs.snoc (Nat.le_refl _) (by simp) ?_ ?_ ?_ ?_ ?_ ?_
 ·intro π o B hB;obtain⟨rfl,rfl⟩:=mm hB;refine⟨ci,by rw[aF],fun _=>rfl,fun hv=>by rw[aF]at hv;simp[iC]at hv,fun i hi=>by simp at hi⟩
 all_goals(intros;rename_i hv _;first|(simp[iC]at hv;done)|skip)
 all_goals simp_all [iC]
theorem aao {held:List az} {r:Nat} {g:az} (h:st.rg[r]?=some g):(st.rg++held)[r]?=some g:=by
 rw[List.getElem?_append_left (List.getElem?_eq_some_iff.1 h).1];exact h
theorem dS.weaken {held:List az} (h:dS M w0 w ρ st held) {r:Nat} {g g':az} (hr:st.rg[r]?=some g) (hw:gI M w0 w st.rg.length ρ r g g'):dS M w0 w ρ (st.aBZ r g') held:=by
 constructor;have:=h.rs.weaken (aao (held:=held) hr) hw;have e:(st.rg++held).set r g'=st.rg.set r g'++held:=by rw[List.set_append_left _ _ (List.getElem?_eq_some_iff.1 hr).1]
 rw[e]at this;simpa[St.aBZ]using this
theorem dS.move {held:List az} (h:dS M w0 w ρ st held) {r:Nat} {g:az} (hr:st.rg[r]?=some g) (hb:∀ π o B,g.has π o B->∃ A,B= .arr A):
 dS M w0 w (aE ρ (st.rg.length+held.length) (ρ r)) (st.aBZ r .dead) (held++[g]):=by
 have h1:=h.weaken hr (CY (M:=M) (w0:=w0) (w:=w) (N:=st.rg.length) (ρ:=ρ) (r:=r) (g:=g));have hl:((st.aBZ r .dead).rg++held).length=st.rg.length+held.length:=by simp[St.aBZ]
 have hN:(st.aBZ r .dead).rg.length=st.rg.length:=by simp[St.aBZ]
 have hs:=aao (held:=held) hr;constructor;rw[<-List.append_assoc,<-hl,hN];have Hu:=h1.rs;rw[hN]at Hu;have old:∀ (r':Nat) (g':az) π o B,((st.aBZ r .dead).rg++held)[r']?=some g'->g'.has π o B->r'≠r/\(st.rg++held)[r']?=some g':=by
  intro r' g' π o B h1 h2;have e:(st.aBZ r .dead).rg++held=(st.rg++held).set r .dead:=by simp only[St.aBZ];rw[List.set_append_left _ _ (List.getElem?_eq_some_iff.1 hr).1]
  rw[e]at h1;rcases cF h1 with⟨_,rfl,_⟩|h1
  ·exact h2.elim
  ·exact h1
 refine Hu.snoc (Nat.le_refl _) (by rw[hl];omega) ?_ ?_ ?_ ?_ ?_ ?_
 ·intro π o B hB;have:=h.rs.blk r g π o B hs hB;obtain⟨A,rfl⟩:=hb π o B hB;exact Ar.aA.cX (w:=w) (η:=ρ r) (fun σ=>by rw[aF]) (fun _=>rfl) this
 ·intro π o B hB hv;exact h.rs.lt r g π o B hs hB hv
 ·intro π B hB hv;exact h.rs.own r g π B hs hB hv
 ·intro π B hB hv r' g' aW o' B' k1 k2 v';obtain⟨hne,k1⟩:=old r' g' aW o' B' k1 k2;exact h.rs.dj r r' g g' π aW o' B B' hs k1 hB k2 hv v' (fun e=>hne e.1.symm)
 ·intro π o B hB hv r' g' aW B' k1 k2 v';obtain⟨hne,k1⟩:=old r' g' aW true B' k1 k2;exact h.rs.dj r' r g' g aW π o B' B k1 hs k2 hB v' hv (fun e=>hne e.1)
 ·intro π aW o' B B' k k' v v' hne;exact h.rs.dj r r g g π aW o' B B' hs hs k k' v v' (fun e=>hne e.2)
theorem I5 {tg:List CK} (hf:aaa tg=true):∀ (x:ai tg) (j:Nat),ai.sub tg x j=none:=by
 have one:∀ (c:CK) (x:c.ty),c.flat=true->c.sub x=none:=fun c x h=>by cases c<;>first|rfl|cases h
 intro x j;induction tg generalizing j with
 |nil=>rfl
 |cons c cs ih=>
  simp only[aaa]at hf;split at hf
  ·rename_i hc;cases cs with
   |nil=>cases j with
    |zero=>exact one c x hc
    |succ j=>rfl
   |cons c' cs=>
    cases j with
    |zero=>exact one c x.1 hc
    |succ j=>exact ih hf x.2 j
  ·cases hf
theorem fT {te:TypeId} {tg:List CK} {xs:List (ai tg)} (hf:aaa tg=true):∀ {π:Path} {A:Ar},Ar.has ⟨te,tg,xs⟩ π A->π=[]/\A=⟨te,tg,xs⟩
 |[],_,h=>⟨rfl,h⟩
 |(i,j)::π,A,h=>by
  obtain⟨B,h1,_,h3⟩:=h;obtain⟨rfl,rfl⟩:=fT hf h1;rw[I5 hf]at h3;cases h3
theorem lA {η bU:Path->RI} {π aW:Path} {i i':Nat}:∀ {tg:List CK} {j j':Nat} {x:ai tg} {ys:List Value},aaa tg=true->ai.aA η π i j tg x ys->ai.aA bU aW i' j' tg x ys:=by
 have one:∀ {c:CK} {j j':Nat} {x:c.ty} {y:Value},c.flat=true->c.aA η π i j x y->c.aA bU aW i' j' x y:=fun{c} _ _ _ _ hf h=>by
  cases c<;>first|exact h|cases hf
 intro tg;induction tg with
 |nil=>intro j j' x ys _ h;exact h
 |cons c cs ih=>
  intro j j' x ys hf h;simp only[aaa]at hf;split at hf
  ·rename_i hc;cases cs with
   |nil=>obtain⟨y,h1,h2⟩:=h;exact⟨y,h1,one hc h2⟩
   |cons c' cs=>obtain⟨y,ys',h1,h2,h3⟩:=h;exact⟨y,ys',h1,one hc h2,ih hf h3⟩
  ·cases hf
theorem yX {te:TypeId} {tg:List CK} {xs:List (ai tg)} {lo n i:Nat} (hi:i<((xs.drop lo).take n).length):Ar.get ⟨te,tg,(xs.drop lo).take n⟩ i=Ar.get ⟨te,tg,xs⟩ (lo+i):=by
 simp only[List.length_take,List.length_drop]at hi;simp only[Ar.get,List.getD_eq_getElem?_getD];rw[List.getElem?_take_of_lt (by omega),List.getElem?_drop]
def RI.shift (I:RI) (lo:Nat):RI:=⟨I.b,I.off+lo*I.m,I.m,I.cap-lo,I.aC⟩
theorem RI.aar (I:RI) (lo o:Nat):(I.shift lo).at o=I.at (lo*I.m+o):=by simp[RI.shift,RI.at,Nat.add_assoc]
theorem ri {te:TypeId} {tg:List CK} {xs:List (ai tg)} (hf:aaa tg=true) {η:Path->RI} {π:Path} {lo n:Nat} (h:Ar.aA w η π ⟨te,tg,xs⟩) (DG:lo+n<=xs.length) {bU:Path->RI} {aW:Path} (he:bU aW=(η π).shift lo) (oO:TypeId):
 Ar.aA w bU aW ⟨oO,tg,(xs.drop lo).take n⟩ where
 tg:=h.tg
 m:=by rw[he];exact h.m
 aC:=fun hv=>by rw[he]at hv;have:=h.aC hv;simp only at this ⊢;rw[this];simp
 len:=fun hv=>by rw[he]at hv ⊢;have:=h.len hv;simp only[RI.shift,List.length_take,List.length_drop]at this ⊢;omega
 cell:=fun i hi=>by
  have hi':i<((xs.drop lo).take n).length:=hi;rw[yX (te:=oO) hi'];obtain⟨ys,h1,h2⟩:=h.cell (lo+i) (by simp only[List.length_take,List.length_drop]at hi' ⊢;omega)
  refine⟨ys,lA hf h1,fun s y hy=>?_⟩
  rw[he,RI.aar];have:=h2 s y hy;simp only[RI.shift];rw[show lo*(η π).m+(i*(η π).m+s)=(lo+i)*(η π).m+s by rw[Nat.add_mul];omega]
  exact this
theorem ph {I:RI} {lo n:Nat} {y:Value} (h:I.head lo n y):(I.shift lo).head 0 n y:=by
 refine⟨fun hv=>h.1 hv,fun hv=>?_⟩
 obtain⟨h1,a,h2,h3⟩:=h.2 hv;refine⟨by simp only[RI.shift];omega,a,by simpa[RI.shift]using h2,fun hlt=>?_⟩
 rw[h3 (by simp only[RI.shift]at hlt;omega)]
 simp[RI.shift,RI.at]
theorem He {g:az} {π:Path} {o o':Bool} {B B':aD0} (h:g.has π o B) (h':g.has π o' B'):o=o':=by
 cases g with
 |dead=>exact h.elim
 |box ow l=>exact h.2.1.trans h'.2.1.symm
 |arr te tg xs ow i=>exact h.1.trans h'.1.symm
 |map=>exact h.2.1.trans h'.2.1.symm
 |bH=>
  rcases h with⟨h1,h2,_⟩|⟨j,h1,h2,_⟩<;>rcases h' with⟨k1,k2,_⟩|⟨k,k1,k2,_⟩
  ·exact h2.trans k2.symm
  ·rw[h1]at k1;cases k1
  ·rw[h1]at k1;cases k1
  ·exact h2.trans k2.symm
 |iter=>exact h.2.1.trans h'.2.1.symm
 |lp=>exact h.2.1.trans h'.2.1.symm
theorem dS.Pj {held:List az} (h:dS M w0 w ρ st held) {r:Nat} {g:az} {π:Path} {B:Ar} (hr:st.rg[r]?=some g) (hB:g.has π false (.arr B)) (hf:aaa B.tg=true) {lo n:Nat} (DG:lo+n<=B.xs.length) (te:TypeId):
 dS M w0 w (aE ρ (st.rg.length+held.length) fun _=>(ρ r π).shift lo) st (held++[.arr te B.tg ((B.xs.drop lo).take n) false false]):=by
 have hl:(st.rg++held).length=st.rg.length+held.length:=by simp
 have hs:=aao (held:=held) hr;have hL:B.aA w (ρ r) π:=h.rs.blk r g π false (.arr B) hs hB;have Fo:∀ {aW:Path} {C:aD0},¬(az.arr te B.tg ((B.xs.drop lo).take n) false false).has aW true C:=by
  rintro aW C ⟨h1,_⟩;cases aW<;>simp[mH]at h1
 constructor;rw[<-List.append_assoc,<-hl];refine h.rs.snoc (Nat.le_refl _) (by simp) ?_ ?_ ?_ ?_ ?_ ?_
 ·rintro aW o C ⟨_,A,hA,rfl⟩;obtain⟨rfl,rfl⟩:=fT hf hA;exact ri (te:=B.te) (η:=ρ r) hf hL DG (by rw[aF]) te
 ·rintro aW o C hC hv;exact h.rs.lt r g π false (.arr B) hs hB hv
 ·intro aW C hC;exact absurd hC Fo
 ·intro aW C hC;exact absurd hC Fo
 ·intro aW o C hC hv r' g' jr C' k1 k2 v';exact h.rs.dj r' r g' g jr π false C' (.arr B) k1 hs k2 hB v' hv (fun e=>by
   obtain⟨rfl,rfl⟩:=e;obtain rfl:=Option.some.inj (k1.symm.trans hs);exact absurd (He k2 hB) (by simp))
 ·intro aW jr o' C C' hC;exact absurd hC Fo
theorem sY {held:List az} (h:dS M w0 w ρ st held) {e:TypeId} {tg:List CK} {x:At} {y:Value} {K:St->List (ai tg)->Bool->Prop} (hx:x.ok st.rg.length ρ y) (ci:tg≠[]) (hK:uZ cc st e tg x K):
 ∃ (an:St) (ys:List (ai tg)) (b:Bool) (η:Path->RI),K an ys b/\eL st an/\dS M w0 w (aE ρ (st.rg.length+held.length) η) an (held++[.arr e tg ys b b])/\(η []).head 0 ys.length y:=by
 unfold uZ at hK;split at hK
 ·obtain⟨rfl,_⟩:=hx;exact⟨st,[],true,_,hK,eL.refl _,h.aC e ci,fun _=>⟨rfl,none,rfl⟩,fun hv=>by simp[iC]at hv⟩
 ·obtain⟨ad,rfl⟩:=hx;exact⟨st,[],true,_,hK,eL.refl _,h.aC e ci,fun _=>⟨rfl,ad,rfl⟩,fun hv=>by simp[iC]at hv⟩
 ·rename_i r π lo n;obtain⟨hr,hh⟩:=hx;split at hK
  ·rename_i ys hm;split at hm
   ·rename_i e' bX xs hg;split at hm
    ·rename_i ht he eT;obtain rfl:=Nat.eq_of_beq_eq_true he;obtain rfl:=ht.down;obtain rfl:=Option.some.inj hm;rw[aV,St.aks]at hK;obtain⟨⟨hn,_⟩,hK⟩:=hK;simp only[aa.ae]at hn;have Vo:=bg hg (by simp)
     exact⟨_,_,true,ρ r,hK,eL.aBZ _ _ _,h.move Vo (fun π o B hB=>⟨_,(Ar.gQ hB).choose_spec.1⟩),by rw[<-hn];exact hh⟩
    ·cases hm
   ·cases hm
  ·split at hK
   ·rename_i q B hd;split at hK
    ·rename_i ht he eT hf;rw[aV,aH,St.aks]at hK;obtain⟨⟨hq,DG,_⟩,hK⟩:=hK;simp only[aa.ae]at DG;obtain rfl:=Nat.eq_of_beq_eq_true he;obtain⟨_,iP,h1,_⟩:=az.kY hd hq;generalize hg:st.rg.getD r .dead=g at*;have Vo:=bg hg iP;obtain⟨te,P8,xs⟩:=B;obtain rfl:=ht.down;have hw:=h.weaken Vo p9;have Qy:(st.aBZ r g.frozen).rg[r]?=some g.frozen:=by
      simp only[St.aBZ];rw[List.getElem?_set_self hr]
     have hlen:(st.aBZ r g.frozen).rg.length=st.rg.length:=by simp[St.aBZ]
     have hs:=hw.Pj (π:=π) (B:=⟨te,P8,xs⟩) Qy h1 hf DG te;rw[hlen]at hs;refine⟨_,_,false,_,hK,eL.aBZ _ _ _,hs,?_⟩;have:((xs.drop lo).take n).length=n:=by simp only[List.length_take,List.length_drop]at DG ⊢;omega
     show(RI.shift (ρ r π) lo).head 0 ((xs.drop lo).take n).length y;rw[this];exact ph hh
    ·exact hK.elim
   ·exact hK.elim
 ·exact hK.elim
end
end Go.Sy
end
section
namespace Go.Sy
open Go Go.RowKit
universe u
section
variable {cc:Bool} {P:Program} {Γ:bn} {E:Env} {M:Nat->Prop} {w0:World} {ρ:Keys} {st:St} {vs:Fv} {a:Act} {w:World}
/-! ### Ways,from the outside -/
def gl (I:RI) (cfg:Nat->Nat->Path->RI) (π:Path):RI:=match π.reverse with|[]=>I|(i,j)::τ=>cfg i j τ.reverse
theorem aac {I:RI} {cfg:Nat->Nat->Path->RI}:gl I cfg []=I:=rfl
theorem fJ {I:RI} {cfg:Nat->Nat->Path->RI} {σ:Path} {i j:Nat}:gl I cfg (σ++[(i,j)])=cfg i j σ:=by simp[gl]
theorem de:∀ (π:Path),π=[]\/∃ σ i j,π=σ++[(i,j)]
 |[]=> .inl rfl
 |(i,j)::π=>by
  rcases de π with rfl|⟨σ,k,l,rfl⟩
  ·exact .inr ⟨[],i,j,rfl⟩
  ·exact .inr ⟨(i,j)::σ,k,l,rfl⟩
theorem dH {A:Ar} {i j:Nat}:∀ {σ:Path} {C:Ar},A.has (σ++[(i,j)]) C<->∃ B,i<A.xs.length/\ai.sub A.tg (A.get i) j=some B/\B.has σ C
 |[],C=>by
  constructor
  ·rintro⟨B,rfl,h1,h2⟩;exact⟨C,h1,h2,rfl⟩
  ·rintro⟨B,h1,h2,rfl⟩;exact⟨A,rfl,h1,h2⟩
 |(k,l)::σ,C=>by
  constructor
  ·rintro⟨D,h1,h2,h3⟩;obtain⟨B,b1,b2,b3⟩:=dH.1 h1;exact⟨B,b1,b2,D,b3,h2,h3⟩
  ·rintro⟨B,b1,b2,D,d1,d2,d3⟩;exact⟨D,dH.2 ⟨B,b1,b2,d1⟩,d2,d3⟩
theorem lY {c:CK}:∀ {cs:List CK} {y:c.ty} {z:ai cs},ai.sub (c::cs) (oW c cs y z) 0=c.sub y
 |[],_,_=>rfl
 |_::_,_,_=>rfl
theorem ig {c:CK} {j:Nat}:∀ {cs:List CK} {y:c.ty} {z:ai cs},ai.sub (c::cs) (oW c cs y z) (j+1)=ai.sub cs z j
 |[],_,_=>rfl
 |_::_,_,_=>rfl
theorem uN {c:CK} {η:Path->RI} {π:Path} {i j:Nat} {v:Value}:∀ {cs:List CK} {y:c.ty} {z:ai cs} {ys:List Value},c.aA η π i j y v->ai.aA η π i (j+1) cs z ys->ai.aA η π i j (c::cs) (oW c cs y z) (v::ys)
 |[],_,_,_,h,h'=>by have h'':_=[]:=h';subst h'';exact⟨v,rfl,h⟩
 |_::_,_,_,_,h,h'=>⟨v,_,rfl,h,h'⟩
theorem HM {c:CK} (hc:c.flat=true) {N:Nat} {x:At} {b:c.ty} {y:Value} (h:c.fX x=some b) (hy:x.ok N ρ y) (η:Path->RI) (π:Path) (i j:Nat):c.aA η π i j b y:=by
 have key:∀ v,c.of v=some b->c.aA η π i j b v:=by
  intro v hv;cases c with
  |int k=>
   cases v<;>simp only[CK.of]at hv<;>try(cases hv;done)
   split at hv
   ·rename_i hk;obtain rfl:=akr hk;obtain rfl:=Option.some.inj hv;exact rfl
   ·cases hv
  |bool=>cases v<;>simp only[CK.of]at hv<;>try(cases hv;done)
         obtain rfl:=Option.some.inj hv;exact rfl
  |str=>cases v<;>simp only[CK.of]at hv<;>try(cases hv;done)
        obtain rfl:=Option.some.inj hv;exact rfl
  |sl=>cases hc
 cases x<;>simp only[CK.fX]at h<;>try(cases h;done)
 ·obtain⟨rfl,_⟩:=hy;exact key _ h
 ·obtain rfl:y= .bool true:=hy;exact key _ h
 ·obtain rfl:y= .bool false:=hy;exact key _ h
theorem qF {c:CK} (hc:c.flat=true) (x:c.ty):c.sub x=none:=by cases c<;>first|rfl|cases hc
theorem F4 {a b:Bool} (h:fu a b=true):a=true:=by cases a;exact h;rfl
theorem F5 {a b:Bool} (h:fu a b=true):b=true:=by cases a;cases h;exact h
structure FK (N:Nat) (ρ:Keys) (held:List az) (lo:Nat) (b:Bool) (tg:List CK) (x:ai tg) (j0:Nat) (ys:List Value) (cfg:Nat->Path->RI) (ix:Nat->Nat):Prop where
 aA:∀ (η:Path->RI) (π:Path) (i:Nat),(∀ j,η ((i,j0+j)::π)=cfg j [])->ai.aA η π i j0 tg x ys
 sub:∀ j C,ai.sub tg x j=some C->lo<=ix j/\∃ b',(b=true->b'=true)/\held[ix j]?=some (.arr C.te C.tg C.xs b' b')/\ρ (N+ix j)=cfg j
 inj:∀ j j' C C',ai.sub tg x j=some C->ai.sub tg x j'=some C'->ix j=ix j'->j=j'
theorem EL {st:St} {c:CK} {x:At} {K:St->c.ty->Bool->Prop} (hf:c.flat=true) (hK:lX cc st c x K):∃ v,c.fX x=some v/\K st v true:=by
 cases c with
 |sl=>cases hf
 |int k=>
  unfold lX at hK;dsimp only at hK;split at hK
  ·exact⟨_,by assumption,hK⟩
  ·exact hK.elim
 |bool=>
  unfold lX at hK;dsimp only at hK;split at hK
  ·exact⟨_,by assumption,hK⟩
  ·exact hK.elim
 |str=>
  unfold lX at hK;dsimp only at hK;split at hK
  ·exact⟨_,by assumption,hK⟩
  ·exact hK.elim
theorem IS {st:St} {e:TypeId} {tg:List CK} {x:At} {K:St->List (ai tg)->Bool->Prop} (hK:lX cc st (.sl e tg) x K):uZ cc st e tg x K:=by
 unfold lX at hK;exact hK
theorem ww {held:List az} (h:dS M w0 w ρ st held) {e:TypeId} {tg:List CK} {x:At} {y:Value} {K:St->(CK.sl e tg).ty->Bool->Prop} (hx:x.ok st.rg.length ρ y) (ci:tg≠[]) (hK:lX cc st (.sl e tg) x K):
 ∃ (an:St) (v:(CK.sl e tg).ty) (b:Bool) (η:Path->RI),K an v b/\eL st an/\(∀ C,CK.sub (.sl e tg) v=some C->dS M w0 w (aE ρ (st.rg.length+held.length) η) an (held++[.arr C.te C.tg C.xs b b]))/\
  ∀ (bU:Path->RI) (π:Path) (i j:Nat),bU ((i,j)::π)=η []->CK.aA bU π i j (.sl e tg) v y:=by
 obtain⟨an,ys,b,η,h1,h2,h3,h4⟩:=sY h hx ci (IS hK);refine⟨an,ys,b,η,h1,h2,fun C hC=>?_,fun bU π i j he=>?_⟩
 ·obtain rfl:=Option.some.inj hC;exact h3
 ·show RI.head (bU ((i,j)::π)) 0 _ y;rw[he];exact h4
theorem Ot {e:TypeId} {tg:List CK} (v:(CK.sl e tg).ty):∃ C,CK.sub (.sl e tg) v=some C:=⟨_,rfl⟩
theorem zW:∀ {tg:List CK} {st:St} {ρ:Keys} {held:List az} {l:List At} {ys:List Value} {K:St->ai tg->Bool->Prop} (j0:Nat),bZ CK.ne tg=true->dS M w0 w ρ st held->be (At.ok st.rg.length ρ) l ys->uI cc tg st l K->
 ∃ (an:St) (x:ai tg) (b:Bool) (items:List az) (ρ':Keys) (cfg:Nat->Path->RI) (ix:Nat->Nat),K an x b/\eL st an/\dS M w0 w ρ' an (held++items)/\(∀ r,r<st.rg.length+held.length->ρ' r=ρ r)/\
  FK st.rg.length ρ' (held++items) held.length b tg x j0 ys cfg ix:=by
 intro tg;induction tg with
 |nil=>
  intro st ρ held l ys K j0 _ h hl hK;cases l with
  |cons=>exact hK.elim
  |nil=>
   cases ys with
   |cons=>exact hl.elim
   |nil=>
    exact⟨st,(),true,[],ρ,fun _ _=>iC,fun _=>0,hK,eL.refl _,by simpa using h,fun _ _=>rfl,⟨fun _ _ _ _=>rfl,fun j C hC=>(by cases hC),fun j j' C C' hC=>(by cases hC)⟩⟩
 |cons c cs ih=>
  intro st ρ held l ys K j0 hne h hl hK;cases l with
  |nil=>exact hK.elim
  |cons x xs=>
   cases ys with
   |nil=>exact hl.elim
   |cons y ys=>
    simp only[bZ]at hne;split at hne;case h_2=>cases hne
    rename_i Qt;change lX cc st c x (fun st y b=>uI cc cs st xs (fun st z b'=>K st (oW c cs y z) (fu b b')))at hK
    have plain:c.flat=true->
     ∃ (an:St) (x:ai (c::cs)) (b:Bool) (items:List az) (ρ':Keys) (cfg:Nat->Path->RI) (ix:Nat->Nat),K an x b/\eL st an/\dS M w0 w ρ' an (held++items)/\(∀ r,r<st.rg.length+held.length->ρ' r=ρ r)/\
      FK st.rg.length ρ' (held++items) held.length b (c::cs) x j0 (y::ys) cfg ix:=by
     intro hf;obtain⟨v,hv,hK⟩:=EL hf hK
     ·obtain⟨an,z,b,items,ρ',cfg,ix,k1,k2,k3,k4,k5⟩:=ih (j0+1) hne h hl.2 hK;refine⟨an,oW c cs v z,fu true b,items,ρ',fun j=>match j with|0=>fun _=>iC|j+1=>cfg j,fun j=>match j with|0=>0|j+1=>ix j,k1,k2,k3,k4,⟨fun η π i lT=>?_,fun j C hC=>?_,fun j j' C C' hC hC' he=>?_⟩⟩
      ·exact uN (HM hf hv hl.1 _ _ _ _) (k5.aA η π i fun j=>by have:=lT (j+1);rw[show j0+1+j=j0+(j+1) by omega];exact this)
      ·cases j with
       |zero=>rw[lY,qF hf]at hC;cases hC
       |succ j=>rw[ig]at hC;exact k5.sub j C hC
      ·cases j with
       |zero=>rw[lY,qF hf]at hC;cases hC
       |succ j=>
        cases j' with
        |zero=>rw[lY,qF hf]at hC';cases hC'
        |succ j'=>rw[ig]at hC hC';rw[k5.inj j j' C C' hC hC' he]
    cases c with
    |int k=>exact plain rfl
    |bool=>exact plain rfl
    |str=>exact plain rfl
    |sl e bX=>
     have ci:bX≠[]:=by rintro rfl;cases Qt
     obtain⟨aIT,v,b1,OJ,k1,k2,k3,k4⟩:=ww h hl.1 ci hK;obtain⟨C0,PI⟩:=Ot v;have k3:=k3 C0 PI;have agM:be (At.ok aIT.rg.length (aE ρ (st.rg.length+held.length) OJ)) xs ys:=rA (by rw[k2.len];exact Nat.le_refl _) (fun r hr π=>by rw[bB (by omega)]) hl.2
     obtain⟨an,z,b,items,ρ',cfg,ix,m1,m2,m3,m4,m5⟩:=ih (j0+1) hne k3 agM k1;rw[k2.len]at m4 m5;have hN:(held++[az.arr C0.te C0.tg C0.xs b1 b1]).length=held.length+1:=by simp
     have lT:ρ' (st.rg.length+held.length)=OJ:=by rw[m4 _ (by rw[hN];omega),aF]
     refine⟨an,oW (.sl e bX) cs v z,fu b1 b,.arr C0.te C0.tg C0.xs b1 b1::items,ρ',fun j=>match j with|0=>OJ|j+1=>cfg j,fun j=>match j with|0=>held.length|j+1=>ix j,m1,k2.trans m2,by simpa using m3,
      fun r hr=>by rw[m4 r (by rw[hN];omega),bB hr],⟨fun η π i lT=>?_,fun j C hC=>?_,fun j j' C C' hC hC' he=>?_⟩⟩
     ·refine uN (c:=.sl e bX) ?_ (m5.aA η π i fun j=>by have:=lT (j+1);rw[show j0+1+j=j0+(j+1) by omega];exact this)
      exact k4 η π i j0 (lT 0)
     ·cases j with
      |zero=>
       rw[lY,PI]at hC;obtain rfl:=Option.some.inj hC;exact⟨Nat.le_refl _,b1,F4,by simp,lT⟩
      |succ j=>
       rw[ig]at hC;obtain⟨h1,b',h2,h3,h4⟩:=m5.sub j C hC;exact⟨by rw[hN]at h1;exact Nat.le_of_succ_le h1,b',fun hb=>h2 (F5 hb),by simpa using h3,h4⟩
     ·cases j with
      |zero=>
       cases j' with
       |zero=>rfl
       |succ j'=>
        rw[ig]at hC';have:=(m5.sub j' C' hC').1;rw[hN]at this;have he':held.length=ix j':=he;omega
      |succ j=>
       cases j' with
       |zero=>
        rw[ig]at hC;have:=(m5.sub j C hC).1;rw[hN]at this;have he':ix j=held.length:=he;omega
       |succ j'=>rw[ig]at hC hC';rw[m5.inj j j' C C' hC hC' he]
structure CZ (N:Nat) (ρ:Keys) (held:List az) (lo:Nat) (b:Bool) (tg:List CK) (xs:List (ai tg)) (i0:Nat) (a8:List (List Value)) (cfg:Nat->Nat->Path->RI) (ix:Nat->Nat->Nat):Prop where
 len:a8.length=xs.length
 aA:∀ (η:Path->RI) (π:Path),(∀ i j,η ((i0+i,j)::π)=cfg i j [])->∀ i,i<xs.length->∃ ys,a8[i]?=some ys/\ai.aA η π (i0+i) 0 tg (xs.getD i (ai.d tg)) ys
 sub:∀ i j C,i<xs.length->ai.sub tg (xs.getD i (ai.d tg)) j=some C->lo<=ix i j/\∃ b',(b=true->b'=true)/\held[ix i j]?=some (.arr C.te C.tg C.xs b' b')/\ρ (N+ix i j)=cfg i j
 inj:∀ i j i' j' C C',i<xs.length->i'<xs.length->ai.sub tg (xs.getD i (ai.d tg)) j=some C->ai.sub tg (xs.getD i' (ai.d tg)) j'=some C'->ix i j=ix i' j'->i=i'/\j=j'
theorem Lg {st an:St} (h:eL st an) (o:Operand):ev an o=ev st o:=by
 cases o<;>simp only[ev,h.tm]
theorem vu {tg:List CK} (hne:bZ CK.ne tg=true):∀ {parts:List (Nat×Operand)} {pos:Nat} {st:St} {ρ:Keys} {held:List az} {K:St->List (ai tg)->Bool->Prop},dS M w0 w ρ st held->
 (∀ o x,ev st o=some x->x.ok st.rg.length ρ (a.eval o))->Fi cc tg pos parts st K->
 ∃ (an:St) (xs:List (ai tg)) (b:Bool) (items:List az) (ρ':Keys) (cfg:Nat->Nat->Path->RI) (ix:Nat->Nat->Nat),K an xs b/\eL st an/\dS M w0 w ρ' an (held++items)/\(∀ r,r<st.rg.length+held.length->ρ' r=ρ r)/\
  CZ st.rg.length ρ' (held++items) held.length b tg xs pos (parts.map fun p=>(a.eval p.2).cells.toList) cfg ix/\(parts.map Prod.fst)=List.range' pos xs.length:=by
 intro parts;induction parts with
 |nil=>
  intro pos st ρ held K h _ hK;exact⟨st,[],true,[],ρ,fun _ _ _=>iC,fun _ _=>0,hK,eL.refl _,by simpa using h,fun _ _=>rfl,⟨rfl,fun _ _ _ i hi=>(by simp at hi),fun i j C hi=>(by simp at hi),fun i j i' j' C C' hi=>(by simp at hi)⟩,rfl⟩
 |cons io rest ih=>
  intro pos st ρ held K h aag hK;obtain⟨i,o⟩:=io;change (match Nat.beq i pos,ev st o with
    |true,some x=>
     (match iu x with
      |some l=>uI cc tg st l (fun st a b=>Fi cc tg (pos+1) rest st (fun st xs b'=>K st (a::xs) (fu b b')))
      |none=>False)
    |_,_=>False)at hK
  split at hK
  ·rename_i x hi hx;obtain rfl:=Nat.eq_of_beq_eq_true hi;split at hK
   ·rename_i l hl;obtain⟨c1,_,_⟩:=eZ (aag o x hx) hl;obtain⟨aIT,y,b1,oB,aCb,Qo,NK,k1,k2,k3,k4,k5⟩:=zW 0 hne h c1 hK;have Qv:∀ o x,ev aIT o=some x->x.ok aIT.rg.length aCb (a.eval o):=fun o x hx=>by
     rw[Lg k2]at hx;exact(aag o x hx).mono (by rw[k2.len];exact Nat.le_refl _) (fun r hr π=>by rw[k4 r (by omega)])
    obtain⟨an,xs,b,items,ρ',cfg,ix,m1,m2,m3,m4,m5,m6⟩:=ih k3 Qv k1;rw[k2.len]at m4 m5;have hN:(held++oB).length=held.length+oB.length:=by simp
    have hold:∀ q,q<(held++oB).length->ρ' (st.rg.length+q)=aCb (st.rg.length+q):=fun q hq=>m4 _ (by omega)
    have eN:∀ q g,(held++oB)[q]?=some g->(held++(oB++items))[q]?=some g:=fun q g hq=>by
     rw[<-List.append_assoc,List.getElem?_append_left (List.getElem?_eq_some_iff.1 hq).1];exact hq
    refine⟨an,y::xs,fu b1 b,oB++items,ρ',fun i=>match i with|0=>Qo|i+1=>cfg i,fun i=>match i with|0=>NK|i+1=>ix i,m1,k2.trans m2,by simpa using m3,
     fun r hr=>by rw[m4 r (by rw[hN];omega),k4 r hr],⟨by simp[m5.len],fun η π lT k hk=>?_,fun k j C hk hC=>?_,fun k j k' j' C C' hk hk' hC hC' he=>?_⟩,?_⟩
    ·cases k with
     |zero=>exact⟨_,rfl,k5.aA η π i fun j=>by have:=lT 0 j;simpa using this⟩
     |succ k=>
      obtain⟨ys,h1,h2⟩:=m5.aA η π (fun k j=>by have:=lT (k+1) j;rw[show i+1+k=i+(k+1) by omega];exact this) k (by simpa using hk)
      exact⟨ys,by simpa using h1,by rw[show i+(k+1)=i+1+k by omega];simpa using h2⟩
    ·cases k with
     |zero=>
      obtain⟨h1,b',h2,h3,h4⟩:=k5.sub j C (by simpa using hC)
      exact⟨h1,b',fun hb=>h2 (F4 hb),eN _ _ h3,(hold _ (List.getElem?_eq_some_iff.1 h3).1).trans h4⟩
     |succ k=>
      obtain⟨h1,b',h2,h3,h4⟩:=m5.sub k j C (by simpa using hk) (by simpa using hC)
      exact⟨by rw[hN]at h1;exact Nat.le_trans (Nat.le_add_right _ _) h1,b',fun hb=>h2 (F5 hb),by simpa using h3,h4⟩
    ·cases k with
     |zero=>
      cases k' with
      |zero=>exact⟨rfl,k5.inj j j' C C' (by simpa using hC) (by simpa using hC') he⟩
      |succ k'=>
       obtain⟨_,_,_,h3,_⟩:=k5.sub j C (by simpa using hC)
       have h4:=(List.getElem?_eq_some_iff.1 h3).1;have:=(m5.sub k' j' C' (by simpa using hk') (by simpa using hC')).1
       have he':NK j=ix k' j':=he;omega
     |succ k=>
      cases k' with
      |zero=>
       obtain⟨_,_,_,h3,_⟩:=k5.sub j' C' (by simpa using hC')
       have h4:=(List.getElem?_eq_some_iff.1 h3).1;have:=(m5.sub k j C (by simpa using hk) (by simpa using hC)).1
       have he':ix k j=NK j':=he;omega
      |succ k'=>
       obtain⟨e1,e2⟩:=m5.inj k j k' j' C C' (by simpa using hk) (by simpa using hk') (by simpa using hC) (by simpa using hC') he
       exact⟨by rw[e1],e2⟩
    ·simp only[List.map_cons,List.length_cons,List.range'_succ,m6]
   ·exact hK.elim
  ·exact hK.elim
theorem dS.Lt {held items:List az} {N:Nat} {te:TypeId} {tg:List CK} (ci:tg≠[]) {xs:List (ai tg)} {b:Bool} {a8:List (List Value)} {cfg:Nat->Nat->Path->RI} {ix:Nat->Nat->Nat}
 (h:dS M w0 w ρ st (held++items)) (hN:st.rg.length=N) (hf:CZ N ρ (held++items) held.length b tg xs 0 a8 cfg ix) {w':World} (hb:Below w.heap.size w w') {I:RI}
 (hm:I.m=tg.length) (hv:I.aC=false) (hcap:xs.length<=I.cap) (hblk:w.heap.size<=I.b) (hsz:I.b<w'.heap.size) (aah:bY M w0 w' I) (AR:Whole w' I te)
 (hc:∀ i,i<xs.length->∀ ys,a8[i]?=some ys->∀ s y,ys[s]?=some y->w'.cell? (I.at (i*I.m+s))=some y):
 cA M w0 N (aE ρ (N+held.length) (gl I cfg)) (st.rg++held++[.arr te tg xs true b]) w':=by
 have hr:=h.rs.cX hb.size hb.block;rw[hN]at hr;have jk:cA M w0 N ρ (st.rg++held) w':=by rw[<-List.append_assoc]at hr;exact hr.front
 have hl:(st.rg++held).length=N+held.length:=by simp[hN]
 have deep:∀ (σ:Path) (i j:Nat) (C:Ar),Ar.has ⟨te,tg,xs⟩ (σ++[(i,j)]) C->∃ D b',i<xs.length/\ai.sub tg (xs.getD i (ai.d tg)) j=some D/\D.has σ C/\(b=true->b'=true)/\held.length<=ix i j/\
  (st.rg++(held++items))[N+ix i j]?=some (.arr D.te D.tg D.xs b' b')/\(∀ τ,ρ (N+ix i j) τ=gl I cfg (τ++[(i,j)])):=by
  intro σ i j C hC;obtain⟨D,h1,h2,h3⟩:=dH.1 hC;obtain⟨h4,b',h5,h6,h7⟩:=hf.sub i j D h1 h2;refine⟨D,b',h1,h2,h3,h5,h4,?_,fun τ=>by rw[fJ,h7]⟩
  rw[List.getElem?_append_right (by omega),hN,Nat.add_sub_cancel_left];exact h6
 have ii:∀ {D:Ar} {b':Bool} {σ:Path} {C:Ar},D.has σ C->(az.arr D.te D.tg D.xs b' b').has σ b' (.arr C):=fun{D b' σ C} hD=>⟨by cases σ<;>rfl,C,hD,rfl⟩
 rw[<-hl];refine jk.snoc (Nat.le_refl _) (by simp[hN]) ?_ ?_ ?_ ?_ ?_ ?_
 ·rintro π o B ⟨_,A,hA,rfl⟩;show A.aA w' (aE ρ (st.rg++held).length (gl I cfg) (st.rg++held).length) π;rw[aF];rcases de π with rfl|⟨σ,i,j,rfl⟩
  ·obtain rfl:A=⟨te,tg,xs⟩:=hA;refine⟨ci,by rw[aac];exact hm,(fun hh=>by rw[aac,hv]at hh;cases hh),(fun _=>by rw[aac];exact hcap),fun i hi=>?_⟩
   obtain⟨ys,h1,h2⟩:=hf.aA (gl I cfg) [] (fun i j=>by rw[Nat.zero_add];exact fJ (σ:=[])) i hi
   rw[Nat.zero_add]at h2;exact⟨ys,h2,fun s y hy=>by rw[aac];exact hc i hi ys h1 s y hy⟩
  ·obtain⟨D,b',h1,h2,h3,_,_,h6,h7⟩:=deep σ i j A hA;have:=hr.blk _ _ σ b' (.arr A) h6 (ii h3);have this:A.aA w' (ρ (N+ix i j)) σ:=this;exact⟨this.tg,by rw[<-h7];exact this.m,by rw[<-h7];exact this.aC,by rw[<-h7];exact this.len,fun k hk=>by
    obtain⟨ys,k1,k2⟩:=this.cell k hk;refine⟨ys,?_,by rw[<-h7];exact k2⟩
    have gen:∀ (tg:List CK) (j':Nat) (x:ai tg) (ys:List Value),ai.aA (ρ (N+ix i j)) σ k j' tg x ys->ai.aA (gl I cfg) (σ++[(i,j)]) k j' tg x ys:=by
     have one:∀ (c:CK) (j':Nat) (x:c.ty) (y:Value),c.aA (ρ (N+ix i j)) σ k j' x y->c.aA (gl I cfg) (σ++[(i,j)]) k j' x y:=by
      intro c j' x y hx;cases c with
      |sl e t=>
       show RI.head (gl I cfg ((k,j')::(σ++[(i,j)]))) 0 _ _;rw[<-List.cons_append,<-h7];exact hx
      |_=>exact hx
     intro tg;induction tg with
     |nil=>intro j' x ys h;exact h
     |cons c cs ih=>
      intro j' x ys h;cases cs with
      |nil=>obtain⟨y,e1,e2⟩:=h;exact⟨y,e1,one c _ _ _ e2⟩
      |cons c' cs=>obtain⟨y,ys',e1,e2,e3⟩:=h;exact⟨y,ys',e1,one c _ _ _ e2,ih _ _ _ e3⟩
    exact gen _ _ _ _ k1⟩
 ·rintro π o B ⟨_,A,hA,rfl⟩ dV;rcases de π with rfl|⟨σ,i,j,rfl⟩
  ·rw[aac];exact hsz
  ·obtain⟨D,b',h1,h2,h3,_,_,h6,h7⟩:=deep σ i j A hA;rw[<-h7]at dV ⊢;exact hr.lt _ _ σ b' (.arr A) h6 (ii h3) dV
 ·rintro π B ⟨ho,A,hA,rfl⟩ dV;rcases de π with rfl|⟨σ,i,j,rfl⟩
  ·obtain rfl:A=⟨te,tg,xs⟩:=hA;rw[aac];exact⟨aah,AR⟩
  ·obtain⟨D,b',h1,h2,h3,h4,_,h6,h7⟩:=deep σ i j A hA;have hb':b=true:=by cases σ<;>exact ho.symm
   obtain rfl:=h4 hb';rw[<-h7]at dV ⊢;exact hr.own _ _ σ (.arr A) h6 (ii h3) dV
 ·rintro π B ⟨ho,A,hA,rfl⟩ dV r' g' aW o' B' k1 k2 v';rcases de π with rfl|⟨σ,i,j,rfl⟩
  ·rw[aac];have hlt:=h.rs.lt r' g' aW o' B' (by rw[<-List.append_assoc,List.getElem?_append_left (List.getElem?_eq_some_iff.1 k1).1];exact k1) k2 v'
   omega
  ·obtain⟨D,b',h1,h2,h3,h4,h5,h6,h7⟩:=deep σ i j A hA;have hb':b=true:=by cases σ<;>exact ho.symm
   obtain rfl:=h4 hb';rw[<-h7]at dV ⊢;have hlt:=(List.getElem?_eq_some_iff.1 k1).1;exact hr.dj _ r' _ g' σ aW o' (.arr A) B' h6 (by rw[<-List.append_assoc,List.getElem?_append_left hlt];exact k1) (ii h3) k2 dV v' (fun e=>by rw[hl]at hlt;omega)
 ·rintro π o B ⟨_,A,hA,rfl⟩ dV r' g' aW B' k1 k2 v';rcases de π with rfl|⟨σ,i,j,rfl⟩
  ·rw[aac];have hlt:=h.rs.lt r' g' aW true B' (by rw[<-List.append_assoc,List.getElem?_append_left (List.getElem?_eq_some_iff.1 k1).1];exact k1) k2 v'
   omega
  ·obtain⟨D,b',h1,h2,h3,h4,h5,h6,h7⟩:=deep σ i j A hA;rw[<-h7]at dV ⊢;have hlt:=(List.getElem?_eq_some_iff.1 k1).1;exact hr.dj r' _ g' _ aW σ b' B' (.arr A) (by rw[<-List.append_assoc,List.getElem?_append_left hlt];exact k1) h6 k2 (ii h3) v' dV (fun e=>by rw[hl]at hlt;omega)
 ·rintro π aW o' B B' ⟨ho,A,hA,rfl⟩ ⟨_,A',nu,rfl⟩ v v' hne;rcases de π with rfl|⟨σ,i,j,rfl⟩<;>rcases de aW with rfl|⟨σ',i',j',rfl⟩
  ·exact absurd rfl hne
  ·obtain⟨D,b',h1,h2,h3,h4,h5,h6,h7⟩:=deep σ' i' j' A' nu;rw[aac];rw[<-h7]at v' ⊢;have:=h.rs.lt _ _ σ' b' (.arr A') h6 (ii h3) v';omega
  ·obtain⟨D,b',h1,h2,h3,h4,h5,h6,h7⟩:=deep σ i j A hA;rw[aac];rw[<-h7]at v ⊢;have:=h.rs.lt _ _ σ b' (.arr A) h6 (ii h3) v;omega
  ·obtain⟨D,b1,h1,h2,h3,h4,h5,h6,h7⟩:=deep σ i j A hA;obtain⟨D',b2,k1,k2,k3,k4,k5,k6,k7⟩:=deep σ' i' j' A' nu;have hb':b=true:=by cases σ<;>exact ho.symm
   obtain rfl:=h4 hb';rw[<-h7]at v ⊢;rw[<-k7]at v' ⊢;refine hr.dj _ _ _ _ σ σ' b2 (.arr A) (.arr A') h6 k6 (ii h3) (ii k3) v v' (fun e=>hne ?_)
   obtain⟨e1,e2⟩:=hf.inj i j i' j' D D' h1 k1 h2 k2 (by omega)
   rw[e.2,e1,e2]
end
end Go.Sy
end
