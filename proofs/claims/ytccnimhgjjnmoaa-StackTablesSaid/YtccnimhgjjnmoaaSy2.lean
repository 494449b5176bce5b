/-
  Texts of the claims: Sy2. No condition: lemmas and contracts.
-/
import Derived.Test.YtccnimhgjjnmoaaSy1
import Derived.Laws.Slices
import Derived.Laws.MakeOwn
set_option linter.all false
set_option maxRecDepth 100000
set_option maxHeartbeats 40000000
section
namespace Go.Sy
open Go Go.MapKept
universe u
section
variable {P:Program} {w:World}
theorem vo {d:Nat}:∀ (fs:List Field) (off:Nat) (ks:List Nat),jh (dB P d) P fs off=some ks->∀ xs:List Value,eD ks (xs.drop off)->off<=xs.length->
 ∀ f∈fs,f.name≠ "_" /\∃ pV KK,dB P d f.type=some pV/\eD pV KK/\(part f.type xs.toArray f.offset).run P w= .ok (valOf P f.type KK) w
 |[],_,_,_,_,_,_,f,hf=>by simp at hf
 |g::fs,off,ks,hk,xs,hv,hl,f,hf=>by
  unfold jh at hk;split at hk
  ·rename_i pV i hn ho hr hi;split at hk
   ·rename_i r hsz xT;obtain rfl:=Option.some.inj hk;have mJ:g.offset=off:=Nat.eq_of_beq_eq_true ho;have wI:i.size=pV.length:=Nat.eq_of_beq_eq_true hsz;obtain⟨v1,v2⟩:=nh hv;have hlen:=hv.length;rw[List.length_append,List.length_drop]at hlen;rw[List.drop_drop]at v2;have ih:=vo fs (off+pV.length) r xT xs v2 (by omega)
    have hne:g.name≠ "_" :=by simpa using hn
    rcases List.mem_cons.1 hf with rfl|hf
    ·exact⟨hne,pV,_,hr,v1,by rw[mJ];exact ua hr hi wI xs off (by omega) w⟩
    ·exact ih f hf
   ·cases hk
  ·cases hk
theorem kA (em:Bool):∀ (d D:Nat),d<=D->∀ (t:TypeId) (ks:List Nat),dB P d t=some ks->∀ ys:List Value,eD ks ys->(Instr.checkKey em D t (valOf P t ys)).run P w= .ok () w
 |0,_,_,_,_,hk,_,_=>by cases hk
 |d+1,0,hD,_,_,_,_,_=>by omega
 |d+1,D+1,hD,t,ks,hk,ys,hv=>by
  unfold dB at hk;split at hk
  ·rename_i c hc;obtain rfl:=Option.some.inj hk
   match ys,hv with
   |[y],hv=>
    obtain⟨hy,_⟩:=hv;simp only[valOf,hc,List.headD_cons];unfold eO at hc;split at hc
    ·rename_i hu;cases y<;>simp[Instr.checkKey,run_underlying hu]
    ·rename_i hu;cases y<;>simp[Instr.checkKey,run_underlying hu]
    ·rename_i hu;cases y<;>simp[Instr.checkKey,run_underlying hu]
    ·cases hc
  ·rename_i hc;split at hk
   ·rename_i fs hu hp;simp only[valOf,hc];rw[Instr.checkKey];simp only[Sem.run_bind,run_underlying hu,Result.andThen_ok];rw[<-Array.forIn_toList];have each:=vo (w:=w) fs.toList 0 ks hk ys (by simpa using hv) (Nat.zero_le _)
    generalize fs.toList=L at each;induction L with
    |nil=>simp
    |cons f L ih=>
     obtain⟨hn,pV,KK,k1,k2,k3⟩:=each f (by simp)
     have p2:=kA em d D (by omega) f.type pV k1 KK k2
     simp only[List.forIn_cons,Sem.run_bind,hn,ne_eq,not_false_eq_true,if_true,Result.andThen_ok,k3,p2,Sem.run_pure];exact ih (fun y hy=>each y (by simp[hy]))
   ·cases hk
end
/-! ### Keys' values -/
section
variable {ρ:Keys}
theorem tQ {N:Nat} {c:CK} {x:At} {v:c.ty} {y:Value} (h:c.fX x=some v) (hy:x.ok N ρ y):y=c.val v:=by
 have key:∀ u,c.of u=some v->u=c.val v:=by
  intro u hu;cases c with
  |int k=>
   cases u<;>simp only[CK.of]at hu<;>try(cases hu;done)
   split at hu
   ·rename_i hk;obtain rfl:=akr hk;obtain rfl:=Option.some.inj hu;rfl
   ·cases hu
  |bool=>cases u<;>simp only[CK.of]at hu<;>try(cases hu;done)
         obtain rfl:=Option.some.inj hu;rfl
  |str=>cases u<;>simp only[CK.of]at hu<;>try(cases hu;done)
        obtain rfl:=Option.some.inj hu;rfl
  |sl=>cases u<;>cases hu
 cases x<;>simp only[CK.fX]at h<;>try(cases h;done)
 ·obtain⟨rfl,_⟩:=hy;exact key _ h
 ·obtain rfl:y= .bool true:=hy;exact key _ h
 ·obtain rfl:y= .bool false:=hy;exact key _ h
theorem mU {N:Nat}:∀ {kk:List CK} {l:List At} {k:ai kk} {ys:List Value},eu kk l=some k->be (At.ok N ρ) l ys->ys=ai.a8 kk k:=by
 intro kk;induction kk with
 |nil=>
  intro l k ys h hl;cases l with
  |nil=>cases ys with|nil=>rfl|cons=>exact hl.elim
  |cons=>cases h
 |cons c cs ih=>
  intro l k ys h hl;cases cs with
  |nil=>
   match l,h,ys,hl with
   |[x],h,[y],hl=>
    have h:c.fX x=some k:=h;show[y]=[c.val k];rw[tQ h hl.1]
   |x::_::_,h,_,_=>cases h
  |cons c' cs=>
   cases l with
   |nil=>cases h
   |cons x xs=>
    cases ys with
    |nil=>exact hl.elim
    |cons y ys=>
     have h:(match c.fX x,eu (c'::cs) xs with|some y,some z=>some ((y,z):c.ty×ai (c'::cs))|_,_=>none)=some k:=h
     split at h
     ·rename_i u v h1 h2;obtain rfl:=Option.some.inj h;show y::ys=c.val u::ai.a8 (c'::cs) v;rw[tQ h1 hl.1,ih h2 hl.2]
     ·cases h
end
theorem nM:∀ {kk:List CK} {ns:List Nat},kr kk ns=true->∀ x y:ai kk,eD ns (ai.a8 kk x)/\eB (ai.a8 kk x) (ai.a8 kk y)=some (ai.beq kk x y)/\(ai.beq kk x y=true->x=y):=by
 have one:∀ {c:CK} {n:Nat},kr [c] [n]=true->∀ x y:c.ty,pM (c.val x)=some n/\rQ (c.val x) (c.val y)=some (c.beq x y)/\(c.beq x y=true->x=y):=by
  intro c n h x y;cases c with
  |int k=>
   obtain rfl:n=0:=by
    match n,h with
    |0,_=>rfl
   exact⟨rfl,by simp[CK.val,rQ,CK.beq],fun hh=>eq_of_beq (α:=Int) hh⟩
  |bool=>
   obtain rfl:n=1:=by
    match n,h with
    |1,_=>rfl
   exact⟨rfl,by simp[CK.val,rQ,CK.beq],fun hh=>eq_of_beq (α:=Bool) hh⟩
  |str=>
   obtain rfl:n=2:=by
    match n,h with
    |2,_=>rfl
   refine⟨rfl,by simp[CK.val,rQ,CK.beq],fun hh=>?_⟩
   have e:∀ a b:ByteArray,a.toList=b.toList->a=b:=by
    intro a b h;rw[ByteArray.toList_eq,ByteArray.toList_eq]at h;cases a;cases b
    congr 1
    exact Array.ext' h
   exact e x y (eq_of_beq hh)
  |sl=>cases h
 intro kk;induction kk with
 |nil=>
  intro ns h x y;cases ns with
  |nil=>exact⟨trivial,rfl,fun _=>rfl⟩
  |cons=>cases h
 |cons c cs ih=>
  intro ns h x y;cases ns with
  |nil=>cases c<;>cases h
  |cons n ns=>
   have h1:kr [c] [n]=true/\kr cs ns=true:=by
    cases c<;>(first|(cases h;done)|skip)
    all_goals
     match n,h with
     |0,h=>first|exact⟨rfl,h⟩|cases h
     |1,h=>first|exact⟨rfl,h⟩|cases h
     |2,h=>first|exact⟨rfl,h⟩|cases h
     |n+3,h=>cases h
   cases cs with
   |nil=>
    cases ns with
    |cons=>cases h1.2
    |nil=>
     obtain⟨a1,a2,a3⟩:=one h1.1 x y;refine⟨⟨a1,trivial⟩,?_,a3⟩;show eB [c.val x] [c.val y]=_;simp only[eB,a2,Bool.and_true];rfl
   |cons c' cs=>
    obtain⟨a1,a2,a3⟩:=one h1.1 x.1 y.1;obtain⟨b1,b2,b3⟩:=ih h1.2 x.2 y.2;refine⟨⟨a1,b1⟩,?_,fun hh=>?_⟩
    ·show eB (c.val x.1::ai.a8 (c'::cs) x.2) (c.val y.1::ai.a8 (c'::cs) y.2)=_;simp only[eB,a2,b2];rfl
    ·have hh:(c.beq x.1 y.1&&ai.beq (c'::cs) x.2 y.2)=true:=hh;rw[Bool.and_eq_true]at hh;exact Prod.ext (a3 hh.1) (b3 hh.2)
section
variable {α:Type} {kk:List CK} {k:ai kk}
theorem mN (p:ai kk×α) (es:List (ai kk×α)):br kk k (p::es)=match ai.beq kk k p.1 with|true=>0|false=>br kk k es+1:=rfl
theorem A3 (es:List (ai kk×α)):br kk k es<=es.length:=by
 induction es with
 |nil=>exact Nat.le_refl _
 |cons p es ih=>
  rw[mN];split
  ·exact Nat.zero_le _
  ·simp;exact ih
theorem DM:∀ (es:List (ai kk×α)) (p:ai kk×α),es[br kk k es]?=some p->ai.beq kk k p.1=true
 |[],p,h=>by simp at h
 |q::es,p,h=>by
  rw[mN]at h;split at h
  ·rename_i hq;simp at h;subst h;exact hq
  ·exact DM es p (by simpa using h)
theorem mO (v:α):∀ (es:List (ai kk×α)) (j:Nat),(fL kk k v es)[j]?=if j=br kk k es then some ((match es[j]? with|some p=>p.1|none=>k),v)else es[j]?
 |[],j=>by
  cases j with
  |zero=>rfl
  |succ j=>simp[fL,br,jM]
 |p::es,j=>by
  rw[mN];unfold fL;cases hb:ai.beq kk k p.1 with
  |true=>
   cases j with
   |zero=>rfl
   |succ j=>simp
  |false=>
   cases j with
   |zero=>simp
   |succ j=>
    have:=mO v es j;simp only[List.getElem?_cons_succ,this,Nat.add_right_cancel_iff]
theorem nU (v:α) (es:List (ai kk×α)):(fL kk k v es).length=if br kk k es<es.length then es.length else es.length+1:=by
 induction es with
 |nil=>rfl
 |cons p es ih=>
  rw[mN];unfold fL;cases hb:ai.beq kk k p.1 with
  |true=>simp
  |false=>
   simp only[List.length_cons,ih,Nat.add_lt_add_iff_right];split<;>rfl
end
section
variable {P:Program} {w:World}
structure rV (P:Program) (kt:TypeId) (kk:List CK) (ns:List Nat):Prop where
 kk:kr kk ns=true
 eq:dB P 8 kt=some ns
 lf:eO P kt=none
theorem AZ {kt:TypeId} {kk:List CK} {ns:List Nat} (h:rV P kt kk ns):∃ fs,P.underlying kt=some (.struct fs):=by
 have:=h.eq;unfold dB at this;rw[h.lf]at this;simp only at this;split at this
 ·exact⟨_,‹_›⟩
 ·cases this
theorem j8 {α:Type} {kt:TypeId} {kk:List CK} {ns:List Nat} (h:rV P kt kk ns) (k:ai kk):∀ (es:List (ai kk×α)) (aD:List MapEntry) (i:Nat),be (fun p (e:MapEntry)=>e.key= .agg (ai.a8 kk p.1).toArray) es aD->
 (Instr.findAsking kt (.agg (ai.a8 kk k).toArray) aD i).run P w= .ok (match aD[br kk k es]? with|some e=>some (i+br kk k es,e.val)|none=>none) w
 |[],[],_,_=>rfl
 |p::es,e::aD,i,hl=>by
  obtain⟨h1,h2⟩:=hl;obtain⟨v1,v2,_⟩:=nM h.kk k p.1;have heq:=lM 8 10000 (by decide) kt ns h.eq _ _ _ v1 v2 w
  simp only[valOf,h.lf]at heq;have ih:=j8 h k es aD (i+1) h2;rw[mN];simp only[Instr.findAsking,Sem.run_bind,h1,Op.equal,Op.maxDepth,heq,Result.andThen_ok];split
  ·rename_i hb;simp[hb]
  ·rename_i hb;simp only[hb,Bool.false_eq_true,if_false,List.getElem?_cons_succ];rw[ih];cases aD[br kk k es]? with
   |none=>rfl
   |some e=>simp only;rw[Nat.add_assoc,Nat.add_comm 1]
theorem mZ {α:Type} {kt:TypeId} {kk:List CK} {ns:List Nat} (h:rV P kt kk ns) (k:ai kk) (es:List (ai kk×α)) (aD:List MapEntry) (hl:be (fun p (e:MapEntry)=>e.key= .agg (ai.a8 kk p.1).toArray) es aD):
 (Instr.findKey kt (.agg (ai.a8 kk k).toArray) aD).run P w= .ok (match aD[br kk k es]? with|some e=>some (br kk k es,e.val)|none=>none) w:=by
 obtain⟨fs,hu⟩:=AZ h;have h1:=j8 (w:=w) h k es aD 0 hl;have:(Instr.findKey kt (.agg (ai.a8 kk k).toArray) aD).run P w=(Instr.findAsking kt (.agg (ai.a8 kk k).toArray) aD).run P w:=by
  cases aD with
  |nil=>simp[Instr.findKey,run_underlying hu,Instr.findNow,Instr.findAsking]
  |cons e es=>simp[Instr.findKey,run_underlying hu,Instr.findNow,Instr.sameNow]
 rw[this,h1];simp
theorem tc {b:Nat} {η:Path->RI} {kk tg:List CK} {es:List (ai kk×List (ai tg))} (h:kR w b η kk tg es):∃ aD:Array MapEntry,w.heap[b]?=some (.map aD aD.size)/\aD.size=es.length/\aD.toList.map (·.born)=List.range aD.size/\
 be (fun p (e:MapEntry)=>e.key= .agg (ai.a8 kk p.1).toArray) es aD.toList/\∀ (j:Nat) (x:MapEntry),aD[j]?=some x->(η [(j,0)]).head 0 (es.getD j (ai.d kk,[])).2.length x.val:=by
 obtain⟨aD,h1,h2,h3,h4⟩:=h;refine⟨aD,h1,h2,h3,?_,fun j x hx=>(h4 j x hx).2⟩
 have gen:∀ (es:List (ai kk×List (ai tg))) (l:List MapEntry),l.length=es.length->(∀ (j:Nat) (x:MapEntry),l[j]?=some x->x.key= .agg (ai.a8 kk (es.getD j (ai.d kk,[])).1).toArray)->be (fun p (e:MapEntry)=>e.key= .agg (ai.a8 kk p.1).toArray) es l:=by
  intro es;induction es with
  |nil=>intro l hl _;cases l with|nil=>trivial|cons=>simp at hl
  |cons p es ih=>
   intro l hl hk;cases l with
   |nil=>simp at hl
   |cons e l=>
    refine⟨by simpa using hk 0 e rfl,ih l (by simpa using hl) fun j x hx=>?_⟩
    have:=hk (j+1) x (by simpa using hx)
    simpa[List.getD]using this
 exact gen es aD.toList (by simpa using h2) (fun j x hx=>(h4 j x (by simpa using hx)).1)
theorem nJ {t kt et:TypeId} {kk tg:List CK} {ns:List Nat} (hu:P.underlying t=some (.map kt et)) (hk:rV P kt kk ns) (hz:∃ i,P.info? et=some i/\i.zero=some (.slice none 0 0)) {b:Nat} {η:Path->RI} {es:List (ai kk×List (ai tg))}
 (h:kR w b η kk tg es) (k:ai kk) (ok:Bool):
 ∃ v,(∀ w':World,w'.heap[b]?=w.heap[b]?->(Instr.lookup t (.map (some b)) (.agg (ai.a8 kk k).toArray) ok).run P w'= .ok (if ok then .tuple #[v,.bool (decide (br kk k es<es.length))]else v) w')/\
  (br kk k es<es.length->(η [(br kk k es,0)]).head 0 (es.getD (br kk k es) (ai.d kk,[])).2.length v)/\(br kk k es=es.length->v= .slice none 0 0):=by
 obtain⟨aD,h1,h2,_,h4,h5⟩:=tc h;obtain⟨i,hi,Hl⟩:=hz;have mM:∀ w':World,(zeroValue et).run P w'= .ok (.slice none 0 0) w':=fun w'=>by simp[zeroValue,typeInfo,hi,Hl]
 have hf:=fun w':World=>mZ (w:=w') hk k es aD.toList h4
 have hc:∀ (w':World) em,(Instr.checkKey em 10000 kt (.agg (ai.a8 kk k).toArray)).run P w'= .ok () w':=fun w' em=>by
  have:=kA (P:=P) (w:=w') em 8 10000 (by decide) kt ns hk.eq _ (nM hk.kk k k).1
  simpa only[valOf,hk.lf]using this
 unfold Instr.lookup;cases he:aD.toList[br kk k es]? with
 |none=>
  have hl:es.length<=br kk k es:=by
   have:=List.getElem?_eq_none_iff.1 he;simpa[h2]using this
  refine⟨.slice none 0 0,fun w' fS=>?_,fun hh=>by omega,fun _=>rfl⟩
  simp only[Sem.run_bind,run_underlying hu,Result.andThen_ok,Go.MapKept.run_getObj_map (fS.trans h1),Sem.run_pure,hc,hf,he,mM,show decide (br kk k es<es.length)=false from decide_eq_false (by omega)]
 |some e=>
  have hl:br kk k es<es.length:=by
   have:=(List.getElem?_eq_some_iff.1 he).1;simpa[h2]using this
  refine⟨e.val,fun w' fS=>?_,fun _=>h5 _ e (by simpa using he),fun hh=>by omega⟩
  simp only[Sem.run_bind,run_underlying hu,Result.andThen_ok,Go.MapKept.run_getObj_map (fS.trans h1),Sem.run_pure,hc,hf,he,show decide (br kk k es<es.length)=true from decide_eq_true hl]
theorem BL {n:Nat} (k:IntKind) (x:Int):Instr.sameBits n (.int k x) (.int k x)=true:=by cases n<;>simp[Instr.sameBits]
theorem yT {n:Nat} (x:Bool):Instr.sameBits n (.bool x) (.bool x)=true:=by cases n<;>simp[Instr.sameBits]
theorem BM {n:Nat} (x:ByteArray):Instr.sameBits n (.string x) (.string x)=true:=by
 have:(x==x)=true:=(bytes_beq _ _).2 rfl;cases n<;>simpa[Instr.sameBits]using this
theorem yU {n:Nat}:∀ {kk:List CK} {ns:List Nat},kr kk ns=true->∀ x:ai kk,((ai.a8 kk x).zip (ai.a8 kk x)).all (fun(a,b)=>Instr.sameBits n a b)=true:=by
 have one:∀ {c:CK} {m:Nat},kr [c] [m]=true->∀ x:c.ty,Instr.sameBits n (c.val x) (c.val x)=true:=by
  intro c m h x;cases c with
  |sl=>cases h
  |int k=>exact BL (n:=n) k x
  |bool=>exact yT (n:=n) x
  |str=>exact BM (n:=n) x
 intro kk;induction kk with
 |nil=>intro ns _ x;rfl
 |cons c cs ih=>
  intro ns h x;cases ns with
  |nil=>cases c<;>cases h
  |cons m ns=>
   have h1:kr [c] [m]=true/\kr cs ns=true:=by
    cases c<;>(first|(cases h;done)|skip)
    all_goals
     match m,h with
     |0,h=>first|exact⟨rfl,h⟩|cases h
     |1,h=>first|exact⟨rfl,h⟩|cases h
     |2,h=>first|exact⟨rfl,h⟩|cases h
     |n+3,h=>cases h
   cases cs with
   |nil=>
    show([(c.val x,c.val x)]:List (Value×Value)).all _=true;simp[one h1.1 x]
   |cons c' cs=>
    show((c.val x.1,c.val x.1)::(ai.a8 (c'::cs) x.2).zip (ai.a8 (c'::cs) x.2)).all _=true;rw[List.all_cons];have h2:=ih h1.2 x.2;rw[Bool.and_eq_true];exact⟨one h1.1 x.1,h2⟩
theorem BK {t kt et:TypeId} {kk tg:List CK} {ns:List Nat} (hu:P.underlying t=some (.map kt et)) (hk:rV P kt kk ns) {b:Nat} {η:Path->RI} {es:List (ai kk×List (ai tg))} (h:kR w b η kk tg es) (k:ai kk) (xs:List (ai tg)) (v:Value):
 ∃ kF:Array MapEntry,(Instr.mapUpdate t (.map (some b)) (.agg (ai.a8 kk k).toArray) v).run P w= .ok () {w with heap:=w.heap.setIfInBounds b (.map kF kF.size)}/\
  ∀ bU:Path->RI,(∀ j,j≠br kk k es->bU [(j,0)]=η [(j,0)])->(bU [(br kk k es,0)]).head 0 xs.length v->∀ w':World,w'.heap[b]?=some (.map kF kF.size)->kR w' b bU kk tg (fL kk k xs es):=by
 obtain⟨aD,h1,h2,h3,h4⟩:=h;obtain⟨jB,p1,_,_,p4,_⟩:=tc (w:=w) (η:=η) ⟨aD,h1,h2,h3,h4⟩;obtain rfl:jB=aD:=by rw[h1]at p1;injection p1 with p1;injection p1 with p1;exact p1.symm
 have hf:=mZ (w:=w) hk k es jB.toList p4;have hc:(Instr.checkKey false 10000 kt (.agg (ai.a8 kk k).toArray)).run P w= .ok () w:=by
  have:=kA (P:=P) (w:=w) false 8 10000 (by decide) kt ns hk.eq _ (nM hk.kk k k).1
  simpa only[valOf,hk.lf]using this
 have hlk:=A3 (k:=k) es;unfold Instr.mapUpdate;simp only[Sem.run_bind,run_underlying hu,Result.andThen_ok,Go.MapKept.run_getObj_map h1,hc,hf];cases he:jB.toList[br kk k es]? with
 |none=>
  have hl:br kk k es=es.length:=by
   have:=List.getElem?_eq_none_iff.1 he;simp[h2]at this;omega
  refine⟨jB.push {key:=.agg (ai.a8 kk k).toArray,val:=v,born:=jB.size},?_,?_⟩
  ·simp only[Result.andThen_ok,Go.MapKept.run_setObj_map _ h1,Array.size_push]
  ·intro bU e1 e2 w' fS;refine⟨_,fS,?_,?_,fun j x hx=>?_⟩
   ·rw[nU,if_neg (by omega),Array.size_push,h2]
   ·simp[h3,List.range_succ]
   ·rw[List.getD_eq_getElem?_getD,mO];rw[Array.getElem?_push]at hx;by_cases hj:j=br kk k es
    ·rw[if_pos hj];rw[if_pos (by omega)]at hx
     obtain rfl:=Option.some.inj hx;have hn:es[j]?=none:=List.getElem?_eq_none (by omega)
     rw[hn];exact⟨rfl,by rw[hj];exact e2⟩
    ·rw[if_neg hj];rw[if_neg (by omega)]at hx
     have:=h4 j x hx;rw[<-List.getD_eq_getElem?_getD,e1 j hj];exact this
 |some e=>
  have hl:br kk k es<es.length:=by
   have:=(List.getElem?_eq_some_iff.1 he).1;simpa[h2]using this
  have AI:es[br kk k es]?=some es[br kk k es]:=List.getElem?_eq_getElem hl;have hkey:es[br kk k es].1=k:=((nM hk.kk _ _).2.2 (DM es _ AI)).symm;have Rq:e.key= .agg (ai.a8 kk k).toArray:=by
   have:=(h4 _ e (by simpa using he)).1
   rw[List.getD_eq_getElem?_getD,AI]at this;simp only[Option.getD_some,hkey]at this;exact this
  refine⟨jB.modify (br kk k es) fun e=>{e with key:=.agg (ai.a8 kk k).toArray,val:=v},?_,?_⟩
  ·have hks:(Instr.keyThatStays (.agg (ai.a8 kk k).toArray) (.agg (ai.a8 kk k).toArray)).run P w= .ok (.agg (ai.a8 kk k).toArray) w:=by
    have:Instr.sameBits 10000 (.agg (ai.a8 kk k).toArray) (.agg (ai.a8 kk k).toArray)=true:=by
     have:=yU (n:=9999) hk.kk k;simp only[Instr.sameBits,beq_self_eq_true,Bool.true_and];exact this
    simp[Instr.keyThatStays,this]
   simp only[Result.andThen_ok,Sem.run_bind];have:((jB[br kk k es]?).map (·.key)).getD (.agg (ai.a8 kk k).toArray)= .agg (ai.a8 kk k).toArray:=by
    rw[show jB[br kk k es]?=some e by simpa using he];simp[Rq]
   rw[this,hks];simp only[Result.andThen_ok,Go.MapKept.run_setObj_map _ h1,Array.size_modify]
  ·intro bU e1 e2 w' fS;refine⟨_,fS,?_,?_,fun j x hx=>?_⟩
   ·rw[nU,if_pos hl,Array.size_modify,h2]
   ·rw[Array.size_modify,<-h3];apply List.ext_getElem?;intro i;simp only[List.getElem?_map,Array.getElem?_toList,Array.getElem?_modify];by_cases hi:br kk k es=i
    ·subst hi;cases jB[br kk k es]?<;>simp
    ·simp[hi]
   ·rw[List.getD_eq_getElem?_getD,mO];rw[Array.getElem?_modify]at hx;by_cases hj:j=br kk k es
    ·subst hj;rw[if_pos rfl]at hx ⊢;rw[show jB[br kk k es]?=some e by simpa using he]at hx
     obtain rfl:=Option.some.inj hx;rw[AI];simp only[Option.getD_some,hkey];exact⟨trivial,e2⟩
    ·rw[if_neg hj];rw[if_neg (fun e=>hj e.symm)]at hx
     have:=h4 j x hx;rw[<-List.getD_eq_getElem?_getD,e1 j hj];exact this
theorem BD {N:Nat} {ρ:Keys}:∀ (kk:List CK) (x:ai kk),be (At.ok N ρ) (ai.lV kk x) (ai.a8 kk x)
 |[],_=>trivial
 |[_],_=>⟨pJ,trivial⟩
 |_::c'::cs,x=>⟨pJ,BD (c'::cs) x.2⟩
theorem vL {r bm:Nat} {η:Path->RI} {kk tg:List CK} {es:List (ai kk×List (ai tg))} {n:Nat} {seen:List Nat} {ty:TypeId} (hm:kR w bm η kk tg es) (hr:w.heap[r]?=some (.mapIter (some bm) n seen.reverse.toArray n)) (hn:es.length=n):
 ((∀ j,j<n->j∈seen)/\(Instr.next (.pointer (some ⟨r,0,none⟩)) false ty).run P w= .ok (.tuple #[.bool false]) w)\/
 ∃ j,j<n/\j∉seen/\∃ v,∃ w1:World,(w1=w\/w1=w.drew)/\(Instr.next (.pointer (some ⟨r,0,none⟩)) false ty).run P w=
  .ok (.tuple #[.bool true,.agg (ai.a8 kk (es.getD j (ai.d kk,[])).1).toArray,v]) (Go.ChangeMaps.setBlock w1 r (.mapIter (some bm) n (j::seen).reverse.toArray n)):=by
 obtain⟨aD,h1,h2,h3,h4⟩:=hm;have born:∀ j (hj:j<aD.size),aD[j].born=j:=fun j hj=>by
  have e1:(aD.toList.map (·.born))[j]?=some aD[j].born:=by simp[hj]
  rw[h3,List.getElem?_range hj]at e1;exact(Option.some.inj e1).symm
 have hold:∀ x∈aD.toList,x.born<n:=fun x hx=>by
  obtain⟨j,hj,rfl⟩:=pC hx;rw[born j hj];omega
 rcases run_next_at (P:=P) w ty r bm n n seen.reverse.toArray aD aD.size hr h1 hold (Nat.le_refl _)with⟨hz,hrun⟩|⟨e,he,w1,mL,hrun⟩
 ·refine .inl ⟨fun j hj=>?_,hrun⟩
  have hj':j<aD.size:=by omega
  have mM:leftOf aD seen.reverse.toArray=#[]:=Array.eq_empty_of_size_eq_zero hz;unfold leftOf at mM;rw[Array.filter_eq_empty_iff]at mM;have:=mM aD[j] (by simp)
  rw[born j hj']at this;simpa using this
 ·unfold leftOf at he;simp only[Array.toList_filter,List.mem_filter]at he;obtain⟨iO,AH⟩:=he;obtain⟨j,hj,rfl⟩:=pC iO;have b1:=born j hj;have b2:=(h4 j aD[j] (by simp[hj])).1
  rw[b1]at AH hrun;rw[b2]at hrun;refine .inr ⟨j,by omega,by simpa using AH,aD[j].val,w1,mL,?_⟩
  rw[hrun,h2,hn];simp
theorem tY {r bm:Nat} {η:Path->RI} {kk tg:List CK} {es:List (ai kk×List (ai tg))} {n j:Nat} {seen:List Nat} (hm:kR w bm η kk tg es) (hr:w.heap[r]?=some (.mapIter (some bm) n (j::seen).reverse.toArray n)) (hn:es.length=n) (hj:j<n):
 ∃ v,(Instr.entry (.pointer (some ⟨r,0,none⟩))).run P w= .ok (.tuple #[.agg (ai.a8 kk (es.getD j (ai.d kk,[])).1).toArray,v]) w:=by
 obtain⟨aD,h1,h2,h3,h4⟩:=hm;have born:∀ j (hj:j<aD.size),aD[j].born=j:=fun j hj=>by
  have e1:(aD.toList.map (·.born))[j]?=some aD[j].born:=by simp[hj]
  rw[h3,List.getElem?_range hj]at e1;exact(Option.some.inj e1).symm
 have hj':j<aD.size:=by omega
 have b1:=born j hj';have b2:=(h4 j aD[j] (by simp[hj'])).1
 have:=run_entry_at (P:=P) w r bm n seen.reverse.toArray aD aD.size aD[j] (by rw[hr,b1,h2,hn];simp) h1 (by simp) (by rw[h3];exact List.nodup_range)
 rw[b2]at this;exact⟨_,this⟩
end
end Go.Sy
end
section
namespace Go.Sy
open Go Go.RowKit
universe u
section
variable {P:Program} {Γ:bn} {E:Env} {M:Nat->Prop} {w0:World} {ρ:Keys} {st:St} {vs:Fv} {a:Act} {w:World}
theorem iI {α:Type u} {f:α->Bool}:∀ {l:List α},bZ f l=true->∀ x∈l,f x=true
 |x::l,h,y,hy=>by
  simp only[bZ]at h;split at h
  ·rename_i hx;rcases List.mem_cons.1 hy with rfl|hy
   ·exact hx
   ·exact iI h y hy
  ·cases h
theorem At.one_cell {N:Nat} {x:At} {y:Value} (h:x.ok N ρ y) (h1:x.one=true):y.oneCell'=true:=by
 cases x<;>first|(simp[At.one]at h1;done)|skip
 case v x=>obtain⟨rfl,h⟩:=h;exact h
 case tt=>obtain rfl:y= .bool true:=h;rfl
 case ff=>obtain rfl:y= .bool false:=h;rfl
 case p r π i j=>obtain⟨_,rfl⟩:=h;rfl
 case sl r π lo n=>
  obtain⟨_,h1,h2⟩:=h;cases hv:(ρ r π).aC with
  |true=>obtain⟨_,a,rfl⟩:=h1 hv;rfl
  |false=>obtain⟨_,a,rfl,_⟩:=h2 hv;rfl
 case z=>obtain⟨a,rfl⟩:=h;rfl
 case fn f aBd=>obtain⟨_,rfl⟩:=h;rfl
 case mp r=>obtain⟨_,rfl⟩:=h;rfl
 case it r=>obtain⟨_,rfl⟩:=h;rfl
 case yl r=>obtain⟨_,rfl⟩:=h;rfl
 case err=>obtain⟨t,v,rfl⟩:=h;rfl
theorem yP {y:Value} (h:y.oneCell'=true):y.cells=#[y]:=by
 cases y<;>first|rfl|simp[Value.oneCell']at h
theorem agT {N:Nat}:∀ {l:List At} {ys:List Value},be (At.ok N ρ) l ys->bZ At.one l=true->∀ y∈ys,y.oneCell'=true
 |[],[],_,_=>by simp
 |x::l,y::ys,h,h1=>by
  simp only[bZ]at h1;split at h1
  ·rename_i hx;intro z hz;rcases List.mem_cons.1 hz with rfl|hz
   ·exact At.one_cell h.1 hx
   ·exact agT h.2 h1 z hz
  ·cases h1
theorem eZ {N:Nat} {x:Tm} {l:List At} {y:Value} (hx:x.ok N ρ y) (he:iu x=some l):be (At.ok N ρ) l y.cells.toList/\bZ At.one l=true/\∀ z∈y.cells.toList,z.oneCell'=true:=by
 unfold iu at he;split at he
 ·rename_i x;split at he
  ·rename_i h1;simp only[Option.some.injEq]at he;subst he;have h2:=At.one_cell hx h1;rw[yP h2];exact⟨⟨hx,trivial⟩,by simp[bZ,h1],by simp[h2]⟩
  ·cases he
 ·split at he
  ·rename_i l' h1;simp only[Option.some.injEq]at he;subst he;obtain⟨ys,rfl,h2⟩:=hx;exact⟨by simpa[Value.cells]using h2,h1,by simpa[Value.cells]using agT h2 h1⟩
  ·cases he
 ·cases he
theorem Bs {N:Nat}:∀ {l:List At} {ys:List Value} {cells:List At} {zs:List Value} (off:Nat),be (At.ok N ρ) l ys->be (At.ok N ρ) cells zs->
 be (At.ok N ρ) (Z9 cells off l) ((ys.zipIdx.foldl (fun cs cj=>cs.set (off+cj.2) cj.1) zs)):=by
 intro l;have gen:∀ (l:List At) (ys:List Value) (cells:List At) (zs:List Value) (off k:Nat),be (At.ok N ρ) l ys->be (At.ok N ρ) cells zs->
  be (At.ok N ρ) (Z9 cells (off+k) l) ((ys.zipIdx k).foldl (fun cs cj=>cs.set (off+cj.2) cj.1) zs):=by
  intro l;induction l with
  |nil=>intro ys cells zs off k h h';cases ys with|nil=>exact h'|cons=>exact h.elim
  |cons x l ih=>
   intro ys cells zs off k h h';cases ys with
   |nil=>exact h.elim
   |cons y ys=>
    simp only[Z9,List.zipIdx_cons,List.foldl_cons];have:=ih ys (cells.set (off+k) x) (zs.set (off+k) y) off (k+1) h.2 (h'.set _ _ _ h.1);rw[show off+(k+1)=off+k+1 by omega]at this
    exact this
 intro ys cells zs off h h';exact gen l ys cells zs off 0 h h'
theorem bE.xf (hE:bE P Γ E) {t:TypeId} {fs:List (Nat×Nat)} {n:Nat} (h:E.ty t= .st fs n):qf P t (.st fs n):=h▸hE.ty t
theorem bE.aav (hE:bE P Γ E) {t e:TypeId} {n:Nat} (h:E.ty t= .sl e n):qf P t (.sl e n):=h▸hE.ty t
theorem bE.xe (hE:bE P Γ E) {t e:TypeId} {m n:Nat} (h:E.ty t= .ar e m n):qf P t (.ar e m n):=h▸hE.ty t
theorem bE.FC (hE:bE P Γ E) {t:TypeId} (h:E.ty t= .str):qf P t .str:=h▸hE.ty t
theorem lN (h:Rel Γ M w0 ρ st vs a w) {fs:List (Nat×Nat)}:∀ (parts:List (Nat×Operand)) (cells l:List At) (zs:List Value),oq fs st parts cells=some l->be (At.ok st.rg.length ρ) cells zs->
 ∃ ys:List Value,Instr.fill (fs.toArray[·]?) zs.toArray (parts.map fun p=>(p.1,a.eval p.2))=some ys.toArray/\be (At.ok st.rg.length ρ) l ys
 |[],cells,l,zs,he,hz=>by simp only[oq,Option.some.injEq]at he;subst he;exact⟨zs,rfl,hz⟩
 |(i,o)::rest,cells,l,zs,he,hz=>by
  simp only[oq]at he;split at he
  ·rename_i off size x hf hx;split at he
   ·rename_i lc hc;split at he
    ·rename_i h1 h2;have hv:=ax h hx;obtain⟨c1,c2,c3⟩:=eZ hv hc;have hlen:(a.eval o).cells.size=size:=by
      have:=c1.length;rw[dK h1]at this;simpa using this.symm
     have hfit:off+size<=zs.length:=by
      have:=Nat.le_of_ble_eq_true h2;rw[hz.length]at this;exact this
     have ac2:=Bs (ρ:=ρ) off c1 hz;obtain⟨ys,h3,h4⟩:=lN h rest _ l _ he ac2;refine⟨ys,?_,h4⟩;simp only[List.map_cons,Instr.fill];have e1:(fs.toArray[i]?:Option (Nat×Nat))=some (off,size):=by simpa using hf
     rw[e1];simp only[];rw[if_neg (by rw[hlen];simp;omega)]
     rw[<-h3]
     congr 1
     have gen:∀ (cs:List (Value×Nat)) (zs:List Value),cs.foldl (fun(cs:Array Value) (x:Value×Nat)=>cs.setIfInBounds (off+x.2) x.1) zs.toArray=
      (cs.foldl (fun cs cj=>cs.set (off+cj.2) cj.1) zs).toArray:=by
      intro cs;induction cs with
      |nil=>intro zs;rfl
      |cons c cs ih=>intro zs;simp only[List.foldl_cons,List.setIfInBounds_toArray];exact ih _
     have e2:(a.eval o).cells.zipIdx=((a.eval o).cells.toList.zipIdx).toArray:=by
      rw[<-Array.toList_zipIdx]
     rw[e2];simp only[List.foldl_toArray'];exact gen _ zs
    ·cases he
   ·cases he
  ·cases he
theorem ko (h:Rel Γ M w0 ρ st vs a w) {m:Nat}:∀ (parts:List (Nat×Operand)) (cells l:List At) (zs:List Value),mF m st parts cells=some l->be (At.ok st.rg.length ρ) cells zs->
 ∃ ys:List Value,Instr.fill (fun i=>some (i*m,m)) zs.toArray (parts.map fun p=>(p.1,a.eval p.2))=some ys.toArray/\be (At.ok st.rg.length ρ) l ys
 |[],cells,l,zs,he,hz=>by simp only[mF,Option.some.injEq]at he;subst he;exact⟨zs,rfl,hz⟩
 |(i,o)::rest,cells,l,zs,he,hz=>by
  simp only[mF]at he;split at he
  ·rename_i x hx;split at he
   ·rename_i lc hc;split at he
    ·rename_i h1 h2;have hv:=ax h hx;obtain⟨c1,c2,c3⟩:=eZ hv hc;have hlen:(a.eval o).cells.size=m:=by
      have:=c1.length;rw[dK h1]at this;simpa using this.symm
     have hfit:i*m+m<=zs.length:=by
      have:=Nat.le_of_ble_eq_true h2;rw[hz.length]at this;exact this
     have ac2:=Bs (ρ:=ρ) (i*m) c1 hz;obtain⟨ys,h3,h4⟩:=ko h rest _ l _ he ac2;refine⟨ys,?_,h4⟩;simp only[List.map_cons,Instr.fill];rw[if_neg (by rw[hlen];simp;omega)]
     rw[<-h3]
     congr 1
     have gen:∀ (cs:List (Value×Nat)) (zs:List Value),cs.foldl (fun(cs:Array Value) (x:Value×Nat)=>cs.setIfInBounds (i*m+x.2) x.1) zs.toArray=
      (cs.foldl (fun cs cj=>cs.set (i*m+cj.2) cj.1) zs).toArray:=by
      intro cs;induction cs with
      |nil=>intro zs;rfl
      |cons c cs ih=>intro zs;simp only[List.foldl_cons,List.setIfInBounds_toArray];exact ih _
     have e2:(a.eval o).cells.zipIdx=((a.eval o).cells.toList.zipIdx).toArray:=by
      rw[<-Array.toList_zipIdx]
     rw[e2];simp only[List.foldl_toArray'];exact gen _ zs
    ·cases he
   ·cases he
  ·cases he
theorem rI {t e:TypeId} {m n:Nat} (hu:P.underlying t=some (.array n e)) (hs:(P.info? e).map (·.size)=some m) {i:TypeInfo} {z:Value} (hi:P.info? t=some i) (hz:i.zero=some z)
 (parts:Array (Nat×Value)) (ys:List Value) (hf:Instr.fill (fun i=>some (i*m,m)) z.cells parts.toList=some ys.toArray):(Instr.build t parts).run P w= .ok (.agg ys.toArray) w:=by
 apply run_build;obtain⟨ie,Ru,rfl⟩:=Option.map_eq_some_iff.1 hs;simp only[Program.built,hi,hu,hz,Ru];exact hf
theorem yn {α β:Type} {R:α->β->Prop}:∀ {xs:List α} {ys:List β},be R xs ys->∀ k,be R (xs.drop k) (ys.drop k)
 |_,_,h,0=>h
 |[],[],_,_+1=>trivial
 |_::_,_::_,h,k+1=>yn (xs:=_) (ys:=_) h.2 k
theorem yo {α β:Type} {R:α->β->Prop}:∀ {xs:List α} {ys:List β},be R xs ys->∀ k,be R (xs.take k) (ys.take k)
 |_,_,_,0=>trivial
 |[],[],_,_+1=>trivial
 |_::_,_::_,h,k+1=>⟨h.1,yo h.2 k⟩
theorem rJ {t:TypeId} {fields:Array Field} {fs:List (Nat×Nat)} (hu:P.underlying t=some (.struct fields))
 (hp:fields.toList.mapM (fun f=>(P.info? f.type).map fun i=>(f.offset,i.size))=some fs) {i:TypeInfo} {z:Value} (hi:P.info? t=some i) (hz:i.zero=some z)
 (parts:Array (Nat×Value)) (ys:List Value) (hf:Instr.fill (fs.toArray[·]?) z.cells parts.toList=some ys.toArray):(Instr.build t parts).run P w= .ok (.agg ys.toArray) w:=by
 apply run_build;simp only[Program.built,hi,hu,hz,hp];exact hf
theorem dQ (h:Rel Γ M w0 ρ st vs a w) {d y:Nat} {b:Option Operand} {q:List aa} {n:Nat} (code:BoundsCode) (he:fG st d b=some (q,n)) (hq:bW q) (hy:n<=y):
 ∀ w1,(match b.map a.eval with|some v=>Instr.sliceBound v y code|none=>pure d).run P w1= .ok n w1:=by
 intro w1;cases b with
 |none=>simp only[fG,Option.some.injEq,Prod.mk.injEq]at he;obtain⟨_,rfl⟩:=he;rfl
 |some o=>
  simp only[fG]at he;split at he
  ·rename_i k i hx;simp only[Option.some.injEq,Prod.mk.injEq]at he;obtain⟨rfl,rfl⟩:=he;obtain⟨hv,_⟩:=ax h hx;have h0:0<=i:=hq.1;simp only[Option.map_some,hv];exact run_sliceBound (P:=P) w1 k i y code h0 (by omega)
  ·cases he
theorem nc {t e:TypeId} {m:Nat} (hu:P.underlying t=some (.slice e)) (hm:(P.info? e).map (·.size)=some m) {ad:Option Addr} {len cap:Nat} {lo hi:Option Value} {i j:Nat}
 (hh:(match hi with|some v=>Instr.sliceBound v cap .sliceAcap|none=>pure len).run P w= .ok j w) (hl:(match lo with|some v=>Instr.sliceBound v j .sliceB|none=>pure 0).run P w= .ok i w):
 (Instr.slice t (.slice ad len cap) lo hi none).run P w= .ok (.slice (if cap=i then ad else ad.map (·.add (i*m))) (j-i) (cap-i)) w:=by
 have hb:(Instr.sliceBounds true len cap lo hi none).run P w= .ok (i,j,cap) w:=by
  cases hi with
  |none=>
   obtain rfl:len=j:=by simpa using hh
   cases lo with
   |none=>obtain rfl:0=i:=by simpa using hl
          simp[Instr.sliceBounds]
   |some v=>simp only[Instr.sliceBounds,Sem.run_bind,Sem.run_pure,Result.andThen_ok,Option.isSome_none,Bool.false_eq_true,if_false]
            rw[show(Instr.sliceBound v len .sliceB).run P w=_ from hl];rfl
  |some v=>
   have qS:(Instr.sliceBound v cap .sliceAcap).run P w= .ok j w:=hh;cases lo with
   |none=>obtain rfl:0=i:=by simpa using hl
          simp[Instr.sliceBounds,qS]
   |some u=>have hl':(Instr.sliceBound u j .sliceB).run P w= .ok i w:=hl
            simp[Instr.sliceBounds,qS,hl']
 simp only[Instr.slice,Sem.run_bind,run_underlying hu,Result.andThen_ok,hb,cY hm,Sem.run_pure]
theorem yR {t:TypeId} (hu:P.underlying t=some .string) {s:ByteArray} {lo hi:Option Value} {i j:Nat}
 (hh:(match hi with|some v=>Instr.sliceBound v s.size .sliceAlen|none=>pure s.size).run P w= .ok j w) (hl:(match lo with|some v=>Instr.sliceBound v j .sliceB|none=>pure 0).run P w= .ok i w):
 (Instr.slice t (.string s) lo hi none).run P w= .ok (.string (s.extract i j)) w:=by
 have hb:(Instr.sliceBounds false s.size s.size lo hi none).run P w= .ok (i,j,s.size) w:=by
  cases hi with
  |none=>
   obtain rfl:s.size=j:=by simpa using hh
   cases lo with
   |none=>obtain rfl:0=i:=by simpa using hl
          simp[Instr.sliceBounds]
   |some v=>simp only[Instr.sliceBounds,Sem.run_bind,Sem.run_pure,Result.andThen_ok,Option.isSome_none,Bool.false_eq_true,if_false]
            rw[show(Instr.sliceBound v s.size .sliceB).run P w=_ from hl];rfl
  |some v=>
   have qS:(Instr.sliceBound v s.size .sliceAlen).run P w= .ok j w:=hh;cases lo with
   |none=>obtain rfl:0=i:=by simpa using hl
          simp[Instr.sliceBounds,qS]
   |some u=>have hl':(Instr.sliceBound u j .sliceB).run P w= .ok i w:=hl
            simp[Instr.sliceBounds,qS,hl']
 simp[Instr.slice,run_underlying hu,hb]
theorem RI.aA0 (I:RI) (l i m:Nat):(I.at (l*m)).add (i*m)=I.at ((l+i)*m):=by
 rw[RI.fF,Nat.add_mul]
theorem RI.head.sub {I:RI} {l n i j:Nat} {y:Value} (h:I.head l n y) (hij:i<=j) (vc:j<=n) {ad:Option Addr} {len cap:Nat} (hy:y= .slice ad len cap):
 I.head (l+i) (j-i) (.slice (if cap=i then ad else ad.map (·.add (i*I.m))) (j-i) (cap-i)):=by
 refine⟨fun hv=>?_,fun hv=>?_⟩
 ·obtain⟨h1,b,h2⟩:=h.1 hv;rw[hy]at h2;simp only[Value.slice.injEq]at h2;obtain⟨rfl,rfl,rfl⟩:=h2;have hi:i=0:=by omega
  have hj:j=0:=by omega
  subst hi hj;exact⟨rfl,_,rfl⟩
 ·obtain⟨h1,b,h2,h3⟩:=h.2 hv;rw[hy]at h2;simp only[Value.slice.injEq]at h2;obtain⟨rfl,rfl,rfl⟩:=h2;refine⟨by omega,_,by rw[Nat.sub_sub],fun hlt=>?_⟩
  rw[if_neg (by omega),h3 (by omega)]
  simp only[Option.map_some];rw[RI.aA0]
theorem bE.mb (hE:bE P Γ E) {t k e:TypeId} (h:E.ty t= .map k e):qf P t (.map k e):=by have:=hE.ty t;rwa[h]at this
theorem iq {t e:TypeId} (hu:P.underlying t=some (.slice e)) (x:Value) (lo hi mx:Option Value):(Instr.sliceAt t x lo hi mx).run P w=(Instr.slice t x lo hi mx).run P w:=by simp[Instr.sliceAt,run_underlying hu]
theorem vM {t:TypeId} (hu:P.underlying t=some .string) (x:Value) (lo hi mx:Option Value):(Instr.sliceAt t x lo hi mx).run P w=(Instr.slice t x lo hi mx).run P w:=by simp[Instr.sliceAt,run_underlying hu]
theorem pR (hE:bE P Γ E) (h:Rel Γ M w0 ρ st vs a w) {t:TypeId} {x z:Tm} {lo hi:Option Operand} {q:List aa} {vx:Value} (hx:x.ok st.rg.length ρ vx) (he:wG E st t x lo hi=some (q,z)) (hq:bW q):
 ∃ y,(∀ w1,(Instr.sliceAt t vx (lo.map a.eval) (hi.map a.eval) none).run P w1= .ok y w1)/\z.ok st.rg.length ρ y:=by
 unfold wG at he;split at he
 ·rename_i e m r π l n ht;obtain⟨hu,hm,_⟩:=hE.aav ht;split at he
  ·rename_i q1 i q2 j h1 h2;split at he
   ·rename_i te tg xs o akl hg;split at he
    ·rename_i q3 B hd;split at he
     ·rename_i hm';simp only[Option.some.injEq,Prod.mk.injEq]at he;obtain⟨rfl,rfl⟩:=he;rw[aH,aH,aH]at hq;simp only[bW,aa.ae]at hq;obtain⟨RG,⟨gk,AM⟩,hij,vc,_⟩:=hq;obtain⟨hr,hv⟩:=hx;have hB:=(mD (r:=r) h (by rw[hg];exact hd) RG).2
      have Ns:(ρ r π).m=m:=hB.m.trans (Nat.eq_of_beq_eq_true hm');have dZ:∃ ad cap,vx= .slice ad n cap/\n<=cap:=by
       cases dV:(ρ r π).aC with
       |true=>obtain⟨rfl,ad,e1⟩:=hv.1 dV;exact⟨ad,0,e1,Nat.le_refl _⟩
       |false=>obtain⟨e0,ad,e1,_⟩:=hv.2 dV;exact⟨ad,_,e1,by omega⟩
      obtain⟨ad,cap,rfl,hnc⟩:=dZ;refine⟨_,fun w1=>(iq hu _ _ _ _).trans (nc hu hm (dQ h .sliceAcap h2 AM (by omega) w1) (dQ h .sliceB h1 gk hij w1)),hr,?_⟩
      rw[<-Ns];exact hv.sub hij vc rfl
     ·cases he
    ·cases he
   ·cases he
  ·cases he
 ·rename_i ht;obtain⟨hu,hm,_⟩:=hE.aav ht;split at he
  ·rename_i q1 i q2 j h1 h2;simp only[Option.some.injEq,Prod.mk.injEq]at he;obtain⟨rfl,rfl⟩:=he;rw[aH,aH]at hq;simp only[bW,aa.ae]at hq;obtain⟨⟨gk,AM⟩,rfl,rfl,_⟩:=hq;obtain⟨rfl,_⟩:=hx;refine⟨_,fun w1=>(iq hu _ _ _ _).trans (nc hu hm (dQ (y:=0) h .sliceAcap h2 AM (Nat.le_refl _) w1) (dQ (y:=0) h .sliceB h1 gk (Nat.le_refl _) w1)),rfl,rfl⟩
  ·cases he
 ·rename_i ht;obtain⟨hu,hm,_⟩:=hE.aav ht;split at he
  ·rename_i q1 i q2 j h1 h2;simp only[Option.some.injEq,Prod.mk.injEq]at he;obtain⟨rfl,rfl⟩:=he;rw[aH,aH]at hq;simp only[bW,aa.ae]at hq;obtain⟨⟨gk,AM⟩,rfl,rfl,_⟩:=hq;obtain⟨ad,rfl⟩:=hx;exact⟨_,fun w1=>(iq hu _ _ _ _).trans (nc hu hm (dQ (y:=0) h .sliceAcap h2 AM (Nat.le_refl _) w1) (dQ (y:=0) h .sliceB h1 gk (Nat.le_refl _) w1)),ad,rfl⟩
  ·cases he
 ·rename_i s ht;obtain⟨hu,_⟩:=hE.FC ht;split at he
  ·rename_i q1 i q2 j h1 h2;simp only[Option.some.injEq,Prod.mk.injEq]at he;obtain⟨rfl,rfl⟩:=he;rw[aH,aH]at hq;simp only[bW,aa.ae]at hq;obtain⟨⟨gk,AM⟩,hij,vc,_⟩:=hq;obtain⟨rfl,_⟩:=hx;exact⟨_,fun w1=>(vM hu _ _ _ _).trans (yR hu (dQ h .sliceAlen h2 AM vc w1) (dQ h .sliceB h1 gk hij w1)),rfl,rfl⟩
  ·cases he
 ·cases he
theorem CK.pJ {N:Nat} {ρ:Keys} (c:CK) (x:c.ty):(c.pl x).ok N ρ (c.val x):=by
 cases c with
 |int k=>exact⟨rfl,rfl⟩
 |bool=>exact⟨rfl,rfl⟩
 |str=>exact⟨rfl,rfl⟩
 |sl e tg=>trivial
theorem nC {N:Nat} {ρ:Keys} (c:CK) (es:List (Int×c.ty)) (n:Int) (ok:Bool):(vv c es n ok).ok N ρ (if ok then .tuple #[c.val (aO es n c.d),.bool (wO es n)]else c.val (aO es n c.d)):=by
 cases ok with
 |true=>exact⟨[_,_],rfl,CK.pJ c _,⟨rfl,rfl⟩,trivial⟩
 |false=>exact CK.pJ c _
theorem nT (hE:bE P Γ E) {kt:TypeId} {kk:List CK} (h:aBG E kt=some kk):∃ ns,rV P kt kk ns:=by
 unfold aBG at h;split at h
 ·rename_i aBH ns h1 h2 h3;split at h
  ·rename_i h4;obtain rfl:=Option.some.inj h;obtain⟨e1,e2,_⟩:=hE.alp _ _ h3;exact⟨ns,h4,e1,e2⟩
  ·cases h
 ·cases h
theorem nZ (hE:bE P Γ E) {et e:TypeId} {tg:List CK} (h:pN E et=some (e,tg)):tg≠[]/\aaa tg=true/\∃ i,P.info? et=some i/\i.zero=some (.slice none 0 0):=by
 unfold pN at h;split at h
 ·rename_i e' bX h1;split at h
  ·rename_i iU h2;split at h
   ·rename_i h3 _ h4;simp only[Option.some.injEq,Prod.mk.injEq]at h;obtain⟨rfl,rfl⟩:=h;obtain⟨h5,_⟩:=hE.kd _ _ h2;exact⟨h3.down▸h5,h4,hE.sc _ _ h1⟩
   ·cases h
  ·cases h
 ·cases h
theorem rj (hE:bE P Γ E) (h:Rel Γ M w0 ρ st vs a w) {t kt et:TypeId} (ht:E.ty t= .map kt et) {r:Nat} {t':TypeId} {kk:List CK} {e:TypeId} {tg:List CK} {es:List (ai kk×List (ai tg))} {o i:Bool} (hg:st.rg.getD r .dead= .bH t' kk e tg es o i)
 {aBH:List CK} (hk:aBG E kt=some aBH) {e':TypeId} {bX:List CK} (hv:pN E et=some (e',bX)) (hkk:aBH=kk) {l:List At} {k:ai kk} (hc:eu kk l=some k) (hin:br kk k es<es.length) {vx vi:Value} (hx:(At.mp r).ok st.rg.length ρ vx) (hi:(Tm.agg l).ok st.rg.length ρ vi):
 ∃ y,(∀ w1,Below w.heap.size w w1->(Instr.lookup t vx vi false).run P w1= .ok y w1)/\(At.sl r [(br kk k es,0)] 0 ((es.getD (br kk k es) (ai.d kk,[])).2).length).ok st.rg.length ρ y:=by
 subst hkk;obtain⟨ns,qU⟩:=nT hE hk;obtain⟨_,_,hz⟩:=nZ hE hv;obtain⟨hu,_⟩:=hE.mb ht;obtain⟨hr',rfl⟩:=hx;obtain⟨ys,rfl,hys⟩:=hi;obtain rfl:=mU hc hys;have Vo:=bg hg (by simp)
 have hB:(az.bH t' aBH e tg es o i).has [] o (.bH aBH tg es):=.inl ⟨rfl,rfl,rfl⟩;obtain⟨_,dV,lg⟩:=h.rs.blk r _ [] o (.bH aBH tg es) Vo hB;obtain⟨v,hrun,f1,_⟩:=nJ (P:=P) hu qU hz lg k false;exact⟨v,fun w1 mL=>by have:=hrun w1 (mL.block _ (h.rs.lt r _ [] o _ Vo hB dV));simpa using this,hr',f1 hin⟩
theorem Bc (h:Rel Γ M w0 ρ st vs a w) {t kt et:TypeId} {k:IntKind} {c:CK} (hu:P.underlying t=some (.map kt et)) (hk:P.underlying kt=some (.int k)) (hz:∃ i,P.info? et=some i/\i.zero=some (c.val c.d)) {x:At} {es:List (Int×c.ty)} (hm:mapOf st k c x=some es) {vx:Value} (hx:x.ok st.rg.length ρ vx) (n:Int) (ok:Bool):
 ∃ y,(Instr.lookup t vx (.int k n) ok).run P w= .ok y w/\(vv c es n ok).ok st.rg.length ρ y:=by
 obtain⟨i,hi,Hl⟩:=hz;have mM:(zeroValue et).run P w= .ok (c.val c.d) w:=by simp[zeroValue,typeInfo,hi,Hl]
 unfold mapOf at hm;split at hm
 ·obtain rfl:=Option.some.inj hm;obtain⟨rfl,_⟩:=hx;refine⟨_,oI hu hk mM n ok,?_⟩;exact nC c [] n ok
 ·rename_i r;split at hm
  ·rename_i t2 k2 c2 GD o hg;split at hm
   ·rename_i hh hs hc;obtain rfl:=akr hs;obtain⟨rfl⟩:=hh;obtain rfl:=Option.some.inj hm;obtain⟨hr,rfl⟩:=hx;have Vo:=bg hg (by simp)
    obtain⟨_,_,aD,h1,h2,_⟩:=h.rs.blk r _ [] o (.map k2 c2 GD) Vo ⟨rfl,rfl,rfl⟩;exact⟨_,oH hu hk mM h1 h2 n ok,nC c2 GD n ok⟩
   ·cases hm
  ·cases hm
 ·cases hm
theorem A9 (h:Rel Γ M w0 ρ st vs a w) {t kt et:TypeId} {k:IntKind} {c:CK} (hu:P.underlying t=some (.map kt et)) (hk:P.underlying kt=some (.int k)) (hz:∃ i,P.info? et=some i/\i.zero=some (c.val c.d)) {x:At} {es:List (Int×c.ty)} (hm:mapOf st k c x=some es) {vx:Value} (hx:x.ok st.rg.length ρ vx) (n:Int):
 ∃ y,(∀ w1,Below w.heap.size w w1->(Instr.lookup t vx (.int k n) false).run P w1= .ok y w1)/\(vv c es n false).ok st.rg.length ρ y:=by
 obtain⟨i,hi,Hl⟩:=hz;have mM:∀ w:World,(zeroValue et).run P w= .ok (c.val c.d) w:=fun w=>by simp[zeroValue,typeInfo,hi,Hl]
 unfold mapOf at hm;split at hm
 ·obtain rfl:=Option.some.inj hm;obtain⟨rfl,_⟩:=hx;refine⟨_,fun w1 _=>oI hu hk (mM w1) n false,?_⟩
  exact nC c [] n false
 ·rename_i r;split at hm
  ·rename_i t2 k2 c2 GD o hg;split at hm
   ·rename_i hh hs hc;obtain rfl:=akr hs;obtain⟨rfl⟩:=hh;obtain rfl:=Option.some.inj hm;obtain⟨hr,rfl⟩:=hx;have Vo:=bg hg (by simp)
    obtain⟨_,dV,aD,h1,h2,_⟩:=h.rs.blk r _ [] o (.map k2 c2 GD) Vo ⟨rfl,rfl,rfl⟩;exact⟨_,fun w1 mL=>oH hu hk (mM w1) ((mL.block _ (h.rs.lt r _ [] o _ Vo ⟨rfl,rfl,rfl⟩ dV)).trans h1) h2 n false,nC c2 GD n false⟩
   ·cases hm
  ·cases hm
 ·cases hm
theorem ahl (hE:bE P Γ E) {op:BinOp} {t:TypeId} {x z:Tm} {q:List aa} {y:Operand} (hn:aim y=true) (he:aiC E op t x=some (q,z)) (u:Operand) {N:Nat} {vx:Value} (hx:x.ok N ρ vx):
 ∃ b:Bool,(∀ w:World,(do eqGuard op t u y vx (a.eval y);binOp op t vx (a.eval y):Sem Value).run P w= .ok (.bool b) w)/\z.ok N ρ (.bool b):=by
 have hy:y= .const .nilIface:=by
  cases y with
  |const v=>cases v<;>first|rfl|cases hn
  |_=>cases hn
 subst hy;have ev:a.eval (.const .nilIface)= .nilIface:=rfl;rw[ev];unfold aiC at he;split at he
 ·rename_i x hi;have n1:∀ w:World,_:=fun w=>run_equal_nil_nil (P:=P) w t (hE.aht t hi)
  have n2:∀ (w:World) ti vi,_:=fun w ti vi=>run_equal_held_nil (P:=P) w t ti vi (hE.aht t hi)
  have key:∀ b,ai1 x=some b->(b=true/\vx= .nilIface)\/(b=false/\∃ ti vi,vx= .iface ti vi):=by
   intro b hb;unfold ai1 at hb;split at hb<;>simp only[Option.some.injEq,reduceCtorEq]at hb<;>subst hb
   ·exact .inl ⟨rfl,hx.1⟩
   ·exact .inr ⟨rfl,hx⟩
  split at he<;>simp only[Option.some.injEq,Prod.mk.injEq,reduceCtorEq]at he<;>rename_i hb<;>obtain⟨rfl,rfl⟩:=he<;>rcases key _ hb with⟨h1,rfl⟩|⟨h1,ti,vi,rfl⟩<;>first|cases h1|skip
  ·exact⟨true,fun w=>by simp[eqGuard,binOp,n1 w],rfl⟩
  ·exact⟨false,fun w=>by simp[eqGuard,binOp,n1 w],rfl⟩
  ·exact⟨false,fun w=>by simp[eqGuard,binOp,n2 w ti vi],rfl⟩
  ·exact⟨true,fun w=>by simp[eqGuard,binOp,n2 w ti vi],rfl⟩
 ·cases he
theorem ahP (hE:bE P Γ E) (h:Rel Γ M w0 ρ st vs a w) {src dst e:TypeId} {m:Nat} (hs:E.ty src= .sl e m) {r:Nat} {π:Path} {lo n:Nat} {x:Tm} {q:List aa} {va:Value}
 (ha:Tm.ok st.rg.length ρ (.a (.sl r π lo n)) va) (he:ahD E st e dst r π lo n=some (q,x)) (hq:bW q):∃ y,(convert src dst va).run P w= .ok y w/\x.ok st.rg.length ρ y:=by
 unfold ahD at he;split at he
 ·rename_i q0 te KJ h1 h2 hd;obtain⟨xs,hxs⟩:∃ xs:List Int,xs=KJ:=⟨KJ,rfl⟩;subst hxs;simp only[Option.some.injEq,Prod.mk.injEq]at he;obtain⟨rfl,rfl⟩:=he;rw[aH]at hq;have hin:=hq.2.1;simp only[aa.ae]at hin;have hin:lo+n<=xs.length:=hin;obtain⟨_,hB⟩:=mD h hd hq.1;obtain⟨hu,_⟩:=hE.aav hs;have NC:P.underlying e=some (.int .u8):=by have:=hE.ty e;rw[h1]at this;exact this.1
  have ajA:P.underlying dst=some .string:=by have:=hE.ty dst;rw[h2]at this;exact this.1
  have ha:r<st.rg.length/\(ρ r π).head lo n va:=ha;have hm:(ρ r π).m=1:=hB.m;refine⟨_,?_,rfl,rfl⟩;have empty:∀ ad cap,n=0->(convert src dst (.slice ad n cap)).run P w= .ok (.string (strOfNums ((xs.drop lo).take n))) w:=by
   rintro ad cap rfl;cases ad with
   |none=>exact run_convert_bytes_nil w src e hu NC 0 cap dst ajA
   |some ad=>
    rw[run_convert_bytes_string w src dst e (some ad) 0 cap hu NC ajA,run_bytesToString w ad 0 cap [] (by simpa using run_loadCells_list (P:=P) w ad [] (fun j v hj=>by simp at hj))]
    rfl
  cases dV:(ρ r π).aC with
  |true=>
   obtain⟨hz,ad,rfl⟩:=ha.2.1 dV;have:=empty ad 0 hz;rw[hz]at this ⊢;exact this
  |false=>
   obtain⟨hcap,ad,rfl,had⟩:=ha.2.2 dV;by_cases hn:n=0
   ·exact empty ad _ hn
   have e1:=had (by omega)
   rw[e1];unfold RI.at;rw[hm,Nat.mul_one];refine run_convert_bytes_arg w src e hu NC _ _ _ _ ((xs.drop lo).take n) (by rw[List.length_take,List.length_drop];omega) (fun i hi=>?_) dst ajA
   obtain⟨ys,k1,k2⟩:=hB.cell (lo+i) (by show lo+i<xs.length;omega)
   obtain⟨y,rfl,hy⟩:=k1;have hy:y= .int .u8 (xs.getD (lo+i) 0):=hy;have:=k2 0 y rfl;rw[hm,Nat.mul_one,Nat.add_zero]at this;unfold RI.at at this;rw[Nat.add_assoc,this,hy]
   congr 2
   rw[List.getD_eq_getElem?_getD,List.getD_eq_getElem?_getD,List.getElem?_take_of_lt hi,List.getElem?_drop]
 ·cases he
theorem qy (hE:bE P Γ E) (h:Rel Γ M w0 ρ st vs a w) {o:Oper} {q:List aa} {x:Tm} (he:oo E st o=some (q,x)) (hq:bW q):
 ∃ y,(execOp a.eval o).run P w= .ok (.value y) w/\x.ok st.rg.length ρ y:=by
 unfold oo at he;unfold execOp;split at he<;>rename_i hop<;>simp only[hop]
 ·
  split at he
  ·rename_i hx;simp only[Option.some.injEq,Prod.mk.injEq]at he;obtain⟨rfl,rfl⟩:=he;exact⟨_,rfl,ax h hx⟩
  ·cases he
 ·split at he
  ·rename_i hx;simp only[Option.some.injEq,Prod.mk.injEq]at he;obtain⟨rfl,rfl⟩:=he;exact⟨_,rfl,ax h hx⟩
  ·cases he
 ·
  split at he
  ·rename_i hc ha;simp only[Option.some.injEq,Prod.mk.injEq]at he;obtain⟨rfl,rfl⟩:=he;have h1:a.eval _= .bool true:=ax h hc;exact⟨_,by simp[h1,asBool],ax h ha⟩
  ·rename_i hc ha;simp only[Option.some.injEq,Prod.mk.injEq]at he;obtain⟨rfl,rfl⟩:=he;have h1:a.eval _= .bool false:=ax h hc;exact⟨_,by simp[h1,asBool],ax h ha⟩
  ·rename_i c x y hc ha hb;split at he
   ·rename_i hx hy;simp only[Option.some.injEq,Prod.mk.injEq]at he;obtain⟨rfl,rfl⟩:=he;have h1:a.eval _= .bool c:=(ax h hc).1;have h2:=jw (ax h ha) hx;have h3:=jw (ax h hb) hy;refine⟨_,by simp[h1,asBool];rfl,?_,?_⟩
    ·rw[h2,h3];cases c<;>rfl
    ·rfl
   ·cases he
  ·cases he
 ·
  split at he
  ·rename_i hx;obtain⟨y,h1,h2⟩:=mE hE h (ax h hx) he hq;exact⟨y,by simp[h1 w (Below.refl _ _)],h2⟩
  ·cases he
 ·
  split at he
  ·rename_i aiY;split at he
   ·rename_i hx;obtain⟨y,h1,h2⟩:=ahl (a:=a) hE aiY he _ (ax h hx);refine⟨.bool y,?_,h2⟩;change Sem.run P (do let x<-(do eqGuard _ _ _ _ _ _;binOp _ _ _ _:Sem Value);pure (Next.value x)) w=_
    rw[Sem.run_bind,h1];rfl
   ·cases he
  split at he
  ·rename_i hx hy;obtain⟨y,h1,h2⟩:=nS (ρ:=ρ) (P:=P) (w:=w) hE he hq _ _ (ax h hx) (ax h hy);refine⟨y,?_,h2⟩;change Sem.run P (do let x<-(do eqGuard _ _ _ _ _ _;binOp _ _ _ _:Sem Value);pure (Next.value x)) w=_
   rw[Sem.run_bind,h1];rfl
  ·cases he
 ·
  split at he
  ·rename_i hx;obtain⟨y,h1,h2⟩:=ET (ρ:=ρ) (P:=P) (w:=w) he hq (ax h hx);exact⟨y,by simp[h1],h2⟩
  ·cases he
 ·
  split at he
  ·rename_i hs hx;obtain⟨y,h1,h2⟩:=Af (ρ:=ρ) (P:=P) (w:=w) hE hs he hq (ax h hx);exact⟨y,by simp[h1],h2⟩
  ·rename_i hs hx;obtain⟨y,h1,h2⟩:=ahP hE h hs (ax h hx) he hq;exact⟨y,by simp[h1],h2⟩
  ·cases he
 ·
  split at he
  ·rename_i fs n r π i j hs hx;split at he
   ·rename_i off size hf;simp only[Option.some.injEq,Prod.mk.injEq]at he;obtain⟨rfl,rfl⟩:=he;have hty:=hE.xf hs;obtain⟨⟨fields,hu,hp⟩,_⟩:=hty;obtain⟨fd,h1,h2,h3⟩:=akp fields.toList fs hp _ off (size+1) hf;obtain⟨hr,hv⟩:=ax h hx;rw[hv];refine⟨_,by simp[oG hu (by simpa using h1) h3];rfl,hr,?_⟩
    rw[RI.fF,h2,Nat.add_assoc]
   ·cases he
  ·cases he
 ·
  split at he
  ·rename_i fs n l hs hx hlf;split at he
   ·rename_i off hf;split at he
    ·rename_i y hy;simp only[Option.some.injEq,Prod.mk.injEq]at he;obtain⟨rfl,rfl⟩:=he;obtain⟨⟨fields,hu,hp⟩,_⟩:=hE.xf hs;obtain⟨fd,h1,h2,_⟩:=akp fields.toList fs hp _ _ _ hf;have u0:=h1;rw[Array.getElem?_toList]at u0;obtain⟨ys,hv,hl⟩:=ax h hx;obtain⟨v,k1,k2⟩:=hl.get _ _ hy;refine⟨v,?_,k2⟩;rw[hv];simp[Instr.field,run_underlying hu,u0,part,hE.lf _ _ hlf fields fd hu u0 w,h2,k1,asAgg]
    ·cases he
   ·cases he
  ·cases he
 ·
  split at he
  ·rename_i e m r π lo n k i hs hx hi;split at he
   ·rename_i q1 B hd;split at he
    ·rename_i hm';simp only[Option.some.injEq,Prod.mk.injEq]at he;obtain⟨rfl,rfl⟩:=he;rw[aH]at hq;obtain⟨hu,hm,_⟩:=hE.aav hs;obtain⟨hr,hv⟩:=ax h hx;have aBF:a.eval _= .int k i:=(ax h hi).1;have hin:=hq.2.1;simp only[aa.ae]at hin;obtain⟨_,hB⟩:=mD h hd hq.1;have Na:(ρ r π).m=m:=hB.m.trans (Nat.eq_of_beq_eq_true hm');have j4:(ρ r π).aC=false:=by
      cases hh:(ρ r π).aC with
      |false=>rfl
      |true=>have:=(hv.1 hh).1;omega
     obtain⟨hlc,ad,e1,e2⟩:=hv.2 j4;rw[e1,aBF,e2 (by omega)]
     refine⟨_,by simp[Instr.indexAt,run_underlying hu,asIntOf,cY hm,hin];rfl,hr,?_⟩
     rw[RI.fF,Na,Nat.add_mul,Nat.add_zero]
    ·cases he
   ·cases he
  ·rename_i e m n r π a' j k i hs hx hi;simp only[Option.some.injEq,Prod.mk.injEq]at he;obtain⟨rfl,rfl⟩:=he;obtain⟨hu,hm,_⟩:=hE.xe hs;obtain⟨hr,hv⟩:=ax h hx;have aBF:a.eval _= .int k i:=(ax h hi).1;have hin:=hq.1;simp only[aa.ae]at hin;rw[hv,aBF];refine⟨_,by simp[Instr.indexAt,Instr.sureAddr,run_underlying hu,asIntOf,cY hm,hin];rfl,hr,?_⟩
   rw[RI.fF,Nat.add_assoc]
  ·cases he
 ·
  split at he
  ·rename_i e m n l k i hs hx hi;split at he
   ·rename_i fs en gT;simp only[Option.some.injEq,Prod.mk.injEq]at he;obtain⟨rfl,rfl⟩:=he;obtain⟨hu,hm,_⟩:=hE.xe hs;obtain⟨⟨fields,NC,_⟩,_⟩:=hE.xf gT;obtain⟨ys,hv,hl⟩:=ax h hx;have aBF:a.eval _= .int k i:=(ax h hi).1;have hin:=hq.1;simp only[aa.ae]at hin;refine⟨.agg ((ys.drop (i.toNat*m)).take m).toArray,?_,_,rfl,yo (yn hl _) _⟩;rw[hv,aBF];simp[Instr.index,run_underlying hu,asIntOf,cY hm,hin,part,isAgg,run_underlying NC]
   ·cases he
  ·rename_i s k i hs hx hi;simp only[Option.some.injEq,Prod.mk.injEq]at he;obtain⟨rfl,rfl⟩:=he;obtain⟨hu,_⟩:=hE.FC hs;obtain⟨hv,_⟩:=ax h hx;have aBF:a.eval _= .int k i:=(ax h hi).1;have hin:=hq.1;simp only[aa.ae]at hin;rw[hv,aBF];have eN:s[i.toNat]?=some (s.data.getD i.toNat 0):=by
    have hlt:i.toNat<s.data.size:=by have:=hin;simp only[ByteArray.size]at this;omega
    show(if h:i.toNat<s.data.size then some s.data[i.toNat]else none)=_
    rw[dif_pos hlt];unfold Array.getD;rw[dif_pos hlt];rfl
   generalize s.data.getD i.toNat 0=b at eN;have hc:∀ t',P.underlying t'=some .string->(Instr.index t' (.string s) (.int k i)).run P w= .ok (.int .u8 b.toNat) w:=by
    intro t' Hv;simp only[Instr.index,run_underlying Hv,Sem.run_bind,Result.andThen_ok,asIntOf,Sem.run_pure];rw[if_pos hin.1,eN];rfl
   exact⟨_,by simp only[Sem.run_bind,hc _ hu,Result.andThen_ok];rfl,rfl,rfl⟩
  ·cases he
 ·
  split at he
  ·rename_i hx;obtain⟨y,h1,h2⟩:=pR hE h (ax h hx) he hq;exact⟨y,by simp[h1],h2⟩
  ·cases he
 ·
  rename_i ty xo k1 k2;have key:∀ {e:TypeId} {m:Nat},P.underlying ty=some (.slice e)->(P.info? e).map (·.size)=some m->(∃ ad len cap,a.eval xo= .slice ad len cap)->
   ∃ y,(execOp a.eval {o with op:=.slice ty xo none (some (.const (.int k1 0))) (some (.const (.int k2 0)))}).run P w= .ok (.value y) w/\(At.z).ok st.rg.length ρ y:=by
   rintro e m hu hm ⟨ad,len,cap,e1⟩;refine⟨.slice ad 0 0,?_,ad,rfl⟩;have hb:(Instr.sliceBounds true len cap none (some (.int k1 0)) (some (.int k2 0))).run P w= .ok (0,0,0) w:=by
    simp[Instr.sliceBounds,run_sliceBound (P:=P) w _ 0 _ _ (by omega) (by omega)]
   have e2:a.eval (.const (.int k1 0))= .int k1 0:=rfl;have e3:a.eval (.const (.int k2 0))= .int k2 0:=rfl;simp only[execOp,Option.map_some,Option.map_none,Sem.run_bind];rw[e1,e2,e3,iq hu];simp[Instr.slice,run_underlying hu,hb,cY hm]
  split at he
  ·rename_i e m r π lo n ht hx;simp only[Option.some.injEq,Prod.mk.injEq]at he;obtain⟨rfl,rfl⟩:=he;obtain⟨hu,hm,_⟩:=hE.aav ht;obtain⟨_,hv⟩:=ax h hx;obtain⟨y,h1,h2⟩:=key hu hm (by
    cases dV:(ρ r π).aC with
    |true=>obtain⟨_,ad,e1⟩:=hv.1 dV;exact⟨ad,0,0,e1⟩
    |false=>obtain⟨_,ad,e1,_⟩:=hv.2 dV;exact⟨ad,_,_,e1⟩)
   exact⟨y,by simpa[execOp]using h1,h2⟩
  ·rename_i ht hx;simp only[Option.some.injEq,Prod.mk.injEq]at he;obtain⟨rfl,rfl⟩:=he;obtain⟨hu,hm,_⟩:=hE.aav ht;obtain⟨y,h1,h2⟩:=key hu hm ⟨none,0,0,(ax h hx).1⟩;exact⟨y,by simpa[execOp]using h1,h2⟩
  ·rename_i ht hx;simp only[Option.some.injEq,Prod.mk.injEq]at he;obtain⟨rfl,rfl⟩:=he;obtain⟨hu,hm,_⟩:=hE.aav ht;obtain⟨ad,e1⟩:=ax h hx;obtain⟨y,h1,h2⟩:=key hu hm ⟨ad,0,0,e1⟩;exact⟨y,by simpa[execOp]using h1,h2⟩
  ·cases he
 ·
  split at he
  ·rename_i kt et ht;split at he
   ·rename_i k c x k' n hk hc hx hi;split at he
    ·rename_i es hs hm;simp only[Option.some.injEq,Prod.mk.injEq]at he;obtain⟨rfl,rfl⟩:=he;obtain⟨hu,_⟩:=hE.mb ht;have No:P.underlying kt=some (.int k):=by have:=hE.ty kt;rw[hk]at this;exact this.1
     obtain rfl:=akr hs;have aBF:a.eval _= .int k' n:=(ax h hi).1;obtain⟨y,h1,h2⟩:=Bc h hu No (hE.sc et c hc) hm (ax h hx) n _;rw[aBF];exact⟨y,by simp[h1],h2⟩
    ·cases he
   ·rename_i r l hx hi;split at he
    ·rename_i t' kk e tg es o i aBH e' bX hg hk hv;split at he
     ·rename_i q1 q2 q3 k _ _ _ hc;simp only[Option.some.injEq,Prod.mk.injEq]at he;obtain⟨rfl,rfl⟩:=he;have hin:=hq.1;simp only[aa.ae]at hin;obtain⟨y,h1,h2⟩:=rj hE h ht hg hk hv q1.down hc hin (ax h hx) (ax h hi);exact⟨y,by simp[h1 w (Below.refl _ _)],h2⟩
     ·cases he
    ·cases he
   ·cases he
  ·cases he
 ·
  split at he
  ·rename_i r hx;split at he
   ·rename_i m n j seen hg;split at he
    ·rename_i t k c es own qQ;simp only[Option.some.injEq,Prod.mk.injEq]at he;obtain⟨rfl,rfl⟩:=he;obtain⟨hn,hj,_⟩:=hq;simp only[aa.ae]at hn hj;obtain⟨hlt,hv⟩:=ax h hx;obtain⟨_,_,i3,i4⟩:=h.rs.blk r _ [] true (.it (some m) n (j::seen)) (bg hg (by simp)) ⟨rfl,rfl,rfl⟩
     obtain⟨_,_,i6⟩:=h.rs.blk m _ [] own (.map k c es) (bg qQ (by simp)) ⟨rfl,rfl,rfl⟩
     have:=vG (P:=P) i6 i4 hn hj;exact⟨.tuple #[.int k (es.getD j (0,c.d)).1,c.val (es.getD j (0,c.d)).2],by simp[hv,this],[.int k (es.getD j (0,c.d)).1,c.val (es.getD j (0,c.d)).2],rfl,⟨rfl,rfl⟩,pJ,trivial⟩
    ·rename_i t kk e tg es own akl qQ;simp only[Option.some.injEq,Prod.mk.injEq]at he;obtain⟨rfl,rfl⟩:=he;obtain⟨hn,hj,_⟩:=hq;simp only[aa.ae]at hn hj;obtain⟨hlt,hv⟩:=ax h hx;obtain⟨_,_,i3,i4⟩:=h.rs.blk r _ [] true (.it (some m) n (j::seen)) (bg hg (by simp)) ⟨rfl,rfl,rfl⟩
     obtain⟨_,_,i6⟩:=h.rs.blk m _ [] own (.bH kk tg es) (bg qQ (by simp)) (.inl ⟨rfl,rfl,rfl⟩)
     obtain⟨v,this⟩:=tY (P:=P) i6 i4 hn hj;exact⟨.tuple #[.agg (ai.a8 kk (es.getD j (ai.d kk,[])).1).toArray,v],by simp[hv,this],[.agg (ai.a8 kk (es.getD j (ai.d kk,[])).1).toArray,v],rfl,⟨_,rfl,BD _ _⟩,trivial,trivial⟩
    ·cases he
   ·cases he
  ·cases he
 ·
  split at he
  ·rename_i hx;simp only[Option.some.injEq,Prod.mk.injEq]at he;obtain⟨rfl,rfl⟩:=he;obtain⟨h1,h2⟩:=ax h hx;exact⟨_,by simp[h2],h1,rfl⟩
  ·rename_i hx;simp only[Option.some.injEq,Prod.mk.injEq]at he;obtain⟨rfl,rfl⟩:=he;obtain⟨h1,h2⟩:=ax h hx;exact⟨_,by simp[h2],h1,rfl⟩
  ·cases he
 ·
  split at he
  ·rename_i l hx;split at he
   ·rename_i c hc;simp only[Option.some.injEq,Prod.mk.injEq]at he;obtain⟨rfl,rfl⟩:=he;obtain⟨ys,hv,hl⟩:=ax h hx;obtain⟨y,hy,pS⟩:=hl.get _ _ hc;refine⟨y,by simp[hv,Instr.extract,hy],?_⟩
    cases c<;>exact pS
   ·cases he
  ·cases he
 ·
  split at he
  ·rename_i fs n z hs hz;split at he
   ·rename_i l hlen hl;simp only[Option.some.injEq,Prod.mk.injEq]at he;obtain⟨rfl,rfl⟩:=he;have hty:=hE.xf hs;obtain⟨⟨fields,hu,hp⟩,_⟩:=hty;obtain⟨_,i,zv,h1,h2,h3⟩:=hE.zero _ _ hz;obtain⟨ys,h4,h5⟩:=lN h _ _ _ _ hl (h3 _ ρ);refine⟨.agg ys.toArray,?_,ys,rfl,h5⟩;have:=rJ (w:=w) hu hp h1 h2 ((_:Array (Nat×Operand)).map fun x=>(x.1,a.eval x.2)) ys (by simpa using h4)
    simp[this]
   ·cases he
  ·rename_i e m n z hs hz;split at he
   ·rename_i l hlen hl;simp only[Option.some.injEq,Prod.mk.injEq]at he;obtain⟨rfl,rfl⟩:=he;obtain⟨hu,hm,_⟩:=hE.xe hs;obtain⟨_,i,zv,h1,h2,h3⟩:=hE.zero _ _ hz;obtain⟨ys,h4,h5⟩:=ko h _ _ _ _ hl (h3 _ ρ);refine⟨.agg ys.toArray,?_,ys,rfl,h5⟩;have:=rI (w:=w) hu hm h1 h2 ((_:Array (Nat×Operand)).map fun x=>(x.1,a.eval x.2)) ys (by simpa using h4)
    simp[this]
   ·cases he
  ·cases he
 ·
  split at he
  ·rename_i f l Nk hc;simp only[Option.some.injEq,Prod.mk.injEq]at he;obtain⟨rfl,rfl⟩:=he;obtain⟨h1,h2⟩:=Br h hc;refine⟨_,by simp[Instr.makeFunc];rfl,h1,?_⟩
   have e1:∀ (first:Array Operand),first.toList=[]->first=#[]:=fun first hh=>by simpa using hh
   rename_i first aBd _ _ _
   rw[e1 _ Nk];have e2:aBd.map a.eval=(l.map fun r=>Value.pointer (some ((ρ r []).at 0))).toArray:=Array.ext' (by simpa using h2)
   rw[e2];simp
  ·rename_i f x Nk hc;rename_i first aBd _ _ _
   split at he
   ·rename_i hx;simp only[Option.some.injEq,Prod.mk.injEq]at he;obtain⟨rfl,rfl⟩:=he;obtain⟨h1,h2⟩:=Br h hc;obtain⟨ys,h3,h4⟩:=ax h hx;refine⟨_,by simp[Instr.makeFunc];rfl,?_⟩
    have e0:ys=[]:=by cases ys with|nil=>rfl|cons _ _=>exact h4.elim
    have e1:first=#[x]:=Array.ext' (by simpa using Nk)
    have e2:aBd.map a.eval=#[]:=Array.ext' (by simpa using h2)
    subst e0;rw[e1,e2];simp[h3];exact⟨rfl,rfl⟩
   ·cases he
  ·cases he
 ·
  rename_i c;split at he
  ·rename_i agL;split at he
   ·rename_i x t agJ hty;have e1:c={callee:=.builtin .len,args:=#[x],argTypes:=#[t]}:=by
     cases c;simp only at agL agJ hty;subst agL
     congr 1
     ·exact Array.ext' (by simpa using agJ)
     ·exact Array.ext' (by simpa using hty)
    subst e1;have hrun:∀ (d:TypeDesc) (v y:Value),P.underlying t=some d->a.eval x=v->(Builtin.len_ #[t] o.type #[v]).run P w= .ok y w->
     (do let d<-resolve a.eval {callee:=.builtin .len,args:=#[x],argTypes:=#[t]} o.type;invoke d.target d.args:Sem Next).run P w= .ok (.value y) w:=by
     intro d v y hu hv hr;subst hv;simp[resolve,invoke,builtin,hr]
    split at he;case h_2=>cases he
    rename_i xv ny;unfold Kb at he;have hx:=ax h ny;split at he
    ·rename_i e m r π lo n hs;simp only[Option.some.injEq,Prod.mk.injEq]at he;obtain⟨rfl,rfl⟩:=he;obtain⟨hu,_,_⟩:=hE.aav hs;obtain⟨hr,hv⟩:=hx;have dZ:∃ ad cap,a.eval x= .slice ad n cap:=by
      cases dV:(ρ r π).aC with
      |true=>obtain⟨rfl,ad,e1⟩:=hv.1 dV;exact⟨ad,0,e1⟩
      |false=>obtain⟨_,ad,e1,_⟩:=hv.2 dV;exact⟨ad,_,e1⟩
     obtain⟨ad,cap,hv⟩:=dZ;exact⟨_,hrun _ _ _ hu hv (by simp[Builtin.len_,run_underlying hu];rfl),rfl,rfl⟩
    ·rename_i e m n cap hs;simp only[Option.some.injEq,Prod.mk.injEq]at he;obtain⟨rfl,rfl⟩:=he;obtain⟨hu,_,_⟩:=hE.aav hs;obtain⟨hv,_⟩:=hx;exact⟨_,hrun _ _ _ hu hv (by simp[Builtin.len_,run_underlying hu];rfl),rfl,rfl⟩
    ·rename_i hs;simp only[Option.some.injEq,Prod.mk.injEq]at he;obtain⟨rfl,rfl⟩:=he;obtain⟨hu,_,_⟩:=hE.aav hs;obtain⟨ad,hv⟩:=hx;exact⟨_,hrun _ _ _ hu hv (by simp[Builtin.len_,run_underlying hu];rfl),rfl,rfl⟩
    ·rename_i s hs;simp only[Option.some.injEq,Prod.mk.injEq]at he;obtain⟨rfl,rfl⟩:=he;obtain⟨hu,_⟩:=hE.FC hs;obtain⟨hv,_⟩:=hx;exact⟨_,hrun _ _ _ hu hv (by simp[Builtin.len_,run_underlying hu];rfl),rfl,rfl⟩
    ·rename_i hs;simp only[Option.some.injEq,Prod.mk.injEq]at he;obtain⟨rfl,rfl⟩:=he;obtain⟨hu,_⟩:=hE.mb hs;obtain⟨hv,_⟩:=hx;exact⟨_,hrun _ _ _ hu hv (by simp[Builtin.len_,run_underlying hu];rfl),rfl,rfl⟩
    ·cases he
   ·cases he
  ·rename_i agL;split at he
   ·rename_i x t agJ hty;split at he
    ·rename_i e m n k ht hx;simp only[Option.some.injEq,Prod.mk.injEq]at he;obtain⟨rfl,rfl⟩:=he;obtain⟨hu,_,_⟩:=hE.aav ht;obtain⟨hv,_⟩:=ax h hx;have e1:c.args=#[x]:=Array.ext' (by simpa using agJ)
     have e2:c.argTypes=#[t]:=Array.ext' (by simpa using hty)
     exact⟨_,by simp[resolve,invoke,builtin,agL,e1,e2,hv,Builtin.cap_,run_underlying hu];rfl,rfl,rfl⟩
    ·cases he
   ·cases he
  ·rename_i agL;split at he
   ·rename_i x y hargs;split at he
    ·rename_i k m k' n hx hy;simp only[Option.some.injEq,Prod.mk.injEq]at he;obtain⟨rfl,rfl⟩:=he;obtain⟨Hw,_⟩:=ax h hx;obtain⟨NF,_⟩:=ax h hy;have e1:c.args=#[x,y]:=Array.ext' (by simpa using hargs)
     exact⟨_,by simp[resolve,invoke,builtin,agL,e1,Hw,NF,run_min_int2],rfl,rfl⟩
    ·cases he
   ·cases he
  ·rename_i agL;split at he
   ·rename_i x y hargs;split at he
    ·rename_i k m k' n hx hy;simp only[Option.some.injEq,Prod.mk.injEq]at he;obtain⟨rfl,rfl⟩:=he;obtain⟨Hw,_⟩:=ax h hx;obtain⟨NF,_⟩:=ax h hy;have e1:c.args=#[x,y]:=Array.ext' (by simpa using hargs)
     exact⟨_,by simp[resolve,invoke,builtin,agL,e1,Hw,NF,run_max_int2],rfl,rfl⟩
    ·cases he
   ·cases he
  ·cases he
 ·cases he
theorem kP {E:Env} {pre q:List aa} {k:IntKind} {n:Int} {z:Tm} (h:wrapped E pre k n=some (q,z)):∃ v,z= .a (.v v):=by
 unfold wrapped at h;split at h<;>simp only[Option.some.injEq,Prod.mk.injEq]at h<;>exact⟨_,h.2.symm⟩
theorem apO {E:Env} {op:BinOp} {k:IntKind} {a b:Int} {q:List aa} {z:Tm} (h:ang E op k a b=some (q,z)):∃ v,z= .a (.v v):=by
 unfold ang at h;split at h
 ·exact kP h
 ·simp only[Option.some.injEq,Prod.mk.injEq]at h;exact⟨_,h.2.symm⟩
 ·cases h
theorem GJ {E:Env} {op:BinOp} {k:IntKind} {a b:Int} {q:List aa} {z:Tm} (h:uV E op k a b=some (q,z)):∃ v,z= .a (.v v):=by
 unfold uV at h;split at h
 ·exact kP h
 ·exact kP h
 ·exact kP h
 ·exact kP h
 all_goals first|exact apO h|(simp only[Option.some.injEq,Prod.mk.injEq]at h;exact⟨_,h.2.symm⟩)|cases h
theorem GF {E:Env} {op:BinOp} {t:TypeId} {x y z:Tm} {q:List aa} (h:uR E op t x y=some (q,z)):∃ v,z= .a (.v v):=by
 unfold uR at h;split at h
 ·split at h
  ·exact GJ h
  ·exact apO h
 ·split at h<;>first|(simp only[Option.some.injEq,Prod.mk.injEq]at h;exact⟨_,h.2.symm⟩)|cases h
 ·split at h
  ·split at h<;>first|(simp only[Option.some.injEq,Prod.mk.injEq]at h;exact⟨_,h.2.symm⟩)|cases h
  ·cases h
 ·split at h
  ·split at h<;>first|(simp only[Option.some.injEq,Prod.mk.injEq]at h;exact⟨_,h.2.symm⟩)|cases h
  ·cases h
theorem Aj (hE:bE P Γ E) (h:Rel Γ M w0 ρ st vs a w) {o:Oper} {q:List aa} {x:Tm} (hp:oD o=true) (he:oo E st o=some (q,x)) (hq:bW q):
 ∃ y,(∀ w':World,(execOp a.eval o).run P w'= .ok (.value y) w')/\x.ok st.rg.length ρ y:=by
 unfold oo at he;unfold execOp;unfold oD at hp;split at he<;>rename_i hop<;>simp only[hop]at hp ⊢<;>try(cases hp;done)
 ·
  split at he
  ·rename_i hx;simp only[Option.some.injEq,Prod.mk.injEq]at he;obtain⟨rfl,rfl⟩:=he;exact⟨_,fun _=>rfl,ax h hx⟩
  ·cases he
 ·split at he
  ·rename_i hx;simp only[Option.some.injEq,Prod.mk.injEq]at he;obtain⟨rfl,rfl⟩:=he;exact⟨_,fun _=>rfl,ax h hx⟩
  ·cases he
 ·
  split at he
  ·rename_i aiY;split at he
   ·rename_i hx;obtain⟨y,h1,h2⟩:=ahl (a:=a) hE aiY he _ (ax h hx);refine⟨.bool y,fun w'=>?_,h2⟩
    change Sem.run P (do let x<-(do eqGuard _ _ _ _ _ _;binOp _ _ _ _:Sem Value);pure (Next.value x)) w'=_
    rw[Sem.run_bind,h1];rfl
   ·cases he
  split at he
  ·rename_i hx hy;obtain⟨v,rfl⟩:=GF he;obtain⟨_,_,h3⟩:=nS (ρ:=ρ) (P:=P) (w:=w) hE he hq (.tmp 0) (.tmp 0) (ax h hx) (ax h hy);refine⟨v,fun w'=>?_,⟨rfl,h3.2⟩⟩
   obtain⟨y,h1,h2⟩:=nS (ρ:=ρ) (P:=P) (w:=w') hE he hq _ _ (ax h hx) (ax h hy);obtain rfl:y=v:=h2.1;change Sem.run P (do let x<-(do eqGuard _ _ _ _ _ _;binOp _ _ _ _:Sem Value);pure (Next.value x)) w'=_
   rw[Sem.run_bind,h1];rfl
  ·cases he
 ·
  split at he
  ·rename_i hx;obtain⟨y,h1,h2⟩:=GN (ρ:=ρ) (P:=P) he hq (ax h hx);exact⟨y,fun w'=>by simp[h1 w'],h2⟩
  ·cases he
 ·
  split at he
  ·rename_i fs n r π i j hs hx;split at he
   ·rename_i off size hf;simp only[Option.some.injEq,Prod.mk.injEq]at he;obtain⟨rfl,rfl⟩:=he;have hty:=hE.xf hs;obtain⟨⟨fields,hu,hp⟩,_⟩:=hty;obtain⟨fd,h1,h2,h3⟩:=akp fields.toList fs hp _ off (size+1) hf;obtain⟨hr,hv⟩:=ax h hx;rw[hv];refine⟨_,fun w'=>by simp[oG hu (by simpa using h1) h3];rfl,hr,?_⟩
    rw[RI.fF,h2,Nat.add_assoc]
   ·cases he
  ·cases he
 ·
  split at he
  ·rename_i e m r π lo n k i hs hx hi;split at he
   ·rename_i q1 B hd;split at he
    ·rename_i hm';simp only[Option.some.injEq,Prod.mk.injEq]at he;obtain⟨rfl,rfl⟩:=he;rw[aH]at hq;obtain⟨hu,hm,_⟩:=hE.aav hs;obtain⟨hr,hv⟩:=ax h hx;have aBF:a.eval _= .int k i:=(ax h hi).1;have hin:=hq.2.1;simp only[aa.ae]at hin;obtain⟨_,hB⟩:=mD h hd hq.1;have Na:(ρ r π).m=m:=hB.m.trans (Nat.eq_of_beq_eq_true hm');have j4:(ρ r π).aC=false:=by
      cases hh:(ρ r π).aC with
      |false=>rfl
      |true=>have:=(hv.1 hh).1;omega
     obtain⟨hlc,ad,e1,e2⟩:=hv.2 j4;rw[e1,aBF,e2 (by omega)]
     refine⟨_,fun w'=>by simp[Instr.indexAt,run_underlying hu,asIntOf,cY hm,hin];rfl,hr,?_⟩
     rw[RI.fF,Na,Nat.add_mul,Nat.add_zero]
    ·cases he
   ·cases he
  ·rename_i e m n r π a' j k i hs hx hi;simp only[Option.some.injEq,Prod.mk.injEq]at he;obtain⟨rfl,rfl⟩:=he;obtain⟨hu,hm,_⟩:=hE.xe hs;obtain⟨hr,hv⟩:=ax h hx;have aBF:a.eval _= .int k i:=(ax h hi).1;have hin:=hq.1;simp only[aa.ae]at hin;rw[hv,aBF];refine⟨_,fun w'=>by simp[Instr.indexAt,Instr.sureAddr,run_underlying hu,asIntOf,cY hm,hin];rfl,hr,?_⟩
   rw[RI.fF,Nat.add_assoc]
  ·cases he
 ·
  split at he
  ·rename_i hx;simp only[Option.some.injEq,Prod.mk.injEq]at he;obtain⟨rfl,rfl⟩:=he;obtain⟨h1,h2⟩:=ax h hx;exact⟨_,fun w'=>by simp[h2],h1,rfl⟩
  ·rename_i hx;simp only[Option.some.injEq,Prod.mk.injEq]at he;obtain⟨rfl,rfl⟩:=he;obtain⟨h1,h2⟩:=ax h hx;exact⟨_,fun w'=>by simp[h2],h1,rfl⟩
  ·cases he
 ·
  split at he
  ·rename_i l hx;split at he
   ·rename_i c hc;simp only[Option.some.injEq,Prod.mk.injEq]at he;obtain⟨rfl,rfl⟩:=he;obtain⟨ys,hv,hl⟩:=ax h hx;obtain⟨y,hy,pS⟩:=hl.get _ _ hc;refine⟨y,fun w'=>by simp[hv,Instr.extract,hy],?_⟩
    cases c<;>exact pS
   ·cases he
  ·cases he
 ·
  split at he
  ·rename_i fs n z hs hz;split at he
   ·rename_i l hlen hl;simp only[Option.some.injEq,Prod.mk.injEq]at he;obtain⟨rfl,rfl⟩:=he;have hty:=hE.xf hs;obtain⟨⟨fields,hu,hp⟩,_⟩:=hty;obtain⟨_,i,zv,h1,h2,h3⟩:=hE.zero _ _ hz;obtain⟨ys,h4,h5⟩:=lN h _ _ _ _ hl (h3 _ ρ);refine⟨.agg ys.toArray,fun w'=>?_,ys,rfl,h5⟩
    have:=rJ (w:=w') hu hp h1 h2 ((_:Array (Nat×Operand)).map fun x=>(x.1,a.eval x.2)) ys (by simpa using h4)
    simp[this]
   ·cases he
  ·rename_i e m n z hs hz;split at he
   ·rename_i l hlen hl;simp only[Option.some.injEq,Prod.mk.injEq]at he;obtain⟨rfl,rfl⟩:=he;obtain⟨hu,hm,_⟩:=hE.xe hs;obtain⟨_,i,zv,h1,h2,h3⟩:=hE.zero _ _ hz;obtain⟨ys,h4,h5⟩:=ko h _ _ _ _ hl (h3 _ ρ);refine⟨.agg ys.toArray,fun w'=>?_,ys,rfl,h5⟩
    have:=rI (w:=w') hu hm h1 h2 ((_:Array (Nat×Operand)).map fun x=>(x.1,a.eval x.2)) ys (by simpa using h4)
    simp[this]
   ·cases he
  ·cases he
end
end Go.Sy
end
section
namespace Go.Sy
open Go Go.RowKit
universe u
def aE (ρ:Keys) (n:Nat) (η:Path->RI):Keys:=fun r=>if r=n then η else ρ r
section
variable {P:Program} {Γ:bn} {E:Env} {M:Nat->Prop} {w0:World} {ρ:Keys} {st:St} {vs:Fv} {a:Act} {w:World}
theorem bB {n r:Nat} {η:Path->RI} (h:r<n):aE ρ n η r=ρ r:=by simp[aE,Nat.ne_of_lt h]
theorem aF {n:Nat} {η:Path->RI}:aE ρ n η n=η:=by simp[aE]
def gI (M:Nat->Prop) (w0 w:World) (N:Nat) (ρ:Keys) (r:Nat) (g g':az):Prop:=
 ∀ π o B',g'.has π o B'->∃ o2 B,g.has π o2 B/\(o=true->o2=true)/\(B.aA N ρ r π w->B'.aA N ρ r π w)/\(B.mine M w0 w (ρ r π)->B'.mine M w0 w (ρ r π))
theorem gI.refl {N r:Nat} {g:az}:gI M w0 w N ρ r g g:=fun _ o B h=>⟨o,B,h,id,id,id⟩
theorem CY {N r:Nat} {g:az}:gI M w0 w N ρ r g .dead:=fun _ _ _ h=>h.elim
theorem Ar.gQ {te:TypeId} {tg:List CK} {xs:List (ai tg)} {o i:Bool} {π:Path} {f:Bool} {B:aD0} (h:(az.arr te tg xs o i).has π f B):∃ A,B= .arr A/\Ar.has ⟨te,tg,xs⟩ π A/\f=mH π o i:=by
 obtain⟨h1,A,h2,h3⟩:=h;exact⟨A,h3,h2,h1⟩
theorem Cd {N r:Nat} {te:TypeId} {tg:List CK} {xs:List (ai tg)} {o i o' i':Bool} (ho:o'=true->o=true) (hi:i'=true->i=true):
 gI M w0 w N ρ r (.arr te tg xs o i) (.arr te tg xs o' i'):=by
 rintro π f B ⟨rfl,A,hA,rfl⟩;refine⟨mH π o i,.arr A,⟨rfl,A,hA,rfl⟩,?_,id,id⟩;cases π with
 |nil=>exact ho
 |cons=>exact hi
theorem p9 {N r:Nat} {g:az}:gI M w0 w N ρ r g g.frozen:=by
 cases g with
 |dead=>exact gI.refl
 |box o l=>rintro π f B ⟨rfl,rfl,rfl⟩;exact⟨o,.box l,⟨rfl,rfl,rfl⟩,by simp,id,id⟩
 |arr te tg xs o i=>exact Cd (by simp) (by simp)
 |map t k c es o=>rintro π f B ⟨rfl,rfl,rfl⟩;exact⟨o,.map k c es,⟨rfl,rfl,rfl⟩,by simp,id,id⟩
 |bH t kk e tg es o i=>
  rintro π f B (⟨rfl,rfl,rfl⟩|⟨j,rfl,rfl,hj,hf,rfl⟩)
  ·exact⟨o,_,.inl ⟨rfl,rfl,rfl⟩,by simp,id,id⟩
  ·exact⟨i,_,.inr ⟨j,rfl,rfl,hj,hf,rfl⟩,by simp,id,id⟩
 |iter=>exact gI.refl
 |lp=>exact gI.refl
theorem cF {l:List az} {r r':Nat} {g g':az} (h:(l.set r g)[r']?=some g'):(r'=r/\g'=g/\r<l.length)\/(r'≠r/\l[r']?=some g'):=by
 by_cases he:r'=r
 ·subst he;have hlt:r'<l.length:=by have:=(List.getElem?_eq_some_iff.1 h).1;simpa using this
  rw[List.getElem?_set_self hlt]at h;exact .inl ⟨rfl,(Option.some.inj h).symm,hlt⟩
 ·rw[List.getElem?_set_ne (Ne.symm he)]at h;exact .inr ⟨he,h⟩
theorem cA.weaken {N:Nat} {rg:List az} (h:cA M w0 N ρ rg w) {r:Nat} {g g':az} (hr:rg[r]?=some g) (hw:gI M w0 w N ρ r g g'):cA M w0 N ρ (rg.set r g') w where
 blk:=fun r1 g1 π o B h1 h2=>by
  rcases cF h1 with⟨rfl,rfl,_⟩|⟨_,h1⟩
  ·obtain⟨o2,B2,k1,_,k3,_⟩:=hw π o B h2;exact k3 (h.blk _ g π o2 B2 hr k1)
  ·exact h.blk r1 g1 π o B h1 h2
 lt:=fun r1 g1 π o B h1 h2 hv=>by
  rcases cF h1 with⟨rfl,rfl,_⟩|⟨_,h1⟩
  ·obtain⟨o2,B2,k1,_,_,_⟩:=hw π o B h2;exact h.lt _ g π o2 B2 hr k1 hv
  ·exact h.lt r1 g1 π o B h1 h2 hv
 own:=fun r1 g1 π B h1 h2 hv=>by
  rcases cF h1 with⟨rfl,rfl,_⟩|⟨_,h1⟩
  ·obtain⟨o2,B2,k1,k2,_,k4⟩:=hw π true B h2;obtain rfl:=k2 rfl;exact k4 (h.own _ g π B2 hr k1 hv)
  ·exact h.own r1 g1 π B h1 h2 hv
 dj:=fun r1 r2 g1 g2 π aW o' B B' h1 h2 k1 k2 v1 v2 hne=>by
  rcases cF h1 with⟨e1,f1,_⟩|⟨_,p1⟩<;>rcases cF h2 with⟨e2,f2,_⟩|⟨_,p2⟩
  ·subst e1 f1 e2 f2;obtain⟨oa,Ba,a1,a2,_,_⟩:=hw π true B k1;obtain rfl:=a2 rfl;obtain⟨ob,Bb,b1,_,_,_⟩:=hw aW o' B' k2;exact h.dj _ _ g g π aW ob Ba Bb hr hr a1 b1 v1 v2 hne
  ·subst e1 f1;obtain⟨oa,Ba,a1,a2,_,_⟩:=hw π true B k1;obtain rfl:=a2 rfl;exact h.dj _ _ g g2 π aW o' Ba B' hr p2 a1 k2 v1 v2 hne
  ·subst e2 f2;obtain⟨ob,Bb,b1,_,_,_⟩:=hw aW o' B' k2;exact h.dj _ _ g1 g π aW ob B Bb p1 hr k1 b1 v1 v2 hne
  ·exact h.dj _ _ g1 g2 π aW o' B B' p1 p2 k1 k2 v1 v2 hne
theorem cA.snoc {N N':Nat} {rg:List az} (h:cA M w0 N ρ rg w) (hN:N<=N') (Rf:N<=rg.length) {g:az} {η:Path->RI}
 (blk:∀ π o B,g.has π o B->B.aA N' (aE ρ rg.length η) rg.length π w) (lt:∀ π o B,g.has π o B->(η π).aC=false->(η π).b<w.heap.size)
 (own:∀ π B,g.has π true B->(η π).aC=false->B.mine M w0 w (η π))
 (QR:∀ π B,g.has π true B->(η π).aC=false->∀ (r':Nat) (g':az) aW o' B',rg[r']?=some g'->g'.has aW o' B'->(ρ r' aW).aC=false->(η π).b≠(ρ r' aW).b)
 (QO:∀ π o B,g.has π o B->(η π).aC=false->∀ (r':Nat) (g':az) aW B',rg[r']?=some g'->g'.has aW true B'->(ρ r' aW).aC=false->(ρ r' aW).b≠(η π).b)
 (QS:∀ π aW o' B B',g.has π true B->g.has aW o' B'->(η π).aC=false->(η aW).aC=false->π≠aW->(η π).b≠(η aW).b):
 cA M w0 N' (aE ρ rg.length η) (rg++[g]) w:=by
 have key:∀ (r:Nat) (g1:az),(rg++[g])[r]?=some g1->(r<rg.length/\rg[r]?=some g1)\/(r=rg.length/\g1=g):=by
  intro r g1 hr;rcases Nat.lt_or_ge r rg.length with hl|hl
  ·rw[List.getElem?_append_left hl]at hr;exact .inl ⟨hl,hr⟩
  ·rw[List.getElem?_append_right hl]at hr;rcases Nat.eq_or_lt_of_le hl with he|he
   ·rw[<-he]at hr;simp at hr;exact .inr ⟨he.symm,hr.symm⟩
   ·rw[List.getElem?_eq_none (by simp;omega)]at hr;cases hr
 refine⟨fun r g1 π o B h1 h2=>?_,fun r g1 π o B h1 h2 hv=>?_,fun r g1 π B h1 h2 hv=>?_,fun r r' g1 g2 π aW o' B B' h1 h2 k1 k2 v1 v2 hne=>?_⟩
 ·rcases key r g1 h1 with⟨hl,h1⟩|⟨rfl,rfl⟩
  ·exact(h.blk r g1 π o B h1 h2).cX (fun _=>by rw[bB hl]) hN (fun r hr _=>by rw[bB (Nat.lt_of_lt_of_le hr Rf)]) (fun _=>rfl)
  ·exact blk π o B h2
 ·rcases key r g1 h1 with⟨hl,h1⟩|⟨rfl,rfl⟩
  ·rw[bB hl]at hv ⊢;exact h.lt r g1 π o B h1 h2 hv
  ·rw[aF]at hv ⊢;exact lt π o B h2 hv
 ·rcases key r g1 h1 with⟨hl,h1⟩|⟨rfl,rfl⟩
  ·rw[bB hl]at hv ⊢;exact h.own r g1 π B h1 h2 hv
  ·rw[aF]at hv ⊢;exact own π B h2 hv
 ·rcases key r g1 h1 with⟨agM,p1⟩|⟨e1,f1⟩<;>rcases key r' g2 h2 with⟨jJ,p2⟩|⟨e2,f2⟩
  ·rw[bB agM]at v1 ⊢;rw[bB jJ]at v2 ⊢;exact h.dj r r' g1 g2 π aW o' B B' p1 p2 k1 k2 v1 v2 hne
  ·subst e2 f2;rw[bB agM]at v1 ⊢;rw[aF]at v2 ⊢;exact QO aW o' B' k2 v2 r g1 π B p1 k1 v1
  ·subst e1 f1;rw[aF]at v1 ⊢;rw[bB jJ]at v2 ⊢;exact QR π B k1 v1 r' g2 aW o' B' p2 k2 v2
  ·subst e1 f1 e2 f2;rw[aF]at v1 v2 ⊢;exact QS π aW o' B B' k1 k2 v1 v2 fun e=>hne ⟨rfl,e⟩
theorem cA.fresh {rg:List az} (h:cA M w0 rg.length ρ rg w) {w':World} (hb:Below w.heap.size w w') {g:az} {η:Path->RI}
 (blk:∀ π o B,g.has π o B->B.aA (rg.length+1) (aE ρ rg.length η) rg.length π w') (lt:∀ π o B,g.has π o B->(η π).aC=false->w.heap.size<=(η π).b/\(η π).b<w'.heap.size)
 (own:∀ π B,g.has π true B->(η π).aC=false->B.mine M w0 w' (η π))
 (one:∀ π aW o o' B B',g.has π o B->g.has aW o' B'->(η π).aC=false->(η aW).aC=false->π=aW):
 cA M w0 (rg.length+1) (aE ρ rg.length η) (rg++[g]) w':=by
 have h':=h.cX hb.size hb.block;refine h'.snoc (Nat.le_succ _) (Nat.le_refl _) blk (fun π o B k v=>(lt π o B k v).2) own (fun π B k v r' g' aW o' B' h1 h2 v'=>?_) (fun π o B k v r' g' aW B' h1 h2 v'=>?_) (fun π aW o' B B' k k' v v' hne=>absurd (one π aW true o' B B' k k' v v') hne)
 ·have:=(lt π true B k v).1;have:=h.lt r' g' aW o' B' h1 h2 v';omega
 ·have:=(lt π o B k v).1;have:=h.lt r' g' aW true B' h1 h2 v';omega
theorem agB (o:Obj):Below w.heap.size w (w.alloc o):=(Below.refl _ _).alloc (Nat.le_refl _) o
theorem gh (cs:List Value) (t:TypeId) (o:Nat):(w.alloc (.cells cs.toArray t)).cell? ⟨w.heap.size,o,none⟩=cs[o]?:=by
 simp[World.cell?_alloc_new]
theorem cA.front {N:Nat} {rg ex:List az} (h:cA M w0 N ρ (rg++ex) w):cA M w0 N ρ rg w:=by
 have key:∀ (r:Nat) (g:az),rg[r]?=some g->(rg++ex)[r]?=some g:=fun r g hr=>by
  rw[List.getElem?_append_left (List.getElem?_eq_some_iff.1 hr).1];exact hr
 exact⟨fun r g π o B h1=>h.blk r g π o B (key r g h1),fun r g π o B h1=>h.lt r g π o B (key r g h1),fun r g π B h1=>h.own r g π B (key r g h1),
  fun r r' g g' π aW o' B B' h1 h2=>h.dj r r' g g' π aW o' B B' (key r g h1) (key r' g' h2)⟩
theorem Rel.grow (h:Rel Γ M w0 ρ st vs a w) {w':World} (hb:Below w.heap.size w w') {gs:List az} {ρ':Keys} (hρ:∀ r,r<st.rg.length->∀ π,ρ' r π=ρ r π)
 (hr:cA M w0 (st.rg.length+gs.length) ρ' (st.rg++gs) w'):Rel Γ M w0 ρ' (st.push gs) vs a w' where
 tm:=by
  have:=h.tm.mono (ρ':=ρ') (Nat.le_add_right st.rg.length gs.length) hρ;simpa[St.push]using this
 fr:=by
  have:=h.fr.mono (R':=Sl.ok (st.rg.length+gs.length) ρ') fun s v hs=>hs.mono (Nat.le_add_right _ _) hρ
  simpa[St.push]using this
 df:=h.df
 rs:=by simpa[St.push]using hr
 bl:=h.bl.below hb
 gl:=Γ.st _ _ h.gl fun b hlt=>hb.block b (Nat.lt_of_lt_of_le (h.gn b hlt).2 h.bl.size)
 gn:=h.gn
def dx (w:World):Path->RI:=fun _=>⟨w.heap.size,0,0,0,false⟩
theorem Rel.box (h:Rel Γ M w0 ρ st vs a w) {l:List At} {ys:List Value} (hl:be (At.ok st.rg.length ρ) l ys) (t:TypeId):
 Rel Γ M w0 (aE ρ st.rg.length (dx w)) (st.push [.box true l]) vs a (w.alloc (.cells ys.toArray t)):=by
 refine h.grow (agB _) (fun r hr π=>by rw[bB hr]) (h.rs.fresh (agB _) ?_ ?_ ?_ ?_)
 ·rintro π o B ⟨rfl,rfl,rfl⟩;refine⟨rfl,by rw[aF];rfl,by rw[aF];rfl,fun j x hx=>?_⟩
  obtain⟨y,hy,hr⟩:=hl.get j x hx;refine⟨y,hr.mono (Nat.le_succ _) fun r hr π=>by rw[bB hr],?_⟩
  rw[aF];simp only[RI.at,dx,Nat.zero_add];rw[gh];exact hy
 ·rintro π o B ⟨rfl,rfl,rfl⟩ _;exact⟨Nat.le_refl _,by simp[dx]⟩
 ·rintro π B ⟨rfl,_,rfl⟩ _;exact⟨.inr h.bl.size,fun j=>by simp[dx]⟩
 ·rintro π aW o o' B B' ⟨rfl,_⟩ ⟨rfl,_⟩ _ _;rfl
end
end Go.Sy
end
section
namespace Go.Sy
open Go Go.RowKit
universe u
section
variable {cc:Bool} {P:Program} {Γ:bn} {E:Env} {M:Nat->Prop} {w0:World} {ρ:Keys} {st:St} {vs:Fv} {a:Act} {w:World}
structure dS (M:Nat->Prop) (w0 w:World) (ρ:Keys) (st:St) (held:List az):Prop where
 rs:cA M w0 st.rg.length ρ (st.rg++held) w
structure eL (st an:St):Prop where
 tm:an.tm=st.tm
 fr:an.fr=st.fr
 len:an.rg.length=st.rg.length
theorem eL.refl (st:St):eL st st:=⟨rfl,rfl,rfl⟩
theorem eL.trans {a b c:St} (h:eL a b) (k:eL b c):eL a c:=⟨k.tm.trans h.tm,k.fr.trans h.fr,k.len.trans h.len⟩
theorem eL.aBZ (st:St) (r:Nat) (g:az):eL st (st.aBZ r g):=⟨rfl,rfl,by simp[St.aBZ]⟩
def iC:RI:=⟨0,0,0,0,true⟩
theorem mm {te:TypeId} {tg:List CK} {o i:Bool} {π:Path} {f:Bool} {B:aD0} (h:(az.arr te tg [] o i).has π f B):π=[]/\B= .arr ⟨te,tg,[]⟩:=by
 obtain⟨_,A,hA,rfl⟩:=h;have gen:∀ (π:Path) (A:Ar),Ar.has ⟨te,tg,[]⟩ π A->π=[]/\A=⟨te,tg,[]⟩:=by
  intro π;induction π with
  |nil=>intro A h;exact⟨rfl,h⟩
  |cons ij π ih=>
   intro A h;obtain⟨B,h1,h2,_⟩:=h;obtain⟨_,rfl⟩:=ih B h1;simp at h2
 obtain⟨h1,rfl⟩:=gen π A hA;exact⟨h1,rfl⟩
theorem dS.aC {held:List az} (h:dS M w0 w ρ st held) (e:TypeId) {tg:List CK} (ci:tg≠[]):
 dS M w0 w (aE ρ (st.rg.length+held.length) fun _=>{iC with m:=tg.length}) st (held++[.arr e tg [] true true]):=by
 have hl:(st.rg++held).length=st.rg.length+held.length:=by simp
 constructor;rw[<-List.append_assoc,<-hl];refine h.rs.snoc (Nat.le_refl _) (by simp) ?_ ?_ ?_ ?_ ?_ ?_
 ·intro π o B hB;obtain⟨rfl,rfl⟩:=mm hB;refine⟨ci,by rw[aF],fun _=>rfl,fun hv=>by rw[aF]at hv;simp[iC]at hv,fun i hi=>by simp at hi⟩
 all_goals(intros;rename_i hv _;first|(simp[iC]at hv;done)|skip)
 all_goals simp_all [iC]
theorem aao {held:List az} {r:Nat} {g:az} (h:st.rg[r]?=some g):(st.rg++held)[r]?=some g:=by
 rw[List.getElem?_append_left (List.getElem?_eq_some_iff.1 h).1];exact h
theorem dS.weaken {held:List az} (h:dS M w0 w ρ st held) {r:Nat} {g g':az} (hr:st.rg[r]?=some g) (hw:gI M w0 w st.rg.length ρ r g g'):dS M w0 w ρ (st.aBZ r g') held:=by
 constructor;have:=h.rs.weaken (aao (held:=held) hr) hw;have e:(st.rg++held).set r g'=st.rg.set r g'++held:=by rw[List.set_append_left _ _ (List.getElem?_eq_some_iff.1 hr).1]
 rw[e]at this;simpa[St.aBZ]using this
theorem dS.move {held:List az} (h:dS M w0 w ρ st held) {r:Nat} {g:az} (hr:st.rg[r]?=some g) (hb:∀ π o B,g.has π o B->∃ A,B= .arr A):
 dS M w0 w (aE ρ (st.rg.length+held.length) (ρ r)) (st.aBZ r .dead) (held++[g]):=by
 have h1:=h.weaken hr (CY (M:=M) (w0:=w0) (w:=w) (N:=st.rg.length) (ρ:=ρ) (r:=r) (g:=g));have hl:((st.aBZ r .dead).rg++held).length=st.rg.length+held.length:=by simp[St.aBZ]
 have hN:(st.aBZ r .dead).rg.length=st.rg.length:=by simp[St.aBZ]
 have hs:=aao (held:=held) hr;constructor;rw[<-List.append_assoc,<-hl,hN];have Hu:=h1.rs;rw[hN]at Hu;have old:∀ (r':Nat) (g':az) π o B,((st.aBZ r .dead).rg++held)[r']?=some g'->g'.has π o B->r'≠r/\(st.rg++held)[r']?=some g':=by
  intro r' g' π o B h1 h2;have e:(st.aBZ r .dead).rg++held=(st.rg++held).set r .dead:=by simp only[St.aBZ];rw[List.set_append_left _ _ (List.getElem?_eq_some_iff.1 hr).1]
  rw[e]at h1;rcases cF h1 with⟨_,rfl,_⟩|h1
  ·exact h2.elim
  ·exact h1
 refine Hu.snoc (Nat.le_refl _) (by rw[hl];omega) ?_ ?_ ?_ ?_ ?_ ?_
 ·intro π o B hB;have:=h.rs.blk r g π o B hs hB;obtain⟨A,rfl⟩:=hb π o B hB;exact Ar.aA.cX (w:=w) (η:=ρ r) (fun σ=>by rw[aF]) (fun _=>rfl) this
 ·intro π o B hB hv;exact h.rs.lt r g π o B hs hB hv
 ·intro π B hB hv;exact h.rs.own r g π B hs hB hv
 ·intro π B hB hv r' g' aW o' B' k1 k2 v';obtain⟨hne,k1⟩:=old r' g' aW o' B' k1 k2;exact h.rs.dj r r' g g' π aW o' B B' hs k1 hB k2 hv v' (fun e=>hne e.1.symm)
 ·intro π o B hB hv r' g' aW B' k1 k2 v';obtain⟨hne,k1⟩:=old r' g' aW true B' k1 k2;exact h.rs.dj r' r g' g aW π o B' B k1 hs k2 hB v' hv (fun e=>hne e.1)
 ·intro π aW o' B B' k k' v v' hne;exact h.rs.dj r r g g π aW o' B B' hs hs k k' v v' (fun e=>hne e.2)
theorem I5 {tg:List CK} (hf:aaa tg=true):∀ (x:ai tg) (j:Nat),ai.sub tg x j=none:=by
 have one:∀ (c:CK) (x:c.ty),c.flat=true->c.sub x=none:=fun c x h=>by cases c<;>first|rfl|cases h
 intro x j;induction tg generalizing j with
 |nil=>rfl
 |cons c cs ih=>
  simp only[aaa]at hf;split at hf
  ·rename_i hc;cases cs with
   |nil=>cases j with
    |zero=>exact one c x hc
    |succ j=>rfl
   |cons c' cs=>
    cases j with
    |zero=>exact one c x.1 hc
    |succ j=>exact ih hf x.2 j
  ·cases hf
theorem fT {te:TypeId} {tg:List CK} {xs:List (ai tg)} (hf:aaa tg=true):∀ {π:Path} {A:Ar},Ar.has ⟨te,tg,xs⟩ π A->π=[]/\A=⟨te,tg,xs⟩
 |[],_,h=>⟨rfl,h⟩
 |(i,j)::π,A,h=>by
  obtain⟨B,h1,_,h3⟩:=h;obtain⟨rfl,rfl⟩:=fT hf h1;rw[I5 hf]at h3;cases h3
theorem lA {η bU:Path->RI} {π aW:Path} {i i':Nat}:∀ {tg:List CK} {j j':Nat} {x:ai tg} {ys:List Value},aaa tg=true->ai.aA η π i j tg x ys->ai.aA bU aW i' j' tg x ys:=by
 have one:∀ {c:CK} {j j':Nat} {x:c.ty} {y:Value},c.flat=true->c.aA η π i j x y->c.aA bU aW i' j' x y:=fun{c} _ _ _ _ hf h=>by
  cases c<;>first|exact h|cases hf
 intro tg;induction tg with
 |nil=>intro j j' x ys _ h;exact h
 |cons c cs ih=>
  intro j j' x ys hf h;simp only[aaa]at hf;split at hf
  ·rename_i hc;cases cs with
   |nil=>obtain⟨y,h1,h2⟩:=h;exact⟨y,h1,one hc h2⟩
   |cons c' cs=>obtain⟨y,ys',h1,h2,h3⟩:=h;exact⟨y,ys',h1,one hc h2,ih hf h3⟩
  ·cases hf
theorem yX {te:TypeId} {tg:List CK} {xs:List (ai tg)} {lo n i:Nat} (hi:i<((xs.drop lo).take n).length):Ar.get ⟨te,tg,(xs.drop lo).take n⟩ i=Ar.get ⟨te,tg,xs⟩ (lo+i):=by
 simp only[List.length_take,List.length_drop]at hi;simp only[Ar.get,List.getD_eq_getElem?_getD];rw[List.getElem?_take_of_lt (by omega),List.getElem?_drop]
def RI.shift (I:RI) (lo:Nat):RI:=⟨I.b,I.off+lo*I.m,I.m,I.cap-lo,I.aC⟩
theorem RI.aar (I:RI) (lo o:Nat):(I.shift lo).at o=I.at (lo*I.m+o):=by simp[RI.shift,RI.at,Nat.add_assoc]
theorem ri {te:TypeId} {tg:List CK} {xs:List (ai tg)} (hf:aaa tg=true) {η:Path->RI} {π:Path} {lo n:Nat} (h:Ar.aA w η π ⟨te,tg,xs⟩) (DG:lo+n<=xs.length) {bU:Path->RI} {aW:Path} (he:bU aW=(η π).shift lo) (oO:TypeId):
 Ar.aA w bU aW ⟨oO,tg,(xs.drop lo).take n⟩ where
 tg:=h.tg
 m:=by rw[he];exact h.m
 aC:=fun hv=>by rw[he]at hv;have:=h.aC hv;simp only at this ⊢;rw[this];simp
 len:=fun hv=>by rw[he]at hv ⊢;have:=h.len hv;simp only[RI.shift,List.length_take,List.length_drop]at this ⊢;omega
 cell:=fun i hi=>by
  have hi':i<((xs.drop lo).take n).length:=hi;rw[yX (te:=oO) hi'];obtain⟨ys,h1,h2⟩:=h.cell (lo+i) (by simp only[List.length_take,List.length_drop]at hi' ⊢;omega)
  refine⟨ys,lA hf h1,fun s y hy=>?_⟩
  rw[he,RI.aar];have:=h2 s y hy;simp only[RI.shift];rw[show lo*(η π).m+(i*(η π).m+s)=(lo+i)*(η π).m+s by rw[Nat.add_mul];omega]
  exact this
theorem ph {I:RI} {lo n:Nat} {y:Value} (h:I.head lo n y):(I.shift lo).head 0 n y:=by
 refine⟨fun hv=>h.1 hv,fun hv=>?_⟩
 obtain⟨h1,a,h2,h3⟩:=h.2 hv;refine⟨by simp only[RI.shift];omega,a,by simpa[RI.shift]using h2,fun hlt=>?_⟩
 rw[h3 (by simp only[RI.shift]at hlt;omega)]
 simp[RI.shift,RI.at]
theorem He {g:az} {π:Path} {o o':Bool} {B B':aD0} (h:g.has π o B) (h':g.has π o' B'):o=o':=by
 cases g with
 |dead=>exact h.elim
 |box ow l=>exact h.2.1.trans h'.2.1.symm
 |arr te tg xs ow i=>exact h.1.trans h'.1.symm
 |map=>exact h.2.1.trans h'.2.1.symm
 |bH=>
  rcases h with⟨h1,h2,_⟩|⟨j,h1,h2,_⟩<;>rcases h' with⟨k1,k2,_⟩|⟨k,k1,k2,_⟩
  ·exact h2.trans k2.symm
  ·rw[h1]at k1;cases k1
  ·rw[h1]at k1;cases k1
  ·exact h2.trans k2.symm
 |iter=>exact h.2.1.trans h'.2.1.symm
 |lp=>exact h.2.1.trans h'.2.1.symm
theorem dS.Pj {held:List az} (h:dS M w0 w ρ st held) {r:Nat} {g:az} {π:Path} {B:Ar} (hr:st.rg[r]?=some g) (hB:g.has π false (.arr B)) (hf:aaa B.tg=true) {lo n:Nat} (DG:lo+n<=B.xs.length) (te:TypeId):
 dS M w0 w (aE ρ (st.rg.length+held.length) fun _=>(ρ r π).shift lo) st (held++[.arr te B.tg ((B.xs.drop lo).take n) false false]):=by
 have hl:(st.rg++held).length=st.rg.length+held.length:=by simp
 have hs:=aao (held:=held) hr;have hL:B.aA w (ρ r) π:=h.rs.blk r g π false (.arr B) hs hB;have Fo:∀ {aW:Path} {C:aD0},¬(az.arr te B.tg ((B.xs.drop lo).take n) false false).has aW true C:=by
  rintro aW C ⟨h1,_⟩;cases aW<;>simp[mH]at h1
 constructor;rw[<-List.append_assoc,<-hl];refine h.rs.snoc (Nat.le_refl _) (by simp) ?_ ?_ ?_ ?_ ?_ ?_
 ·rintro aW o C ⟨_,A,hA,rfl⟩;obtain⟨rfl,rfl⟩:=fT hf hA;exact ri (te:=B.te) (η:=ρ r) hf hL DG (by rw[aF]) te
 ·rintro aW o C hC hv;exact h.rs.lt r g π false (.arr B) hs hB hv
 ·intro aW C hC;exact absurd hC Fo
 ·intro aW C hC;exact absurd hC Fo
 ·intro aW o C hC hv r' g' jr C' k1 k2 v';exact h.rs.dj r' r g' g jr π false C' (.arr B) k1 hs k2 hB v' hv (fun e=>by
   obtain⟨rfl,rfl⟩:=e;obtain rfl:=Option.some.inj (k1.symm.trans hs);exact absurd (He k2 hB) (by simp))
 ·intro aW jr o' C C' hC;exact absurd hC Fo
theorem sY {held:List az} (h:dS M w0 w ρ st held) {e:TypeId} {tg:List CK} {x:At} {y:Value} {K:St->List (ai tg)->Bool->Prop} (hx:x.ok st.rg.length ρ y) (ci:tg≠[]) (hK:uZ cc st e tg x K):
 ∃ (an:St) (ys:List (ai tg)) (b:Bool) (η:Path->RI),K an ys b/\eL st an/\dS M w0 w (aE ρ (st.rg.length+held.length) η) an (held++[.arr e tg ys b b])/\(η []).head 0 ys.length y:=by
 unfold uZ at hK;split at hK
 ·obtain⟨rfl,_⟩:=hx;exact⟨st,[],true,_,hK,eL.refl _,h.aC e ci,fun _=>⟨rfl,none,rfl⟩,fun hv=>by simp[iC]at hv⟩
 ·obtain⟨ad,rfl⟩:=hx;exact⟨st,[],true,_,hK,eL.refl _,h.aC e ci,fun _=>⟨rfl,ad,rfl⟩,fun hv=>by simp[iC]at hv⟩
 ·rename_i r π lo n;obtain⟨hr,hh⟩:=hx;split at hK
  ·rename_i ys hm;split at hm
   ·rename_i e' bX xs hg;split at hm
    ·rename_i ht he eT;obtain rfl:=Nat.eq_of_beq_eq_true he;obtain rfl:=ht.down;obtain rfl:=Option.some.inj hm;rw[aV,St.aks]at hK;obtain⟨⟨hn,_⟩,hK⟩:=hK;simp only[aa.ae]at hn;have Vo:=bg hg (by simp)
     exact⟨_,_,true,ρ r,hK,eL.aBZ _ _ _,h.move Vo (fun π o B hB=>⟨_,(Ar.gQ hB).choose_spec.1⟩),by rw[<-hn];exact hh⟩
    ·cases hm
   ·cases hm
  ·split at hK
   ·rename_i q B hd;split at hK
    ·rename_i ht he eT hf;rw[aV,aH,St.aks]at hK;obtain⟨⟨hq,DG,_⟩,hK⟩:=hK;simp only[aa.ae]at DG;obtain rfl:=Nat.eq_of_beq_eq_true he;obtain⟨_,iP,h1,_⟩:=az.kY hd hq;generalize hg:st.rg.getD r .dead=g at*;have Vo:=bg hg iP;obtain⟨te,P8,xs⟩:=B;obtain rfl:=ht.down;have hw:=h.weaken Vo p9;have Qy:(st.aBZ r g.frozen).rg[r]?=some g.frozen:=by
      simp only[St.aBZ];rw[List.getElem?_set_self hr]
     have hlen:(st.aBZ r g.frozen).rg.length=st.rg.length:=by simp[St.aBZ]
     have hs:=hw.Pj (π:=π) (B:=⟨te,P8,xs⟩) Qy h1 hf DG te;rw[hlen]at hs;refine⟨_,_,false,_,hK,eL.aBZ _ _ _,hs,?_⟩;have:((xs.drop lo).take n).length=n:=by simp only[List.length_take,List.length_drop]at DG ⊢;omega
     show(RI.shift (ρ r π) lo).head 0 ((xs.drop lo).take n).length y;rw[this];exact ph hh
    ·exact hK.elim
   ·exact hK.elim
 ·exact hK.elim
end
end Go.Sy
end
section
namespace Go.Sy
open Go Go.RowKit
universe u
section
variable {cc:Bool} {P:Program} {Γ:bn} {E:Env} {M:Nat->Prop} {w0:World} {ρ:Keys} {st:St} {vs:Fv} {a:Act} {w:World}
/-! ### Ways,from the outside -/
def gl (I:RI) (cfg:Nat->Nat->Path->RI) (π:Path):RI:=match π.reverse with|[]=>I|(i,j)::τ=>cfg i j τ.reverse
theorem aac {I:RI} {cfg:Nat->Nat->Path->RI}:gl I cfg []=I:=rfl
theorem fJ {I:RI} {cfg:Nat->Nat->Path->RI} {σ:Path} {i j:Nat}:gl I cfg (σ++[(i,j)])=cfg i j σ:=by simp[gl]
theorem de:∀ (π:Path),π=[]\/∃ σ i j,π=σ++[(i,j)]
 |[]=> .inl rfl
 |(i,j)::π=>by
  rcases de π with rfl|⟨σ,k,l,rfl⟩
  ·exact .inr ⟨[],i,j,rfl⟩
  ·exact .inr ⟨(i,j)::σ,k,l,rfl⟩
theorem dH {A:Ar} {i j:Nat}:∀ {σ:Path} {C:Ar},A.has (σ++[(i,j)]) C<->∃ B,i<A.xs.length/\ai.sub A.tg (A.get i) j=some B/\B.has σ C
 |[],C=>by
  constructor
  ·rintro⟨B,rfl,h1,h2⟩;exact⟨C,h1,h2,rfl⟩
  ·rintro⟨B,h1,h2,rfl⟩;exact⟨A,rfl,h1,h2⟩
 |(k,l)::σ,C=>by
  constructor
  ·rintro⟨D,h1,h2,h3⟩;obtain⟨B,b1,b2,b3⟩:=dH.1 h1;exact⟨B,b1,b2,D,b3,h2,h3⟩
  ·rintro⟨B,b1,b2,D,d1,d2,d3⟩;exact⟨D,dH.2 ⟨B,b1,b2,d1⟩,d2,d3⟩
theorem lY {c:CK}:∀ {cs:List CK} {y:c.ty} {z:ai cs},ai.sub (c::cs) (oW c cs y z) 0=c.sub y
 |[],_,_=>rfl
 |_::_,_,_=>rfl
theorem ig {c:CK} {j:Nat}:∀ {cs:List CK} {y:c.ty} {z:ai cs},ai.sub (c::cs) (oW c cs y z) (j+1)=ai.sub cs z j
 |[],_,_=>rfl
 |_::_,_,_=>rfl
theorem uN {c:CK} {η:Path->RI} {π:Path} {i j:Nat} {v:Value}:∀ {cs:List CK} {y:c.ty} {z:ai cs} {ys:List Value},c.aA η π i j y v->ai.aA η π i (j+1) cs z ys->ai.aA η π i j (c::cs) (oW c cs y z) (v::ys)
 |[],_,_,_,h,h'=>by have h'':_=[]:=h';subst h'';exact⟨v,rfl,h⟩
 |_::_,_,_,_,h,h'=>⟨v,_,rfl,h,h'⟩
theorem HM {c:CK} (hc:c.flat=true) {N:Nat} {x:At} {b:c.ty} {y:Value} (h:c.fX x=some b) (hy:x.ok N ρ y) (η:Path->RI) (π:Path) (i j:Nat):c.aA η π i j b y:=by
 have key:∀ v,c.of v=some b->c.aA η π i j b v:=by
  intro v hv;cases c with
  |int k=>
   cases v<;>simp only[CK.of]at hv<;>try(cases hv;done)
   split at hv
   ·rename_i hk;obtain rfl:=akr hk;obtain rfl:=Option.some.inj hv;exact rfl
   ·cases hv
  |bool=>cases v<;>simp only[CK.of]at hv<;>try(cases hv;done)
         obtain rfl:=Option.some.inj hv;exact rfl
  |str=>cases v<;>simp only[CK.of]at hv<;>try(cases hv;done)
        obtain rfl:=Option.some.inj hv;exact rfl
  |sl=>cases hc
 cases x<;>simp only[CK.fX]at h<;>try(cases h;done)
 ·obtain⟨rfl,_⟩:=hy;exact key _ h
 ·obtain rfl:y= .bool true:=hy;exact key _ h
 ·obtain rfl:y= .bool false:=hy;exact key _ h
theorem qF {c:CK} (hc:c.flat=true) (x:c.ty):c.sub x=none:=by cases c<;>first|rfl|cases hc
theorem F4 {a b:Bool} (h:fu a b=true):a=true:=by cases a;exact h;rfl
theorem F5 {a b:Bool} (h:fu a b=true):b=true:=by cases a;cases h;exact h
structure FK (N:Nat) (ρ:Keys) (held:List az) (lo:Nat) (b:Bool) (tg:List CK) (x:ai tg) (j0:Nat) (ys:List Value) (cfg:Nat->Path->RI) (ix:Nat->Nat):Prop where
 aA:∀ (η:Path->RI) (π:Path) (i:Nat),(∀ j,η ((i,j0+j)::π)=cfg j [])->ai.aA η π i j0 tg x ys
 sub:∀ j C,ai.sub tg x j=some C->lo<=ix j/\∃ b',(b=true->b'=true)/\held[ix j]?=some (.arr C.te C.tg C.xs b' b')/\ρ (N+ix j)=cfg j
 inj:∀ j j' C C',ai.sub tg x j=some C->ai.sub tg x j'=some C'->ix j=ix j'->j=j'
theorem EL {st:St} {c:CK} {x:At} {K:St->c.ty->Bool->Prop} (hf:c.flat=true) (hK:lX cc st c x K):∃ v,c.fX x=some v/\K st v true:=by
 cases c with
 |sl=>cases hf
 |int k=>
  unfold lX at hK;dsimp only at hK;split at hK
  ·exact⟨_,by assumption,hK⟩
  ·exact hK.elim
 |bool=>
  unfold lX at hK;dsimp only at hK;split at hK
  ·exact⟨_,by assumption,hK⟩
  ·exact hK.elim
 |str=>
  unfold lX at hK;dsimp only at hK;split at hK
  ·exact⟨_,by assumption,hK⟩
  ·exact hK.elim
theorem IS {st:St} {e:TypeId} {tg:List CK} {x:At} {K:St->List (ai tg)->Bool->Prop} (hK:lX cc st (.sl e tg) x K):uZ cc st e tg x K:=by
 unfold lX at hK;exact hK
theorem ww {held:List az} (h:dS M w0 w ρ st held) {e:TypeId} {tg:List CK} {x:At} {y:Value} {K:St->(CK.sl e tg).ty->Bool->Prop} (hx:x.ok st.rg.length ρ y) (ci:tg≠[]) (hK:lX cc st (.sl e tg) x K):
 ∃ (an:St) (v:(CK.sl e tg).ty) (b:Bool) (η:Path->RI),K an v b/\eL st an/\(∀ C,CK.sub (.sl e tg) v=some C->dS M w0 w (aE ρ (st.rg.length+held.length) η) an (held++[.arr C.te C.tg C.xs b b]))/\
  ∀ (bU:Path->RI) (π:Path) (i j:Nat),bU ((i,j)::π)=η []->CK.aA bU π i j (.sl e tg) v y:=by
 obtain⟨an,ys,b,η,h1,h2,h3,h4⟩:=sY h hx ci (IS hK);refine⟨an,ys,b,η,h1,h2,fun C hC=>?_,fun bU π i j he=>?_⟩
 ·obtain rfl:=Option.some.inj hC;exact h3
 ·show RI.head (bU ((i,j)::π)) 0 _ y;rw[he];exact h4
theorem Ot {e:TypeId} {tg:List CK} (v:(CK.sl e tg).ty):∃ C,CK.sub (.sl e tg) v=some C:=⟨_,rfl⟩
theorem zW:∀ {tg:List CK} {st:St} {ρ:Keys} {held:List az} {l:List At} {ys:List Value} {K:St->ai tg->Bool->Prop} (j0:Nat),bZ CK.ne tg=true->dS M w0 w ρ st held->be (At.ok st.rg.length ρ) l ys->uI cc tg st l K->
 ∃ (an:St) (x:ai tg) (b:Bool) (items:List az) (ρ':Keys) (cfg:Nat->Path->RI) (ix:Nat->Nat),K an x b/\eL st an/\dS M w0 w ρ' an (held++items)/\(∀ r,r<st.rg.length+held.length->ρ' r=ρ r)/\
  FK st.rg.length ρ' (held++items) held.length b tg x j0 ys cfg ix:=by
 intro tg;induction tg with
 |nil=>
  intro st ρ held l ys K j0 _ h hl hK;cases l with
  |cons=>exact hK.elim
  |nil=>
   cases ys with
   |cons=>exact hl.elim
   |nil=>
    exact⟨st,(),true,[],ρ,fun _ _=>iC,fun _=>0,hK,eL.refl _,by simpa using h,fun _ _=>rfl,⟨fun _ _ _ _=>rfl,fun j C hC=>(by cases hC),fun j j' C C' hC=>(by cases hC)⟩⟩
 |cons c cs ih=>
  intro st ρ held l ys K j0 hne h hl hK;cases l with
  |nil=>exact hK.elim
  |cons x xs=>
   cases ys with
   |nil=>exact hl.elim
   |cons y ys=>
    simp only[bZ]at hne;split at hne;case h_2=>cases hne
    rename_i Qt;change lX cc st c x (fun st y b=>uI cc cs st xs (fun st z b'=>K st (oW c cs y z) (fu b b')))at hK
    have plain:c.flat=true->
     ∃ (an:St) (x:ai (c::cs)) (b:Bool) (items:List az) (ρ':Keys) (cfg:Nat->Path->RI) (ix:Nat->Nat),K an x b/\eL st an/\dS M w0 w ρ' an (held++items)/\(∀ r,r<st.rg.length+held.length->ρ' r=ρ r)/\
      FK st.rg.length ρ' (held++items) held.length b (c::cs) x j0 (y::ys) cfg ix:=by
     intro hf;obtain⟨v,hv,hK⟩:=EL hf hK
     ·obtain⟨an,z,b,items,ρ',cfg,ix,k1,k2,k3,k4,k5⟩:=ih (j0+1) hne h hl.2 hK;refine⟨an,oW c cs v z,fu true b,items,ρ',fun j=>match j with|0=>fun _=>iC|j+1=>cfg j,fun j=>match j with|0=>0|j+1=>ix j,k1,k2,k3,k4,⟨fun η π i lT=>?_,fun j C hC=>?_,fun j j' C C' hC hC' he=>?_⟩⟩
      ·exact uN (HM hf hv hl.1 _ _ _ _) (k5.aA η π i fun j=>by have:=lT (j+1);rw[show j0+1+j=j0+(j+1) by omega];exact this)
      ·cases j with
       |zero=>rw[lY,qF hf]at hC;cases hC
       |succ j=>rw[ig]at hC;exact k5.sub j C hC
      ·cases j with
       |zero=>rw[lY,qF hf]at hC;cases hC
       |succ j=>
        cases j' with
        |zero=>rw[lY,qF hf]at hC';cases hC'
        |succ j'=>rw[ig]at hC hC';rw[k5.inj j j' C C' hC hC' he]
    cases c with
    |int k=>exact plain rfl
    |bool=>exact plain rfl
    |str=>exact plain rfl
    |sl e bX=>
     have ci:bX≠[]:=by rintro rfl;cases Qt
     obtain⟨p8,v,b1,OJ,k1,k2,k3,k4⟩:=ww h hl.1 ci hK;obtain⟨C0,PI⟩:=Ot v;have k3:=k3 C0 PI;have agM:be (At.ok p8.rg.length (aE ρ (st.rg.length+held.length) OJ)) xs ys:=rA (by rw[k2.len];exact Nat.le_refl _) (fun r hr π=>by rw[bB (by omega)]) hl.2
     obtain⟨an,z,b,items,ρ',cfg,ix,m1,m2,m3,m4,m5⟩:=ih (j0+1) hne k3 agM k1;rw[k2.len]at m4 m5;have hN:(held++[az.arr C0.te C0.tg C0.xs b1 b1]).length=held.length+1:=by simp
     have lT:ρ' (st.rg.length+held.length)=OJ:=by rw[m4 _ (by rw[hN];omega),aF]
     refine⟨an,oW (.sl e bX) cs v z,fu b1 b,.arr C0.te C0.tg C0.xs b1 b1::items,ρ',fun j=>match j with|0=>OJ|j+1=>cfg j,fun j=>match j with|0=>held.length|j+1=>ix j,m1,k2.trans m2,by simpa using m3,
      fun r hr=>by rw[m4 r (by rw[hN];omega),bB hr],⟨fun η π i lT=>?_,fun j C hC=>?_,fun j j' C C' hC hC' he=>?_⟩⟩
     ·refine uN (c:=.sl e bX) ?_ (m5.aA η π i fun j=>by have:=lT (j+1);rw[show j0+1+j=j0+(j+1) by omega];exact this)
      exact k4 η π i j0 (lT 0)
     ·cases j with
      |zero=>
       rw[lY,PI]at hC;obtain rfl:=Option.some.inj hC;exact⟨Nat.le_refl _,b1,F4,by simp,lT⟩
      |succ j=>
       rw[ig]at hC;obtain⟨h1,b',h2,h3,h4⟩:=m5.sub j C hC;exact⟨by rw[hN]at h1;exact Nat.le_of_succ_le h1,b',fun hb=>h2 (F5 hb),by simpa using h3,h4⟩
     ·cases j with
      |zero=>
       cases j' with
       |zero=>rfl
       |succ j'=>
        rw[ig]at hC';have:=(m5.sub j' C' hC').1;rw[hN]at this;have he':held.length=ix j':=he;omega
      |succ j=>
       cases j' with
       |zero=>
        rw[ig]at hC;have:=(m5.sub j C hC).1;rw[hN]at this;have he':ix j=held.length:=he;omega
       |succ j'=>rw[ig]at hC hC';rw[m5.inj j j' C C' hC hC' he]
structure CZ (N:Nat) (ρ:Keys) (held:List az) (lo:Nat) (b:Bool) (tg:List CK) (xs:List (ai tg)) (i0:Nat) (a8:List (List Value)) (cfg:Nat->Nat->Path->RI) (ix:Nat->Nat->Nat):Prop where
 len:a8.length=xs.length
 aA:∀ (η:Path->RI) (π:Path),(∀ i j,η ((i0+i,j)::π)=cfg i j [])->∀ i,i<xs.length->∃ ys,a8[i]?=some ys/\ai.aA η π (i0+i) 0 tg (xs.getD i (ai.d tg)) ys
 sub:∀ i j C,i<xs.length->ai.sub tg (xs.getD i (ai.d tg)) j=some C->lo<=ix i j/\∃ b',(b=true->b'=true)/\held[ix i j]?=some (.arr C.te C.tg C.xs b' b')/\ρ (N+ix i j)=cfg i j
 inj:∀ i j i' j' C C',i<xs.length->i'<xs.length->ai.sub tg (xs.getD i (ai.d tg)) j=some C->ai.sub tg (xs.getD i' (ai.d tg)) j'=some C'->ix i j=ix i' j'->i=i'/\j=j'
theorem Lg {st an:St} (h:eL st an) (o:Operand):ev an o=ev st o:=by
 cases o<;>simp only[ev,h.tm]
theorem vu {tg:List CK} (hne:bZ CK.ne tg=true):∀ {parts:List (Nat×Operand)} {pos:Nat} {st:St} {ρ:Keys} {held:List az} {K:St->List (ai tg)->Bool->Prop},dS M w0 w ρ st held->
 (∀ o x,ev st o=some x->x.ok st.rg.length ρ (a.eval o))->Fi cc tg pos parts st K->
 ∃ (an:St) (xs:List (ai tg)) (b:Bool) (items:List az) (ρ':Keys) (cfg:Nat->Nat->Path->RI) (ix:Nat->Nat->Nat),K an xs b/\eL st an/\dS M w0 w ρ' an (held++items)/\(∀ r,r<st.rg.length+held.length->ρ' r=ρ r)/\
  CZ st.rg.length ρ' (held++items) held.length b tg xs pos (parts.map fun p=>(a.eval p.2).cells.toList) cfg ix/\(parts.map Prod.fst)=List.range' pos xs.length:=by
 intro parts;induction parts with
 |nil=>
  intro pos st ρ held K h _ hK;exact⟨st,[],true,[],ρ,fun _ _ _=>iC,fun _ _=>0,hK,eL.refl _,by simpa using h,fun _ _=>rfl,⟨rfl,fun _ _ _ i hi=>(by simp at hi),fun i j C hi=>(by simp at hi),fun i j i' j' C C' hi=>(by simp at hi)⟩,rfl⟩
 |cons io rest ih=>
  intro pos st ρ held K h aag hK;obtain⟨i,o⟩:=io;change (match Nat.beq i pos,ev st o with
    |true,some x=>
     (match iu x with
      |some l=>uI cc tg st l (fun st a b=>Fi cc tg (pos+1) rest st (fun st xs b'=>K st (a::xs) (fu b b')))
      |none=>False)
    |_,_=>False)at hK
  split at hK
  ·rename_i x hi hx;obtain rfl:=Nat.eq_of_beq_eq_true hi;split at hK
   ·rename_i l hl;obtain⟨c1,_,_⟩:=eZ (aag o x hx) hl;obtain⟨p8,y,b1,oB,aCb,Qo,NK,k1,k2,k3,k4,k5⟩:=zW 0 hne h c1 hK;have Qv:∀ o x,ev p8 o=some x->x.ok p8.rg.length aCb (a.eval o):=fun o x hx=>by
     rw[Lg k2]at hx;exact(aag o x hx).mono (by rw[k2.len];exact Nat.le_refl _) (fun r hr π=>by rw[k4 r (by omega)])
    obtain⟨an,xs,b,items,ρ',cfg,ix,m1,m2,m3,m4,m5,m6⟩:=ih k3 Qv k1;rw[k2.len]at m4 m5;have hN:(held++oB).length=held.length+oB.length:=by simp
    have hold:∀ q,q<(held++oB).length->ρ' (st.rg.length+q)=aCb (st.rg.length+q):=fun q hq=>m4 _ (by omega)
    have eN:∀ q g,(held++oB)[q]?=some g->(held++(oB++items))[q]?=some g:=fun q g hq=>by
     rw[<-List.append_assoc,List.getElem?_append_left (List.getElem?_eq_some_iff.1 hq).1];exact hq
    refine⟨an,y::xs,fu b1 b,oB++items,ρ',fun i=>match i with|0=>Qo|i+1=>cfg i,fun i=>match i with|0=>NK|i+1=>ix i,m1,k2.trans m2,by simpa using m3,
     fun r hr=>by rw[m4 r (by rw[hN];omega),k4 r hr],⟨by simp[m5.len],fun η π lT k hk=>?_,fun k j C hk hC=>?_,fun k j k' j' C C' hk hk' hC hC' he=>?_⟩,?_⟩
    ·cases k with
     |zero=>exact⟨_,rfl,k5.aA η π i fun j=>by have:=lT 0 j;simpa using this⟩
     |succ k=>
      obtain⟨ys,h1,h2⟩:=m5.aA η π (fun k j=>by have:=lT (k+1) j;rw[show i+1+k=i+(k+1) by omega];exact this) k (by simpa using hk)
      exact⟨ys,by simpa using h1,by rw[show i+(k+1)=i+1+k by omega];simpa using h2⟩
    ·cases k with
     |zero=>
      obtain⟨h1,b',h2,h3,h4⟩:=k5.sub j C (by simpa using hC)
      exact⟨h1,b',fun hb=>h2 (F4 hb),eN _ _ h3,(hold _ (List.getElem?_eq_some_iff.1 h3).1).trans h4⟩
     |succ k=>
      obtain⟨h1,b',h2,h3,h4⟩:=m5.sub k j C (by simpa using hk) (by simpa using hC)
      exact⟨by rw[hN]at h1;exact Nat.le_trans (Nat.le_add_right _ _) h1,b',fun hb=>h2 (F5 hb),by simpa using h3,h4⟩
    ·cases k with
     |zero=>
      cases k' with
      |zero=>exact⟨rfl,k5.inj j j' C C' (by simpa using hC) (by simpa using hC') he⟩
      |succ k'=>
       obtain⟨_,_,_,h3,_⟩:=k5.sub j C (by simpa using hC)
       have h4:=(List.getElem?_eq_some_iff.1 h3).1;have:=(m5.sub k' j' C' (by simpa using hk') (by simpa using hC')).1
       have he':NK j=ix k' j':=he;omega
     |succ k=>
      cases k' with
      |zero=>
       obtain⟨_,_,_,h3,_⟩:=k5.sub j' C' (by simpa using hC')
       have h4:=(List.getElem?_eq_some_iff.1 h3).1;have:=(m5.sub k j C (by simpa using hk) (by simpa using hC)).1
       have he':ix k j=NK j':=he;omega
      |succ k'=>
       obtain⟨e1,e2⟩:=m5.inj k j k' j' C C' (by simpa using hk) (by simpa using hk') (by simpa using hC) (by simpa using hC') he
       exact⟨by rw[e1],e2⟩
    ·simp only[List.map_cons,List.length_cons,List.range'_succ,m6]
   ·exact hK.elim
  ·exact hK.elim
theorem dS.Lt {held items:List az} {N:Nat} {te:TypeId} {tg:List CK} (ci:tg≠[]) {xs:List (ai tg)} {b:Bool} {a8:List (List Value)} {cfg:Nat->Nat->Path->RI} {ix:Nat->Nat->Nat}
 (h:dS M w0 w ρ st (held++items)) (hN:st.rg.length=N) (hf:CZ N ρ (held++items) held.length b tg xs 0 a8 cfg ix) {w':World} (hb:Below w.heap.size w w') {I:RI}
 (hm:I.m=tg.length) (hv:I.aC=false) (hcap:xs.length<=I.cap) (hblk:w.heap.size<=I.b) (hsz:I.b<w'.heap.size) (aah:bY M w0 w' I) (AR:Whole w' I te)
 (hc:∀ i,i<xs.length->∀ ys,a8[i]?=some ys->∀ s y,ys[s]?=some y->w'.cell? (I.at (i*I.m+s))=some y):
 cA M w0 N (aE ρ (N+held.length) (gl I cfg)) (st.rg++held++[.arr te tg xs true b]) w':=by
 have hr:=h.rs.cX hb.size hb.block;rw[hN]at hr;have jk:cA M w0 N ρ (st.rg++held) w':=by rw[<-List.append_assoc]at hr;exact hr.front
 have hl:(st.rg++held).length=N+held.length:=by simp[hN]
 have deep:∀ (σ:Path) (i j:Nat) (C:Ar),Ar.has ⟨te,tg,xs⟩ (σ++[(i,j)]) C->∃ D b',i<xs.length/\ai.sub tg (xs.getD i (ai.d tg)) j=some D/\D.has σ C/\(b=true->b'=true)/\held.length<=ix i j/\
  (st.rg++(held++items))[N+ix i j]?=some (.arr D.te D.tg D.xs b' b')/\(∀ τ,ρ (N+ix i j) τ=gl I cfg (τ++[(i,j)])):=by
  intro σ i j C hC;obtain⟨D,h1,h2,h3⟩:=dH.1 hC;obtain⟨h4,b',h5,h6,h7⟩:=hf.sub i j D h1 h2;refine⟨D,b',h1,h2,h3,h5,h4,?_,fun τ=>by rw[fJ,h7]⟩
  rw[List.getElem?_append_right (by omega),hN,Nat.add_sub_cancel_left];exact h6
 have ii:∀ {D:Ar} {b':Bool} {σ:Path} {C:Ar},D.has σ C->(az.arr D.te D.tg D.xs b' b').has σ b' (.arr C):=fun{D b' σ C} hD=>⟨by cases σ<;>rfl,C,hD,rfl⟩
 rw[<-hl];refine jk.snoc (Nat.le_refl _) (by simp[hN]) ?_ ?_ ?_ ?_ ?_ ?_
 ·rintro π o B ⟨_,A,hA,rfl⟩;show A.aA w' (aE ρ (st.rg++held).length (gl I cfg) (st.rg++held).length) π;rw[aF];rcases de π with rfl|⟨σ,i,j,rfl⟩
  ·obtain rfl:A=⟨te,tg,xs⟩:=hA;refine⟨ci,by rw[aac];exact hm,(fun hh=>by rw[aac,hv]at hh;cases hh),(fun _=>by rw[aac];exact hcap),fun i hi=>?_⟩
   obtain⟨ys,h1,h2⟩:=hf.aA (gl I cfg) [] (fun i j=>by rw[Nat.zero_add];exact fJ (σ:=[])) i hi
   rw[Nat.zero_add]at h2;exact⟨ys,h2,fun s y hy=>by rw[aac];exact hc i hi ys h1 s y hy⟩
  ·obtain⟨D,b',h1,h2,h3,_,_,h6,h7⟩:=deep σ i j A hA;have:=hr.blk _ _ σ b' (.arr A) h6 (ii h3);have this:A.aA w' (ρ (N+ix i j)) σ:=this;exact⟨this.tg,by rw[<-h7];exact this.m,by rw[<-h7];exact this.aC,by rw[<-h7];exact this.len,fun k hk=>by
    obtain⟨ys,k1,k2⟩:=this.cell k hk;refine⟨ys,?_,by rw[<-h7];exact k2⟩
    have gen:∀ (tg:List CK) (j':Nat) (x:ai tg) (ys:List Value),ai.aA (ρ (N+ix i j)) σ k j' tg x ys->ai.aA (gl I cfg) (σ++[(i,j)]) k j' tg x ys:=by
     have one:∀ (c:CK) (j':Nat) (x:c.ty) (y:Value),c.aA (ρ (N+ix i j)) σ k j' x y->c.aA (gl I cfg) (σ++[(i,j)]) k j' x y:=by
      intro c j' x y hx;cases c with
      |sl e t=>
       show RI.head (gl I cfg ((k,j')::(σ++[(i,j)]))) 0 _ _;rw[<-List.cons_append,<-h7];exact hx
      |_=>exact hx
     intro tg;induction tg with
     |nil=>intro j' x ys h;exact h
     |cons c cs ih=>
      intro j' x ys h;cases cs with
      |nil=>obtain⟨y,e1,e2⟩:=h;exact⟨y,e1,one c _ _ _ e2⟩
      |cons c' cs=>obtain⟨y,ys',e1,e2,e3⟩:=h;exact⟨y,ys',e1,one c _ _ _ e2,ih _ _ _ e3⟩
    exact gen _ _ _ _ k1⟩
 ·rintro π o B ⟨_,A,hA,rfl⟩ dV;rcases de π with rfl|⟨σ,i,j,rfl⟩
  ·rw[aac];exact hsz
  ·obtain⟨D,b',h1,h2,h3,_,_,h6,h7⟩:=deep σ i j A hA;rw[<-h7]at dV ⊢;exact hr.lt _ _ σ b' (.arr A) h6 (ii h3) dV
 ·rintro π B ⟨ho,A,hA,rfl⟩ dV;rcases de π with rfl|⟨σ,i,j,rfl⟩
  ·obtain rfl:A=⟨te,tg,xs⟩:=hA;rw[aac];exact⟨aah,AR⟩
  ·obtain⟨D,b',h1,h2,h3,h4,_,h6,h7⟩:=deep σ i j A hA;have hb':b=true:=by cases σ<;>exact ho.symm
   obtain rfl:=h4 hb';rw[<-h7]at dV ⊢;exact hr.own _ _ σ (.arr A) h6 (ii h3) dV
 ·rintro π B ⟨ho,A,hA,rfl⟩ dV r' g' aW o' B' k1 k2 v';rcases de π with rfl|⟨σ,i,j,rfl⟩
  ·rw[aac];have hlt:=h.rs.lt r' g' aW o' B' (by rw[<-List.append_assoc,List.getElem?_append_left (List.getElem?_eq_some_iff.1 k1).1];exact k1) k2 v'
   omega
  ·obtain⟨D,b',h1,h2,h3,h4,h5,h6,h7⟩:=deep σ i j A hA;have hb':b=true:=by cases σ<;>exact ho.symm
   obtain rfl:=h4 hb';rw[<-h7]at dV ⊢;have hlt:=(List.getElem?_eq_some_iff.1 k1).1;exact hr.dj _ r' _ g' σ aW o' (.arr A) B' h6 (by rw[<-List.append_assoc,List.getElem?_append_left hlt];exact k1) (ii h3) k2 dV v' (fun e=>by rw[hl]at hlt;omega)
 ·rintro π o B ⟨_,A,hA,rfl⟩ dV r' g' aW B' k1 k2 v';rcases de π with rfl|⟨σ,i,j,rfl⟩
  ·rw[aac];have hlt:=h.rs.lt r' g' aW true B' (by rw[<-List.append_assoc,List.getElem?_append_left (List.getElem?_eq_some_iff.1 k1).1];exact k1) k2 v'
   omega
  ·obtain⟨D,b',h1,h2,h3,h4,h5,h6,h7⟩:=deep σ i j A hA;rw[<-h7]at dV ⊢;have hlt:=(List.getElem?_eq_some_iff.1 k1).1;exact hr.dj r' _ g' _ aW σ b' B' (.arr A) (by rw[<-List.append_assoc,List.getElem?_append_left hlt];exact k1) h6 k2 (ii h3) v' dV (fun e=>by rw[hl]at hlt;omega)
 ·rintro π aW o' B B' ⟨ho,A,hA,rfl⟩ ⟨_,A',nu,rfl⟩ v v' hne;rcases de π with rfl|⟨σ,i,j,rfl⟩<;>rcases de aW with rfl|⟨σ',i',j',rfl⟩
  ·exact absurd rfl hne
  ·obtain⟨D,b',h1,h2,h3,h4,h5,h6,h7⟩:=deep σ' i' j' A' nu;rw[aac];rw[<-h7]at v' ⊢;have:=h.rs.lt _ _ σ' b' (.arr A') h6 (ii h3) v';omega
  ·obtain⟨D,b',h1,h2,h3,h4,h5,h6,h7⟩:=deep σ i j A hA;rw[aac];rw[<-h7]at v ⊢;have:=h.rs.lt _ _ σ b' (.arr A) h6 (ii h3) v;omega
  ·obtain⟨D,b1,h1,h2,h3,h4,h5,h6,h7⟩:=deep σ i j A hA;obtain⟨D',b2,k1,k2,k3,k4,k5,k6,k7⟩:=deep σ' i' j' A' nu;have hb':b=true:=by cases σ<;>exact ho.symm
   obtain rfl:=h4 hb';rw[<-h7]at v ⊢;rw[<-k7]at v' ⊢;refine hr.dj _ _ _ _ σ σ' b2 (.arr A) (.arr A') h6 k6 (ii h3) (ii k3) v v' (fun e=>hne ?_)
   obtain⟨e1,e2⟩:=hf.inj i j i' j' D D' h1 k1 h2 k2 (by omega)
   rw[e.2,e1,e2]
end
end Go.Sy
end
section
namespace Go.Sy
open Go Go.RowKit
universe u
section
variable {cc:Bool} {P:Program} {Γ:bn} {E:Env} {M:Nat->Prop} {w0:World} {ρ:Keys} {st:St} {vs:Fv} {a:Act} {w:World}
theorem Av (m0:Nat):∀ (ys pre mid post:List Value) (k:Nat),pre.length=m0+k->mid.length=ys.length->
 (ys.zipIdx k).foldl (fun(cs:List Value) cj=>cs.set (m0+cj.2) cj.1) (pre++(mid++post))=pre++(ys++post)
 |[],pre,mid,post,k,_,hm=>by
  obtain rfl:=List.eq_nil_of_length_eq_zero hm;rfl
 |y::ys,pre,mid,post,k,hp,hm=>by
  match mid,hm with
  |x::mid,hm=>
   simp only[List.zipIdx_cons,List.foldl_cons];have e:(pre++(x::mid++post)).set (m0+k) y=(pre++[y])++(mid++post):=by
    rw[List.set_append_right _ _ (by omega),hp]
    simp
   rw[e,Av m0 ys (pre++[y]) mid post (k+1) (by simp;omega) (by simpa using hm)]
   simp
theorem I6 (off:Nat) (v:Value) (zs:List Value):v.cells.zipIdx.foldl (fun(cs:Array Value) (x:Value×Nat)=>cs.setIfInBounds (off+x.2) x.1) zs.toArray=(v.cells.toList.zipIdx.foldl (fun(cs:List Value) cj=>cs.set (off+cj.2) cj.1) zs).toArray:=by
 have gen:∀ (cs:List (Value×Nat)) (zs:List Value),cs.foldl (fun(cs:Array Value) (x:Value×Nat)=>cs.setIfInBounds (off+x.2) x.1) zs.toArray=
  (cs.foldl (fun cs cj=>cs.set (off+cj.2) cj.1) zs).toArray:=by
  intro cs;induction cs with
  |nil=>intro zs;rfl
  |cons c cs ih=>intro zs;simp only[List.foldl_cons,List.setIfInBounds_toArray];exact ih _
 have e2:v.cells.zipIdx=(v.cells.toList.zipIdx).toArray:=by
  rw[<-Array.toList_zipIdx]
 rw[e2];simp only[List.foldl_toArray'];exact gen _ _
theorem Ao (m:Nat):∀ (parts:List (Nat×Value)) (pos:Nat) (pre rest:List Value),parts.map Prod.fst=List.range' pos parts.length->(∀ p∈parts,p.2.cells.toList.length=m)->pre.length=pos*m->rest.length=parts.length*m->
 Instr.fill (fun i=>some (i*m,m)) (pre++rest).toArray parts=some (pre++parts.flatMap fun p=>p.2.cells.toList).toArray
 |[],pos,pre,rest,_,_,_,hr=>by
  obtain rfl:rest=[]:=List.eq_nil_of_length_eq_zero (by simpa using hr)
  simp[Instr.fill]
 |(i,v)::parts,pos,pre,rest,hi,hm,hp,hr=>by
  simp only[List.map_cons,List.length_cons,List.range'_succ,List.cons.injEq]at hi;obtain⟨rfl,hi⟩:=hi;have hv:v.cells.toList.length=m:=hm (i,v) (by simp)
  have j6:v.cells.size=m:=by simpa using hv
  simp only[List.length_cons,Nat.add_mul,Nat.one_mul]at hr;simp only[Instr.fill];rw[if_neg (by rw[j6];simp;omega)]
  rw[I6];have e:rest=rest.take m++rest.drop m:=(List.take_append_drop m rest).symm;have hf:=Av (i*m) v.cells.toList pre (rest.take m) (rest.drop m) 0 (by rw[hp,Nat.add_zero]) (by rw[hv,List.length_take];omega)
  rw[<-e]at hf;rw[hf,<-List.append_assoc];rw[Ao m parts (i+1) (pre++v.cells.toList) (rest.drop m) hi (fun p hp=>hm p (by simp[hp])) (by rw[List.length_append,hp,hv,Nat.add_mul,Nat.one_mul]) (by rw[List.length_drop];omega)]
  simp
theorem wW (hE:bE P Γ E) {t e:TypeId} {m:Nat} (ht:E.ty t= .sl e m) {tg:List CK} (hD:E.kd e=some tg) {n:Nat} {parts:Array (Nat×Value)}
 (hi:parts.toList.map Prod.fst=List.range' 0 n) (hm:∀ p∈parts.toList,p.2.cells.toList.length=tg.length) (hn:0<n) (hsz:n*tg.length<=16777216):
 (Instr.buildSlice t n parts).run P w= .ok (.slice (some ⟨w.heap.size,0,none⟩) n n) (w.alloc (.cells (parts.toList.flatMap fun p=>p.2.cells.toList).toArray e)):=by
 obtain⟨hu,_,_⟩:=hE.aav ht;obtain⟨hne,⟨i,z,h1,h2,h3,h4,_⟩⟩:=hE.kd e tg hD;have hpos:¬(n*tg.length=0):=by
  have:=Nat.mul_pos hn (List.length_pos_iff.2 hne);omega
 have hlen:parts.toList.length=n:=by
  have:=congrArg List.length hi;simpa using this
 have ac2:=Ao tg.length parts.toList 0 [] ((Array.range (n*tg.length)).map (fun k=>z.cells[k%z.cells.size]!)).toList (by rw[hlen];exact hi) hm (by simp) (by simp[hlen])
 simp only[List.nil_append,Array.toArray_toList]at ac2;simp only[Instr.buildSlice,run_underlying hu,Sem.run_bind,Result.andThen_ok];simp only[sizeOf,typeInfo,h1,Sem.run_bind,run_program,Result.andThen_ok,Sem.run_pure,h2];rw[if_neg (by omega),if_neg hpos]
 simp only[Sem.run_bind,Sem.run_pure,Result.andThen_ok,zeroValue,typeInfo,run_program,h1,h3,ac2];simp[newRow]
/-! ### A slice literal -/
theorem Aq (m:Nat):∀ (a8:List (List Value)),(∀ v∈a8,v.length=m)->∀ (i:Nat) ys,a8[i]?=some ys->∀ s,s<m->a8.flatten[i*m+s]?=ys[s]?
 |[],_,i,ys,h,_,_=>by simp at h
 |x::a8,hm,0,ys,h,s,hs=>by
  simp at h;subst h;rw[List.flatten_cons,Nat.zero_mul,Nat.zero_add,List.getElem?_append_left (by rw[hm x (by simp)];exact hs)]
 |x::a8,hm,i+1,ys,h,s,hs=>by
  have hx:=hm x (by simp)
  rw[List.flatten_cons,List.getElem?_append_right (by rw[hx,Nat.add_mul];omega),hx]
  rw[show(i+1)*m+s-m=i*m+s by rw[Nat.add_mul];omega]
  exact Aq m a8 (fun v hv=>hm v (by simp[hv])) i ys (by simpa using h) s hs
theorem bL {η:Path->RI} {π:Path} {i:Nat}:∀ {tg:List CK} {j:Nat} {x:ai tg} {ys:List Value},ai.aA η π i j tg x ys->ys.length=tg.length
 |[],_,_,_,h=>by have h':_=[]:=h;subst h';rfl
 |[_],_,_,_,h=>by obtain⟨y,rfl,_⟩:=h;rfl
 |c::c'::cs,_,_,_,h=>by obtain⟨y,ys',rfl,_,h3⟩:=h;simp[bL (tg:=c'::cs) h3]
theorem cA.Pd {N N':Nat} {rg:List az} (h:cA M w0 N ρ rg w) (hN:N<=N'):cA M w0 N' ρ rg w:=
 ⟨fun r g π o B h1 h2=>(h.blk r g π o B h1 h2).cX (fun _=>rfl) hN (fun _ _ _=>rfl) (fun _=>rfl),h.lt,h.own,h.dj⟩
theorem eL.rel (h:Rel Γ M w0 ρ st vs a w) {an:St} {ρ':Keys} (hl:eL st an) (hρ:∀ r,r<st.rg.length->ρ' r=ρ r) (hr:cA M w0 an.rg.length ρ' an.rg w):Rel Γ M w0 ρ' an vs a w where
 tm:=by rw[hl.tm,hl.len];exact h.tm.mono (Nat.le_refl _) fun r hr π=>by rw[hρ r hr]
 fr:=by rw[hl.fr,hl.len];exact h.fr.mono fun s v hs=>hs.mono (Nat.le_refl _) fun r hr π=>by rw[hρ r hr]
 df:=h.df
 rs:=hr
 bl:=h.bl
 gl:=h.gl
 gn:=h.gn
theorem Jm (hE:bE P Γ E) (h:Rel Γ M w0 ρ st vs a w) {t e:TypeId} {m n:Nat} (ht:E.ty t= .sl e m) {tg:List CK} (hD:E.kd e=some tg) (hne:bZ CK.ne tg=true) {parts:Array (Nat×Operand)} {K:St->List (ai tg)->Bool->Prop}
 (hK:Fi cc tg 0 parts.toList st K) (hn:0<n) (hsz:n*tg.length<=16777216) (Rc:∀ st xs b,K st xs b->fg xs n=true):
 ∃ (an:St) (xs:List (ai tg)) (b:Bool) (ρ':Keys),K an xs b/\(Instr.buildSlice t n (parts.map fun(i,x)=>(i,a.eval x))).run P w= .ok (.slice (some ⟨w.heap.size,0,none⟩) n n) (w.alloc (.cells ((parts.toList.flatMap fun p=>(a.eval p.2).cells.toList)).toArray e))/\
  Rel Γ M w0 ρ' (an.push [.arr e tg xs true b]) vs a (w.alloc (.cells ((parts.toList.flatMap fun p=>(a.eval p.2).cells.toList)).toArray e))/\(∀ r,r<st.rg.length->ρ' r=ρ r)/\an.rg.length=st.rg.length/\
  (At.sl st.rg.length [] 0 n).ok (st.rg.length+1) ρ' (.slice (some ⟨w.heap.size,0,none⟩) n n):=by
 obtain⟨ci,_⟩:=hE.kd e tg hD;have aBD:dS M w0 w ρ st []:=⟨by simpa using h.rs⟩
 obtain⟨an,xs,b,items,aCb,cfg,ix,k1,k2,k3,k4,k5,k6⟩:=vu (a:=a) hne aBD (fun o x hx=>ax h hx) hK
 have NG:=dK (Rc _ _ _ k1);rw[NG]at k6;simp only[List.length_nil,Nat.add_zero,List.nil_append]at k3 k4 k5;have hvl:∀ v∈(parts.toList.map fun p=>(a.eval p.2).cells.toList),v.length=tg.length:=by
  intro v hv;obtain⟨i,hi⟩:=List.getElem?_of_mem hv;have hlt:i<xs.length:=by rw[<-k5.len];exact(List.getElem?_eq_some_iff.1 hi).1
  obtain⟨ys,h1,h2⟩:=k5.aA (gl iC cfg) [] (fun i j=>by rw[Nat.zero_add];exact fJ (σ:=[])) i hlt
  obtain rfl:=Option.some.inj (h1.symm.trans hi);exact bL h2
 have PL:(parts.toList.flatMap fun p=>(a.eval p.2).cells.toList)=(parts.toList.map fun p=>(a.eval p.2).cells.toList).flatten:=by rw[List.flatMap_def]
 have hrun:=wW (P:=P) (w:=w) (parts:=parts.map fun(i,x)=>(i,a.eval x)) hE ht hD (n:=n) (by simpa[Function.comp_def]using k6) (by
  intro p hp;simp only[Array.toList_map,List.mem_map]at hp;obtain⟨q,hq,rfl⟩:=hp;exact hvl _ (List.mem_map.2 ⟨q,hq,rfl⟩)) hn hsz
 have Nf:((parts.map fun(i,x)=>(i,a.eval x)).toList.flatMap fun p=>p.2.cells.toList)=parts.toList.flatMap fun p=>(a.eval p.2).cells.toList:=by
  simp[List.flatMap_map]
 rw[Nf]at hrun;have O2:(parts.toList.flatMap fun p=>(a.eval p.2).cells.toList).length=n*tg.length:=by
  rw[PL];have gen:∀ (l:List (List Value)),(∀ v∈l,v.length=tg.length)->l.flatten.length=l.length*tg.length:=by
   intro l;induction l with
   |nil=>intro _;simp
   |cons x l ih=>intro hl;rw[List.flatten_cons,List.length_append,hl x (by simp),ih fun v hv=>hl v (by simp[hv])];simp only[List.length_cons];rw[Nat.add_mul];omega
  rw[gen _ hvl,k5.len,NG]
 have hinst:=dS.Lt (w':=w.alloc (.cells ((parts.toList.flatMap fun p=>(a.eval p.2).cells.toList)).toArray e)) (held:=[]) (items:=items) (te:=e) (b:=b) (I:=⟨w.heap.size,0,tg.length,n,false⟩) ci (by simpa using k3) k2.len (by simpa using k5) (agB _) rfl rfl (by rw[NG];exact Nat.le_refl _) (Nat.le_refl _) (by simp) ⟨.inr h.bl.size,fun j=>by simp⟩
  ⟨by
    show n<=maxLen;have:n<=n*tg.length:=Nat.le_mul_of_pos_right _ (List.length_pos_iff.2 ci);exact Nat.le_trans (Nat.le_trans this hsz) (Nat.le_of_ble_eq_true rfl),_,(by show(w.heap.push _)[w.heap.size]?=_;simp;rfl),by simp only[List.size_toArray,O2];omega⟩
  (fun i hi ys hys s y hy=>by
    simp only[RI.at,Nat.zero_add];rw[gh,PL];have hs:s<tg.length:=by
     have:=hvl ys (List.mem_of_getElem? hys);rw[<-this];exact(List.getElem?_eq_some_iff.1 hy).1
    rw[Aq tg.length _ hvl i ys hys s hs];exact hy)
 simp only[List.append_nil,List.length_nil,Nat.add_zero]at hinst;refine⟨an,xs,b,aE aCb st.rg.length (gl ⟨w.heap.size,0,tg.length,n,false⟩ cfg),k1,hrun,?_,fun r hr=>by rw[bB hr];exact k4 r hr,k2.len,?_⟩
 ·have cC:Rel Γ M w0 aCb an vs a w:=eL.rel h k2 k4 (by rw[k2.len];have:=k3.rs;rw[k2.len]at this;exact this.front)
  refine cC.grow (agB _) (fun r hr π=>by rw[bB (by rw[<-k2.len];exact hr)]) ?_
  rw[k2.len];exact hinst.Pd (Nat.le_succ _)
 ·refine⟨by omega,?_⟩
  rw[aF,aac];refine⟨fun hv=>(by cases hv),fun _=>⟨Nat.le_of_eq (Nat.zero_add n),some ⟨w.heap.size,0,none⟩,?_,fun _=>?_⟩⟩
  ·rfl
  ·show _=some (RI.at _ (0*tg.length));simp[RI.at]
/-! ### make -/
def rO:List CK->Nat->Nat
 | .sl _ tg::_,0=>tg.length
 |_::cs,j+1=>rO cs j
 |_,_=>0
theorem sub_zero:∀ {tg:List CK} {j:Nat} {B:Ar},bZ CK.ne tg=true->ai.sub tg (ai.d tg) j=some B->B.xs=[]/\B.tg≠[]/\B.tg.length=rO tg j:=by
 have one:∀ (c:CK) {B:Ar} {cs:List CK},CK.ne c=true->c.sub c.d=some B->B.xs=[]/\B.tg≠[]/\B.tg.length=rO (c::cs) 0:=by
  intro c B cs hc hB;cases c with
  |sl e tg=>
   obtain rfl:=Option.some.inj hB;refine⟨rfl,fun h=>?_,rfl⟩
   have h:tg=[]:=h;subst h;cases hc
  |_=>cases hB
 intro tg;induction tg with
 |nil=>intro j B _ h;cases h
 |cons c cs ih=>
  intro j B hne h;simp only[bZ]at hne;split at hne
  ·rename_i hc;cases cs with
   |nil=>cases j with
    |zero=>exact one c hc h
    |succ j=>cases h
   |cons c' cs=>
    cases j with
    |zero=>exact one c hc h
    |succ j=>
     have:=ih hne h;refine⟨this.1,this.2.1,?_⟩;rw[this.2.2];cases c<;>rfl
  ·cases hne
theorem HG {η:Path->RI} {π:Path} {i:Nat}:∀ {tg:List CK} {j:Nat},(∀ j,(η ((i,j)::π)).aC=true)->ai.aA η π i j tg (ai.d tg) (ai.zero tg):=by
 have one:∀ (c:CK) (j:Nat),(∀ j,(η ((i,j)::π)).aC=true)->c.aA η π i j c.d (match c with| .int k=> .int k 0| .bool=> .bool false| .str=> .string ByteArray.empty| .sl _ _=> .slice none 0 0):=by
  intro c j hv;cases c with
  |sl e tg=>exact⟨fun _=>⟨rfl,none,rfl⟩,fun hh=>by rw[hv j]at hh;cases hh⟩
  |_=>rfl
 intro tg;induction tg with
 |nil=>intro j _;rfl
 |cons c cs ih=>
  intro j hv;cases cs with
  |nil=>exact⟨_,rfl,one c j hv⟩
  |cons c' cs=>exact⟨_,_,rfl,one c j hv,ih hv⟩
theorem aay:∀ (tg:List CK),(ai.zero tg).length=tg.length
 |[]=>rfl
 |c::cs=>by simp[ai.zero,aay cs]
theorem kq {te:TypeId} {tg:List CK} {n:Nat} (hne:bZ CK.ne tg=true):∀ {π:Path} {B:Ar},Ar.has ⟨te,tg,List.replicate n (ai.d tg)⟩ π B->(π=[]/\B=⟨te,tg,List.replicate n (ai.d tg)⟩)\/(∃ i j,π=[(i,j)]/\B.xs=[]/\B.tg≠[]/\B.tg.length=rO tg j)
 |[],B,h=> .inl ⟨rfl,h⟩
 |(i,j)::π,B,h=>by
  obtain⟨C,h1,h2,h3⟩:=h;rcases kq hne h1 with⟨rfl,rfl⟩|⟨i',j',_,hx,_⟩
  ·refine .inr ⟨i,j,rfl,?_⟩;have e:Ar.get ⟨te,tg,List.replicate n (ai.d tg)⟩ i=ai.d tg:=by
    simp only[Ar.get,List.getD_eq_getElem?_getD];simp only[List.length_replicate]at h2;simp[h2]
   rw[e]at h3;exact sub_zero hne h3
  ·rw[hx]at h2;simp at h2
theorem BI (h:Rel Γ M w0 ρ st vs a w) {te:TypeId} {tg:List CK} (ci:tg≠[]) (hne:bZ CK.ne tg=true) {n:Nat} (hn:n<=maxLen) {cs:List Value} (hl:cs.length=n*tg.length) (hc:∀ i,i<n->∀ s,s<tg.length->cs[i*tg.length+s]?=(ai.zero tg)[s]?):
 Rel Γ M w0 (aE ρ st.rg.length (gl ⟨w.heap.size,0,tg.length,n,false⟩ fun _ j _=>{iC with m:=rO tg j})) (st.push [.arr te tg (List.replicate n (ai.d tg)) true true]) vs a (w.alloc (.cells cs.toArray te)):=by
 refine h.grow (agB _) (fun r hr π=>by rw[bB hr]) (h.rs.fresh (agB _) ?_ ?_ ?_ ?_)
 ·rintro π o B ⟨_,A,hA,rfl⟩;show A.aA _ (aE ρ st.rg.length _ st.rg.length) π;rw[aF];rcases kq hne hA with⟨rfl,rfl⟩|⟨i,j,rfl,h1,h2,h3⟩
  ·refine⟨ci,rfl,fun hv=>(by cases hv),fun _=>(by simp[aac]),fun i hi=>?_⟩
   simp only[List.length_replicate]at hi;refine⟨ai.zero tg,?_,fun s y hy=>?_⟩
   ·have e:Ar.get ⟨te,tg,List.replicate n (ai.d tg)⟩ i=ai.d tg:=by
     simp only[Ar.get,List.getD_eq_getElem?_getD];simp[hi]
    rw[e];exact HG fun j=>rfl
   ·have hs:s<tg.length:=by rw[<-aay tg];exact(List.getElem?_eq_some_iff.1 hy).1
    simp only[aac,RI.at,Nat.zero_add];rw[gh,hc i hi s hs];exact hy
  ·refine⟨h2,h3.symm,fun _=>h1,fun hv=>(by cases hv),fun k hk=>?_⟩
   rw[h1]at hk;simp at hk
 ·rintro π o B ⟨_,A,hA,rfl⟩ hv;rcases kq hne hA with⟨rfl,rfl⟩|⟨i,j,rfl,h1,h2,h3⟩
  ·exact⟨Nat.le_refl _,by simp[aac]⟩
  ·cases hv
 ·rintro π B ⟨_,A,hA,rfl⟩ hv;rcases kq hne hA with⟨rfl,rfl⟩|⟨i,j,rfl,h1,h2,h3⟩
  ·exact⟨⟨.inr h.bl.size,fun j=>by simp[aac]⟩,hn,_,(by show(w.heap.push _)[w.heap.size]?=_;simp;rfl),by simp[aac,hl]⟩
  ·cases hv
 ·rintro π aW o o' B B' ⟨_,A,hA,rfl⟩ ⟨_,A',nu,rfl⟩ hv j6;rcases kq hne hA with⟨rfl,rfl⟩|⟨i,j,rfl,h1,h2,h3⟩
  ·rcases kq hne nu with⟨rfl,rfl⟩|⟨i,j,rfl,h1,h2,h3⟩
   ·rfl
   ·cases j6
  ·cases hv
end
end Go.Sy
end
section
namespace Go.Sy
open Go Go.RowKit
universe u
/-! ### Contents turned -/
theorem agK {A:Ar}:∀ {π:Path} {B C:Ar},A.has π B->A.has π C->B=C
 |[],B,C,h,h'=>Eq.trans (show B=A from h) (show C=A from h').symm
 |(i,j)::π,B,C,h,h'=>by
  obtain⟨D,h1,_,h2⟩:=h;obtain⟨D',u0,_,G6⟩:=h';obtain rfl:=agK h1 u0;exact Option.some.inj (h2.symm.trans G6)
theorem G9 {A:Ar}:∀ {π:Path} {B:Ar},A.has π B->∃ q,A.dn π=some (q,B)/\bW q
 |[],B,h=>⟨[],by have h:B=A:=h;rw[h];rfl,trivial⟩
 |(i,j)::π,C,h=>by
  obtain⟨B,h1,h2,h3⟩:=h;obtain⟨q,h4,h5⟩:=G9 h1;exact⟨q++[(aa.of (i<B.xs.length))],by simp only[Ar.dn,h4,h3],(aH _ _).2 ⟨h5,h2,trivial⟩⟩
theorem fe {A:Ar} {π:Path}:∀ {τ:Path} {C:Ar},A.has (τ++π) C<->∃ B,A.has π B/\B.has τ C
 |[],C=>⟨fun h=>⟨C,h,rfl⟩,fun⟨B,h1,h2⟩=>by have h2:C=B:=h2;rw[h2];exact h1⟩
 |(k,l)::τ,C=>by
  constructor
  ·rintro⟨D,h1,h2,h3⟩;obtain⟨B,b1,b2⟩:=fe.1 h1;exact⟨B,b1,D,b2,h2,h3⟩
  ·rintro⟨B,b1,D,b2,h2,h3⟩;exact⟨D,fe.2 ⟨B,b1,b2⟩,h2,h3⟩
structure Same (C C':Ar):Prop where
 te:C'.te=C.te
 len:C'.xs.length=C.xs.length
 tg:∃ h:C'.tg=C.tg,∀ (η:Path->RI) (π:Path) (i:Nat) ys,i<C.xs.length->ai.aA η π i 0 C.tg (C.get i) ys->ai.aA η π i 0 C'.tg (C'.get i) ys
theorem Same.refl (C:Ar):Same C C:=⟨rfl,rfl,rfl,fun _ _ _ _ _ h=>h⟩
theorem jT {c:CK} {C:Ar} {y:c.ty} (h:c.cP C=some y):c.sub y=some C:=by
 cases c with
 |sl e tg=>
  simp only[CK.cP]at h;split at h
  ·rename_i h1 h2 _ _;obtain⟨te,bX,xs⟩:=C;obtain rfl:=h1.down;obtain rfl:=h2.down;obtain rfl:=Option.some.inj h;rfl
  ·cases h
 |_=>cases h
theorem tu:∀ {tg:List CK} {x a:ai tg} {j:Nat} {C:Ar},ai.cP tg x j C=some a->ai.sub tg a j=some C:=by
 intro tg;induction tg with
 |nil=>intro x a j C h;cases h
 |cons c cs ih=>
  intro x a j C h;cases cs with
  |nil=>cases j with
   |zero=>exact jT h
   |succ j=>cases h
  |cons c' cs=>cases j with
   |zero=>
    simp only[ai.cP]at h;split at h
    ·rename_i y hy;obtain rfl:=Option.some.inj h;exact jT hy
    ·cases h
   |succ j=>
    simp only[ai.cP]at h;split at h
    ·rename_i y hy;obtain rfl:=Option.some.inj h;exact ih hy
    ·cases h
theorem rK:∀ {tg:List CK} {x a:ai tg} {j:Nat} {C:Ar},ai.cP tg x j C=some a->∀ j',j'≠j->ai.sub tg a j'=ai.sub tg x j':=by
 intro tg;induction tg with
 |nil=>intro x a j C h;cases h
 |cons c cs ih=>
  intro x a j C h j' hne;cases cs with
  |nil=>cases j with
   |zero=>cases j' with
    |zero=>exact absurd rfl hne
    |succ j'=>rfl
   |succ j=>cases h
  |cons c' cs=>cases j with
   |zero=>
    simp only[ai.cP]at h;split at h
    ·rename_i y hy;obtain rfl:=Option.some.inj h;cases j' with
     |zero=>exact absurd rfl hne
     |succ j'=>rfl
    ·cases h
   |succ j=>
    simp only[ai.cP]at h;split at h
    ·rename_i y hy;obtain rfl:=Option.some.inj h;cases j' with
     |zero=>rfl
     |succ j'=>exact ih hy j' (fun e=>hne (by rw[e]))
    ·cases h
theorem CW {η:Path->RI} {π:Path} {i:Nat}:∀ {tg:List CK} {x a:ai tg} {j j0:Nat} {C:Ar} {ys:List Value},ai.cP tg x j C=some a->(∃ B,ai.sub tg x j=some B/\C.xs.length=B.xs.length)->ai.aA η π i j0 tg x ys->ai.aA η π i j0 tg a ys:=by
 have one:∀ {c:CK} {x y:c.ty} {j:Nat} {C:Ar} {v:Value},c.cP C=some y->(∃ B,c.sub x=some B/\C.xs.length=B.xs.length)->c.aA η π i j x v->c.aA η π i j y v:=by
  intro c x y j C v h hB hv;cases c with
  |sl e tg=>
   obtain⟨B,hB,hlen⟩:=hB;have:=jT h;obtain rfl:=Option.some.inj hB;obtain rfl:=Option.some.inj this;show RI.head _ 0 _ v;have hv:RI.head (η ((i,j)::π)) 0 _ v:=hv;rw[show List.length _=_ from hlen];exact hv
  |_=>cases h
 intro tg;induction tg with
 |nil=>intro x a j j0 C ys h;cases h
 |cons c cs ih=>
  intro x a j j0 C ys h hB hl;cases cs with
  |nil=>cases j with
   |zero=>obtain⟨y,h1,h2⟩:=hl;exact⟨y,h1,one h hB h2⟩
   |succ j=>cases h
  |cons c' cs=>cases j with
   |zero=>
    simp only[ai.cP]at h;split at h
    ·rename_i y hy;obtain rfl:=Option.some.inj h;obtain⟨v,ys',h1,h2,h3⟩:=hl;exact⟨v,ys',h1,one hy hB h2,h3⟩
    ·cases h
   |succ j=>
    simp only[ai.cP]at h;split at h
    ·rename_i y hy;obtain rfl:=Option.some.inj h;obtain⟨v,ys',h1,h2,h3⟩:=hl;exact⟨v,ys',h1,h2,ih hy hB h3⟩
    ·cases h
theorem ji {te:TypeId} {tg:List CK} {xs:List (ai tg)} {i k:Nat} {a:ai tg} (hi:i<xs.length):Ar.get ⟨te,tg,xs.set i a⟩ k=if k=i then a else Ar.get ⟨te,tg,xs⟩ k:=by
 simp only[Ar.get,List.getD_eq_getElem?_getD];by_cases h:k=i
 ·subst h;rw[List.getElem?_set_self hi,if_pos rfl];rfl
 ·rw[List.getElem?_set_ne (Ne.symm h),if_neg h]
theorem Ee {A:Ar}:∀ {π:Path} {B B' A':Ar},A.has π B->A.up π B'=some A'->B'.te=B.te->B'.tg=B.tg->B'.xs.length=B.xs.length->
 A'.has π B'/\A'.te=A.te/\A'.tg=A.tg/\∀ σ C',A'.has σ C'->(∃ τ,σ=τ++π)\/∃ C,A.has σ C/\Same C C'
 |[],B,B',A',hB,hu,h1,h2,h3=>by
  obtain rfl:B=A:=hB;simp only[Ar.up]at hu;split at hu
  ·rename_i e1 e2 _ _;obtain⟨te,tg,xs⟩:=B';obtain⟨dO,iU,Oy⟩:=B;obtain rfl:=e1.down;obtain rfl:=e2.down;obtain rfl:=Option.some.inj hu;exact⟨rfl,rfl,rfl,fun σ C' _=> .inl ⟨σ,by simp⟩⟩
  ·cases hu
 |(i,j)::π,B,B',A',hB,hu,h1,h2,h3=>by
  obtain⟨B0,b1,b2,b3⟩:=hB;obtain⟨q,hd,_⟩:=G9 b1;simp only[Ar.up,hd]at hu;split at hu
  ·rename_i a ha;obtain⟨u1,u2,u3,u4⟩:=Ee b1 hu rfl rfl (by simp)
   have ga:Ar.get ⟨B0.te,B0.tg,B0.xs.set i a⟩ i=a:=by rw[ji b2,if_pos rfl]
   refine⟨⟨_,u1,by simpa using b2,by rw[ga];exact tu ha⟩,u2,u3,fun σ C' hC=>?_⟩
   rcases u4 σ C' hC with⟨τ,rfl⟩|⟨C,c1,c2⟩
   ·obtain⟨D,d1,d2⟩:=fe.1 hC;obtain rfl:=agK d1 u1;rcases de τ with rfl|⟨Qg,k,l,rfl⟩
    ·obtain rfl:C'=_:=d2;refine .inr ⟨B0,by simpa using b1,rfl,by simp,rfl,fun η aW k ys hk hl=>?_⟩
     rw[ji b2];split
     ·rename_i e;subst e;exact CW ha ⟨B,b3,h3⟩ hl
     ·exact hl
    ·by_cases e:(k,l)=(i,j)
     ·obtain⟨rfl,rfl⟩:=Prod.mk.inj e;exact .inl ⟨Qg,by simp⟩
     ·refine .inr ⟨C',?_,Same.refl _⟩;obtain⟨D,e1,e2,e3⟩:=dH.1 d2;refine fe.2 ⟨B0,b1,dH.2 ⟨D,by simpa using e1,?_,e3⟩⟩
      rw[<-e2,ji b2];split
      ·rename_i e4;subst e4;exact(rK ha l (fun e5=>e (by rw[e5]))).symm
      ·rfl
   ·exact .inr ⟨C,c1,c2⟩
  ·cases hu
end Go.Sy
end
section
namespace Go.Sy
open Go Go.RowKit
universe u
section
variable {P:Program} {Γ:bn} {E:Env} {M:Nat->Prop} {w0:World} {ρ:Keys} {st:St} {vs:Fv} {a:Act} {w:World}
theorem DY {c:CK} {v:Value} {y:c.ty} (h:c.of v=some y) (η:Path->RI) (π:Path) (i j:Nat):c.aA η π i j y v:=by
 cases c with
 |int k=>
  cases v<;>simp only[CK.of]at h<;>try(cases h;done)
  split at h
  ·rename_i hk;obtain rfl:=akr hk;obtain rfl:=Option.some.inj h;exact rfl
  ·cases h
 |bool=>cases v<;>simp only[CK.of]at h<;>try(cases h;done)
        obtain rfl:=Option.some.inj h;exact rfl
 |str=>cases v<;>simp only[CK.of]at h<;>try(cases h;done)
       obtain rfl:=Option.some.inj h;exact rfl
 |sl e tg=>simp only[CK.of]at h;cases h
theorem vC {c:CK} {v:Value} {y:c.ty} (h:c.of v=some y) (x:c.ty):c.sub y=none/\c.sub x=none:=by
 cases c with
 |sl e tg=>simp only[CK.of]at h;cases h
 |_=>exact⟨rfl,rfl⟩
theorem JO {η:Path->RI} {π:Path} {i:Nat} {v:Value}:∀ {tg:List CK} {x b:ai tg} {j j0:Nat} {ys:List Value},ai.yz tg x j v=some b->ai.aA η π i j0 tg x ys->j<tg.length/\ai.aA η π i j0 tg b (ys.set j v)/\∀ j',ai.sub tg b j'=ai.sub tg x j':=by
 intro tg;induction tg with
 |nil=>intro x b j j0 ys h;cases h
 |cons c cs ih=>
  intro x b j j0 ys h hl;cases cs with
  |nil=>cases j with
   |zero=>
    obtain⟨y,rfl,h2⟩:=hl;refine⟨Nat.zero_lt_one,⟨v,rfl,DY h _ _ _ _⟩,fun j'=>?_⟩
    cases j' with
    |zero=>exact(vC h x).1.trans (vC h x).2.symm
    |succ j'=>rfl
   |succ j=>cases h
  |cons c' cs=>cases j with
   |zero=>
    simp only[ai.yz]at h;split at h
    ·rename_i y hy;obtain rfl:=Option.some.inj h;obtain⟨u,ys',rfl,h2,h3⟩:=hl;refine⟨Nat.succ_pos _,⟨v,ys',rfl,DY hy _ _ _ _,h3⟩,fun j'=>?_⟩
     cases j' with
     |zero=>exact(vC hy x.1).1.trans (vC hy x.1).2.symm
     |succ j'=>rfl
    ·cases h
   |succ j=>
    simp only[ai.yz]at h;split at h
    ·rename_i y hy;obtain rfl:=Option.some.inj h;obtain⟨u,ys',rfl,h2,h3⟩:=hl;obtain⟨k1,k2,k3⟩:=ih hy h3;refine⟨Nat.succ_lt_succ k1,⟨u,ys'.set j v,rfl,h2,k2⟩,fun j'=>?_⟩
     cases j' with
     |zero=>rfl
     |succ j'=>exact k3 j'
    ·cases h
theorem nY {N:Nat} {η:Path->RI} {π:Path} {i:Nat} {tg:List CK}:∀ {l:List At} {us:List Value} {x b:ai tg} {j:Nat} {ys:List Value},lH tg x j l=some b->be (At.ok N ρ) l us->ai.aA η π i 0 tg x ys->
 (∀ s,s<l.length->j+s<tg.length)/\(∃ ys',ai.aA η π i 0 tg b ys'/\∀ s,ys'[s]?=if j<=s/\s<j+l.length then us[s-j]? else ys[s]?)/\∀ j',ai.sub tg b j'=ai.sub tg x j'
 |[],[],x,b,j,ys,h,_,hl=>by
  simp only[lH,Option.some.injEq]at h;subst h;exact⟨by simp,⟨ys,hl,fun s=>by rw[if_neg (by simp)]⟩,fun _=>rfl⟩
 |t::l,u::us,x,b,j,ys,h,ho,hl=>by
  have main:∀ v,u=v->(match ai.yz tg x j v with|some a'=>lH tg a' (j+1) l|none=>none)=some b->
   (∀ s,s<(t::l).length->j+s<tg.length)/\(∃ ys',ai.aA η π i 0 tg b ys'/\∀ s,ys'[s]?=if j<=s/\s<j+(t::l).length then(u::us)[s-j]? else ys[s]?)/\∀ j',ai.sub tg b j'=ai.sub tg x j':=by
   rintro v rfl h;split at h
   ·rename_i b1 hb;obtain⟨k1,k2,k3⟩:=JO hb hl;obtain⟨m1,⟨ys',m2,m3⟩,m4⟩:=nY h ho.2 k2;have hlen:=bL hl;refine⟨fun s hs=>?_,⟨ys',m2,fun s=>?_⟩,fun j'=>(m4 j').trans (k3 j')⟩
    ·cases s with
     |zero=>exact k1
     |succ s=>have:=m1 s (by simpa using hs);omega
    ·rw[m3 s];simp only[List.length_cons];by_cases e1:s=j
     ·subst e1;rw[if_neg (by omega),if_pos (by omega),List.getElem?_set_self (by omega),Nat.sub_self];rfl
     ·by_cases e2:j+1<=s/\s<j+1+l.length
      ·rw[if_pos e2,if_pos (by omega),show s-j=(s-(j+1))+1 by omega];rfl
      ·rw[if_neg e2,if_neg (by omega),List.getElem?_set_ne (by omega)]
   ·cases h
  cases t<;>simp only[lH]at h<;>try(cases h;done)
  ·exact main _ ho.1.1 h
  ·exact main _ ho.1 h
  ·exact main _ ho.1 h
theorem gj (b:Nat):∀ (vs:List Value) (o:Nat) (w:World) (k:Nat),k≠b->(w.setCells b o vs).heap[k]?=w.heap[k]?
 |[],_,_,_,_=>rfl
 |v::vs,o,w,k,hk=>by rw[World.setCells,gj b vs _ _ k hk,Below.heap_setCell _ _ _ _ hk]
theorem dA (b:Nat):∀ (vs:List Value) (o:Nat) (w:World),(w.setCells b o vs).heap.size=w.heap.size
 |[],_,_=>rfl
 |v::vs,o,w=>by rw[World.setCells,dA b vs,World.size_setCell]
theorem Frame.setCell {w1:World} (h:Frame M w0 w1) {p:Addr} (hp:M p.block\/w0.heap.size<=p.block) (v:Value):Frame M w0 (w1.setCell p v):=
 ⟨h.os,h.tape,h.output,by rw[World.size_setCell];exact h.size,fun k hk hm=>by
   rw[Below.heap_setCell _ _ _ _ (by rcases hp with hp|hp;· (intro e;subst e;exact hm hp)
                                     ·omega)]
   exact h.block k hk hm⟩
theorem fI {b:Nat} (hb:M b\/w0.heap.size<=b):∀ (vs:List Value) (o:Nat) {w1:World},Frame M w0 w1->Frame M w0 (w1.setCells b o vs)
 |[],_,_,h=>h
 |v::vs,o,w1,h=>by rw[World.setCells];exact fI hb vs _ (h.setCell (p:=⟨b,o,none⟩) hb v)
theorem aB8 {I:RI} {te:TypeId}:∀ (vs:List Value) (o:Nat) {w:World},Whole w I te->Whole (w.setCells I.b o vs) I te:=by
 intro vs;induction vs with
 |nil=>exact fun o w h=>h
 |cons v vs ih=>
  intro o w hw;rw[World.setCells];refine ih _ ?_;obtain⟨h1,cur,h4,h5⟩:=hw;refine⟨h1,cur.setIfInBounds o v,?_,by simpa using h5⟩
  have hlt:=(Array.getElem?_eq_some_iff.1 h4).1;have hv:=(Array.getElem?_eq_some_iff.1 h4).2;show(w.heap.modify I.b _)[I.b]?=_;rw[Array.getElem?_eq_getElem (by rw[Array.size_modify];exact hlt),Array.getElem_modify_self,hv]
  rfl
theorem Rel.write (h:Rel Γ M w0 ρ st vs a w) {r:Nat} {g g':az} {π:Path} {B0:aD0} (hr:st.rg[r]?=some g) (hB:g.has π true B0) (hv:(ρ r π).aC=false) {base:Nat} {us:List Value}
 (hkeys:∀ σ o B',g'.has σ o B'->∃ B,g.has σ o B/\(σ≠π->∀ w',B.aA st.rg.length ρ r σ w'->B'.aA st.rg.length ρ r σ w')/\(∀ w',B.mine M w0 w' (ρ r σ)->B'.mine M w0 w' (ρ r σ)))
 (hown:∀ o B',g'.has π o B'->B'.aA st.rg.length ρ r π (w.setCells (ρ r π).b base us)):
 Rel Γ M w0 ρ (st.aBZ r g') vs a (w.setCells (ρ r π).b base us):=by
 have hm:=h.rs.own r g π B0 hr hB hv;have aah:bY M w0 w (ρ r π):=by cases B0 with|box=>exact hm|map=>exact hm|bH=>exact hm|it=>exact hm|lp=>exact hm|arr A=>exact hm.1
 have hlen:(st.aBZ r g').rg.length=st.rg.length:=by simp[St.aBZ]
 have heap:∀ k,k≠(ρ r π).b->(w.setCells (ρ r π).b base us).heap[k]?=w.heap[k]?:=fun k hk=>gj _ us base w k hk
 have other:∀ (r1:Nat) (g1:az) σ o B,st.rg[r1]?=some g1->g1.has σ o B->¬(r=r1/\π=σ)->(ρ r1 σ).aC=false->(w.setCells (ρ r π).b base us).heap[(ρ r1 σ).b]?=w.heap[(ρ r1 σ).b]?:=
  fun r1 g1 σ o B h1 h2 hne Vp=>heap _ (fun e=>h.rs.dj r r1 g g1 π σ o B0 B hr h1 hB h2 hv Vp hne e.symm)
 have mine:∀ (r1:Nat) (g1:az) σ B,st.rg[r1]?=some g1->g1.has σ true B->(ρ r1 σ).aC=false->B.mine M w0 (w.setCells (ρ r π).b base us) (ρ r1 σ):=by
  intro r1 g1 σ B h1 h2 Vp;have hb:=h.rs.own r1 g1 σ B h1 h2 Vp;by_cases e:r=r1/\π=σ
  ·obtain⟨rfl,rfl⟩:=e;have f:bY M w0 (w.setCells (ρ r π).b base us) (ρ r π):=⟨aah.own,fun j=>by rw[World.frozen?_setCells];exact aah.fz j⟩
   cases B with
   |box=>exact f
   |map=>exact f
   |bH=>exact f
   |it=>exact f
   |lp=>exact f
   |arr A=>exact⟨f,aB8 _ _ hb.2⟩
  ·exact hb.cX (other r1 g1 σ true B h1 h2 e Vp)
 refine⟨by rw[hlen];exact h.tm,by rw[hlen];exact h.fr,h.df,?_,fI aah.own _ _ h.bl,Γ.st _ _ h.gl fun b hb=>heap b ?_,h.gn⟩
 ·rw[hlen];refine⟨fun r1 g1 σ o B h1 h2=>?_,fun r1 g1 σ o B h1 h2 Vp=>?_,fun r1 g1 σ B h1 h2 Vp=>?_,fun r1 r2 g1 g2 σ σ' o' B B' h1 h2 k1 k2 v1 v2 hne=>?_⟩
  ·rcases cF h1 with⟨rfl,rfl,_⟩|⟨hne,h1⟩
   ·by_cases e:σ=π
    ·subst e;exact hown o B h2
    ·obtain⟨B1,b1,b2,_⟩:=hkeys σ o B h2;refine b2 e _ ?_;exact(h.rs.blk _ g σ o B1 hr b1).cX (fun _=>rfl) (Nat.le_refl _) (fun _ _ _=>rfl) (fun Vp=>other _ g σ o B1 hr b1 (fun e'=>e e'.2.symm) Vp)
   ·exact(h.rs.blk r1 g1 σ o B h1 h2).cX (fun _=>rfl) (Nat.le_refl _) (fun _ _ _=>rfl) (fun Vp=>other r1 g1 σ o B h1 h2 (fun e'=>hne e'.1.symm) Vp)
  ·rw[dA];rcases cF h1 with⟨rfl,rfl,_⟩|⟨hne,h1⟩
   ·obtain⟨B1,b1,_,_⟩:=hkeys σ o B h2;exact h.rs.lt _ g σ o B1 hr b1 Vp
   ·exact h.rs.lt r1 g1 σ o B h1 h2 Vp
  ·rcases cF h1 with⟨rfl,rfl,_⟩|⟨hne,h1⟩
   ·obtain⟨B1,b1,_,b3⟩:=hkeys σ true B h2;exact b3 _ (mine _ g σ B1 hr b1 Vp)
   ·exact mine r1 g1 σ B h1 h2 Vp
  ·rcases cF h1 with⟨e1,f1,_⟩|⟨_,p1⟩<;>rcases cF h2 with⟨e2,f2,_⟩|⟨_,p2⟩
   ·subst e1 f1 e2 f2;obtain⟨Ba,b1,_,_⟩:=hkeys σ true B k1;obtain⟨Bb,b2,_,_⟩:=hkeys σ' o' B' k2;exact h.rs.dj _ _ g g σ σ' o' Ba Bb hr hr b1 b2 v1 v2 hne
   ·subst e1 f1;obtain⟨Ba,b1,_,_⟩:=hkeys σ true B k1;exact h.rs.dj _ _ g g2 σ σ' o' Ba B' hr p2 b1 k2 v1 v2 hne
   ·subst e2 f2;obtain⟨Bb,b2,_,_⟩:=hkeys σ' o' B' k2;exact h.rs.dj _ _ g1 g σ σ' o' B Bb p1 hr k1 b2 v1 v2 hne
   ·exact h.rs.dj _ _ g1 g2 σ σ' o' B B' p1 p2 k1 k2 v1 v2 hne
 ·have:=h.gn b hb;rcases aah.own with ho|ho
  ·intro e;subst e;exact this.1 ho
  ·omega
end
end Go.Sy
end
section
namespace Go.Sy
open Go Go.RowKit
universe u
section
variable {cc:Bool} {P:Program} {Γ:bn} {E:Env} {M:Nat->Prop} {w0:World} {ρ:Keys} {st:St} {vs:Fv} {a:Act} {w:World}
theorem qE:∀ (l:List At) (cells:List At) (off p:Nat),off+l.length<=cells.length->(Z9 cells off l)[p]?=if off<=p/\p<off+l.length then l[p-off]? else cells[p]?
 |[],cells,off,p,_=>by simp[Z9];intro _ _;omega
 |x::l,cells,off,p,h=>by
  simp only[List.length_cons]at h ⊢;rw[Z9,qE l _ (off+1) p (by simp;omega)]
  by_cases h1:p=off
  ·subst h1;rw[if_neg (by omega),if_pos (by omega),List.getElem?_set_self (by omega),Nat.sub_self];rfl
  ·by_cases h2:off+1<=p/\p<off+1+l.length
   ·rw[if_pos h2,if_pos (by omega),show p-off=(p-(off+1))+1 by omega];rfl
   ·rw[if_neg h2,if_neg (by omega),List.getElem?_set_ne (by omega)]
theorem xg (hE:bE P Γ E) {t:TypeId} (hn:E.ty t≠ .other):(P.info? t).map (·.size)=some (E.ty t).cells:=by
 have:=hE.ty t;cases hh:E.ty t<;>rw[hh]at this
 case other=>exact absurd hh hn
 case st=>exact this.2
 case sl=>exact this.2.2
 case ar=>exact this.2.2
 all_goals exact this.2
theorem IF (hE:bE P Γ E) (h:Rel Γ M w0 ρ st vs a w) {t:TypeId} (hno:E.ty t≠ .other) {r j:Nat} {cells l:List At} {vx:Value} (Vo:st.rg[r]?=some (.box true cells)) (hfit:j+l.length<=cells.length) (hl:be (At.ok st.rg.length ρ) l vx.cells.toList) (hone:∀ z∈vx.cells.toList,z.oneCell'=true)
 (hlen:l.length=(E.ty t).cells):
 (Instr.storeAt t (.pointer (some ((ρ r []).at (0*(ρ r []).m+j)))) vx).run P w= .ok () (w.setCells (ρ r []).b ((ρ r []).off+(0*(ρ r []).m+j)) vx.cells.toList)/\Rel Γ M w0 ρ (st.aBZ r (.box true (Z9 cells j l))) vs a (w.setCells (ρ r []).b ((ρ r []).off+(0*(ρ r []).m+j)) vx.cells.toList):=by
 have E7:vx.cells.toList.length=l.length:=hl.length.symm;have hsz:=xg hE hno;have run:(∀ s,s<l.length->(w.cell? ((ρ r []).at (0*(ρ r []).m+j+s))).isSome=true)->(∀ o,w.frozen? ⟨(ρ r []).b,o,none⟩=false)->
  (Instr.storeAt t (.pointer (some ((ρ r []).at (0*(ρ r []).m+j)))) vx).run P w= .ok () (w.setCells (ρ r []).b ((ρ r []).off+(0*(ρ r []).m+j)) vx.cells.toList):=by
  intro hc hf;have hst:=run_storeCells_cells (P:=P) (ρ r []).b ((ρ r []).off+(0*(ρ r []).m+j)) vx.cells.toList 0 w
   (fun s hs=>by have:=hc s (by omega);simpa[RI.at,Nat.add_assoc]using this) (fun s _=>hf _) hone
  have hcs:vx.cells.size=(E.ty t).cells:=by
   have:vx.cells.toList.length=(E.ty t).cells:=by rw[E7,hlen]
   simpa using this
  simp only[Nat.add_zero,Nat.zero_mul,Nat.zero_add]at hst;simp[Instr.storeAt,Instr.sureAddr,storeVar,cY hsz,hcs,RI.at,hst]
 have hB:(az.box true cells).has [] true (.box cells):=⟨rfl,rfl,rfl⟩;obtain⟨_,h1,h2,h4⟩:=h.rs.blk r _ [] true _ Vo hB;have hm:bY M w0 w (ρ r []):=h.rs.own r _ [] _ Vo hB h2;have hcell:∀ s,s<l.length->(w.cell? ((ρ r []).at (0*(ρ r []).m+j+s))).isSome=true:=fun s hs=>by
  obtain⟨y,_,hy⟩:=h4 (j+s) cells[j+s] (List.getElem?_eq_getElem (by omega))
  rw[show 0*(ρ r []).m+j+s=j+s by omega,hy];rfl
 refine⟨run hcell hm.fz,h.write Vo hB h2 ?_ ?_⟩
 ·rintro σ o B' ⟨rfl,rfl,rfl⟩;exact⟨.box cells,hB,fun e=>absurd rfl e,fun _ hh=>hh⟩
 ·rintro o B' ⟨_,rfl,rfl⟩;refine⟨rfl,h1,h2,fun p x hx=>?_⟩
  rw[qE _ _ _ _ hfit]at hx;split at hx
  ·rename_i hp;obtain⟨y,hy,hr⟩:=hl.get _ _ hx;refine⟨y,hr,?_⟩;have qW:p-j<vx.cells.toList.length:=by omega
   have:=World.cell?_setCells_in (ρ r []).b vx.cells.toList ((ρ r []).off+(0*(ρ r []).m+j)) w (fun s hs=>by have:=hcell s (by omega);simpa[RI.at,Nat.add_assoc]using this) (p-j) qW
   rw[show(ρ r []).at p=⟨(ρ r []).b,(ρ r []).off+(0*(ρ r []).m+j)+(p-j),none⟩ by simp only[RI.at];congr 1;omega]
   rw[this];rw[<-List.getElem?_eq_getElem qW];exact hy
  ·rename_i hp;obtain⟨y,hy,hc⟩:=h4 p x hx;refine⟨y,hy,?_⟩;rw[World.cell?_setCells_out]
   ·exact hc
   ·intro _ _;simp only[RI.at];omega
theorem BW (hE:bE P Γ E) (h:Rel Γ M w0 ρ st vs a w) {t:TypeId} (hno:E.ty t≠ .other) {r i j:Nat} {π:Path} {l:List At} {vx:Value} (hr:r<st.rg.length) (hl:be (At.ok st.rg.length ρ) l vx.cells.toList) (hone:∀ z∈vx.cells.toList,z.oneCell'=true)
 (hlen:l.length=(E.ty t).cells) {K:St->Prop} (hK:BV cc st r π i j l K):
 ∃ (w':World) (an:St),(Instr.storeAt t (.pointer (some ((ρ r π).at (i*(ρ r π).m+j)))) vx).run P w= .ok () w'/\Rel Γ M w0 ρ an vs a w'/\K an:=by
 have E7:vx.cells.toList.length=l.length:=hl.length.symm;have hsz:=xg hE hno;have run:(∀ s,s<l.length->(w.cell? ((ρ r π).at (i*(ρ r π).m+j+s))).isSome=true)->(∀ o,w.frozen? ⟨(ρ r π).b,o,none⟩=false)->
  (Instr.storeAt t (.pointer (some ((ρ r π).at (i*(ρ r π).m+j)))) vx).run P w= .ok () (w.setCells (ρ r π).b ((ρ r π).off+(i*(ρ r π).m+j)) vx.cells.toList):=by
  intro hc hf;have hst:=run_storeCells_cells (P:=P) (ρ r π).b ((ρ r π).off+(i*(ρ r π).m+j)) vx.cells.toList 0 w
   (fun s hs=>by have:=hc s (by omega);simpa[RI.at,Nat.add_assoc]using this) (fun s _=>hf _) hone
  have hcs:vx.cells.size=(E.ty t).cells:=by
   have:vx.cells.toList.length=(E.ty t).cells:=by rw[E7,hlen]
   simpa using this
  simp only[Nat.add_zero]at hst;simp[Instr.storeAt,Instr.sureAddr,storeVar,cY hsz,hcs,RI.at,hst]
 unfold BV at hK;split at hK
 ·rename_i cells hg;split at hK
  ·rename_i hfit;rw[St.aks]at hK;have Vo:=bg hg (by simp)
   have hfit:=Nat.le_of_ble_eq_true hfit;have hB:(az.box true cells).has [] true (.box cells):=⟨rfl,rfl,rfl⟩;obtain⟨_,h1,h2,h4⟩:=h.rs.blk r _ [] true _ Vo hB;have hm:bY M w0 w (ρ r []):=h.rs.own r _ [] _ Vo hB h2;have hcell:∀ s,s<l.length->(w.cell? ((ρ r []).at (0*(ρ r []).m+j+s))).isSome=true:=fun s hs=>by
    obtain⟨y,_,hy⟩:=h4 (j+s) cells[j+s] (List.getElem?_eq_getElem (by omega))
    rw[show 0*(ρ r []).m+j+s=j+s by omega,hy];rfl
   refine⟨_,_,run hcell hm.fz,h.write Vo hB h2 ?_ ?_,hK⟩
   ·rintro σ o B' ⟨rfl,rfl,rfl⟩;exact⟨.box cells,hB,fun e=>absurd rfl e,fun _ hh=>hh⟩
   ·rintro o B' ⟨_,rfl,rfl⟩;refine⟨rfl,h1,h2,fun p x hx=>?_⟩
    rw[qE _ _ _ _ hfit]at hx;split at hx
    ·rename_i hp;obtain⟨y,hy,hr⟩:=hl.get _ _ hx;refine⟨y,hr,?_⟩;have qW:p-j<vx.cells.toList.length:=by omega
     have:=World.cell?_setCells_in (ρ r []).b vx.cells.toList ((ρ r []).off+(0*(ρ r []).m+j)) w (fun s hs=>by have:=hcell s (by omega);simpa[RI.at,Nat.add_assoc]using this) (p-j) qW
     rw[show(ρ r []).at p=⟨(ρ r []).b,(ρ r []).off+(0*(ρ r []).m+j)+(p-j),none⟩ by simp only[RI.at];congr 1;omega]
     rw[this];rw[<-List.getElem?_eq_getElem qW];exact hy
    ·rename_i hp;obtain⟨y,hy,hc⟩:=h4 p x hx;refine⟨y,hy,?_⟩;rw[World.cell?_setCells_out]
     ·exact hc
     ·intro _ _;simp only[RI.at];omega
  ·exact hK.elim
 ·split at hK
  ·rename_i g hnb q B aah hd;split at hK
   ·rename_i b hb;rw[aV,aH]at hK;obtain⟨⟨hq,hi,_⟩,hK⟩:=hK;simp only[aa.ae]at hi;obtain⟨te,tg,xs,o,akl,hg,hA,hB⟩:=az.Mv aah hd hq;have Vo:=bg hg (by simp)
    have O1:mH π o akl=true:=by
     rw[hg]at aah;cases π<;>exact aah
    rw[O1]at hB;rw[hg]at hB;have hL:B.aA w (ρ r) π:=h.rs.blk r _ π true (.arr B) Vo hB;have hv:(ρ r π).aC=false:=by
     cases hv:(ρ r π).aC with
     |false=>rfl
     |true=>rw[hL.aC hv]at hi;simp at hi
    have hm:bY M w0 w (ρ r π):=(h.rs.own r _ π _ Vo hB hv).1;obtain⟨ys,c1,c2⟩:=hL.cell i hi;obtain⟨u1,_,u3⟩:=nY hb hl c1;have R5:=bL c1;have hcell:∀ s,s<l.length->(w.cell? ((ρ r π).at (i*(ρ r π).m+j+s))).isSome=true:=fun s hs=>by
     have Sk:=u1 s hs;have:=c2 (j+s) ys[j+s] (List.getElem?_eq_getElem (by omega))
     rw[Nat.add_assoc,this];rfl
    unfold JZ at hK;rw[hg]at hK;simp only at hK;split at hK
    ·rename_i A' ND;split at hK
     ·rename_i oO bX xs' ht' Sc;split at hK;case h_2=>exact hK.elim
      rename_i jn;rw[St.ag1]at hK;obtain rfl:=Nat.eq_of_beq_eq_true jn;obtain rfl:=ht'.down;obtain⟨s1,s2,s3,s4⟩:=Ee hA ND rfl rfl (by simp)
      have I9:fu akl true=akl:=by cases akl<;>rfl
      rw[I9]at hK;refine⟨_,_,run hcell hm.fz,h.write Vo hB hv ?_ ?_,hK⟩
      ·rintro σ f B' ⟨hf,C',hC',rfl⟩;rcases s4 σ C' hC' with⟨τ,rfl⟩|⟨C,k1,k2⟩
       ·obtain⟨D,d1,d2⟩:=fe.1 hC';obtain rfl:=agK d1 s1;rcases de τ with rfl|⟨Qg,k,m,rfl⟩
        ·obtain rfl:C'=_:=d2;exact⟨.arr B,⟨hf,B,by simpa using hA,rfl⟩,fun e=>absurd (by simp) e,fun _ hh=>hh⟩
        ·obtain⟨D,e1,e2,e3⟩:=dH.1 d2;have QT:k<B.xs.length:=by simpa using e1
         have QU:ai.sub B.tg (B.get k) m=some D:=by
          rw[<-e2,ji hi];split
          ·rename_i e4;subst e4;exact(u3 m).symm
          ·rfl
         exact⟨.arr C',⟨hf,C',fe.2 ⟨B,hA,dH.2 ⟨D,QT,QU,e3⟩⟩,rfl⟩,fun _ _ hh=>hh,fun _ hh=>hh⟩
       ·obtain⟨ci,hsame⟩:=k2.tg;refine⟨.arr C,⟨hf,C,k1,rfl⟩,fun _ w' hh=>?_,fun w' hh=>?_⟩
        ·have hh:C.aA w' (ρ r) σ:=hh;exact⟨by rw[ci];exact hh.tg,by rw[ci];exact hh.m,fun hv=>by have:=hh.aC hv;exact List.eq_nil_of_length_eq_zero (by rw[k2.len,this];rfl),fun hv=>by rw[k2.len];exact hh.len hv,fun n hn=>by
          obtain⟨zs,z1,z2⟩:=hh.cell n (by rw[<-k2.len];exact hn)
          exact⟨zs,hsame _ _ _ _ (by rw[<-k2.len];exact hn) z1,z2⟩⟩
        ·exact⟨hh.1,by rw[k2.te];exact hh.2⟩
      ·rintro f B' ⟨hf,C',hC',rfl⟩;obtain rfl:=agK hC' s1;show Ar.aA _ (ρ r) π _;refine⟨hL.tg,hL.m,fun hh=>absurd hh (by rw[hv];simp),fun hh=>by simpa using hL.len hh,fun n hn=>?_⟩
       have hn':n<B.xs.length:=by simpa using hn
       by_cases e:n=i
       ·subst e;rw[ji hi,if_pos rfl];obtain⟨_,⟨ys',v1,v2⟩,_⟩:=nY hb hl c1;refine⟨ys',v1,fun s y hy=>?_⟩
        have hs:s<B.tg.length:=by rw[<-bL v1];exact(List.getElem?_eq_some_iff.1 hy).1
        rw[v2 s]at hy;split at hy
        ·rename_i hp;have qW:s-j<vx.cells.toList.length:=by omega
         have:=World.cell?_setCells_in (ρ r π).b vx.cells.toList ((ρ r π).off+(n*(ρ r π).m+j)) w (fun s hs=>by have:=hcell s (by omega);simpa[RI.at,Nat.add_assoc]using this) (s-j) qW
         rw[show(ρ r π).at (n*(ρ r π).m+s)=⟨(ρ r π).b,(ρ r π).off+(n*(ρ r π).m+j)+(s-j),none⟩ by simp only[RI.at];congr 1;omega]
         rw[this,<-List.getElem?_eq_getElem qW];exact hy
        ·rename_i hp;rw[World.cell?_setCells_out]
         ·exact c2 s y hy
         ·intro _ _;simp only[RI.at];omega
       ·rw[ji hi,if_neg e];obtain⟨zs,z1,z2⟩:=hL.cell n hn';refine⟨zs,z1,fun s y hy=>?_⟩
        have hs:s<B.tg.length:=by rw[<-bL z1];exact(List.getElem?_eq_some_iff.1 hy).1
        rw[World.cell?_setCells_out]
        ·exact z2 s y hy
        ·intro _ _;simp only[RI.at];rcases Nat.lt_or_gt_of_ne e with hlt|hgt
         ·have h1:(n+1)*(ρ r π).m<=i*(ρ r π).m:=Nat.mul_le_mul_right _ hlt;rw[Nat.add_mul]at h1;have:=hL.m;omega
         ·have h1:(i+1)*(ρ r π).m<=n*(ρ r π).m:=Nat.mul_le_mul_right _ hgt;rw[Nat.add_mul]at h1;have:=hL.m;by_cases hz:l.length=0
          ·omega
          ·have:=u1 (l.length-1) (by omega)
           omega
     ·exact hK.elim
    ·exact hK.elim
   ·exact hK.elim
  ·exact hK.elim
end
end Go.Sy
end
