/-
  Texts of the claims: Sya3z. No condition: lemmas and contracts.
-/
import Derived.Test.YtccnimhgjjnmoaaSya1z
import Derived.Test.YtccnimhgjjnmoaaSya2z
import Derived.Laws.MakeOwn
import Derived.Deep.AppendLies
import Derived.Lib.AppendZeros
import Derived.RangeFuncRecord
set_option linter.all false
set_option maxRecDepth 100000
set_option maxHeartbeats 40000000
section
namespace Go.Sy
open Go Go.RowKit
universe u
section
variable {cc:Bool} {P:Program} {Γ:bn} {E:Env} {M:Nat->Prop} {w0:World} {ρ:Keys} {st:St} {vs:Fv} {a:Act} {w:World}
theorem Av (m0:Nat):∀ (ys pre mid post:List Value) (k:Nat),pre.length=m0+k->mid.length=ys.length->
 (ys.zipIdx k).foldl (fun(cs:List Value) cj=>cs.set (m0+cj.2) cj.1) (pre++(mid++post))=pre++(ys++post)
 |[],pre,mid,post,k,_,hm=>by
  obtain rfl:=List.eq_nil_of_length_eq_zero hm;rfl
 |y::ys,pre,mid,post,k,hp,hm=>by
  match mid,hm with
  |x::mid,hm=>
   simp only[List.zipIdx_cons,List.foldl_cons];have e:(pre++(x::mid++post)).set (m0+k) y=(pre++[y])++(mid++post):=by
    rw[List.set_append_right _ _ (by omega),hp]
    simp
   rw[e,Av m0 ys (pre++[y]) mid post (k+1) (by simp;omega) (by simpa using hm)]
   simp
theorem I6 (off:Nat) (v:Value) (zs:List Value):v.cells.zipIdx.foldl (fun(cs:Array Value) (x:Value×Nat)=>cs.setIfInBounds (off+x.2) x.1) zs.toArray=(v.cells.toList.zipIdx.foldl (fun(cs:List Value) cj=>cs.set (off+cj.2) cj.1) zs).toArray:=by
 have gen:∀ (cs:List (Value×Nat)) (zs:List Value),cs.foldl (fun(cs:Array Value) (x:Value×Nat)=>cs.setIfInBounds (off+x.2) x.1) zs.toArray=
  (cs.foldl (fun cs cj=>cs.set (off+cj.2) cj.1) zs).toArray:=by
  intro cs;induction cs with
  |nil=>intro zs;rfl
  |cons c cs ih=>intro zs;simp only[List.foldl_cons,List.setIfInBounds_toArray];exact ih _
 have e2:v.cells.zipIdx=(v.cells.toList.zipIdx).toArray:=by
  rw[<-Array.toList_zipIdx]
 rw[e2];simp only[List.foldl_toArray'];exact gen _ _
theorem Ao (m:Nat):∀ (parts:List (Nat×Value)) (pos:Nat) (pre rest:List Value),parts.map Prod.fst=List.range' pos parts.length->(∀ p∈parts,p.2.cells.toList.length=m)->pre.length=pos*m->rest.length=parts.length*m->
 Instr.fill (fun i=>some (i*m,m)) (pre++rest).toArray parts=some (pre++parts.flatMap fun p=>p.2.cells.toList).toArray
 |[],pos,pre,rest,_,_,_,hr=>by
  obtain rfl:rest=[]:=List.eq_nil_of_length_eq_zero (by simpa using hr)
  simp[Instr.fill]
 |(i,v)::parts,pos,pre,rest,hi,hm,hp,hr=>by
  simp only[List.map_cons,List.length_cons,List.range'_succ,List.cons.injEq]at hi;obtain⟨rfl,hi⟩:=hi;have hv:v.cells.toList.length=m:=hm (i,v) (by simp)
  have j6:v.cells.size=m:=by simpa using hv
  simp only[List.length_cons,Nat.add_mul,Nat.one_mul]at hr;simp only[Instr.fill];rw[if_neg (by rw[j6];simp;omega)]
  rw[I6];have e:rest=rest.take m++rest.drop m:=(List.take_append_drop m rest).symm;have hf:=Av (i*m) v.cells.toList pre (rest.take m) (rest.drop m) 0 (by rw[hp,Nat.add_zero]) (by rw[hv,List.length_take];omega)
  rw[<-e]at hf;rw[hf,<-List.append_assoc];rw[Ao m parts (i+1) (pre++v.cells.toList) (rest.drop m) hi (fun p hp=>hm p (by simp[hp])) (by rw[List.length_append,hp,hv,Nat.add_mul,Nat.one_mul]) (by rw[List.length_drop];omega)]
  simp
theorem wW (hE:bE P Γ E) {t e:TypeId} {m:Nat} (ht:E.ty t= .sl e m) {tg:List CK} (hD:E.kd e=some tg) {n:Nat} {parts:Array (Nat×Value)}
 (hi:parts.toList.map Prod.fst=List.range' 0 n) (hm:∀ p∈parts.toList,p.2.cells.toList.length=tg.length) (hn:0<n) (hsz:n*tg.length<=16777216):
 (Instr.buildSlice t n parts).run P w= .ok (.slice (some ⟨w.heap.size,0,none⟩) n n) (w.alloc (.cells (parts.toList.flatMap fun p=>p.2.cells.toList).toArray e)):=by
 obtain⟨hu,_,_⟩:=hE.aav ht;obtain⟨hne,⟨i,z,h1,h2,h3,h4,_⟩⟩:=hE.kd e tg hD;have hpos:¬(n*tg.length=0):=by
  have:=Nat.mul_pos hn (List.length_pos_iff.2 hne);omega
 have hlen:parts.toList.length=n:=by
  have:=congrArg List.length hi;simpa using this
 have ac2:=Ao tg.length parts.toList 0 [] ((Array.range (n*tg.length)).map (fun k=>z.cells[k%z.cells.size]!)).toList (by rw[hlen];exact hi) hm (by simp) (by simp[hlen])
 simp only[List.nil_append,Array.toArray_toList]at ac2;simp only[Instr.buildSlice,run_underlying hu,Sem.run_bind,Result.andThen_ok];simp only[sizeOf,typeInfo,h1,Sem.run_bind,run_program,Result.andThen_ok,Sem.run_pure,h2];rw[if_neg (by omega),if_neg hpos]
 simp only[Sem.run_bind,Sem.run_pure,Result.andThen_ok,zeroValue,typeInfo,run_program,h1,h3,ac2];simp[newRow]
/-! ### A slice literal -/
theorem Aq (m:Nat):∀ (a8:List (List Value)),(∀ v∈a8,v.length=m)->∀ (i:Nat) ys,a8[i]?=some ys->∀ s,s<m->a8.flatten[i*m+s]?=ys[s]?
 |[],_,i,ys,h,_,_=>by simp at h
 |x::a8,hm,0,ys,h,s,hs=>by
  simp at h;subst h;rw[List.flatten_cons,Nat.zero_mul,Nat.zero_add,List.getElem?_append_left (by rw[hm x (by simp)];exact hs)]
 |x::a8,hm,i+1,ys,h,s,hs=>by
  have hx:=hm x (by simp)
  rw[List.flatten_cons,List.getElem?_append_right (by rw[hx,Nat.add_mul];omega),hx]
  rw[show(i+1)*m+s-m=i*m+s by rw[Nat.add_mul];omega]
  exact Aq m a8 (fun v hv=>hm v (by simp[hv])) i ys (by simpa using h) s hs
theorem bL {η:Path->RI} {π:Path} {i:Nat}:∀ {tg:List CK} {j:Nat} {x:ai tg} {ys:List Value},ai.aA η π i j tg x ys->ys.length=tg.length
 |[],_,_,_,h=>by have h':_=[]:=h;subst h';rfl
 |[_],_,_,_,h=>by obtain⟨y,rfl,_⟩:=h;rfl
 |c::c'::cs,_,_,_,h=>by obtain⟨y,ys',rfl,_,h3⟩:=h;simp[bL (tg:=c'::cs) h3]
theorem cA.Pd {N N':Nat} {rg:List az} (h:cA M w0 N ρ rg w) (hN:N<=N'):cA M w0 N' ρ rg w:=
 ⟨fun r g π o B h1 h2=>(h.blk r g π o B h1 h2).cX (fun _=>rfl) hN (fun _ _ _=>rfl) (fun _=>rfl),h.lt,h.own,h.dj⟩
theorem eL.rel (h:Rel Γ M w0 ρ st vs a w) {an:St} {ρ':Keys} (hl:eL st an) (hρ:∀ r,r<st.rg.length->ρ' r=ρ r) (hr:cA M w0 an.rg.length ρ' an.rg w):Rel Γ M w0 ρ' an vs a w where
 tm:=by rw[hl.tm,hl.len];exact h.tm.mono (Nat.le_refl _) fun r hr π=>by rw[hρ r hr]
 fr:=by rw[hl.fr,hl.len];exact h.fr.mono fun s v hs=>hs.mono (Nat.le_refl _) fun r hr π=>by rw[hρ r hr]
 df:=h.df
 rs:=hr
 bl:=h.bl
 gl:=h.gl
 gn:=h.gn
theorem Jm (hE:bE P Γ E) (h:Rel Γ M w0 ρ st vs a w) {t e:TypeId} {m n:Nat} (ht:E.ty t= .sl e m) {tg:List CK} (hD:E.kd e=some tg) (hne:bZ CK.ne tg=true) {parts:Array (Nat×Operand)} {K:St->List (ai tg)->Bool->Prop}
 (hK:Fi cc tg 0 parts.toList st K) (hn:0<n) (hsz:n*tg.length<=16777216) (Rc:∀ st xs b,K st xs b->fg xs n=true):
 ∃ (an:St) (xs:List (ai tg)) (b:Bool) (ρ':Keys),K an xs b/\(Instr.buildSlice t n (parts.map fun(i,x)=>(i,a.eval x))).run P w= .ok (.slice (some ⟨w.heap.size,0,none⟩) n n) (w.alloc (.cells ((parts.toList.flatMap fun p=>(a.eval p.2).cells.toList)).toArray e))/\
  Rel Γ M w0 ρ' (an.push [.arr e tg xs true b]) vs a (w.alloc (.cells ((parts.toList.flatMap fun p=>(a.eval p.2).cells.toList)).toArray e))/\(∀ r,r<st.rg.length->ρ' r=ρ r)/\an.rg.length=st.rg.length/\
  (At.sl st.rg.length [] 0 n).ok (st.rg.length+1) ρ' (.slice (some ⟨w.heap.size,0,none⟩) n n):=by
 obtain⟨ci,_⟩:=hE.kd e tg hD;have aBD:dS M w0 w ρ st []:=⟨by simpa using h.rs⟩
 obtain⟨an,xs,b,items,aCb,cfg,ix,k1,k2,k3,k4,k5,k6⟩:=vu (a:=a) hne aBD (fun o x hx=>ax h hx) hK
 have NG:=dK (Rc _ _ _ k1);rw[NG]at k6;simp only[List.length_nil,Nat.add_zero,List.nil_append]at k3 k4 k5;have hvl:∀ v∈(parts.toList.map fun p=>(a.eval p.2).cells.toList),v.length=tg.length:=by
  intro v hv;obtain⟨i,hi⟩:=List.getElem?_of_mem hv;have hlt:i<xs.length:=by rw[<-k5.len];exact(List.getElem?_eq_some_iff.1 hi).1
  obtain⟨ys,h1,h2⟩:=k5.aA (gl iC cfg) [] (fun i j=>by rw[Nat.zero_add];exact fJ (σ:=[])) i hlt
  obtain rfl:=Option.some.inj (h1.symm.trans hi);exact bL h2
 have PL:(parts.toList.flatMap fun p=>(a.eval p.2).cells.toList)=(parts.toList.map fun p=>(a.eval p.2).cells.toList).flatten:=by rw[List.flatMap_def]
 have hrun:=wW (P:=P) (w:=w) (parts:=parts.map fun(i,x)=>(i,a.eval x)) hE ht hD (n:=n) (by simpa[Function.comp_def]using k6) (by
  intro p hp;simp only[Array.toList_map,List.mem_map]at hp;obtain⟨q,hq,rfl⟩:=hp;exact hvl _ (List.mem_map.2 ⟨q,hq,rfl⟩)) hn hsz
 have Nf:((parts.map fun(i,x)=>(i,a.eval x)).toList.flatMap fun p=>p.2.cells.toList)=parts.toList.flatMap fun p=>(a.eval p.2).cells.toList:=by
  simp[List.flatMap_map]
 rw[Nf]at hrun;have O2:(parts.toList.flatMap fun p=>(a.eval p.2).cells.toList).length=n*tg.length:=by
  rw[PL];have gen:∀ (l:List (List Value)),(∀ v∈l,v.length=tg.length)->l.flatten.length=l.length*tg.length:=by
   intro l;induction l with
   |nil=>intro _;simp
   |cons x l ih=>intro hl;rw[List.flatten_cons,List.length_append,hl x (by simp),ih fun v hv=>hl v (by simp[hv])];simp only[List.length_cons];rw[Nat.add_mul];omega
  rw[gen _ hvl,k5.len,NG]
 have hinst:=dS.Lt (w':=w.alloc (.cells ((parts.toList.flatMap fun p=>(a.eval p.2).cells.toList)).toArray e)) (held:=[]) (items:=items) (te:=e) (b:=b) (I:=⟨w.heap.size,0,tg.length,n,false⟩) ci (by simpa using k3) k2.len (by simpa using k5) (agB _) rfl rfl (by rw[NG];exact Nat.le_refl _) (Nat.le_refl _) (by simp) ⟨.inr h.bl.size,fun j=>by simp⟩
  ⟨by
    show n<=maxLen;have:n<=n*tg.length:=Nat.le_mul_of_pos_right _ (List.length_pos_iff.2 ci);exact Nat.le_trans (Nat.le_trans this hsz) (Nat.le_of_ble_eq_true rfl),_,(by show(w.heap.push _)[w.heap.size]?=_;simp;rfl),by simp only[List.size_toArray,O2];omega⟩
  (fun i hi ys hys s y hy=>by
    simp only[RI.at,Nat.zero_add];rw[gh,PL];have hs:s<tg.length:=by
     have:=hvl ys (List.mem_of_getElem? hys);rw[<-this];exact(List.getElem?_eq_some_iff.1 hy).1
    rw[Aq tg.length _ hvl i ys hys s hs];exact hy)
 simp only[List.append_nil,List.length_nil,Nat.add_zero]at hinst;refine⟨an,xs,b,aE aCb st.rg.length (gl ⟨w.heap.size,0,tg.length,n,false⟩ cfg),k1,hrun,?_,fun r hr=>by rw[bB hr];exact k4 r hr,k2.len,?_⟩
 ·have cC:Rel Γ M w0 aCb an vs a w:=eL.rel h k2 k4 (by rw[k2.len];have:=k3.rs;rw[k2.len]at this;exact this.front)
  refine cC.grow (agB _) (fun r hr π=>by rw[bB (by rw[<-k2.len];exact hr)]) ?_
  rw[k2.len];exact hinst.Pd (Nat.le_succ _)
 ·refine⟨by omega,?_⟩
  rw[aF,aac];refine⟨fun hv=>(by cases hv),fun _=>⟨Nat.le_of_eq (Nat.zero_add n),some ⟨w.heap.size,0,none⟩,?_,fun _=>?_⟩⟩
  ·rfl
  ·show _=some (RI.at _ (0*tg.length));simp[RI.at]
/-! ### make -/
def rO:List CK->Nat->Nat
 | .sl _ tg::_,0=>tg.length
 |_::cs,j+1=>rO cs j
 |_,_=>0
theorem sub_zero:∀ {tg:List CK} {j:Nat} {B:Ar},bZ CK.ne tg=true->ai.sub tg (ai.d tg) j=some B->B.xs=[]/\B.tg≠[]/\B.tg.length=rO tg j:=by
 have one:∀ (c:CK) {B:Ar} {cs:List CK},CK.ne c=true->c.sub c.d=some B->B.xs=[]/\B.tg≠[]/\B.tg.length=rO (c::cs) 0:=by
  intro c B cs hc hB;cases c with
  |sl e tg=>
   obtain rfl:=Option.some.inj hB;refine⟨rfl,fun h=>?_,rfl⟩
   have h:tg=[]:=h;subst h;cases hc
  |_=>cases hB
 intro tg;induction tg with
 |nil=>intro j B _ h;cases h
 |cons c cs ih=>
  intro j B hne h;simp only[bZ]at hne;split at hne
  ·rename_i hc;cases cs with
   |nil=>cases j with
    |zero=>exact one c hc h
    |succ j=>cases h
   |cons c' cs=>
    cases j with
    |zero=>exact one c hc h
    |succ j=>
     have:=ih hne h;refine⟨this.1,this.2.1,?_⟩;rw[this.2.2];cases c<;>rfl
  ·cases hne
theorem HG {η:Path->RI} {π:Path} {i:Nat}:∀ {tg:List CK} {j:Nat},(∀ j,(η ((i,j)::π)).aC=true)->ai.aA η π i j tg (ai.d tg) (ai.zero tg):=by
 have one:∀ (c:CK) (j:Nat),(∀ j,(η ((i,j)::π)).aC=true)->c.aA η π i j c.d (match c with| .int k=> .int k 0| .bool=> .bool false| .str=> .string ByteArray.empty| .sl _ _=> .slice none 0 0):=by
  intro c j hv;cases c with
  |sl e tg=>exact⟨fun _=>⟨rfl,none,rfl⟩,fun hh=>by rw[hv j]at hh;cases hh⟩
  |_=>rfl
 intro tg;induction tg with
 |nil=>intro j _;rfl
 |cons c cs ih=>
  intro j hv;cases cs with
  |nil=>exact⟨_,rfl,one c j hv⟩
  |cons c' cs=>exact⟨_,_,rfl,one c j hv,ih hv⟩
theorem aay:∀ (tg:List CK),(ai.zero tg).length=tg.length
 |[]=>rfl
 |c::cs=>by simp[ai.zero,aay cs]
theorem kq {te:TypeId} {tg:List CK} {n:Nat} (hne:bZ CK.ne tg=true):∀ {π:Path} {B:Ar},Ar.has ⟨te,tg,List.replicate n (ai.d tg)⟩ π B->(π=[]/\B=⟨te,tg,List.replicate n (ai.d tg)⟩)\/(∃ i j,π=[(i,j)]/\B.xs=[]/\B.tg≠[]/\B.tg.length=rO tg j)
 |[],B,h=> .inl ⟨rfl,h⟩
 |(i,j)::π,B,h=>by
  obtain⟨C,h1,h2,h3⟩:=h;rcases kq hne h1 with⟨rfl,rfl⟩|⟨i',j',_,hx,_⟩
  ·refine .inr ⟨i,j,rfl,?_⟩;have e:Ar.get ⟨te,tg,List.replicate n (ai.d tg)⟩ i=ai.d tg:=by
    simp only[Ar.get,List.getD_eq_getElem?_getD];simp only[List.length_replicate]at h2;simp[h2]
   rw[e]at h3;exact sub_zero hne h3
  ·rw[hx]at h2;simp at h2
theorem BI (h:Rel Γ M w0 ρ st vs a w) {te:TypeId} {tg:List CK} (ci:tg≠[]) (hne:bZ CK.ne tg=true) {n:Nat} (hn:n<=maxLen) {cs:List Value} (hl:cs.length=n*tg.length) (hc:∀ i,i<n->∀ s,s<tg.length->cs[i*tg.length+s]?=(ai.zero tg)[s]?):
 Rel Γ M w0 (aE ρ st.rg.length (gl ⟨w.heap.size,0,tg.length,n,false⟩ fun _ j _=>{iC with m:=rO tg j})) (st.push [.arr te tg (List.replicate n (ai.d tg)) true true]) vs a (w.alloc (.cells cs.toArray te)):=by
 refine h.grow (agB _) (fun r hr π=>by rw[bB hr]) (h.rs.fresh (agB _) ?_ ?_ ?_ ?_)
 ·rintro π o B ⟨_,A,hA,rfl⟩;show A.aA _ (aE ρ st.rg.length _ st.rg.length) π;rw[aF];rcases kq hne hA with⟨rfl,rfl⟩|⟨i,j,rfl,h1,h2,h3⟩
  ·refine⟨ci,rfl,fun hv=>(by cases hv),fun _=>(by simp[aac]),fun i hi=>?_⟩
   simp only[List.length_replicate]at hi;refine⟨ai.zero tg,?_,fun s y hy=>?_⟩
   ·have e:Ar.get ⟨te,tg,List.replicate n (ai.d tg)⟩ i=ai.d tg:=by
     simp only[Ar.get,List.getD_eq_getElem?_getD];simp[hi]
    rw[e];exact HG fun j=>rfl
   ·have hs:s<tg.length:=by rw[<-aay tg];exact(List.getElem?_eq_some_iff.1 hy).1
    simp only[aac,RI.at,Nat.zero_add];rw[gh,hc i hi s hs];exact hy
  ·refine⟨h2,h3.symm,fun _=>h1,fun hv=>(by cases hv),fun k hk=>?_⟩
   rw[h1]at hk;simp at hk
 ·rintro π o B ⟨_,A,hA,rfl⟩ hv;rcases kq hne hA with⟨rfl,rfl⟩|⟨i,j,rfl,h1,h2,h3⟩
  ·exact⟨Nat.le_refl _,by simp[aac]⟩
  ·cases hv
 ·rintro π B ⟨_,A,hA,rfl⟩ hv;rcases kq hne hA with⟨rfl,rfl⟩|⟨i,j,rfl,h1,h2,h3⟩
  ·exact⟨⟨.inr h.bl.size,fun j=>by simp[aac]⟩,hn,_,(by show(w.heap.push _)[w.heap.size]?=_;simp;rfl),by simp[aac,hl]⟩
  ·cases hv
 ·rintro π aW o o' B B' ⟨_,A,hA,rfl⟩ ⟨_,A',nu,rfl⟩ hv j6;rcases kq hne hA with⟨rfl,rfl⟩|⟨i,j,rfl,h1,h2,h3⟩
  ·rcases kq hne nu with⟨rfl,rfl⟩|⟨i,j,rfl,h1,h2,h3⟩
   ·rfl
   ·cases j6
  ·cases hv
end
end Go.Sy
end
section
namespace Go.Sy
open Go Go.RowKit
universe u
/-! ### Contents turned -/
theorem agK {A:Ar}:∀ {π:Path} {B C:Ar},A.has π B->A.has π C->B=C
 |[],B,C,h,h'=>Eq.trans (show B=A from h) (show C=A from h').symm
 |(i,j)::π,B,C,h,h'=>by
  obtain⟨D,h1,_,h2⟩:=h;obtain⟨D',aIe,_,G6⟩:=h';obtain rfl:=agK h1 aIe;exact Option.some.inj (h2.symm.trans G6)
theorem G9 {A:Ar}:∀ {π:Path} {B:Ar},A.has π B->∃ q,A.dn π=some (q,B)/\bW q
 |[],B,h=>⟨[],by have h:B=A:=h;rw[h];rfl,trivial⟩
 |(i,j)::π,C,h=>by
  obtain⟨B,h1,h2,h3⟩:=h;obtain⟨q,h4,h5⟩:=G9 h1;exact⟨q++[(aa.of (i<B.xs.length))],by simp only[Ar.dn,h4,h3],(aH _ _).2 ⟨h5,h2,trivial⟩⟩
theorem fe {A:Ar} {π:Path}:∀ {τ:Path} {C:Ar},A.has (τ++π) C<->∃ B,A.has π B/\B.has τ C
 |[],C=>⟨fun h=>⟨C,h,rfl⟩,fun⟨B,h1,h2⟩=>by have h2:C=B:=h2;rw[h2];exact h1⟩
 |(k,l)::τ,C=>by
  constructor
  ·rintro⟨D,h1,h2,h3⟩;obtain⟨B,b1,b2⟩:=fe.1 h1;exact⟨B,b1,D,b2,h2,h3⟩
  ·rintro⟨B,b1,D,b2,h2,h3⟩;exact⟨D,fe.2 ⟨B,b1,b2⟩,h2,h3⟩
structure Same (C C':Ar):Prop where
 te:C'.te=C.te
 len:C'.xs.length=C.xs.length
 tg:∃ h:C'.tg=C.tg,∀ (η:Path->RI) (π:Path) (i:Nat) ys,i<C.xs.length->ai.aA η π i 0 C.tg (C.get i) ys->ai.aA η π i 0 C'.tg (C'.get i) ys
theorem Same.refl (C:Ar):Same C C:=⟨rfl,rfl,rfl,fun _ _ _ _ _ h=>h⟩
theorem jT {c:CK} {C:Ar} {y:c.ty} (h:c.cP C=some y):c.sub y=some C:=by
 cases c with
 |sl e tg=>
  simp only[CK.cP]at h;split at h
  ·rename_i h1 h2 _ _;obtain⟨te,bX,xs⟩:=C;obtain rfl:=h1.down;obtain rfl:=h2.down;obtain rfl:=Option.some.inj h;rfl
  ·cases h
 |_=>cases h
theorem tu:∀ {tg:List CK} {x a:ai tg} {j:Nat} {C:Ar},ai.cP tg x j C=some a->ai.sub tg a j=some C:=by
 intro tg;induction tg with
 |nil=>intro x a j C h;cases h
 |cons c cs ih=>
  intro x a j C h;cases cs with
  |nil=>cases j with
   |zero=>exact jT h
   |succ j=>cases h
  |cons c' cs=>cases j with
   |zero=>
    simp only[ai.cP]at h;split at h
    ·rename_i y hy;obtain rfl:=Option.some.inj h;exact jT hy
    ·cases h
   |succ j=>
    simp only[ai.cP]at h;split at h
    ·rename_i y hy;obtain rfl:=Option.some.inj h;exact ih hy
    ·cases h
theorem rK:∀ {tg:List CK} {x a:ai tg} {j:Nat} {C:Ar},ai.cP tg x j C=some a->∀ j',j'≠j->ai.sub tg a j'=ai.sub tg x j':=by
 intro tg;induction tg with
 |nil=>intro x a j C h;cases h
 |cons c cs ih=>
  intro x a j C h j' hne;cases cs with
  |nil=>cases j with
   |zero=>cases j' with
    |zero=>exact absurd rfl hne
    |succ j'=>rfl
   |succ j=>cases h
  |cons c' cs=>cases j with
   |zero=>
    simp only[ai.cP]at h;split at h
    ·rename_i y hy;obtain rfl:=Option.some.inj h;cases j' with
     |zero=>exact absurd rfl hne
     |succ j'=>rfl
    ·cases h
   |succ j=>
    simp only[ai.cP]at h;split at h
    ·rename_i y hy;obtain rfl:=Option.some.inj h;cases j' with
     |zero=>rfl
     |succ j'=>exact ih hy j' (fun e=>hne (by rw[e]))
    ·cases h
theorem CW {η:Path->RI} {π:Path} {i:Nat}:∀ {tg:List CK} {x a:ai tg} {j j0:Nat} {C:Ar} {ys:List Value},ai.cP tg x j C=some a->(∃ B,ai.sub tg x j=some B/\C.xs.length=B.xs.length)->ai.aA η π i j0 tg x ys->ai.aA η π i j0 tg a ys:=by
 have one:∀ {c:CK} {x y:c.ty} {j:Nat} {C:Ar} {v:Value},c.cP C=some y->(∃ B,c.sub x=some B/\C.xs.length=B.xs.length)->c.aA η π i j x v->c.aA η π i j y v:=by
  intro c x y j C v h hB hv;cases c with
  |sl e tg=>
   obtain⟨B,hB,hlen⟩:=hB;have:=jT h;obtain rfl:=Option.some.inj hB;obtain rfl:=Option.some.inj this;show RI.head _ 0 _ v;have hv:RI.head (η ((i,j)::π)) 0 _ v:=hv;rw[show List.length _=_ from hlen];exact hv
  |_=>cases h
 intro tg;induction tg with
 |nil=>intro x a j j0 C ys h;cases h
 |cons c cs ih=>
  intro x a j j0 C ys h hB hl;cases cs with
  |nil=>cases j with
   |zero=>obtain⟨y,h1,h2⟩:=hl;exact⟨y,h1,one h hB h2⟩
   |succ j=>cases h
  |cons c' cs=>cases j with
   |zero=>
    simp only[ai.cP]at h;split at h
    ·rename_i y hy;obtain rfl:=Option.some.inj h;obtain⟨v,ys',h1,h2,h3⟩:=hl;exact⟨v,ys',h1,one hy hB h2,h3⟩
    ·cases h
   |succ j=>
    simp only[ai.cP]at h;split at h
    ·rename_i y hy;obtain rfl:=Option.some.inj h;obtain⟨v,ys',h1,h2,h3⟩:=hl;exact⟨v,ys',h1,h2,ih hy hB h3⟩
    ·cases h
theorem ji {te:TypeId} {tg:List CK} {xs:List (ai tg)} {i k:Nat} {a:ai tg} (hi:i<xs.length):Ar.get ⟨te,tg,xs.set i a⟩ k=if k=i then a else Ar.get ⟨te,tg,xs⟩ k:=by
 simp only[Ar.get,List.getD_eq_getElem?_getD];by_cases h:k=i
 ·subst h;rw[List.getElem?_set_self hi,if_pos rfl];rfl
 ·rw[List.getElem?_set_ne (Ne.symm h),if_neg h]
theorem Ee {A:Ar}:∀ {π:Path} {B B' A':Ar},A.has π B->A.up π B'=some A'->B'.te=B.te->B'.tg=B.tg->B'.xs.length=B.xs.length->
 A'.has π B'/\A'.te=A.te/\A'.tg=A.tg/\∀ σ C',A'.has σ C'->(∃ τ,σ=τ++π)\/∃ C,A.has σ C/\Same C C'
 |[],B,B',A',hB,hu,h1,h2,h3=>by
  obtain rfl:B=A:=hB;simp only[Ar.up]at hu;split at hu
  ·rename_i e1 e2 _ _;obtain⟨te,tg,xs⟩:=B';obtain⟨dO,iU,Oy⟩:=B;obtain rfl:=e1.down;obtain rfl:=e2.down;obtain rfl:=Option.some.inj hu;exact⟨rfl,rfl,rfl,fun σ C' _=> .inl ⟨σ,by simp⟩⟩
  ·cases hu
 |(i,j)::π,B,B',A',hB,hu,h1,h2,h3=>by
  obtain⟨B0,b1,b2,b3⟩:=hB;obtain⟨q,hd,_⟩:=G9 b1;simp only[Ar.up,hd]at hu;split at hu
  ·rename_i a ha;obtain⟨u1,u2,u3,u4⟩:=Ee b1 hu rfl rfl (by simp)
   have ga:Ar.get ⟨B0.te,B0.tg,B0.xs.set i a⟩ i=a:=by rw[ji b2,if_pos rfl]
   refine⟨⟨_,u1,by simpa using b2,by rw[ga];exact tu ha⟩,u2,u3,fun σ C' hC=>?_⟩
   rcases u4 σ C' hC with⟨τ,rfl⟩|⟨C,c1,c2⟩
   ·obtain⟨D,d1,d2⟩:=fe.1 hC;obtain rfl:=agK d1 u1;rcases de τ with rfl|⟨Qg,k,l,rfl⟩
    ·obtain rfl:C'=_:=d2;refine .inr ⟨B0,by simpa using b1,rfl,by simp,rfl,fun η aW k ys hk hl=>?_⟩
     rw[ji b2];split
     ·rename_i e;subst e;exact CW ha ⟨B,b3,h3⟩ hl
     ·exact hl
    ·by_cases e:(k,l)=(i,j)
     ·obtain⟨rfl,rfl⟩:=Prod.mk.inj e;exact .inl ⟨Qg,by simp⟩
     ·refine .inr ⟨C',?_,Same.refl _⟩;obtain⟨D,e1,e2,e3⟩:=dH.1 d2;refine fe.2 ⟨B0,b1,dH.2 ⟨D,by simpa using e1,?_,e3⟩⟩
      rw[<-e2,ji b2];split
      ·rename_i e4;subst e4;exact(rK ha l (fun e5=>e (by rw[e5]))).symm
      ·rfl
   ·exact .inr ⟨C,c1,c2⟩
  ·cases hu
end Go.Sy
end
section
namespace Go.Sy
open Go Go.RowKit
universe u
section
variable {P:Program} {Γ:bn} {E:Env} {M:Nat->Prop} {w0:World} {ρ:Keys} {st:St} {vs:Fv} {a:Act} {w:World}
theorem DY {c:CK} {v:Value} {y:c.ty} (h:c.of v=some y) (η:Path->RI) (π:Path) (i j:Nat):c.aA η π i j y v:=by
 cases c with
 |int k=>
  cases v<;>simp only[CK.of]at h<;>try(cases h;done)
  split at h
  ·rename_i hk;obtain rfl:=akr hk;obtain rfl:=Option.some.inj h;exact rfl
  ·cases h
 |bool=>cases v<;>simp only[CK.of]at h<;>try(cases h;done)
        obtain rfl:=Option.some.inj h;exact rfl
 |str=>cases v<;>simp only[CK.of]at h<;>try(cases h;done)
       obtain rfl:=Option.some.inj h;exact rfl
 |sl e tg=>simp only[CK.of]at h;cases h
theorem vC {c:CK} {v:Value} {y:c.ty} (h:c.of v=some y) (x:c.ty):c.sub y=none/\c.sub x=none:=by
 cases c with
 |sl e tg=>simp only[CK.of]at h;cases h
 |_=>exact⟨rfl,rfl⟩
theorem JO {η:Path->RI} {π:Path} {i:Nat} {v:Value}:∀ {tg:List CK} {x b:ai tg} {j j0:Nat} {ys:List Value},ai.yz tg x j v=some b->ai.aA η π i j0 tg x ys->j<tg.length/\ai.aA η π i j0 tg b (ys.set j v)/\∀ j',ai.sub tg b j'=ai.sub tg x j':=by
 intro tg;induction tg with
 |nil=>intro x b j j0 ys h;cases h
 |cons c cs ih=>
  intro x b j j0 ys h hl;cases cs with
  |nil=>cases j with
   |zero=>
    obtain⟨y,rfl,h2⟩:=hl;refine⟨Nat.zero_lt_one,⟨v,rfl,DY h _ _ _ _⟩,fun j'=>?_⟩
    cases j' with
    |zero=>exact(vC h x).1.trans (vC h x).2.symm
    |succ j'=>rfl
   |succ j=>cases h
  |cons c' cs=>cases j with
   |zero=>
    simp only[ai.yz]at h;split at h
    ·rename_i y hy;obtain rfl:=Option.some.inj h;obtain⟨u,ys',rfl,h2,h3⟩:=hl;refine⟨Nat.succ_pos _,⟨v,ys',rfl,DY hy _ _ _ _,h3⟩,fun j'=>?_⟩
     cases j' with
     |zero=>exact(vC hy x.1).1.trans (vC hy x.1).2.symm
     |succ j'=>rfl
    ·cases h
   |succ j=>
    simp only[ai.yz]at h;split at h
    ·rename_i y hy;obtain rfl:=Option.some.inj h;obtain⟨u,ys',rfl,h2,h3⟩:=hl;obtain⟨k1,k2,k3⟩:=ih hy h3;refine⟨Nat.succ_lt_succ k1,⟨u,ys'.set j v,rfl,h2,k2⟩,fun j'=>?_⟩
     cases j' with
     |zero=>rfl
     |succ j'=>exact k3 j'
    ·cases h
theorem nY {N:Nat} {η:Path->RI} {π:Path} {i:Nat} {tg:List CK}:∀ {l:List At} {us:List Value} {x b:ai tg} {j:Nat} {ys:List Value},lH tg x j l=some b->be (At.ok N ρ) l us->ai.aA η π i 0 tg x ys->
 (∀ s,s<l.length->j+s<tg.length)/\(∃ ys',ai.aA η π i 0 tg b ys'/\∀ s,ys'[s]?=if j<=s/\s<j+l.length then us[s-j]? else ys[s]?)/\∀ j',ai.sub tg b j'=ai.sub tg x j'
 |[],[],x,b,j,ys,h,_,hl=>by
  simp only[lH,Option.some.injEq]at h;subst h;exact⟨by simp,⟨ys,hl,fun s=>by rw[if_neg (by simp)]⟩,fun _=>rfl⟩
 |t::l,u::us,x,b,j,ys,h,ho,hl=>by
  have main:∀ v,u=v->(match ai.yz tg x j v with|some a'=>lH tg a' (j+1) l|none=>none)=some b->
   (∀ s,s<(t::l).length->j+s<tg.length)/\(∃ ys',ai.aA η π i 0 tg b ys'/\∀ s,ys'[s]?=if j<=s/\s<j+(t::l).length then(u::us)[s-j]? else ys[s]?)/\∀ j',ai.sub tg b j'=ai.sub tg x j':=by
   rintro v rfl h;split at h
   ·rename_i b1 hb;obtain⟨k1,k2,k3⟩:=JO hb hl;obtain⟨m1,⟨ys',m2,m3⟩,m4⟩:=nY h ho.2 k2;have hlen:=bL hl;refine⟨fun s hs=>?_,⟨ys',m2,fun s=>?_⟩,fun j'=>(m4 j').trans (k3 j')⟩
    ·cases s with
     |zero=>exact k1
     |succ s=>have:=m1 s (by simpa using hs);omega
    ·rw[m3 s];simp only[List.length_cons];by_cases e1:s=j
     ·subst e1;rw[if_neg (by omega),if_pos (by omega),List.getElem?_set_self (by omega),Nat.sub_self];rfl
     ·by_cases e2:j+1<=s/\s<j+1+l.length
      ·rw[if_pos e2,if_pos (by omega),show s-j=(s-(j+1))+1 by omega];rfl
      ·rw[if_neg e2,if_neg (by omega),List.getElem?_set_ne (by omega)]
   ·cases h
  cases t<;>simp only[lH]at h<;>try(cases h;done)
  ·exact main _ ho.1.1 h
  ·exact main _ ho.1 h
  ·exact main _ ho.1 h
theorem gj (b:Nat):∀ (vs:List Value) (o:Nat) (w:World) (k:Nat),k≠b->(w.setCells b o vs).heap[k]?=w.heap[k]?
 |[],_,_,_,_=>rfl
 |v::vs,o,w,k,hk=>by rw[World.setCells,gj b vs _ _ k hk,Below.heap_setCell _ _ _ _ hk]
theorem dA (b:Nat):∀ (vs:List Value) (o:Nat) (w:World),(w.setCells b o vs).heap.size=w.heap.size
 |[],_,_=>rfl
 |v::vs,o,w=>by rw[World.setCells,dA b vs,World.size_setCell]
theorem Frame.setCell {w1:World} (h:Frame M w0 w1) {p:Addr} (hp:M p.block\/w0.heap.size<=p.block) (v:Value):Frame M w0 (w1.setCell p v):=
 ⟨h.os,h.tape,h.output,by rw[World.size_setCell];exact h.size,fun k hk hm=>by
   rw[Below.heap_setCell _ _ _ _ (by rcases hp with hp|hp;· (intro e;subst e;exact hm hp)
                                     ·omega)]
   exact h.block k hk hm⟩
theorem fI {b:Nat} (hb:M b\/w0.heap.size<=b):∀ (vs:List Value) (o:Nat) {w1:World},Frame M w0 w1->Frame M w0 (w1.setCells b o vs)
 |[],_,_,h=>h
 |v::vs,o,w1,h=>by rw[World.setCells];exact fI hb vs _ (h.setCell (p:=⟨b,o,none⟩) hb v)
theorem aB8 {I:RI} {te:TypeId}:∀ (vs:List Value) (o:Nat) {w:World},Whole w I te->Whole (w.setCells I.b o vs) I te:=by
 intro vs;induction vs with
 |nil=>exact fun o w h=>h
 |cons v vs ih=>
  intro o w hw;rw[World.setCells];refine ih _ ?_;obtain⟨h1,cur,h4,h5⟩:=hw;refine⟨h1,cur.setIfInBounds o v,?_,by simpa using h5⟩
  have hlt:=(Array.getElem?_eq_some_iff.1 h4).1;have hv:=(Array.getElem?_eq_some_iff.1 h4).2;show(w.heap.modify I.b _)[I.b]?=_;rw[Array.getElem?_eq_getElem (by rw[Array.size_modify];exact hlt),Array.getElem_modify_self,hv]
  rfl
theorem Rel.write (h:Rel Γ M w0 ρ st vs a w) {r:Nat} {g g':az} {π:Path} {B0:aD0} (hr:st.rg[r]?=some g) (hB:g.has π true B0) (hv:(ρ r π).aC=false) {base:Nat} {us:List Value}
 (hkeys:∀ σ o B',g'.has σ o B'->∃ B,g.has σ o B/\(σ≠π->∀ w',B.aA st.rg.length ρ r σ w'->B'.aA st.rg.length ρ r σ w')/\(∀ w',B.mine M w0 w' (ρ r σ)->B'.mine M w0 w' (ρ r σ)))
 (hown:∀ o B',g'.has π o B'->B'.aA st.rg.length ρ r π (w.setCells (ρ r π).b base us)):
 Rel Γ M w0 ρ (st.aBZ r g') vs a (w.setCells (ρ r π).b base us):=by
 have hm:=h.rs.own r g π B0 hr hB hv;have aah:bY M w0 w (ρ r π):=by cases B0 with|box=>exact hm|map=>exact hm|bH=>exact hm|it=>exact hm|lp=>exact hm|arr A=>exact hm.1
 have hlen:(st.aBZ r g').rg.length=st.rg.length:=by simp[St.aBZ]
 have heap:∀ k,k≠(ρ r π).b->(w.setCells (ρ r π).b base us).heap[k]?=w.heap[k]?:=fun k hk=>gj _ us base w k hk
 have other:∀ (r1:Nat) (g1:az) σ o B,st.rg[r1]?=some g1->g1.has σ o B->¬(r=r1/\π=σ)->(ρ r1 σ).aC=false->(w.setCells (ρ r π).b base us).heap[(ρ r1 σ).b]?=w.heap[(ρ r1 σ).b]?:=
  fun r1 g1 σ o B h1 h2 hne Vp=>heap _ (fun e=>h.rs.dj r r1 g g1 π σ o B0 B hr h1 hB h2 hv Vp hne e.symm)
 have mine:∀ (r1:Nat) (g1:az) σ B,st.rg[r1]?=some g1->g1.has σ true B->(ρ r1 σ).aC=false->B.mine M w0 (w.setCells (ρ r π).b base us) (ρ r1 σ):=by
  intro r1 g1 σ B h1 h2 Vp;have hb:=h.rs.own r1 g1 σ B h1 h2 Vp;by_cases e:r=r1/\π=σ
  ·obtain⟨rfl,rfl⟩:=e;have f:bY M w0 (w.setCells (ρ r π).b base us) (ρ r π):=⟨aah.own,fun j=>by rw[World.frozen?_setCells];exact aah.fz j⟩
   cases B with
   |box=>exact f
   |map=>exact f
   |bH=>exact f
   |it=>exact f
   |lp=>exact f
   |arr A=>exact⟨f,aB8 _ _ hb.2⟩
  ·exact hb.cX (other r1 g1 σ true B h1 h2 e Vp)
 refine⟨by rw[hlen];exact h.tm,by rw[hlen];exact h.fr,h.df,?_,fI aah.own _ _ h.bl,Γ.st _ _ h.gl fun b hb=>heap b ?_,h.gn⟩
 ·rw[hlen];refine⟨fun r1 g1 σ o B h1 h2=>?_,fun r1 g1 σ o B h1 h2 Vp=>?_,fun r1 g1 σ B h1 h2 Vp=>?_,fun r1 r2 g1 g2 σ σ' o' B B' h1 h2 k1 k2 v1 v2 hne=>?_⟩
  ·rcases cF h1 with⟨rfl,rfl,_⟩|⟨hne,h1⟩
   ·by_cases e:σ=π
    ·subst e;exact hown o B h2
    ·obtain⟨B1,b1,b2,_⟩:=hkeys σ o B h2;refine b2 e _ ?_;exact(h.rs.blk _ g σ o B1 hr b1).cX (fun _=>rfl) (Nat.le_refl _) (fun _ _ _=>rfl) (fun Vp=>other _ g σ o B1 hr b1 (fun e'=>e e'.2.symm) Vp)
   ·exact(h.rs.blk r1 g1 σ o B h1 h2).cX (fun _=>rfl) (Nat.le_refl _) (fun _ _ _=>rfl) (fun Vp=>other r1 g1 σ o B h1 h2 (fun e'=>hne e'.1.symm) Vp)
  ·rw[dA];rcases cF h1 with⟨rfl,rfl,_⟩|⟨hne,h1⟩
   ·obtain⟨B1,b1,_,_⟩:=hkeys σ o B h2;exact h.rs.lt _ g σ o B1 hr b1 Vp
   ·exact h.rs.lt r1 g1 σ o B h1 h2 Vp
  ·rcases cF h1 with⟨rfl,rfl,_⟩|⟨hne,h1⟩
   ·obtain⟨B1,b1,_,b3⟩:=hkeys σ true B h2;exact b3 _ (mine _ g σ B1 hr b1 Vp)
   ·exact mine r1 g1 σ B h1 h2 Vp
  ·rcases cF h1 with⟨e1,f1,_⟩|⟨_,p1⟩<;>rcases cF h2 with⟨e2,f2,_⟩|⟨_,p2⟩
   ·subst e1 f1 e2 f2;obtain⟨Ba,b1,_,_⟩:=hkeys σ true B k1;obtain⟨Bb,b2,_,_⟩:=hkeys σ' o' B' k2;exact h.rs.dj _ _ g g σ σ' o' Ba Bb hr hr b1 b2 v1 v2 hne
   ·subst e1 f1;obtain⟨Ba,b1,_,_⟩:=hkeys σ true B k1;exact h.rs.dj _ _ g g2 σ σ' o' Ba B' hr p2 b1 k2 v1 v2 hne
   ·subst e2 f2;obtain⟨Bb,b2,_,_⟩:=hkeys σ' o' B' k2;exact h.rs.dj _ _ g1 g σ σ' o' B Bb p1 hr k1 b2 v1 v2 hne
   ·exact h.rs.dj _ _ g1 g2 σ σ' o' B B' p1 p2 k1 k2 v1 v2 hne
 ·have:=h.gn b hb;rcases aah.own with ho|ho
  ·intro e;subst e;exact this.1 ho
  ·omega
end
end Go.Sy
end
section
namespace Go.Sy
open Go Go.RowKit
universe u
section
variable {cc:Bool} {P:Program} {Γ:bn} {E:Env} {M:Nat->Prop} {w0:World} {ρ:Keys} {st:St} {vs:Fv} {a:Act} {w:World}
theorem qE:∀ (l:List At) (cells:List At) (off p:Nat),off+l.length<=cells.length->(Z9 cells off l)[p]?=if off<=p/\p<off+l.length then l[p-off]? else cells[p]?
 |[],cells,off,p,_=>by simp[Z9];intro _ _;omega
 |x::l,cells,off,p,h=>by
  simp only[List.length_cons]at h ⊢;rw[Z9,qE l _ (off+1) p (by simp;omega)]
  by_cases h1:p=off
  ·subst h1;rw[if_neg (by omega),if_pos (by omega),List.getElem?_set_self (by omega),Nat.sub_self];rfl
  ·by_cases h2:off+1<=p/\p<off+1+l.length
   ·rw[if_pos h2,if_pos (by omega),show p-off=(p-(off+1))+1 by omega];rfl
   ·rw[if_neg h2,if_neg (by omega),List.getElem?_set_ne (by omega)]
theorem xg (hE:bE P Γ E) {t:TypeId} (hn:E.ty t≠ .other):(P.info? t).map (·.size)=some (E.ty t).cells:=by
 have:=hE.ty t;cases hh:E.ty t<;>rw[hh]at this
 case other=>exact absurd hh hn
 case st=>exact this.2
 case sl=>exact this.2.2
 case ar=>exact this.2.2
 all_goals exact this.2
theorem IF (hE:bE P Γ E) (h:Rel Γ M w0 ρ st vs a w) {t:TypeId} (hno:E.ty t≠ .other) {r j:Nat} {cells l:List At} {vx:Value} (Vo:st.rg[r]?=some (.box true cells)) (hfit:j+l.length<=cells.length) (hl:be (At.ok st.rg.length ρ) l vx.cells.toList) (hone:∀ z∈vx.cells.toList,z.oneCell'=true)
 (hlen:l.length=(E.ty t).cells):
 (Instr.storeAt t (.pointer (some ((ρ r []).at (0*(ρ r []).m+j)))) vx).run P w= .ok () (w.setCells (ρ r []).b ((ρ r []).off+(0*(ρ r []).m+j)) vx.cells.toList)/\Rel Γ M w0 ρ (st.aBZ r (.box true (Z9 cells j l))) vs a (w.setCells (ρ r []).b ((ρ r []).off+(0*(ρ r []).m+j)) vx.cells.toList):=by
 have E7:vx.cells.toList.length=l.length:=hl.length.symm;have hsz:=xg hE hno;have run:(∀ s,s<l.length->(w.cell? ((ρ r []).at (0*(ρ r []).m+j+s))).isSome=true)->(∀ o,w.frozen? ⟨(ρ r []).b,o,none⟩=false)->
  (Instr.storeAt t (.pointer (some ((ρ r []).at (0*(ρ r []).m+j)))) vx).run P w= .ok () (w.setCells (ρ r []).b ((ρ r []).off+(0*(ρ r []).m+j)) vx.cells.toList):=by
  intro hc hf;have hst:=run_storeCells_cells (P:=P) (ρ r []).b ((ρ r []).off+(0*(ρ r []).m+j)) vx.cells.toList 0 w
   (fun s hs=>by have:=hc s (by omega);simpa[RI.at,Nat.add_assoc]using this) (fun s _=>hf _) hone
  have hcs:vx.cells.size=(E.ty t).cells:=by
   have:vx.cells.toList.length=(E.ty t).cells:=by rw[E7,hlen]
   simpa using this
  simp only[Nat.add_zero,Nat.zero_mul,Nat.zero_add]at hst;simp[Instr.storeAt,Instr.sureAddr,storeVar,cY hsz,hcs,RI.at,hst]
 have hB:(az.box true cells).has [] true (.box cells):=⟨rfl,rfl,rfl⟩;obtain⟨_,h1,h2,h4⟩:=h.rs.blk r _ [] true _ Vo hB;have hm:bY M w0 w (ρ r []):=h.rs.own r _ [] _ Vo hB h2;have hcell:∀ s,s<l.length->(w.cell? ((ρ r []).at (0*(ρ r []).m+j+s))).isSome=true:=fun s hs=>by
  obtain⟨y,_,hy⟩:=h4 (j+s) cells[j+s] (List.getElem?_eq_getElem (by omega))
  rw[show 0*(ρ r []).m+j+s=j+s by omega,hy];rfl
 refine⟨run hcell hm.fz,h.write Vo hB h2 ?_ ?_⟩
 ·rintro σ o B' ⟨rfl,rfl,rfl⟩;exact⟨.box cells,hB,fun e=>absurd rfl e,fun _ hh=>hh⟩
 ·rintro o B' ⟨_,rfl,rfl⟩;refine⟨rfl,h1,h2,fun p x hx=>?_⟩
  rw[qE _ _ _ _ hfit]at hx;split at hx
  ·rename_i hp;obtain⟨y,hy,hr⟩:=hl.get _ _ hx;refine⟨y,hr,?_⟩;have qW:p-j<vx.cells.toList.length:=by omega
   have:=World.cell?_setCells_in (ρ r []).b vx.cells.toList ((ρ r []).off+(0*(ρ r []).m+j)) w (fun s hs=>by have:=hcell s (by omega);simpa[RI.at,Nat.add_assoc]using this) (p-j) qW
   rw[show(ρ r []).at p=⟨(ρ r []).b,(ρ r []).off+(0*(ρ r []).m+j)+(p-j),none⟩ by simp only[RI.at];congr 1;omega]
   rw[this];rw[<-List.getElem?_eq_getElem qW];exact hy
  ·rename_i hp;obtain⟨y,hy,hc⟩:=h4 p x hx;refine⟨y,hy,?_⟩;rw[World.cell?_setCells_out]
   ·exact hc
   ·intro _ _;simp only[RI.at];omega
theorem BW (hE:bE P Γ E) (h:Rel Γ M w0 ρ st vs a w) {t:TypeId} (hno:E.ty t≠ .other) {r i j:Nat} {π:Path} {l:List At} {vx:Value} (hr:r<st.rg.length) (hl:be (At.ok st.rg.length ρ) l vx.cells.toList) (hone:∀ z∈vx.cells.toList,z.oneCell'=true)
 (hlen:l.length=(E.ty t).cells) {K:St->Prop} (hK:BV cc st r π i j l K):
 ∃ (w':World) (an:St),(Instr.storeAt t (.pointer (some ((ρ r π).at (i*(ρ r π).m+j)))) vx).run P w= .ok () w'/\Rel Γ M w0 ρ an vs a w'/\K an:=by
 have E7:vx.cells.toList.length=l.length:=hl.length.symm;have hsz:=xg hE hno;have run:(∀ s,s<l.length->(w.cell? ((ρ r π).at (i*(ρ r π).m+j+s))).isSome=true)->(∀ o,w.frozen? ⟨(ρ r π).b,o,none⟩=false)->
  (Instr.storeAt t (.pointer (some ((ρ r π).at (i*(ρ r π).m+j)))) vx).run P w= .ok () (w.setCells (ρ r π).b ((ρ r π).off+(i*(ρ r π).m+j)) vx.cells.toList):=by
  intro hc hf;have hst:=run_storeCells_cells (P:=P) (ρ r π).b ((ρ r π).off+(i*(ρ r π).m+j)) vx.cells.toList 0 w
   (fun s hs=>by have:=hc s (by omega);simpa[RI.at,Nat.add_assoc]using this) (fun s _=>hf _) hone
  have hcs:vx.cells.size=(E.ty t).cells:=by
   have:vx.cells.toList.length=(E.ty t).cells:=by rw[E7,hlen]
   simpa using this
  simp only[Nat.add_zero]at hst;simp[Instr.storeAt,Instr.sureAddr,storeVar,cY hsz,hcs,RI.at,hst]
 unfold BV at hK;split at hK
 ·rename_i cells hg;split at hK
  ·rename_i hfit;rw[St.aks]at hK;have Vo:=bg hg (by simp)
   have hfit:=Nat.le_of_ble_eq_true hfit;have hB:(az.box true cells).has [] true (.box cells):=⟨rfl,rfl,rfl⟩;obtain⟨_,h1,h2,h4⟩:=h.rs.blk r _ [] true _ Vo hB;have hm:bY M w0 w (ρ r []):=h.rs.own r _ [] _ Vo hB h2;have hcell:∀ s,s<l.length->(w.cell? ((ρ r []).at (0*(ρ r []).m+j+s))).isSome=true:=fun s hs=>by
    obtain⟨y,_,hy⟩:=h4 (j+s) cells[j+s] (List.getElem?_eq_getElem (by omega))
    rw[show 0*(ρ r []).m+j+s=j+s by omega,hy];rfl
   refine⟨_,_,run hcell hm.fz,h.write Vo hB h2 ?_ ?_,hK⟩
   ·rintro σ o B' ⟨rfl,rfl,rfl⟩;exact⟨.box cells,hB,fun e=>absurd rfl e,fun _ hh=>hh⟩
   ·rintro o B' ⟨_,rfl,rfl⟩;refine⟨rfl,h1,h2,fun p x hx=>?_⟩
    rw[qE _ _ _ _ hfit]at hx;split at hx
    ·rename_i hp;obtain⟨y,hy,hr⟩:=hl.get _ _ hx;refine⟨y,hr,?_⟩;have qW:p-j<vx.cells.toList.length:=by omega
     have:=World.cell?_setCells_in (ρ r []).b vx.cells.toList ((ρ r []).off+(0*(ρ r []).m+j)) w (fun s hs=>by have:=hcell s (by omega);simpa[RI.at,Nat.add_assoc]using this) (p-j) qW
     rw[show(ρ r []).at p=⟨(ρ r []).b,(ρ r []).off+(0*(ρ r []).m+j)+(p-j),none⟩ by simp only[RI.at];congr 1;omega]
     rw[this];rw[<-List.getElem?_eq_getElem qW];exact hy
    ·rename_i hp;obtain⟨y,hy,hc⟩:=h4 p x hx;refine⟨y,hy,?_⟩;rw[World.cell?_setCells_out]
     ·exact hc
     ·intro _ _;simp only[RI.at];omega
  ·exact hK.elim
 ·split at hK
  ·rename_i g hnb q B aah hd;split at hK
   ·rename_i b hb;rw[aV,aH]at hK;obtain⟨⟨hq,hi,_⟩,hK⟩:=hK;simp only[aa.ae]at hi;obtain⟨te,tg,xs,o,akl,hg,hA,hB⟩:=az.Mv aah hd hq;have Vo:=bg hg (by simp)
    have O1:mH π o akl=true:=by
     rw[hg]at aah;cases π<;>exact aah
    rw[O1]at hB;rw[hg]at hB;have hL:B.aA w (ρ r) π:=h.rs.blk r _ π true (.arr B) Vo hB;have hv:(ρ r π).aC=false:=by
     cases hv:(ρ r π).aC with
     |false=>rfl
     |true=>rw[hL.aC hv]at hi;simp at hi
    have hm:bY M w0 w (ρ r π):=(h.rs.own r _ π _ Vo hB hv).1;obtain⟨ys,c1,c2⟩:=hL.cell i hi;obtain⟨u1,_,u3⟩:=nY hb hl c1;have R5:=bL c1;have hcell:∀ s,s<l.length->(w.cell? ((ρ r π).at (i*(ρ r π).m+j+s))).isSome=true:=fun s hs=>by
     have Sk:=u1 s hs;have:=c2 (j+s) ys[j+s] (List.getElem?_eq_getElem (by omega))
     rw[Nat.add_assoc,this];rfl
    unfold JZ at hK;rw[hg]at hK;simp only at hK;split at hK
    ·rename_i A' ND;split at hK
     ·rename_i oO bX xs' ht' Sc;split at hK;case h_2=>exact hK.elim
      rename_i jn;rw[St.ag1]at hK;obtain rfl:=Nat.eq_of_beq_eq_true jn;obtain rfl:=ht'.down;obtain⟨s1,s2,s3,s4⟩:=Ee hA ND rfl rfl (by simp)
      have I9:fu akl true=akl:=by cases akl<;>rfl
      rw[I9]at hK;refine⟨_,_,run hcell hm.fz,h.write Vo hB hv ?_ ?_,hK⟩
      ·rintro σ f B' ⟨hf,C',hC',rfl⟩;rcases s4 σ C' hC' with⟨τ,rfl⟩|⟨C,k1,k2⟩
       ·obtain⟨D,d1,d2⟩:=fe.1 hC';obtain rfl:=agK d1 s1;rcases de τ with rfl|⟨Qg,k,m,rfl⟩
        ·obtain rfl:C'=_:=d2;exact⟨.arr B,⟨hf,B,by simpa using hA,rfl⟩,fun e=>absurd (by simp) e,fun _ hh=>hh⟩
        ·obtain⟨D,e1,e2,e3⟩:=dH.1 d2;have QT:k<B.xs.length:=by simpa using e1
         have QU:ai.sub B.tg (B.get k) m=some D:=by
          rw[<-e2,ji hi];split
          ·rename_i e4;subst e4;exact(u3 m).symm
          ·rfl
         exact⟨.arr C',⟨hf,C',fe.2 ⟨B,hA,dH.2 ⟨D,QT,QU,e3⟩⟩,rfl⟩,fun _ _ hh=>hh,fun _ hh=>hh⟩
       ·obtain⟨ci,hsame⟩:=k2.tg;refine⟨.arr C,⟨hf,C,k1,rfl⟩,fun _ w' hh=>?_,fun w' hh=>?_⟩
        ·have hh:C.aA w' (ρ r) σ:=hh;exact⟨by rw[ci];exact hh.tg,by rw[ci];exact hh.m,fun hv=>by have:=hh.aC hv;exact List.eq_nil_of_length_eq_zero (by rw[k2.len,this];rfl),fun hv=>by rw[k2.len];exact hh.len hv,fun n hn=>by
          obtain⟨zs,z1,z2⟩:=hh.cell n (by rw[<-k2.len];exact hn)
          exact⟨zs,hsame _ _ _ _ (by rw[<-k2.len];exact hn) z1,z2⟩⟩
        ·exact⟨hh.1,by rw[k2.te];exact hh.2⟩
      ·rintro f B' ⟨hf,C',hC',rfl⟩;obtain rfl:=agK hC' s1;show Ar.aA _ (ρ r) π _;refine⟨hL.tg,hL.m,fun hh=>absurd hh (by rw[hv];simp),fun hh=>by simpa using hL.len hh,fun n hn=>?_⟩
       have hn':n<B.xs.length:=by simpa using hn
       by_cases e:n=i
       ·subst e;rw[ji hi,if_pos rfl];obtain⟨_,⟨ys',v1,v2⟩,_⟩:=nY hb hl c1;refine⟨ys',v1,fun s y hy=>?_⟩
        have hs:s<B.tg.length:=by rw[<-bL v1];exact(List.getElem?_eq_some_iff.1 hy).1
        rw[v2 s]at hy;split at hy
        ·rename_i hp;have qW:s-j<vx.cells.toList.length:=by omega
         have:=World.cell?_setCells_in (ρ r π).b vx.cells.toList ((ρ r π).off+(n*(ρ r π).m+j)) w (fun s hs=>by have:=hcell s (by omega);simpa[RI.at,Nat.add_assoc]using this) (s-j) qW
         rw[show(ρ r π).at (n*(ρ r π).m+s)=⟨(ρ r π).b,(ρ r π).off+(n*(ρ r π).m+j)+(s-j),none⟩ by simp only[RI.at];congr 1;omega]
         rw[this,<-List.getElem?_eq_getElem qW];exact hy
        ·rename_i hp;rw[World.cell?_setCells_out]
         ·exact c2 s y hy
         ·intro _ _;simp only[RI.at];omega
       ·rw[ji hi,if_neg e];obtain⟨zs,z1,z2⟩:=hL.cell n hn';refine⟨zs,z1,fun s y hy=>?_⟩
        have hs:s<B.tg.length:=by rw[<-bL z1];exact(List.getElem?_eq_some_iff.1 hy).1
        rw[World.cell?_setCells_out]
        ·exact z2 s y hy
        ·intro _ _;simp only[RI.at];rcases Nat.lt_or_gt_of_ne e with hlt|hgt
         ·have h1:(n+1)*(ρ r π).m<=i*(ρ r π).m:=Nat.mul_le_mul_right _ hlt;rw[Nat.add_mul]at h1;have:=hL.m;omega
         ·have h1:(i+1)*(ρ r π).m<=n*(ρ r π).m:=Nat.mul_le_mul_right _ hgt;rw[Nat.add_mul]at h1;have:=hL.m;by_cases hz:l.length=0
          ·omega
          ·have:=u1 (l.length-1) (by omega)
           omega
     ·exact hK.elim
    ·exact hK.elim
   ·exact hK.elim
  ·exact hK.elim
end
end Go.Sy
end
section
namespace Go.Sy
open Go Go.RowKit
universe u
section
variable {P:Program} {Γ:bn} {E:Env} {M:Nat->Prop} {w0:World} {ρ:Keys} {st:St} {vs:Fv} {a:Act} {w:World}
theorem ku {r:Nat}:∀ {l:List Nat},Vq r l=false->∀ x∈l,x≠r
 |[],_,x,h=>by simp at h
 |y::l,h,x,hx=>by
  simp only[Vq]at h;split at h
  ·cases h
  ·rename_i hy;simp only[List.mem_cons]at hx;rcases hx with rfl|hx
   ·intro e;subst e;simp at hy
   ·exact ku h x hx
theorem mz {a b:Nat} (h:Nat.beq a b=false):a≠b:=fun e=>by subst e;simp at h
theorem At.eK {N r:Nat} {η:Path->RI} {x:At} {y:Value} (h:x.ok N ρ y):(x.kill true true r).ok N (aE ρ r η) y:=by
 have hne:∀ {r'},r'≠r->aE ρ r η r'=ρ r':=fun hh=>by simp[aE,hh]
 cases x with
 |p r' π i j=>
  simp only[At.kill];split
  ·rename_i hb;obtain⟨h1,h2⟩:=h;exact⟨h1,by rw[hne (mz hb)];exact h2⟩
  ·trivial
  ·trivial
 |sl r' π lo n=>
  simp only[At.kill];split
  ·rename_i hb;obtain⟨h1,h2⟩:=h;exact⟨h1,by rw[hne (mz hb)];exact h2⟩
  ·trivial
  ·trivial
 |fn f l=>
  simp only[At.kill];split
  ·trivial
  ·rename_i hm;obtain⟨h1,h2⟩:=h;have hm:Vq r l=false:=by
    cases hh:Vq r l with
    |false=>rfl
    |true=>exact absurd hh (hm rfl)
   refine⟨h1,?_⟩;rw[h2]
   congr 2
   exact List.map_congr_left fun r' hr'=>by rw[hne (ku hm r' hr')]
 |mp r'=>
  simp only[At.kill];split
  ·trivial
  ·rename_i hm;obtain⟨h1,h2⟩:=h;have:r'≠r:=fun e=>by subst e;exact hm (by simp) rfl
   exact⟨h1,by rw[hne this];exact h2⟩
 |it r'=>
  simp only[At.kill];split
  ·trivial
  ·rename_i hm;obtain⟨h1,h2⟩:=h;have:r'≠r:=fun e=>by subst e;exact hm (by simp) rfl
   exact⟨h1,by rw[hne this];exact h2⟩
 |yl r'=>
  simp only[At.kill];split
  ·trivial
  ·rename_i hm;obtain⟨h1,h2⟩:=h;have:r'≠r:=fun e=>by subst e;exact hm (by simp) rfl
   exact⟨h1,by rw[hne this];exact h2⟩
 |_=>exact h
theorem aam {α:Type} {R R':α->Value->Prop} {f:α->α} (hf:∀ x y,R x y->R' (f x) y):∀ {l:List α} {ys:List Value},be R l ys->be R' (l.map f) ys
 |[],[],_=>trivial
 |_::_,_::_,h=>⟨hf _ _ h.1,aam hf h.2⟩
theorem C1.eK {N r:Nat} {η:Path->RI} {x:C1} {y:Value} (h:x.ok N ρ y):(x.mapA (At.kill true true r)).ok N (aE ρ r η) y:=by
 cases x with
 |a x=>exact At.eK h
 |agg l=>obtain⟨ys,h1,h2⟩:=h;exact⟨ys,h1,aam (fun _ _ h=>At.eK h) h2⟩
theorem Tm.eK {N r:Nat} {η:Path->RI} {x:Tm} {y:Value} (h:x.ok N ρ y):(x.mapA (At.kill true true r)).ok N (aE ρ r η) y:=by
 cases x with
 |a x=>exact At.eK h
 |agg l=>obtain⟨ys,h1,h2⟩:=h;exact⟨ys,h1,aam (fun _ _ h=>At.eK h) h2⟩
 |bF l=>obtain⟨ys,h1,h2⟩:=h;exact⟨ys,h1,aam (fun _ _ h=>C1.eK h) h2⟩
theorem Sl.eK {N r:Nat} {η:Path->RI} {s:Sl} {xs:Array Value} (h:s.ok N ρ xs):(s.map (At.kill true true r)).ok N (aE ρ r η) xs:=
 ⟨h.n,fun i=>by
   show((s.t.map _).get i).ok _ _ _;rw[Tr.get_map rfl];exact Tm.eK (h.h i)⟩
theorem Bt {N r:Nat} {η:Path->RI}:∀ {fr:List Sl} {vs:List (Array Value)},be (Sl.ok N ρ) fr vs->be (Sl.ok N (aE ρ r η)) (fr.map (Sl.map (At.kill true true r))) vs
 |[],[],_=>trivial
 |_::_,_::_,h=>⟨Sl.eK h.1,Bt h.2⟩
theorem jb {r:Nat} {g:az} {π:Path} {o:Bool} {B':aD0} (h:(g.mapA (At.kill true true r)).has π o B'):∃ B,g.has π o B/\
 (∀ N (η:Path->RI) r' w',r'≠r->B.aA N ρ r' π w'->B'.aA N (aE ρ r η) r' π w')/\(∀ w' I,B.mine M w0 w' I->B'.mine M w0 w' I):=by
 cases g with
 |box ow l=>
  obtain⟨rfl,rfl,rfl⟩:=h;refine⟨.box l,⟨rfl,rfl,rfl⟩,fun N η r' w' hne hl=>?_,fun _ _ hh=>hh⟩
  have e:aE ρ r η r'=ρ r':=by simp[aE,hne]
  obtain⟨_,h1,h2,h3⟩:=hl;refine⟨rfl,by rw[e];exact h1,by rw[e];exact h2,fun j x hx=>?_⟩
  simp only[List.getElem?_map,Option.map_eq_some_iff]at hx;obtain⟨x',hx',rfl⟩:=hx;obtain⟨y,hy,hc⟩:=h3 j x' hx';exact⟨y,At.eK hy,by rw[e];exact hc⟩
 |arr te tg xs ow i=>
  obtain⟨hf,A,hA,rfl⟩:=h;refine⟨.arr A,⟨hf,A,hA,rfl⟩,fun N η r' w' hne hl=>?_,fun _ _ hh=>hh⟩
  have e:aE ρ r η r'=ρ r':=by simp[aE,hne]
  show Ar.aA w' (aE ρ r η r') π A;rw[e];exact hl
 |dead=>exact h.elim
 |map t k c es ow=>
  obtain⟨rfl,rfl,rfl⟩:=h;refine⟨.map k c es,⟨rfl,rfl,rfl⟩,fun N η r' w' hne hl=>?_,fun _ _ hh=>hh⟩
  have e:aE ρ r η r'=ρ r':=by simp[aE,hne]
  obtain⟨_,h1,h2⟩:=hl;exact⟨rfl,by rw[e];exact h1,by rw[e];exact h2⟩
 |bH t kk e tg es ow i=>
  rcases h with⟨rfl,rfl,rfl⟩|⟨j,rfl,rfl,hj,hf,rfl⟩
  ·refine⟨_,.inl ⟨rfl,rfl,rfl⟩,fun N η r' w' hne hl=>?_,fun _ _ hh=>hh⟩
   have e:aE ρ r η r'=ρ r':=by simp[aE,hne]
   obtain⟨_,h1,h2⟩:=hl;exact⟨rfl,by rw[e];exact h1,by rw[e];exact h2⟩
  ·refine⟨_,.inr ⟨j,rfl,rfl,hj,hf,rfl⟩,fun N η r' w' hne hl=>?_,fun _ _ hh=>hh⟩
   have e:aE ρ r η r'=ρ r':=by simp[aE,hne]
   show Ar.aA w' (aE ρ r η r') _ _;rw[e];exact hl
 |iter m n l=>
  cases m with
  |none=>
   obtain⟨rfl,rfl,rfl⟩:=h;refine⟨.it none n l,⟨rfl,rfl,rfl⟩,fun N η r' w' hne hl=>?_,fun _ _ hh=>hh⟩
   have e:aE ρ r η r'=ρ r':=by simp[aE,hne]
   obtain⟨_,h1,h2,h3⟩:=hl;exact⟨rfl,by rw[e];exact h1,h2,by rw[e];exact h3⟩
  |some m=>
   simp only[az.mapA,At.kill]at h;split at h
   ·rename_i hm;split at hm
    ·cases hm
    ·rename_i hk;injection hm with hm;subst hm;obtain⟨rfl,rfl,rfl⟩:=h;refine⟨.it (some m) n l,⟨rfl,rfl,rfl⟩,fun N η r' w' hne hl=>?_,fun _ _ hh=>hh⟩
     have hmr:m≠r:=fun e=>by subst e;exact hk (by simp) rfl
     have e:aE ρ r η r'=ρ r':=by simp[aE,hne]
     have e':aE ρ r η m=ρ m:=by simp[aE,hmr]
     obtain⟨_,h1,h2,h3⟩:=hl;exact⟨rfl,by rw[e];exact h1,h2,by rw[e];simp only[Option.map_some]at h3 ⊢;rw[e'];exact h3⟩
   ·exact h.elim
 |lp b s L q j=>
  obtain⟨rfl,rfl,rfl⟩:=h;refine⟨.lp b s L q j,⟨rfl,rfl,rfl⟩,fun N η r' w' hne hl=>?_,fun _ _ hh=>hh⟩
  have e:aE ρ r η r'=ρ r':=by simp[aE,hne]
  obtain⟨_,h1,h2,h3,h4⟩:=hl;exact⟨rfl,by rw[e];exact h1,Sl.eK h2,by rw[e];exact h3,by rw[e];exact h4⟩
theorem Rel.replace (h:Rel Γ M w0 ρ st vs a w) {r:Nat} {e:TypeId} {tg:List CK} {xs xs':List (ai tg)} {akl gV:Bool} (hr:st.rg[r]?=some (.arr e tg xs true akl)) (cZ:aaa tg=true) {w':World} (hf:Frame M w0 w')
 (hs:w.heap.size<=w'.heap.size) (hsame:∀ b,b<w.heap.size->((ρ r []).aC=true\/b≠(ρ r []).b)->w'.heap[b]?=w.heap[b]?) {I:RI} (hnew:Ar.aA w' (fun _=>I) [] ⟨e,tg,xs'⟩) (hlt:I.aC=false->I.b<w'.heap.size)
 (aah:I.aC=false->bY M w0 w' I/\Whole w' I e) (hI:I.aC=false->w.heap.size<=I.b\/((ρ r []).aC=false/\I.b=(ρ r []).b)):
 Rel Γ M w0 (aE ρ r fun _=>I) ((st.map (At.kill true true r)).aBZ r (.arr e tg xs' true gV)) vs a w':=by
 have Ja:r<st.rg.length:=fh hr;have hB:(az.arr e tg xs true akl).has [] true (.arr ⟨e,tg,xs⟩):=⟨rfl,_,rfl,rfl⟩;have hlen:((st.map (At.kill true true r)).aBZ r (.arr e tg xs' true gV)).rg.length=st.rg.length:=by simp[St.aBZ,St.map]
 have old:(ρ r []).aC=false->bY M w0 w (ρ r []):=fun hv=>(h.rs.own r _ [] _ hr hB hv).1
 have get:∀ (r1:Nat) (g1:az),((st.map (At.kill true true r)).aBZ r (.arr e tg xs' true gV)).rg[r1]?=some g1->(r1=r/\g1= .arr e tg xs' true gV)\/(r1≠r/\∃ g0,st.rg[r1]?=some g0/\g1=g0.mapA (At.kill true true r)):=by
  intro r1 g1 h1;rcases cF (l:=(st.map (At.kill true true r)).rg) h1 with⟨rfl,rfl,_⟩|⟨hne,h1⟩
  ·exact .inl ⟨rfl,rfl⟩
  ·simp only[St.map,List.getElem?_map,Option.map_eq_some_iff]at h1;obtain⟨g0,h1,h2⟩:=h1;exact .inr ⟨hne,g0,h1,h2.symm⟩
 have hne:∀ {r'},r'≠r->aE ρ r (fun _=>I) r'=ρ r':=fun hh=>by simp[aE,hh]
 have stay:∀ (r1:Nat) (g0:az) π o B,r1≠r->st.rg[r1]?=some g0->g0.has π o B->(ρ r1 π).aC=false->w'.heap[(ρ r1 π).b]?=w.heap[(ρ r1 π).b]?/\(I.aC=false->I.b≠(ρ r1 π).b):=by
  intro r1 g0 π o B hn h1 h2 hv;have hl:=h.rs.lt r1 g0 π o B h1 h2 hv;have hd:(ρ r []).aC=true\/(ρ r1 π).b≠(ρ r []).b:=by
   cases gU:(ρ r []).aC with
   |true=>exact .inl rfl
   |false=>exact .inr fun e=>h.rs.dj r r1 _ g0 [] π o _ B hr h1 hB h2 gU hv (fun e'=>hn e'.1.symm) e.symm
  refine⟨hsame _ hl hd,fun M9 e=>?_⟩
  rcases hI M9 with hI|⟨h3,h4⟩
  ·omega
  ·rcases hd with hd|hd
   ·rw[h3]at hd;cases hd
   ·exact hd (e.symm.trans h4)
 have mT:∀ {π:Path} {o:Bool} {B:aD0},(az.arr e tg xs' true gV).has π o B->π=[]/\o=true/\B= .arr ⟨e,tg,xs'⟩:=by
  rintro π o B ⟨hf,A,hA,rfl⟩;obtain⟨rfl,rfl⟩:=fT cZ hA;exact⟨rfl,hf,rfl⟩
 refine⟨?_,?_,h.df,?_,hf,Γ.st _ _ h.gl fun b hb=>hsame b (Nat.lt_of_lt_of_le (h.gn b hb).2 h.bl.size) ?_,h.gn⟩
 ·rw[hlen];exact Sl.eK h.tm
 ·rw[hlen];exact Bt h.fr
 ·rw[hlen];refine⟨fun r1 g1 π o B h1 h2=>?_,fun r1 g1 π o B h1 h2 hv=>?_,fun r1 g1 π B h1 h2 hv=>?_,fun r1 r2 g1 g2 π aW o' B B' h1 h2 k1 k2 v1 v2 hn=>?_⟩
  ·rcases get r1 g1 h1 with⟨rfl,rfl⟩|⟨hn,g0,p1,rfl⟩
   ·obtain⟨rfl,rfl,rfl⟩:=mT h2;show Ar.aA w' (aE ρ r1 _ r1) [] _;rw[aF];exact hnew
   ·obtain⟨B0,b1,b2,_⟩:=jb (ρ:=ρ) (M:=M) (w0:=w0) h2;refine b2 _ _ r1 w' hn ?_;exact(h.rs.blk r1 g0 π o B0 p1 b1).cX (fun _=>rfl) (Nat.le_refl _) (fun _ _ _=>rfl) (fun hv=>(stay r1 g0 π o B0 hn p1 b1 hv).1)
  ·rcases get r1 g1 h1 with⟨rfl,rfl⟩|⟨hn,g0,p1,rfl⟩
   ·obtain⟨rfl,rfl,rfl⟩:=mT h2;rw[aF]at hv ⊢;exact hlt hv
   ·obtain⟨B0,b1,_,_⟩:=jb (ρ:=ρ) (M:=M) (w0:=w0) h2;rw[hne hn]at hv ⊢;exact Nat.lt_of_lt_of_le (h.rs.lt r1 g0 π o B0 p1 b1 hv) hs
  ·rcases get r1 g1 h1 with⟨rfl,rfl⟩|⟨hn,g0,p1,rfl⟩
   ·obtain⟨rfl,_,rfl⟩:=mT h2;rw[aF]at hv ⊢;exact aah hv
   ·obtain⟨B0,b1,_,b3⟩:=jb (ρ:=ρ) (M:=M) (w0:=w0) h2;rw[hne hn]at hv ⊢;exact b3 _ _ ((h.rs.own r1 g0 π B0 p1 b1 hv).cX (stay r1 g0 π true B0 hn p1 b1 hv).1)
  ·rcases get r1 g1 h1 with⟨e1,f1⟩|⟨n1,g10,p1,f1⟩<;>rcases get r2 g2 h2 with⟨e2,f2⟩|⟨n2,g20,p2,f2⟩
   ·subst e1 f1 e2 f2;obtain⟨rfl,_,_⟩:=mT k1;obtain⟨rfl,_,_⟩:=mT k2;exact absurd ⟨rfl,rfl⟩ hn
   ·subst e1 f1 f2;obtain⟨rfl,_,_⟩:=mT k1;obtain⟨B0,b1,_,_⟩:=jb (ρ:=ρ) (M:=M) (w0:=w0) k2;rw[aF]at v1 ⊢;rw[hne n2]at v2 ⊢;exact(stay r2 g20 aW o' B0 n2 p2 b1 v2).2 v1
   ·subst e2 f2 f1;obtain⟨rfl,_,_⟩:=mT k2;obtain⟨B0,b1,_,_⟩:=jb (ρ:=ρ) (M:=M) (w0:=w0) k1;rw[aF]at v2 ⊢;rw[hne n1]at v1 ⊢;exact((stay r1 g10 π true B0 n1 p1 b1 v1).2 v2).symm
   ·subst f1 f2;obtain⟨Ba,b1,_,_⟩:=jb (ρ:=ρ) (M:=M) (w0:=w0) k1;obtain⟨Bb,b2,_,_⟩:=jb (ρ:=ρ) (M:=M) (w0:=w0) k2;rw[hne n1]at v1 ⊢;rw[hne n2]at v2 ⊢;exact h.rs.dj r1 r2 g10 g20 π aW o' Ba Bb p1 p2 b1 b2 v1 v2 hn
 ·cases hv:(ρ r []).aC with
  |true=>exact .inl rfl
  |false=>
   have:=h.gn b hb;refine .inr fun e=>?_
   subst e;rcases(old hv).own with ho|ho
   ·exact this.1 ho
   ·omega
end
end Go.Sy
end
section
namespace Go.Sy
open Go Go.RowKit
universe u
section
variable {P:Program} {Γ:bn} {E:Env} {M:Nat->Prop} {w0:World} {ρ:Keys} {st:St} {vs:Fv} {a:Act} {w:World}
theorem jR {t ty e:TypeId} {m:Nat} (hu:P.underlying t=some (.slice e)) (hm:(P.info? e).map (·.size)=some m) (a0 b0:Option Addr) (k c c2:Nat) (hk:k<=c):
 (Builtin.append_ #[t,t] ty #[.slice a0 k c,.slice b0 0 c2]).run P w= .ok (.slice a0 k c) w:=by
 have hf:(Builtin.firstCells m 0 (.slice b0 0 c2)).run P w= .ok #[] w:=by
  cases b0 with
  |none=>simp[Builtin.firstCells]
  |some b=>have:=run_firstCells_some (P:=P) w m 0 b 0 c2 [] (by simp) (fun j v h=>by simp at h)
           simpa using this
 cases a0 with
 |none=>simp[Builtin.append_,run_underlying hu,cY hm,Builtin.lenOf,hk,hf]
 |some ad=>simp[Builtin.append_,run_underlying hu,cY hm,Builtin.lenOf,hk,hf,storeCells]
theorem pZ {t ty e:TypeId} {m:Nat} (hu:P.underlying t=some (.slice e)) (hm:(P.info? e).map (·.size)=some m) (g off k c:Nat) (b:Addr) (n c2:Nat) (news:List Value) (hl:news.length=n*m)
 (hnews:∀ j v,news[j]?=some v->w.cell? (b.add j)=some v) (hone:∀ v∈news,v.oneCell'=true) (hroom:k+n<=c)
 (hc:∀ s,s<news.length->(w.cell? ⟨g,off+k*m+s,none⟩).isSome=true) (hf:∀ o,w.frozen? ⟨g,o,none⟩=false):
 (Builtin.append_ #[t,t] ty #[.slice (some ⟨g,off,none⟩) k c,.slice (some b) n c2]).run P w= .ok (.slice (some ⟨g,off,none⟩) (k+n) c) (w.setCells g (off+k*m) news):=by
 have Rr:=run_firstCells_some (P:=P) w m n b n c2 news hl hnews;have hst:=run_storeCells_cells (P:=P) g (off+k*m) news 0 w (fun s hs=>by simpa using hc s hs) (fun s _=>hf _) hone
 simp only[Nat.add_zero]at hst;simp[Builtin.append_,run_underlying hu,cY hm,Builtin.lenOf,hroom,Rr,Addr.add_lit,hst]
theorem Jl {η:Path->RI} {π:Path} {i:Nat}:∀ {tg:List CK} {j:Nat} {x:ai tg} {ys:List Value},aaa tg=true->ai.aA η π i j tg x ys->∀ y∈ys,y.oneCell'=true:=by
 have one:∀ {c:CK} {j:Nat} {x:c.ty} {y:Value},c.flat=true->c.aA η π i j x y->y.oneCell'=true:=fun{c} _ _ _ hf h=>by
  cases c with
  |int=>obtain rfl:=show _=_ from h;rfl
  |bool=>obtain rfl:=show _=_ from h;rfl
  |str=>obtain rfl:=show _=_ from h;rfl
  |sl=>cases hf
 intro tg;induction tg with
 |nil=>intro j x ys _ h y hy;have h:ys=[]:=h;subst h;simp at hy
 |cons c cs ih=>
  intro j x ys hf h;simp only[aaa]at hf;split at hf
  ·rename_i hc;cases cs with
   |nil=>obtain⟨y,rfl,h2⟩:=h;intro z hz;simp at hz;subst hz;exact one hc h2
   |cons c' cs=>
    obtain⟨y,ys',rfl,h2,h3⟩:=h;intro z hz;rcases List.mem_cons.1 hz with rfl|hz
    ·exact one hc h2
    ·exact ih hf h3 z hz
  ·cases hf
theorem o7 {η:Path->RI} {π:Path} {A:Ar} (h:A.aA w η π) (hf:aaa A.tg=true):∀ N,N<=A.xs.length->∃ a8:List Value,a8.length=N*A.tg.length/\(∀ j v,a8[j]?=some v->w.cell? ((η π).at j)=some v)/\
 (∀ i,i<N->∃ ys,ai.aA η π i 0 A.tg (A.get i) ys/\∀ s,s<A.tg.length->a8[i*A.tg.length+s]?=ys[s]?)/\∀ v∈a8,v.oneCell'=true
 |0,_=>⟨[],by simp,by simp,by simp,by simp⟩
 |N+1,hN=>by
  obtain⟨a8,h1,h2,h3,h4⟩:=o7 h hf N (by omega)
  obtain⟨ys,h5,h6⟩:=h.cell N (by omega)
  have hy:=bL h5;refine⟨a8++ys,by rw[List.length_append,h1,hy,Nat.add_mul,Nat.one_mul],fun j v hv=>?_,fun i hi=>?_,fun v hv=>?_⟩
  ·rcases Nat.lt_or_ge j a8.length with hl|hl
   ·rw[List.getElem?_append_left hl]at hv;exact h2 j v hv
   ·rw[List.getElem?_append_right hl]at hv;have:=h6 _ v hv;rw[h.m,h1]at this;rw[show N*A.tg.length+(j-N*A.tg.length)=j by omega]at this
    exact this
  ·rcases Nat.lt_or_ge i N with hl|hl
   ·obtain⟨zs,z1,z2⟩:=h3 i hl;refine⟨zs,z1,fun s hs=>?_⟩
    rw[List.getElem?_append_left,z2 s hs];rw[h1];have:(i+1)*A.tg.length<=N*A.tg.length:=Nat.mul_le_mul_right _ hl;rw[Nat.add_mul]at this;omega
   ·obtain rfl:i=N:=by omega
    refine⟨ys,h5,fun s hs=>?_⟩
    rw[List.getElem?_append_right (by omega),h1,Nat.add_sub_cancel_left]
  ·rcases List.mem_append.1 hv with hv|hv
   ·exact h4 v hv
   ·exact Jl hf h5 v hv
theorem jj {I:RI} {lo n:Nat} {y:Value} (h:I.head lo n y):∃ ad c,y= .slice ad n c/\n<=c/\(I.aC=true->n=0/\c=0)/\(I.aC=false->c=I.cap-lo/\lo+n<=I.cap/\(lo<I.cap->ad=some (I.at (lo*I.m)))):=by
 cases hv:I.aC with
 |true=>obtain⟨rfl,ad,rfl⟩:=h.1 hv;exact⟨ad,0,rfl,Nat.le_refl _,fun _=>⟨rfl,rfl⟩,fun hh=>by cases hh⟩
 |false=>obtain⟨h1,ad,rfl,h2⟩:=h.2 hv;exact⟨ad,_,rfl,by omega,(fun hh=>by cases hh),fun _=>⟨rfl,h1,h2⟩⟩
theorem pW {te:TypeId} {tg:List CK} (ci:tg≠[]) (hf:aaa tg=true) {xs:List (ai tg)} {I:RI} (hm:I.m=tg.length) (hv:I.aC=false) (hcap:xs.length<=I.cap)
 (hc:∀ i,i<xs.length->∃ (η:Path->RI) (π:Path) (k:Nat) (ys:List Value),ai.aA η π k 0 tg (Ar.get ⟨te,tg,xs⟩ i) ys/\∀ s y,ys[s]?=some y->w.cell? (I.at (i*tg.length+s))=some y):Ar.aA w (fun _=>I) [] ⟨te,tg,xs⟩:=
 ⟨ci,hm,(fun hh=>by rw[hv]at hh;cases hh),fun _=>hcap,fun i hi=>by
   obtain⟨η,π,k,ys,h1,h2⟩:=hc i hi;exact⟨ys,lA hf h1,fun s y hy=>by rw[hm];exact h2 s y hy⟩⟩
end
end Go.Sy
end
section
namespace Go.Sy
open Go Go.RowKit
universe u
section
variable {P:Program} {Γ:bn} {E:Env} {M:Nat->Prop} {w0:World} {ρ:Keys} {st:St} {vs:Fv} {a:Act} {w:World}
structure Ih (M:Nat->Prop) (w0 w w':World) (I0 I:RI) (e:TypeId) (tg:List CK) (xs:List (ai tg)) (n:Nat) (v:Value):Prop where
 head:I.head 0 n v
 aA:Ar.aA w' (fun _=>I) [] ⟨e,tg,xs⟩
 mine:I.aC=false->I.b<w'.heap.size/\bY M w0 w' I/\Whole w' I e
 fr:Frame M w0 w'
 size:w.heap.size<=w'.heap.size
 same:∀ b,b<w.heap.size->(I0.aC=true\/b≠I0.b)->w'.heap[b]?=w.heap[b]?
 at_:I.aC=false->w.heap.size<=I.b\/(I0.aC=false/\I.b=I0.b)
theorem Dz {te:TypeId} {tg:List CK} {xs ys:List (ai tg)} {i:Nat}:Ar.get ⟨te,tg,xs++ys⟩ i=if i<xs.length then Ar.get ⟨te,tg,xs⟩ i else Ar.get ⟨te,tg,ys⟩ (i-xs.length):=by
 simp only[Ar.get,List.getD_eq_getElem?_getD];split
 ·rename_i h;rw[List.getElem?_append_left h]
 ·rename_i h;rw[List.getElem?_append_right (by omega)]
theorem kN {I:RI} {e:TypeId} (h:Whole w I e) {l:Nat} (hl:l<=I.cap):Whole w (I.shift l) e:=by
 obtain⟨h1,cur,h2,h3⟩:=h;refine⟨by simp only[RI.shift];omega,cur,h2,?_⟩
 simp only[RI.shift];rw[h3];have:I.cap*I.m=l*I.m+(I.cap-l)*I.m:=by rw[<-Nat.add_mul];congr 1;omega
 omega
theorem vW {I:RI} {e:TypeId} (h:Whole w I e) {o:Nat} (ho:o<I.off+I.cap*I.m):(w.cell? ⟨I.b,o,none⟩).isSome=true:=by
 obtain⟨_,cur,h2,h3⟩:=h;simp only[World.cell?,h2];simp[h3,ho]
theorem aBV (hE:bE P Γ E) {t ty e:TypeId} {m:Nat} (ht:E.ty t= .sl e m) {tg:List CK} (hD:E.kd e=some tg) (cZ:aaa tg=true) {I0:RI} {xs:List (ai tg)} {l k:Nat} {v0:Value}
 (h0:Ar.aA w (fun _=>I0) [] ⟨e,tg,xs⟩) (hk:l+k=xs.length) (hs:I0.head l k v0) (hown:I0.aC=false->bY M w0 w I0/\Whole w I0 e/\I0.b<w.heap.size)
 {I2:RI} {dO:TypeId} {ys:List (ai tg)} {lo n:Nat} {vx:Value} (h2:Ar.aA w (fun _=>I2) [] ⟨dO,tg,ys⟩) (hx:I2.head lo n vx) (hn:lo+n<=ys.length) (hcap:(k+n)*tg.length<=gD) (hfr:Frame M w0 w):
 ∃ v w' I,(Builtin.append_ #[t,t] ty #[v0,vx]).run P w= .ok v w'/\Ih M w0 w w' I0 I e tg (xs.drop l++(ys.drop lo).take n) (k+n) v:=by
 obtain⟨hu,_,_⟩:=hE.aav ht;obtain⟨ci,⟨i,z,hi,hsz,hz,vj,hby⟩⟩:=hE.kd e tg hD;have hm:(P.info? e).map (·.size)=some tg.length:=by rw[hi];simp[hsz]
 have E3:0<tg.length:=List.length_pos_iff.2 ci;obtain⟨ad,c,rfl,hkc,AQ,s6⟩:=jj hs;obtain⟨bd,c2,rfl,hnc,NE,Jc⟩:=jj hx;have aaj:(xs.drop l).length=k:=by rw[List.length_drop];omega
 have qX:((ys.drop lo).take n).length=n:=by rw[List.length_take,List.length_drop];omega
 have O7:(xs.drop l).take k=xs.drop l:=List.take_of_length_le (by omega)
 have akg:I0.m=tg.length:=h0.m;have M8:I2.m=tg.length:=h2.m;have hold:Ar.aA w (fun _=>I0.shift l) [] ⟨e,tg,xs.drop l⟩:=by
  have:=ri (te:=e) cZ h0 (lo:=l) (n:=k) (by omega) (bU:=fun _=>I0.shift l) (aW:=[]) rfl e
  rwa[O7]at this
 rcases Nat.eq_zero_or_pos n with rfl|E4
 ·
  refine⟨_,w,I0.shift l,jR hu hm ad bd k c c2 hkc,?_,?_,fun hv=>?_,hfr,Nat.le_refl _,fun _ _ _=>rfl,fun hv=> .inr ⟨hv,rfl⟩⟩
  ·rw[Nat.add_zero];exact ph hs
  ·simpa using hold
  ·obtain⟨o1,o2,o3⟩:=hown hv;exact⟨o3,⟨o1.own,o1.fz⟩,kN o2 (by have:=(s6 hv).2.1;omega)⟩
 ·
  have xY:I2.aC=false:=by
   cases hh:I2.aC with
   |false=>rfl
   |true=>have:=(NE hh).1;omega
  obtain⟨xS,QA,hbd⟩:=Jc xY;have hbd:=hbd (by omega)
  subst hbd;have hnew:=ri (te:=dO) cZ h2 hn (bU:=fun _=>I2.shift lo) (aW:=[]) rfl dO
  obtain⟨news,w1,w2,w3,w4⟩:=o7 hnew cZ n (by rw[qX];exact Nat.le_refl _)
  obtain⟨olds,u1,u2,u3,u4⟩:=o7 hold cZ k (by rw[aaj];exact Nat.le_refl _)
  simp only at w1 w2 w3 u1 u2 u3;have hnews:∀ j v,news[j]?=some v->w.cell? ((I2.at (lo*I2.m)).add j)=some v:=fun j v hv=>by
   rw[RI.fF];have:=w2 j v hv;rwa[RI.aar]at this
  have bytes:(k+n)*i.bytes<=140737488355328:=by
   have h1:(k+n)*i.bytes<=(k+n)*(32*tg.length):=Nat.mul_le_mul_left _ hby;have h2:(k+n)*(32*tg.length)=32*((k+n)*tg.length):=by rw[<-Nat.mul_assoc,Nat.mul_comm _ 32,Nat.mul_assoc]
   simp only[gD]at hcap;omega
  have hkn:k+n<=1099511627776:=Nat.le_trans (Nat.le_mul_of_pos_right _ E3) hcap;by_cases hroom:k+n<=c
  ·
   have gU:I0.aC=false:=by
    cases hh:I0.aC with
    |false=>rfl
    |true=>have:=(AQ hh).2;omega
   obtain⟨hc,hlc,had⟩:=s6 gU;have had:=had (by omega)
   subst had;obtain⟨o1,o2,o3⟩:=hown gU;have hmul:(l+(k+n))*tg.length<=I0.cap*tg.length:=Nat.mul_le_mul_right _ (by omega)
   have Qw:(l+(k+n))*tg.length=l*tg.length+k*tg.length+n*tg.length:=by rw[Nat.add_mul,Nat.add_mul];omega
   have hcell:∀ s,s<news.length->(w.cell? ⟨I0.b,I0.off+l*I0.m+k*tg.length+s,none⟩).isSome=true:=fun s hs=>vW o2 (by rw[akg];rw[w1]at hs;omega)
   have hrun:=pZ (P:=P) (w:=w) (ty:=ty) hu hm I0.b (I0.off+l*I0.m) k c (I2.at (lo*I2.m)) n c2 news w1 hnews w4 hroom hcell o1.fz;refine⟨_,_,I0.shift l,by simpa only[RI.at]using hrun,?_,?_,fun hv=>?_,fI o1.own _ _ hfr,by rw[dA];exact Nat.le_refl _,fun b hb hd=>gj _ _ _ _ _ ?_,fun hv=> .inr ⟨gU,rfl⟩⟩
   ·refine⟨fun hv=>(by simp only[RI.shift]at hv;rw[gU]at hv;cases hv),fun _=>⟨by simp only[RI.shift];omega,_,by simp only[RI.shift,Nat.sub_zero];rw[hc],fun _=>by simp[RI.shift,RI.at]⟩⟩
   ·refine pW ci cZ akg gU (by simp only[RI.shift,List.length_append,aaj,qX];omega) fun i hi=>?_
    simp only[List.length_append,aaj,qX]at hi;rw[Dz,aaj];by_cases aki:i<k
    ·rw[if_pos aki];obtain⟨zs,z1,z2⟩:=u3 i aki;refine⟨_,_,_,zs,z1,fun s y hy=>?_⟩
     have hs:s<tg.length:=by rw[<-bL z1];exact(List.getElem?_eq_some_iff.1 hy).1
     rw[World.cell?_setCells_out]
     ·exact u2 _ y (by rw[z2 s hs];exact hy)
     ·intro _ _;have:(i+1)*tg.length<=k*tg.length:=Nat.mul_le_mul_right _ aki;rw[Nat.add_mul]at this;simp only[RI.shift,RI.at];omega
    ·rw[if_neg aki];obtain⟨zs,z1,z2⟩:=w3 (i-k) (by omega)
     refine⟨_,_,_,zs,z1,fun s y hy=>?_⟩
     have hs:s<tg.length:=by rw[<-bL z1];exact(List.getElem?_eq_some_iff.1 hy).1
     have hlt:(i-k)*tg.length+s<news.length:=by
      have:=z2 s hs;rw[hy]at this;exact(List.getElem?_eq_some_iff.1 this).1
     have:=World.cell?_setCells_in I0.b news (I0.off+l*I0.m+k*tg.length) w hcell _ hlt;have e1:(I0.shift l).at (i*tg.length+s)=⟨I0.b,I0.off+l*I0.m+k*tg.length+((i-k)*tg.length+s),none⟩:=by
      have:i*tg.length=k*tg.length+(i-k)*tg.length:=by rw[<-Nat.add_mul];congr 1;omega
      simp only[RI.shift,RI.at]
      congr 1
      omega
     rw[e1,this,<-List.getElem?_eq_getElem hlt,z2 s hs];exact hy
   ·refine⟨by rw[dA];exact o3,⟨o1.own,fun j=>by rw[World.frozen?_setCells];exact o1.fz j⟩,kN (aB8 _ _ o2) (by omega)⟩
   ·rcases hd with hd|hd
    ·rw[gU]at hd;cases hd
    ·exact hd
  ·
   have hrun:∃ cp,k+n<=cp/\cp<=maxLen/\(Builtin.append_ #[t,t] ty #[.slice ad k c,.slice (some (I2.at (lo*I2.m))) n c2]).run P w=
    .ok (.slice (some ⟨w.heap.size,0,none⟩) (k+n) cp) (w.drew.alloc (.cells (olds++news++(Builtin.zeroCells z.cells (cp-(k+n))).toList).toArray e)):=by
    have nv:∀ old,grownCap w (k+n) old e<=maxLen:=fun old=>grownCap_le_maxLen w _ _ _ (Nat.le_trans hkn (Nat.le_of_ble_eq_true rfl))
    cases ad with
    |none=>
     have Nn:k=0/\c=0:=by
      cases hh:I0.aC with
      |true=>exact AQ hh
      |false=>
       obtain⟨g1,g2,g3⟩:=s6 hh;by_cases hlt:l<I0.cap
       ·have:=g3 hlt;cases this
       ·omega
     obtain⟨rfl,rfl⟩:=Nn;have hr:=run_append_nil (P:=P) w t ty e i z hu hi hz (I2.at (lo*I2.m)) n c2 news (by rw[w1,hsz]) hnews E4 (by omega) (by rw[Nat.zero_add]at bytes;omega)
     have ho:olds=[]:=List.eq_nil_of_length_eq_zero (by rw[u1];simp)
     refine⟨grownCap w n 0 e,by rw[Nat.zero_add];exact grownCap_ge w n 0 e,by have:=nv 0;rwa[Nat.zero_add]at this,?_⟩
     rw[hr,ho,Nat.zero_add]
     congr 3
     apply Array.ext';simp
    |some b=>
     have hr:=run_append_grow (P:=P) w t ty e i z hu hi hz b k c olds (by rw[u1,hsz]) (fun j v hv=>by
      have hk':0<k:=by
       rcases Nat.eq_zero_or_pos k with rfl|hk'
       ·have:=(List.getElem?_eq_some_iff.1 hv).1;rw[u1]at this;simp at this
       ·exact hk'
      have gU:I0.aC=false:=by
       cases hh:I0.aC with
       |false=>rfl
       |true=>have:=(AQ hh).1;omega
      obtain⟨g1,g2,g3⟩:=s6 gU;have:=g3 (by omega)
      obtain rfl:=Option.some.inj this;rw[RI.fF];have:=u2 j v hv;rwa[RI.aar]at this) (I2.at (lo*I2.m)) n c2 news (by rw[w1,hsz]) hnews (by omega) (by omega) (growslice_fits (by omega) bytes)
     refine⟨grownCap w (k+n) c e,grownCap_ge w _ _ e,nv c,?_⟩;rw[hr]
     congr 3
     apply Array.ext';simp[List.append_assoc]
   obtain⟨cp,tJ,AG,hrun⟩:=hrun;have fU:Below w.heap.size w (w.drew.alloc (.cells (olds++news++(Builtin.zeroCells z.cells (cp-(k+n))).toList).toArray e)):=((Below.refl _ _).drew).alloc (Nat.le_refl _) _;have vk:z.cells.size=tg.length:=by
    have:=congrArg List.length vj;simpa[aay]using this
   have qP:∀ j,(w.drew.alloc (.cells (olds++news++(Builtin.zeroCells z.cells (cp-(k+n))).toList).toArray e)).cell? ⟨w.heap.size,j,none⟩=(olds++news++(Builtin.zeroCells z.cells (cp-(k+n))).toList)[j]?:=fun j=>gh (w:=w.drew) _ e j
   refine⟨_,_,⟨w.heap.size,0,tg.length,cp,false⟩,hrun,?_,?_,fun _=>?_,hfr.below fU,fU.size,fun b hb _=>fU.block b hb,fun _=> .inl (Nat.le_refl _)⟩
   ·exact⟨fun hv=>(by cases hv),fun _=>⟨by rw[Nat.zero_add];exact tJ,_,rfl,fun _=>by simp[RI.at]⟩⟩
   ·refine pW ci cZ rfl rfl (by simp only[List.length_append,aaj,qX];exact tJ) fun i hi=>?_
    simp only[List.length_append,aaj,qX]at hi;rw[Dz,aaj];by_cases aki:i<k
    ·rw[if_pos aki];obtain⟨zs,z1,z2⟩:=u3 i aki;refine⟨_,_,_,zs,z1,fun s y hy=>?_⟩
     have hs:s<tg.length:=by rw[<-bL z1];exact(List.getElem?_eq_some_iff.1 hy).1
     simp only[RI.at,Nat.zero_add];have hg:=z2 s hs;rw[hy]at hg;rw[qP,List.append_assoc,List.getElem?_append_left (List.getElem?_eq_some_iff.1 hg).1];exact hg
    ·rw[if_neg aki];obtain⟨zs,z1,z2⟩:=w3 (i-k) (by omega)
     refine⟨_,_,_,zs,z1,fun s y hy=>?_⟩
     have hs:s<tg.length:=by rw[<-bL z1];exact(List.getElem?_eq_some_iff.1 hy).1
     simp only[RI.at,Nat.zero_add];have hg:=z2 s hs;rw[hy]at hg;have e1:i*tg.length+s=olds.length+((i-k)*tg.length+s):=by
      have:i*tg.length=k*tg.length+(i-k)*tg.length:=by rw[<-Nat.add_mul];congr 1;omega
      rw[u1];omega
     rw[qP,List.append_assoc,e1,List.getElem?_append_right (by omega),Nat.add_sub_cancel_left,List.getElem?_append_left (List.getElem?_eq_some_iff.1 hg).1];exact hg
   ·have hheap:(w.drew.alloc (.cells (olds++news++(Builtin.zeroCells z.cells (cp-(k+n))).toList).toArray e)).heap[w.heap.size]?=some (.cells (olds++news++(Builtin.zeroCells z.cells (cp-(k+n))).toList).toArray e):=by
     show(w.heap.push _)[w.heap.size]?=_;simp
    refine⟨(Array.getElem?_eq_some_iff.1 hheap).1,⟨.inr hfr.size,fun j=>?_⟩,AG,_,hheap,?_⟩
    ·have qT:(w.drew.alloc (.cells (olds++news++(Builtin.zeroCells z.cells (cp-(k+n))).toList).toArray e)).heap[w.heap.size]?=_:=hheap;simp only[World.frozen?];rw[qT];simp
    show _=0+cp*tg.length;simp only[List.size_toArray,List.length_append,u1,w1,Array.length_toList,size_zeroCells,vk];rw[<-Nat.add_mul,<-Nat.add_mul,Nat.zero_add]
    congr 1
    omega
end
end Go.Sy
end
section
namespace Go.Sy
open Go Go.RowKit
universe u
section
variable {P:Program} {Γ:bn} {E:Env} {M:Nat->Prop} {w0:World} {ρ:Keys} {st:St} {vs:Fv} {a:Act} {w:World}
theorem aak {α:Type u} {l:List α} (h:isNil l=true):l=[]:=by cases l;rfl;cases h
theorem At.dJ {N r:Nat} {η:Path->RI} {top:Bool} (ht:top=false->η []=ρ r []) {x:At} {y:Value} (h:x.ok N ρ y):(x.kill top true r).ok N (aE ρ r η) y:=by
 have hne:∀ {r'},r'≠r->aE ρ r η r'=ρ r':=fun hh=>by simp[aE,hh]
 have lg:∀ r',top=false->aE ρ r η r' []=ρ r' []:=fun r' h0=>by
  by_cases e:r'=r
  ·subst e;rw[aF];exact ht h0
  ·rw[hne e]
 cases x with
 |p r' π i j=>
  simp only[At.kill];split
  ·rename_i hb;obtain⟨h1,h2⟩:=h;exact⟨h1,by rw[hne (mz hb)];exact h2⟩
  ·rename_i hb hn;split
   ·trivial
   ·obtain rfl:=aak hn;exact⟨h.1,by rw[lg _ rfl];exact h.2⟩
  ·trivial
 |sl r' π lo n=>
  simp only[At.kill];split
  ·rename_i hb;obtain⟨h1,h2⟩:=h;exact⟨h1,by rw[hne (mz hb)];exact h2⟩
  ·rename_i hb hn;split
   ·trivial
   ·obtain rfl:=aak hn;exact⟨h.1,by rw[lg _ rfl];exact h.2⟩
  ·trivial
 |fn f l=>
  obtain⟨h1,h2⟩:=h;cases top with
  |false=>
   refine⟨h1,?_⟩;rw[h2]
   congr 2
   exact List.map_congr_left fun r' hr'=>by rw[lg _ rfl]
  |true=>
   simp only[At.kill];split
   ·trivial
   ·rename_i hm;have hm:Vq r l=false:=by
     cases hh:Vq r l with
     |false=>rfl
     |true=>exact absurd hh (hm rfl)
    refine⟨h1,?_⟩;rw[h2]
    congr 2
    exact List.map_congr_left fun r' hr'=>by rw[hne (ku hm r' hr')]
 |mp r'=>
  obtain⟨h1,h2⟩:=h;cases top with
  |false=>
   simp only[At.kill];split
   ·exact absurd ‹false=true› (by simp)
   ·exact⟨h1,by rw[lg _ rfl];exact h2⟩
  |true=>
   simp only[At.kill];split
   ·trivial
   ·rename_i hm;have:r'≠r:=fun e=>by subst e;exact hm (by simp) rfl
    exact⟨h1,by rw[hne this];exact h2⟩
 |it r'=>
  obtain⟨h1,h2⟩:=h;cases top with
  |false=>
   simp only[At.kill];split
   ·exact absurd ‹false=true› (by simp)
   ·exact⟨h1,by rw[lg _ rfl];exact h2⟩
  |true=>
   simp only[At.kill];split
   ·trivial
   ·rename_i hm;have:r'≠r:=fun e=>by subst e;exact hm (by simp) rfl
    exact⟨h1,by rw[hne this];exact h2⟩
 |yl r'=>
  obtain⟨h1,h2⟩:=h;cases top with
  |false=>
   simp only[At.kill];split
   ·exact absurd ‹false=true› (by simp)
   ·exact⟨h1,by rw[lg _ rfl];exact h2⟩
  |true=>
   simp only[At.kill];split
   ·trivial
   ·rename_i hm;have:r'≠r:=fun e=>by subst e;exact hm (by simp) rfl
    exact⟨h1,by rw[hne this];exact h2⟩
 |_=>exact h
theorem C1.dJ {N r:Nat} {η:Path->RI} {top:Bool} (ht:top=false->η []=ρ r []) {x:C1} {y:Value} (h:x.ok N ρ y):(x.mapA (At.kill top true r)).ok N (aE ρ r η) y:=by
 cases x with
 |a x=>exact At.dJ ht h
 |agg l=>obtain⟨ys,h1,h2⟩:=h;exact⟨ys,h1,aam (fun _ _ h=>At.dJ ht h) h2⟩
theorem Tm.dJ {N r:Nat} {η:Path->RI} {top:Bool} (ht:top=false->η []=ρ r []) {x:Tm} {y:Value} (h:x.ok N ρ y):(x.mapA (At.kill top true r)).ok N (aE ρ r η) y:=by
 cases x with
 |a x=>exact At.dJ ht h
 |agg l=>obtain⟨ys,h1,h2⟩:=h;exact⟨ys,h1,aam (fun _ _ h=>At.dJ ht h) h2⟩
 |bF l=>obtain⟨ys,h1,h2⟩:=h;exact⟨ys,h1,aam (fun _ _ h=>C1.dJ ht h) h2⟩
theorem Sl.dJ {N r:Nat} {η:Path->RI} {top:Bool} (ht:top=false->η []=ρ r []) {s:Sl} {xs:Array Value} (h:s.ok N ρ xs):(s.map (At.kill top true r)).ok N (aE ρ r η) xs:=
 ⟨h.n,fun i=>by
   show((s.t.map _).get i).ok _ _ _;rw[Tr.get_map rfl];exact Tm.dJ ht (h.h i)⟩
theorem rC {N r:Nat} {η:Path->RI} {top:Bool} (ht:top=false->η []=ρ r []):∀ {fr:List Sl} {vs:List (Array Value)},be (Sl.ok N ρ) fr vs->be (Sl.ok N (aE ρ r η)) (fr.map (Sl.map (At.kill top true r))) vs
 |[],[],_=>trivial
 |_::_,_::_,h=>⟨Sl.dJ ht h.1,rC ht h.2⟩
theorem gX {r:Nat} {g:az} {π:Path} {o:Bool} {B':aD0} {top:Bool} (h:(g.mapA (At.kill top true r)).has π o B'):∃ B,g.has π o B/\
 (∀ N (η:Path->RI) r' w',(top=false->η []=ρ r [])->r'≠r->B.aA N ρ r' π w'->B'.aA N (aE ρ r η) r' π w')/\(∀ w' I,B.mine M w0 w' I->B'.mine M w0 w' I):=by
 cases g with
 |box ow l=>
  obtain⟨rfl,rfl,rfl⟩:=h;refine⟨.box l,⟨rfl,rfl,rfl⟩,fun N η r' w' ht hne hl=>?_,fun _ _ hh=>hh⟩
  have e:aE ρ r η r'=ρ r':=by simp[aE,hne]
  obtain⟨_,h1,h2,h3⟩:=hl;refine⟨rfl,by rw[e];exact h1,by rw[e];exact h2,fun j x hx=>?_⟩
  simp only[List.getElem?_map,Option.map_eq_some_iff]at hx;obtain⟨x',hx',rfl⟩:=hx;obtain⟨y,hy,hc⟩:=h3 j x' hx';exact⟨y,At.dJ ht hy,by rw[e];exact hc⟩
 |arr te tg xs ow i=>
  obtain⟨hf,A,hA,rfl⟩:=h;refine⟨.arr A,⟨hf,A,hA,rfl⟩,fun N η r' w' _ hne hl=>?_,fun _ _ hh=>hh⟩
  have e:aE ρ r η r'=ρ r':=by simp[aE,hne]
  show Ar.aA w' (aE ρ r η r') π A;rw[e];exact hl
 |dead=>exact h.elim
 |map t k c es ow=>
  obtain⟨rfl,rfl,rfl⟩:=h;refine⟨.map k c es,⟨rfl,rfl,rfl⟩,fun N η r' w' _ hne hl=>?_,fun _ _ hh=>hh⟩
  have e:aE ρ r η r'=ρ r':=by simp[aE,hne]
  obtain⟨_,h1,h2⟩:=hl;exact⟨rfl,by rw[e];exact h1,by rw[e];exact h2⟩
 |bH t kk e tg es ow i=>
  rcases h with⟨rfl,rfl,rfl⟩|⟨j,rfl,rfl,hj,hf,rfl⟩
  ·refine⟨_,.inl ⟨rfl,rfl,rfl⟩,fun N η r' w' _ hne hl=>?_,fun _ _ hh=>hh⟩
   have e:aE ρ r η r'=ρ r':=by simp[aE,hne]
   obtain⟨_,h1,h2⟩:=hl;exact⟨rfl,by rw[e];exact h1,by rw[e];exact h2⟩
  ·refine⟨_,.inr ⟨j,rfl,rfl,hj,hf,rfl⟩,fun N η r' w' _ hne hl=>?_,fun _ _ hh=>hh⟩
   have e:aE ρ r η r'=ρ r':=by simp[aE,hne]
   show Ar.aA w' (aE ρ r η r') _ _;rw[e];exact hl
 |iter m n l=>
  cases m with
  |none=>
   obtain⟨rfl,rfl,rfl⟩:=h;refine⟨.it none n l,⟨rfl,rfl,rfl⟩,fun N η r' w' _ hne hl=>?_,fun _ _ hh=>hh⟩
   have e:aE ρ r η r'=ρ r':=by simp[aE,hne]
   obtain⟨_,h1,h2,h3⟩:=hl;exact⟨rfl,by rw[e];exact h1,h2,by rw[e];exact h3⟩
  |some m=>
   simp only[az.mapA,At.kill]at h;split at h
   ·rename_i hm;split at hm
    ·cases hm
    ·rename_i hk;injection hm with hm;subst hm;obtain⟨rfl,rfl,rfl⟩:=h;refine⟨.it (some m) n l,⟨rfl,rfl,rfl⟩,fun N η r' w' ht hne hl=>?_,fun _ _ hh=>hh⟩
     have e:aE ρ r η r'=ρ r':=by simp[aE,hne]
     have e':aE ρ r η m []=ρ m []:=by
      by_cases hmr:m=r
      ·subst hmr;rw[aF];refine ht ?_;exact Bool.eq_false_iff.2 (fun hh=>hk (by simp) hh)
      ·simp[aE,hmr]
     obtain⟨_,h1,h2,h3⟩:=hl;exact⟨rfl,by rw[e];exact h1,h2,by rw[e];simp only[Option.map_some]at h3 ⊢;rw[e'];exact h3⟩
   ·exact h.elim
 |lp b s L q j=>
  obtain⟨rfl,rfl,rfl⟩:=h;refine⟨.lp b s L q j,⟨rfl,rfl,rfl⟩,fun N η r' w' ht hne hl=>?_,fun _ _ hh=>hh⟩
  have e:aE ρ r η r'=ρ r':=by simp[aE,hne]
  obtain⟨_,h1,h2,h3,h4⟩:=hl;exact⟨rfl,by rw[e];exact h1,Sl.dJ ht h2,by rw[e];exact h3,by rw[e];exact h4⟩
theorem CK.aA.tail {η bU:Path->RI} {p p' σ:Path} {i j:Nat} (he:∀ τ,bU (τ++p')=η (τ++p)):∀ {c:CK} {x:c.ty} {y:Value},c.aA η (σ++p) i j x y->c.aA bU (σ++p') i j x y
 | .int _,_,_,h=>h
 | .bool,_,_,h=>h
 | .str,_,_,h=>h
 | .sl _ _,_,_,h=>by
   show RI.head (bU ((i,j)::(σ++p'))) 0 _ _;rw[<-List.cons_append,he];exact h
theorem ai.aA.tail {η bU:Path->RI} {p p' σ:Path} {i:Nat} (he:∀ τ,bU (τ++p')=η (τ++p)):∀ {tg:List CK} {j:Nat} {x:ai tg} {ys:List Value},ai.aA η (σ++p) i j tg x ys->ai.aA bU (σ++p') i j tg x ys
 |[],_,_,_,h=>h
 |[c],_,_,_,h=>by obtain⟨y,h1,h2⟩:=h;exact⟨y,h1,h2.tail he⟩
 |c::c'::cs,_,_,_,h=>by obtain⟨y,ys',h1,h2,h3⟩:=h;exact⟨y,ys',h1,h2.tail he,h3.tail (tg:=c'::cs) he⟩
theorem Ar.aA.tail {η bU:Path->RI} {p p' σ:Path} {A:Ar} (he:∀ τ,bU (τ++p')=η (τ++p)) (h:A.aA w η (σ++p)):A.aA w bU (σ++p') where
 tg:=h.tg
 m:=by rw[he];exact h.m
 aC:=by rw[he];exact h.aC
 len:=by rw[he];exact h.len
 cell:=fun i hi=>by
  obtain⟨ys,h1,h2⟩:=h.cell i hi;exact⟨ys,h1.tail he,fun s y hy=>by rw[he];exact h2 s y hy⟩
theorem ai.aA.move {η bU:Path->RI} {π aW:Path} {i i':Nat}:∀ {tg:List CK} {j:Nat} {x:ai tg} {ys:List Value},(∀ s,s<tg.length->bU ((i',j+s)::aW)=η ((i,j+s)::π))->ai.aA η π i j tg x ys->ai.aA bU aW i' j tg x ys:=by
 have one:∀ {c:CK} {j:Nat} {x:c.ty} {y:Value},bU ((i',j)::aW)=η ((i,j)::π)->c.aA η π i j x y->c.aA bU aW i' j x y:=by
  intro c j x y he h;cases c with
  |sl e t=>show RI.head (bU ((i',j)::aW)) 0 _ _;rw[he];exact h
  |_=>exact h
 intro tg;induction tg with
 |nil=>intro j x ys _ h;exact h
 |cons c cs ih=>
  intro j x ys he h;have h0:=he 0 (by simp)
  rw[Nat.add_zero]at h0;cases cs with
  |nil=>obtain⟨y,h1,h2⟩:=h;exact⟨y,h1,one h0 h2⟩
  |cons c' cs=>
   obtain⟨y,ys',h1,h2,h3⟩:=h;exact⟨y,ys',h1,one h0 h2,ih (fun s hs=>by have:=he (s+1) (by simpa using hs);rw[show j+1+s=j+(s+1) by omega];exact this) h3⟩
theorem Rel.wU (h:Rel Γ M w0 ρ st vs a w) {r r2:Nat} {e:TypeId} {tg:List CK} {xs xs':List (ai tg)} {akl gV top:Bool} {g2:az}
 (hr:st.rg[r]?=some (.arr e tg xs true akl)) (aBB:st.rg[r2]?=some g2) (QB:r≠r2) {w':World} (hf:Frame M w0 w')
 (hs:w.heap.size<=w'.heap.size) (hsame:∀ b,b<w.heap.size->((ρ r []).aC=true\/b≠(ρ r []).b)->w'.heap[b]?=w.heap[b]?) {I:RI} (QG:top=false->I=ρ r []) {src:Nat->Nat->Nat×Path}
 (hsrc:∀ i j C,i<xs'.length->ai.sub tg (xs'.getD i (ai.d tg)) j=some C->∃ g f,st.rg[(src i j).1]?=some g/\(((src i j).1=r/\(src i j).2≠[])\/(src i j).1=r2)/\(gV=true->f=true)/\∀ σ D,C.has σ D->g.has (σ++(src i j).2) f (.arr D))
 (hinj:∀ i j i' j' C C',i<xs'.length->i'<xs'.length->ai.sub tg (xs'.getD i (ai.d tg)) j=some C->ai.sub tg (xs'.getD i' (ai.d tg)) j'=some C'->(src i j).1=(src i' j').1->
   ∀ σ σ',σ++(src i j).2=σ'++(src i' j').2->i=i'/\j=j'/\σ=σ')
 (ci:tg≠[]) (hm:I.m=tg.length) (O8:I.aC=true->xs'=[]) (hcap:I.aC=false->xs'.length<=I.cap)
 (hcell:∀ i,i<xs'.length->∃ ys,ai.aA (Go.Sy.gl I fun i j σ=>ρ (src i j).1 (σ++(src i j).2)) [] i 0 tg (xs'.getD i (ai.d tg)) ys/\∀ s y,ys[s]?=some y->w'.cell? (I.at (i*I.m+s))=some y)
 (hlt:I.aC=false->I.b<w'.heap.size) (aah:I.aC=false->bY M w0 w' I/\Whole w' I e) (hI:I.aC=false->w.heap.size<=I.b\/((ρ r []).aC=false/\I.b=(ρ r []).b)):
 Rel Γ M w0 (aE ρ r (Go.Sy.gl I fun i j σ=>ρ (src i j).1 (σ++(src i j).2))) (((st.aBZ r2 .dead).map (At.kill top true r)).aBZ r (.arr e tg xs' true gV)) vs a w':=by
 generalize lT:(Go.Sy.gl I fun i j σ=>ρ (src i j).1 (σ++(src i j).2))=η at hcell ⊢
 have fC:η []=I:=by rw[<-lT];rfl
 have KP:∀ σ i j,η (σ++[(i,j)])=ρ (src i j).1 (σ++(src i j).2):=fun σ i j=>by rw[<-lT,fJ]
 have ht:top=false->η []=ρ r []:=fun h0=>by rw[fC];exact QG h0
 have Ja:r<st.rg.length:=fh hr;have hB:(az.arr e tg xs true akl).has [] true (.arr ⟨e,tg,xs⟩):=⟨rfl,_,rfl,rfl⟩;have hlen:(((st.aBZ r2 .dead).map (At.kill top true r)).aBZ r (.arr e tg xs' true gV)).rg.length=st.rg.length:=by simp[St.aBZ,St.map]
 have old:(ρ r []).aC=false->bY M w0 w (ρ r []):=fun hv=>(h.rs.own r _ [] _ hr hB hv).1
 have get:∀ (r1:Nat) (g1:az),(((st.aBZ r2 .dead).map (At.kill top true r)).aBZ r (.arr e tg xs' true gV)).rg[r1]?=some g1->
  (r1=r/\g1= .arr e tg xs' true gV)\/(r1≠r/\r1=r2/\g1= .dead)\/(r1≠r/\r1≠r2/\∃ g0,st.rg[r1]?=some g0/\g1=g0.mapA (At.kill top true r)):=by
  intro r1 g1 h1;rcases cF (l:=((st.aBZ r2 .dead).map (At.kill top true r)).rg) h1 with⟨rfl,rfl,_⟩|⟨hne,h1⟩
  ·exact .inl ⟨rfl,rfl⟩
  ·simp only[St.map,List.getElem?_map,Option.map_eq_some_iff]at h1;obtain⟨g0,h1,h2⟩:=h1;rcases cF (l:=st.rg) h1 with⟨rfl,rfl,_⟩|⟨aBA,h1⟩
   ·exact .inr (.inl ⟨hne,rfl,h2.symm⟩)
   ·exact .inr (.inr ⟨hne,aBA,g0,h1,h2.symm⟩)
 have hne:∀ {r'},r'≠r->aE ρ r η r'=ρ r':=fun hh=>by simp[aE,hh]
 have stay:∀ (r1:Nat) (g0:az) π o B,¬(r1=r/\π=[])->st.rg[r1]?=some g0->g0.has π o B->(ρ r1 π).aC=false->w'.heap[(ρ r1 π).b]?=w.heap[(ρ r1 π).b]?/\(I.aC=false->I.b≠(ρ r1 π).b):=by
  intro r1 g0 π o B hn h1 h2 hv;have hl:=h.rs.lt r1 g0 π o B h1 h2 hv;have hd:(ρ r []).aC=true\/(ρ r1 π).b≠(ρ r []).b:=by
   cases gU:(ρ r []).aC with
   |true=>exact .inl rfl
   |false=>exact .inr fun e=>h.rs.dj r r1 _ g0 [] π o _ B hr h1 hB h2 gU hv (fun e'=>hn ⟨e'.1.symm,e'.2.symm⟩) e.symm
  refine⟨hsame _ hl hd,fun M9 e=>?_⟩
  rcases hI M9 with hI|⟨h3,h4⟩
  ·omega
  ·rcases hd with hd|hd
   ·rw[h3]at hd;cases hd
   ·exact hd (e.symm.trans h4)
 have deep:∀ (σ:Path) (i j:Nat) (D:Ar),Ar.has ⟨e,tg,xs'⟩ (σ++[(i,j)]) D->∃ C g f,i<xs'.length/\ai.sub tg (xs'.getD i (ai.d tg)) j=some C/\C.has σ D/\st.rg[(src i j).1]?=some g/\(gV=true->f=true)/\
  g.has (σ++(src i j).2) f (.arr D)/\¬((src i j).1=r/\σ++(src i j).2=[])/\((src i j).1=r\/(src i j).1=r2):=by
  intro σ i j D hD;obtain⟨C,h1,h2,h3⟩:=dH.1 hD;obtain⟨g,f,k1,k2,k3,k4⟩:=hsrc i j C h1 h2;refine⟨C,g,f,h1,h2,h3,k1,k3,k4 σ D h3,fun hh=>?_,?_⟩
  ·rcases k2 with⟨_,k2⟩|k2
   ·exact k2 (List.append_eq_nil_iff.1 hh.2).2
   ·exact QB (hh.1.symm.trans k2)
  ·rcases k2 with⟨k2,_⟩|k2
   ·exact .inl k2
   ·exact .inr k2
 refine⟨?_,?_,h.df,?_,hf,Γ.st _ _ h.gl fun b hb=>hsame b (Nat.lt_of_lt_of_le (h.gn b hb).2 h.bl.size) ?_,h.gn⟩
 ·rw[hlen];exact Sl.dJ ht h.tm
 ·rw[hlen];exact rC ht h.fr
 ·rw[hlen];refine⟨fun r1 g1 π o B h1 h2=>?_,fun r1 g1 π o B h1 h2 hv=>?_,fun r1 g1 π B h1 h2 hv=>?_,fun r1 D3 g1 Q1 π aW o' B B' h1 h2 k1 k2 v1 v2 hn=>?_⟩
  ·rcases get r1 g1 h1 with⟨rfl,rfl⟩|⟨_,_,rfl⟩|⟨hn,_,g0,p1,rfl⟩
   ·obtain⟨_,A,hA,rfl⟩:=h2;show Ar.aA w' (aE ρ r1 η r1) π A;rw[aF];rcases de π with rfl|⟨σ,i,j,rfl⟩
    ·obtain rfl:A=⟨e,tg,xs'⟩:=hA;exact⟨ci,by rw[fC];exact hm,by rw[fC];exact O8,by rw[fC];exact hcap,fun i hi=>by
      obtain⟨ys,c1,c2⟩:=hcell i hi;exact⟨ys,c1,fun s y hy=>by rw[fC];exact c2 s y hy⟩⟩
    ·obtain⟨C,g,f,d1,d2,d3,d4,d5,d6,d7,_⟩:=deep σ i j A hA;have hl:A.aA w (ρ (src i j).1) (σ++(src i j).2):=h.rs.blk _ g _ f (.arr A) d4 d6;have hl':A.aA w' (ρ (src i j).1) (σ++(src i j).2):=hl.cX (fun _=>rfl) (fun hv=>(stay _ g _ f (.arr A) d7 d4 d6 hv).1)
     exact hl'.tail (fun τ=>KP τ i j)
   ·exact h2.elim
   ·obtain⟨B0,b1,b2,_⟩:=gX (ρ:=ρ) (M:=M) (w0:=w0) h2;refine b2 _ _ r1 w' ht hn ?_;exact(h.rs.blk r1 g0 π o B0 p1 b1).cX (fun _=>rfl) (Nat.le_refl _) (fun _ _ _=>rfl) (fun hv=>(stay r1 g0 π o B0 (fun hh=>hn hh.1) p1 b1 hv).1)
  ·rcases get r1 g1 h1 with⟨rfl,rfl⟩|⟨_,_,rfl⟩|⟨hn,_,g0,p1,rfl⟩
   ·rw[aF]at hv ⊢;obtain⟨_,A,hA,rfl⟩:=h2;rcases de π with rfl|⟨σ,i,j,rfl⟩
    ·rw[fC]at hv ⊢;exact hlt hv
    ·obtain⟨C,g,f,d1,d2,d3,d4,d5,d6,d7,_⟩:=deep σ i j A hA;rw[KP]at hv ⊢;exact Nat.lt_of_lt_of_le (h.rs.lt _ g _ f (.arr A) d4 d6 hv) hs
   ·exact h2.elim
   ·obtain⟨B0,b1,_,_⟩:=gX (ρ:=ρ) (M:=M) (w0:=w0) h2;rw[hne hn]at hv ⊢;exact Nat.lt_of_lt_of_le (h.rs.lt r1 g0 π o B0 p1 b1 hv) hs
  ·rcases get r1 g1 h1 with⟨rfl,rfl⟩|⟨_,_,rfl⟩|⟨hn,_,g0,p1,rfl⟩
   ·rw[aF]at hv ⊢;obtain⟨ho,A,hA,rfl⟩:=h2;rcases de π with rfl|⟨σ,i,j,rfl⟩
    ·obtain rfl:A=⟨e,tg,xs'⟩:=hA;rw[fC]at hv ⊢;exact aah hv
    ·obtain⟨C,g,f,d1,d2,d3,d4,d5,d6,d7,_⟩:=deep σ i j A hA;rw[KP]at hv ⊢;have I9:gV=true:=by cases σ<;>exact ho.symm
     obtain rfl:=d5 I9;exact(h.rs.own _ g _ (.arr A) d4 d6 hv).cX (stay _ g _ true (.arr A) d7 d4 d6 hv).1
   ·exact h2.elim
   ·obtain⟨B0,b1,_,b3⟩:=gX (ρ:=ρ) (M:=M) (w0:=w0) h2;rw[hne hn]at hv ⊢;exact b3 _ _ ((h.rs.own r1 g0 π B0 p1 b1 hv).cX (stay r1 g0 π true B0 (fun hh=>hn hh.1) p1 b1 hv).1)
  ·
   have spot:∀ (r1:Nat) (g1:az) π o B,(((st.aBZ r2 .dead).map (At.kill top true r)).aBZ r (.arr e tg xs' true gV)).rg[r1]?=some g1->g1.has π o B->(aE ρ r η r1 π).aC=false->
    (r1=r/\π=[]/\aE ρ r η r1 π=I)\/∃ rs g lJ f B0,st.rg[rs]?=some g/\g.has lJ f B0/\(o=true->f=true)/\aE ρ r η r1 π=ρ rs lJ/\¬(rs=r/\lJ=[])/\
      ((r1≠r/\r1≠r2/\rs=r1/\lJ=π)\/(r1=r/\(rs=r\/rs=r2)/\∃ σ i j C,π=σ++[(i,j)]/\i<xs'.length/\ai.sub tg (xs'.getD i (ai.d tg)) j=some C/\rs=(src i j).1/\lJ=σ++(src i j).2)):=by
    intro r1 g1 π o B h1 h2 hv;rcases get r1 g1 h1 with⟨rfl,rfl⟩|⟨_,_,rfl⟩|⟨hn,hn',g0,p1,rfl⟩
    ·obtain⟨ho,A,hA,rfl⟩:=h2;rw[aF];rcases de π with rfl|⟨σ,i,j,rfl⟩
     ·exact .inl ⟨rfl,rfl,fC⟩
     ·obtain⟨C,g,f,d1,d2,d3,d4,d5,d6,d7,d8⟩:=deep σ i j A hA;refine .inr ⟨_,g,_,f,_,d4,d6,fun h0=>d5 ?_,KP σ i j,d7,.inr ⟨rfl,d8,σ,i,j,C,rfl,d1,d2,rfl,rfl⟩⟩
      rw[h0]at ho;cases σ<;>exact ho.symm
    ·exact h2.elim
    ·obtain⟨B0,b1,_,_⟩:=gX (ρ:=ρ) (M:=M) (w0:=w0) h2;exact .inr ⟨r1,g0,π,o,B0,p1,b1,id,by rw[hne hn],fun hh=>hn hh.1,.inl ⟨hn,hn',rfl,rfl⟩⟩
   have s1:=spot r1 g1 π true B h1 k1 v1;have s2:=spot D3 Q1 aW o' B' h2 k2 v2;rcases s1 with⟨e1,e2,e3⟩|⟨rs,g,lJ,f,B0,p1,p2,p3,p4,p5,p6⟩<;>rcases s2 with⟨f1,f2,f3⟩|⟨KB,g',FI,f',JW,q1,q2,q3,q4,q5,q6⟩
   ·exact absurd ⟨e1.trans f1.symm,e2.trans f2.symm⟩ hn
   ·rw[e3]at v1 ⊢;rw[q4]at v2 ⊢;exact(stay KB g' FI f' JW q5 q1 q2 v2).2 v1
   ·rw[f3]at v2 ⊢;rw[p4]at v1 ⊢;exact((stay rs g lJ f B0 p5 p1 p2 v1).2 v2).symm
   ·rw[p4]at v1 ⊢;rw[q4]at v2 ⊢;obtain rfl:=p3 rfl;refine h.rs.dj rs KB g g' lJ FI f' B0 JW p1 q1 p2 q2 v1 v2 ?_;rintro⟨rfl,rfl⟩;rcases p6 with⟨a1,a2,a3,a4⟩|⟨a1,a2,σ,i,j,C,a3,a4,a5,a6,a7⟩<;>rcases q6 with⟨b1,b2,b3,b4⟩|⟨b1,b2,σ',i',j',C',b3,b4,b5,b6,b7⟩
    ·exact hn ⟨a3.symm.trans b3,a4.symm.trans b4⟩
    ·rcases b2 with b2|b2
     ·exact a1 (a3.symm.trans b2)
     ·exact a2 (a3.symm.trans b2)
    ·rcases a2 with a2|a2
     ·exact b1 (b3.symm.trans a2)
     ·exact b2 (b3.symm.trans a2)
    ·obtain⟨c1,c2,c3⟩:=hinj i j i' j' C C' a4 b4 a5 b5 (a6.symm.trans b6) σ σ' (a7.symm.trans b7);subst c1 c2 c3;exact hn ⟨a1.trans b1.symm,a3.trans b3.symm⟩
 ·cases hv:(ρ r []).aC with
  |true=>exact .inl rfl
  |false=>
   have:=h.gn b hb;refine .inr fun e=>?_
   subst e;rcases(old hv).own with ho|ho
   ·exact this.1 ho
   ·omega
end
end Go.Sy
end
section
namespace Go.Sy
open Go Go.RowKit
universe u
section
variable {P:Program} {Γ:bn} {E:Env} {M:Nat->Prop} {w0:World} {ρ:Keys} {st:St} {vs:Fv} {a:Act} {w:World}
theorem HF {η:Path->RI} {π:Path} {i:Nat}:∀ {tg:List CK} {j:Nat} {x:ai tg} {ys:List Value},ai.aA η π i j tg x ys->∀ y∈ys,y.oneCell'=true:=by
 have one:∀ {c:CK} {j:Nat} {x:c.ty} {y:Value},c.aA η π i j x y->y.oneCell'=true:=fun{c} _ _ _ h=>by
  cases c with
  |int=>obtain rfl:=show _=_ from h;rfl
  |bool=>obtain rfl:=show _=_ from h;rfl
  |str=>obtain rfl:=show _=_ from h;rfl
  |sl=>obtain⟨ad,c,rfl,_⟩:=jj (show RI.head _ _ _ _ from h);rfl
 intro tg;induction tg with
 |nil=>intro j x ys h y hy;have h:ys=[]:=h;subst h;simp at hy
 |cons c cs ih=>
  intro j x ys h;cases cs with
  |nil=>obtain⟨y,rfl,h2⟩:=h;intro z hz;simp at hz;subst hz;exact one h2
  |cons c' cs=>
   obtain⟨y,ys',rfl,h2,h3⟩:=h;intro z hz;rcases List.mem_cons.1 hz with rfl|hz
   ·exact one h2
   ·exact ih h3 z hz
theorem tD {η:Path->RI} {π:Path} {A:Ar} (h:A.aA w η π) (lo:Nat):∀ N,lo+N<=A.xs.length->∃ a8:List Value,a8.length=N*A.tg.length/\(∀ j v,a8[j]?=some v->w.cell? ((η π).at (lo*A.tg.length+j))=some v)/\
 (∀ i,i<N->∃ ys,ai.aA η π (lo+i) 0 A.tg (A.get (lo+i)) ys/\∀ s,s<A.tg.length->a8[i*A.tg.length+s]?=ys[s]?)/\∀ v∈a8,v.oneCell'=true
 |0,_=>⟨[],by simp,by simp,by simp,by simp⟩
 |N+1,hN=>by
  obtain⟨a8,h1,h2,h3,h4⟩:=tD h lo N (by omega)
  obtain⟨ys,h5,h6⟩:=h.cell (lo+N) (by omega)
  have hy:=bL h5;refine⟨a8++ys,by rw[List.length_append,h1,hy,Nat.add_mul,Nat.one_mul],fun j v hv=>?_,fun i hi=>?_,fun v hv=>?_⟩
  ·rcases Nat.lt_or_ge j a8.length with hl|hl
   ·rw[List.getElem?_append_left hl]at hv;exact h2 j v hv
   ·rw[List.getElem?_append_right hl]at hv;have:=h6 _ v hv;rw[h.m,h1,Nat.add_mul]at this;rw[show lo*A.tg.length+N*A.tg.length+(j-N*A.tg.length)=lo*A.tg.length+j by omega]at this
    exact this
  ·rcases Nat.lt_or_ge i N with hl|hl
   ·obtain⟨zs,z1,z2⟩:=h3 i hl;refine⟨zs,z1,fun s hs=>?_⟩
    rw[List.getElem?_append_left,z2 s hs];rw[h1];have:(i+1)*A.tg.length<=N*A.tg.length:=Nat.mul_le_mul_right _ hl;rw[Nat.add_mul]at this;omega
   ·obtain rfl:i=N:=by omega
    refine⟨ys,h5,fun s hs=>?_⟩
    rw[List.getElem?_append_right (by omega),h1,Nat.add_sub_cancel_left]
  ·rcases List.mem_append.1 hv with hv|hv
   ·exact h4 v hv
   ·exact HF h5 v hv
structure FJ (M:Nat->Prop) (w0 w w':World) (I0 I:RI) (e:TypeId) (m k n:Nat) (C:Nat->List Value->Prop) (v:Value):Prop where
 head:I.head 0 (k+n) v
 hm:I.m=m
 aC:I.aC=true->k+n=0
 len:I.aC=false->k+n<=I.cap
 cell:∀ i,i<k+n->∃ ys,C i ys/\∀ s y,ys[s]?=some y->w'.cell? (I.at (i*m+s))=some y
 mine:I.aC=false->I.b<w'.heap.size/\bY M w0 w' I/\Whole w' I e
 fr:Frame M w0 w'
 size:w.heap.size<=w'.heap.size
 same:∀ b,b<w.heap.size->(I0.aC=true\/b≠I0.b)->w'.heap[b]?=w.heap[b]?
 at_:I.aC=false->w.heap.size<=I.b\/(I0.aC=false/\I.b=I0.b)
theorem nH (hE:bE P Γ E) {t ty e:TypeId} {m:Nat} (ht:E.ty t= .sl e m) {tg:List CK} (hD:E.kd e=some tg) {fC:Path->RI} {xs:List (ai tg)} {l k:Nat} {v0:Value}
 (h0:Ar.aA w fC [] ⟨e,tg,xs⟩) (hk:l+k=xs.length) (hs:(fC []).head l k v0) (hown:(fC []).aC=false->bY M w0 w (fC [])/\Whole w (fC []) e/\(fC []).b<w.heap.size)
 {Ck:Path->RI} {jr:Path} {dO:TypeId} {ys:List (ai tg)} {lo n:Nat} {vx:Value} (h2:Ar.aA w Ck jr ⟨dO,tg,ys⟩) (hx:(Ck jr).head lo n vx) (hn:lo+n<=ys.length) (hcap:(k+n)*tg.length<=gD) (hfr:Frame M w0 w):
 ∃ v w' I,(Builtin.append_ #[t,t] ty #[v0,vx]).run P w= .ok v w'/\FJ M w0 w w' (fC []) I e tg.length k n
  (fun i zs=>(i<k->ai.aA fC [] (l+i) 0 tg (Ar.get ⟨e,tg,xs⟩ (l+i)) zs)/\(k<=i->ai.aA Ck jr (lo+(i-k)) 0 tg (Ar.get ⟨dO,tg,ys⟩ (lo+(i-k))) zs)) v:=by
 obtain⟨hu,_,_⟩:=hE.aav ht;obtain⟨ci,⟨i,z,hi,hsz,hz,vj,hby⟩⟩:=hE.kd e tg hD;have hm:(P.info? e).map (·.size)=some tg.length:=by rw[hi];simp[hsz]
 have E3:0<tg.length:=List.length_pos_iff.2 ci;have akg:(fC []).m=tg.length:=h0.m;have M8:(Ck jr).m=tg.length:=h2.m;have QH:(fC []).aC=true->xs=[]:=h0.aC;have Sb:(fC []).aC=false->xs.length<=(fC []).cap:=h0.len;obtain⟨news,w1,w2,w3,w4⟩:=tD h2 lo n hn;obtain⟨olds,u1,u2,u3,u4⟩:=tD h0 l k (by simpa using Nat.le_of_eq hk)
 simp only at w1 w2 w3 u1 u2 u3;have jJ:n≠0->(Ck jr).aC=false:=fun h0=>by
  cases hh:(Ck jr).aC with
  |false=>rfl
  |true=>have:=(hx.1 hh).1;omega
 generalize fC []=I0 at*;generalize Ck jr=I2 at*;obtain⟨ad,c,rfl,hkc,AQ,s6⟩:=jj hs;obtain⟨bd,c2,rfl,hnc,NE,Jc⟩:=jj hx;rcases Nat.eq_zero_or_pos n with rfl|E4
 ·
  refine⟨_,w,I0.shift l,jR hu hm ad bd k c c2 hkc,?_,akg,fun hv=>?_,fun hv=>?_,fun i hi=>?_,fun hv=>?_,hfr,Nat.le_refl _,fun _ _ _=>rfl,fun hv=> .inr ⟨hv,rfl⟩⟩
  ·rw[Nat.add_zero];exact ph hs
  ·have:=QH hv;subst this;simp at hk;omega
  ·have:=(s6 hv).2.1;simp only[RI.shift];omega
  ·obtain⟨zs,z1,z2⟩:=u3 i (by omega)
   refine⟨zs,⟨fun _=>z1,fun hh=>by omega⟩,fun s y hy=>?_⟩
   have hs:s<tg.length:=by rw[<-bL z1];exact(List.getElem?_eq_some_iff.1 hy).1
   rw[RI.aar,akg];exact u2 _ y (by rw[z2 s hs];exact hy)
  ·obtain⟨o1,o2,o3⟩:=hown hv;exact⟨o3,⟨o1.own,o1.fz⟩,kN o2 (by have:=(s6 hv).2.1;omega)⟩
 ·
  have xY:I2.aC=false:=jJ (by omega)
  obtain⟨xS,QA,hbd⟩:=Jc xY;have hbd:=hbd (by omega)
  subst hbd;have hnews:∀ j v,news[j]?=some v->w.cell? ((I2.at (lo*I2.m)).add j)=some v:=fun j v hv=>by
   rw[RI.fF,M8];exact w2 j v hv
  have bytes:(k+n)*i.bytes<=140737488355328:=by
   have h1:(k+n)*i.bytes<=(k+n)*(32*tg.length):=Nat.mul_le_mul_left _ hby;have h2:(k+n)*(32*tg.length)=32*((k+n)*tg.length):=by rw[<-Nat.mul_assoc,Nat.mul_comm _ 32,Nat.mul_assoc]
   simp only[gD]at hcap;omega
  have hkn:k+n<=1099511627776:=Nat.le_trans (Nat.le_mul_of_pos_right _ E3) hcap;by_cases hroom:k+n<=c
  ·
   have gU:I0.aC=false:=by
    cases hh:I0.aC with
    |false=>rfl
    |true=>have:=(AQ hh).2;omega
   obtain⟨hc,hlc,had⟩:=s6 gU;have had:=had (by omega)
   subst had;obtain⟨o1,o2,o3⟩:=hown gU;have hmul:(l+(k+n))*tg.length<=I0.cap*tg.length:=Nat.mul_le_mul_right _ (by omega)
   have Qw:(l+(k+n))*tg.length=l*tg.length+k*tg.length+n*tg.length:=by rw[Nat.add_mul,Nat.add_mul];omega
   have hcell:∀ s,s<news.length->(w.cell? ⟨I0.b,I0.off+l*I0.m+k*tg.length+s,none⟩).isSome=true:=fun s hs=>vW o2 (by rw[akg];rw[w1]at hs;omega)
   have hrun:=pZ (P:=P) (w:=w) (ty:=ty) hu hm I0.b (I0.off+l*I0.m) k c (I2.at (lo*I2.m)) n c2 news w1 hnews w4 hroom hcell o1.fz;refine⟨_,_,I0.shift l,by simpa only[RI.at]using hrun,?_,akg,fun hv=>?_,fun _=>?_,fun i hi=>?_,fun hv=>?_,fI o1.own _ _ hfr,by rw[dA];exact Nat.le_refl _,fun b hb hd=>gj _ _ _ _ _ ?_,fun hv=> .inr ⟨gU,rfl⟩⟩
   ·refine⟨fun hv=>(by simp only[RI.shift]at hv;rw[gU]at hv;cases hv),fun _=>⟨by simp only[RI.shift];omega,_,by simp only[RI.shift,Nat.sub_zero];rw[hc],fun _=>by simp[RI.shift,RI.at]⟩⟩
   ·simp only[RI.shift]at hv;rw[gU]at hv;cases hv
   ·simp only[RI.shift];omega
   ·by_cases aki:i<k
    ·obtain⟨zs,z1,z2⟩:=u3 i aki;refine⟨zs,⟨fun _=>z1,fun hh=>by omega⟩,fun s y hy=>?_⟩
     have hs:s<tg.length:=by rw[<-bL z1];exact(List.getElem?_eq_some_iff.1 hy).1
     rw[World.cell?_setCells_out]
     ·rw[RI.aar,akg];exact u2 _ y (by rw[z2 s hs];exact hy)
     ·intro _ _;have:(i+1)*tg.length<=k*tg.length:=Nat.mul_le_mul_right _ aki;rw[Nat.add_mul]at this;simp only[RI.shift,RI.at];omega
    ·obtain⟨zs,z1,z2⟩:=w3 (i-k) (by omega)
     refine⟨zs,⟨fun hh=>absurd hh aki,fun _=>z1⟩,fun s y hy=>?_⟩
     have hs:s<tg.length:=by rw[<-bL z1];exact(List.getElem?_eq_some_iff.1 hy).1
     have hlt:(i-k)*tg.length+s<news.length:=by
      have:=z2 s hs;rw[hy]at this;exact(List.getElem?_eq_some_iff.1 this).1
     have:=World.cell?_setCells_in I0.b news (I0.off+l*I0.m+k*tg.length) w hcell _ hlt;have e1:(I0.shift l).at (i*tg.length+s)=⟨I0.b,I0.off+l*I0.m+k*tg.length+((i-k)*tg.length+s),none⟩:=by
      have:i*tg.length=k*tg.length+(i-k)*tg.length:=by rw[<-Nat.add_mul];congr 1;omega
      simp only[RI.shift,RI.at]
      congr 1
      omega
     rw[e1,this,<-List.getElem?_eq_getElem hlt,z2 s hs];exact hy
   ·refine⟨by rw[dA];exact o3,⟨o1.own,fun j=>by rw[World.frozen?_setCells];exact o1.fz j⟩,kN (aB8 _ _ o2) (by omega)⟩
   ·rcases hd with hd|hd
    ·rw[gU]at hd;cases hd
    ·exact hd
  ·
   have hrun:∃ cp,k+n<=cp/\cp<=maxLen/\(Builtin.append_ #[t,t] ty #[.slice ad k c,.slice (some (I2.at (lo*I2.m))) n c2]).run P w=
    .ok (.slice (some ⟨w.heap.size,0,none⟩) (k+n) cp) (w.drew.alloc (.cells (olds++news++(Builtin.zeroCells z.cells (cp-(k+n))).toList).toArray e)):=by
    have nv:∀ old,grownCap w (k+n) old e<=maxLen:=fun old=>grownCap_le_maxLen w _ _ _ (Nat.le_trans hkn (Nat.le_of_ble_eq_true rfl))
    cases ad with
    |none=>
     have Nn:k=0/\c=0:=by
      cases hh:I0.aC with
      |true=>exact AQ hh
      |false=>
       obtain⟨g1,g2,g3⟩:=s6 hh;by_cases hlt:l<I0.cap
       ·have:=g3 hlt;cases this
       ·omega
     obtain⟨rfl,rfl⟩:=Nn;have hr:=run_append_nil (P:=P) w t ty e i z hu hi hz (I2.at (lo*I2.m)) n c2 news (by rw[w1,hsz]) hnews E4 (by omega) (by rw[Nat.zero_add]at bytes;omega)
     have ho:olds=[]:=List.eq_nil_of_length_eq_zero (by rw[u1];simp)
     refine⟨grownCap w n 0 e,by rw[Nat.zero_add];exact grownCap_ge w n 0 e,by have:=nv 0;rwa[Nat.zero_add]at this,?_⟩
     rw[hr,ho,Nat.zero_add]
     congr 3
     apply Array.ext';simp
    |some b=>
     have hr:=run_append_grow (P:=P) w t ty e i z hu hi hz b k c olds (by rw[u1,hsz]) (fun j v hv=>by
      have hk':0<k:=by
       rcases Nat.eq_zero_or_pos k with rfl|hk'
       ·have:=(List.getElem?_eq_some_iff.1 hv).1;rw[u1]at this;simp at this
       ·exact hk'
      have gU:I0.aC=false:=by
       cases hh:I0.aC with
       |false=>rfl
       |true=>have:=(AQ hh).1;omega
      obtain⟨g1,g2,g3⟩:=s6 gU;have:=g3 (by omega)
      obtain rfl:=Option.some.inj this;rw[RI.fF,akg];exact u2 j v hv) (I2.at (lo*I2.m)) n c2 news (by rw[w1,hsz]) hnews (by omega) (by omega) (growslice_fits (by omega) bytes)
     refine⟨grownCap w (k+n) c e,grownCap_ge w _ _ e,nv c,?_⟩;rw[hr]
     congr 3
     apply Array.ext';simp[List.append_assoc]
   obtain⟨cp,tJ,AG,hrun⟩:=hrun;have fU:Below w.heap.size w (w.drew.alloc (.cells (olds++news++(Builtin.zeroCells z.cells (cp-(k+n))).toList).toArray e)):=((Below.refl _ _).drew).alloc (Nat.le_refl _) _;have vk:z.cells.size=tg.length:=by
    have:=congrArg List.length vj;simpa[aay]using this
   have qP:∀ j,(w.drew.alloc (.cells (olds++news++(Builtin.zeroCells z.cells (cp-(k+n))).toList).toArray e)).cell? ⟨w.heap.size,j,none⟩=(olds++news++(Builtin.zeroCells z.cells (cp-(k+n))).toList)[j]?:=fun j=>gh (w:=w.drew) _ e j
   refine⟨_,_,⟨w.heap.size,0,tg.length,cp,false⟩,hrun,?_,rfl,fun hv=>(by cases hv),fun _=>tJ,fun i hi=>?_,fun _=>?_,hfr.below fU,fU.size,fun b hb _=>fU.block b hb,fun _=> .inl (Nat.le_refl _)⟩
   ·exact⟨fun hv=>(by cases hv),fun _=>⟨by rw[Nat.zero_add];exact tJ,_,rfl,fun _=>by simp[RI.at]⟩⟩
   ·by_cases aki:i<k
    ·obtain⟨zs,z1,z2⟩:=u3 i aki;refine⟨zs,⟨fun _=>z1,fun hh=>by omega⟩,fun s y hy=>?_⟩
     have hs:s<tg.length:=by rw[<-bL z1];exact(List.getElem?_eq_some_iff.1 hy).1
     simp only[RI.at,Nat.zero_add];have hg:=z2 s hs;rw[hy]at hg;rw[qP,List.append_assoc,List.getElem?_append_left (List.getElem?_eq_some_iff.1 hg).1];exact hg
    ·obtain⟨zs,z1,z2⟩:=w3 (i-k) (by omega)
     refine⟨zs,⟨fun hh=>absurd hh aki,fun _=>z1⟩,fun s y hy=>?_⟩
     have hs:s<tg.length:=by rw[<-bL z1];exact(List.getElem?_eq_some_iff.1 hy).1
     simp only[RI.at,Nat.zero_add];have hg:=z2 s hs;rw[hy]at hg;have e1:i*tg.length+s=olds.length+((i-k)*tg.length+s):=by
      have:i*tg.length=k*tg.length+(i-k)*tg.length:=by rw[<-Nat.add_mul];congr 1;omega
      rw[u1];omega
     rw[qP,List.append_assoc,e1,List.getElem?_append_right (by omega),Nat.add_sub_cancel_left,List.getElem?_append_left (List.getElem?_eq_some_iff.1 hg).1];exact hg
   ·have hheap:(w.drew.alloc (.cells (olds++news++(Builtin.zeroCells z.cells (cp-(k+n))).toList).toArray e)).heap[w.heap.size]?=some (.cells (olds++news++(Builtin.zeroCells z.cells (cp-(k+n))).toList).toArray e):=by
     show(w.heap.push _)[w.heap.size]?=_;simp
    refine⟨(Array.getElem?_eq_some_iff.1 hheap).1,⟨.inr hfr.size,fun j=>?_⟩,AG,_,hheap,?_⟩
    ·have qT:(w.drew.alloc (.cells (olds++news++(Builtin.zeroCells z.cells (cp-(k+n))).toList).toArray e)).heap[w.heap.size]?=_:=hheap;simp only[World.frozen?];rw[qT];simp
    show _=0+cp*tg.length;simp only[List.size_toArray,List.length_append,u1,w1,Array.length_toList,size_zeroCells,vk];rw[<-Nat.add_mul,<-Nat.add_mul,Nat.zero_add]
    congr 1
    omega
theorem iW {α:Type} {xs ys:List α} {d:α} {l k i:Nat} (hk:l+k=xs.length):(xs.drop l++ys).getD i d=if i<k then xs.getD (l+i) d else ys.getD (i-k) d:=by
 simp only[List.getD_eq_getElem?_getD];split
 ·rw[List.getElem?_append_left (by rw[List.length_drop];omega),List.getElem?_drop]
 ·rw[List.getElem?_append_right (by rw[List.length_drop];omega),List.length_drop];congr 2;omega
theorem zy (hE:bE P Γ E) (h:Rel Γ M w0 ρ st vs a w) {t ty e dO:TypeId} {m:Nat} (ht:E.ty t= .sl e m) {tg:List CK} (hD:E.kd e=some tg) {r r2 l k n:Nat} {xs ys:List (ai tg)} {akl:Bool}
 (hr:st.rg[r]?=some (.arr e tg xs true akl)) (aBB:st.rg[r2]?=some (.arr dO tg ys true true)) (hne:r≠r2) (hk:l+k=xs.length) {v0:Value} (hs:(ρ r []).head l k v0) {vx:Value}
 (hx:(ρ r2 []).head 0 n vx) (hn:n=ys.length) (hcap:(k+n)*tg.length<=gD):
 ∃ v w' ρ',(Builtin.append_ #[t,t] ty #[v0,vx]).run P w= .ok v w'/\Rel Γ M w0 ρ' (((st.aBZ r2 .dead).map (At.kill true true r)).aBZ r (.arr e tg (xs.drop l++ys) true akl)) vs a w'/\(ρ' r []).head 0 (k+n) v:=by
 obtain⟨ci,_⟩:=hE.kd e tg hD;have aBw:(az.arr e tg xs true akl).has [] true (.arr ⟨e,tg,xs⟩):=⟨rfl,_,rfl,rfl⟩;have zc:(az.arr dO tg ys true true).has [] true (.arr ⟨dO,tg,ys⟩):=⟨rfl,_,rfl,rfl⟩;have h0:Ar.aA w (ρ r) [] ⟨e,tg,xs⟩:=h.rs.blk r _ [] true _ hr aBw;have h2:Ar.aA w (ρ r2) [] ⟨dO,tg,ys⟩:=h.rs.blk r2 _ [] true _ aBB zc;obtain⟨v,w',I,hrun,hA⟩:=nH (ty:=ty) hE ht hD h0 hk hs (fun hv=>⟨(h.rs.own r _ [] _ hr aBw hv).1,(h.rs.own r _ [] _ hr aBw hv).2,h.rs.lt r _ [] true _ hr aBw hv⟩) h2 hx (by omega) hcap h.bl
 have hlen:(xs.drop l++ys).length=k+n:=by rw[List.length_append,List.length_drop];omega
 have sub:∀ i j C,ai.sub tg ((xs.drop l++ys).getD i (ai.d tg)) j=some C->(i<k/\ai.sub tg (xs.getD (l+i) (ai.d tg)) j=some C)\/(¬i<k/\ai.sub tg (ys.getD (i-k) (ai.d tg)) j=some C):=by
  intro i j C hC;rw[iW hk]at hC;split at hC
  ·exact .inl ⟨‹_›,hC⟩
  ·exact .inr ⟨‹_›,hC⟩
 refine⟨v,w',_,hrun,h.wU (src:=fun i j=>if i<k then(r,[(l+i,j)])else(r2,[(i-k,j)])) (I:=I) hr aBB hne hA.fr hA.size hA.same (fun hh=>by cases hh) ?_ ?_ ci hA.hm ?_ ?_ ?_ (fun hv=>(hA.mine hv).1) (fun hv=>(hA.mine hv).2) hA.at_,by rw[aF];exact hA.head⟩
 ·intro i j C hi hC;rw[hlen]at hi;rcases sub i j C hC with⟨aki,hC⟩|⟨aki,hC⟩
  ·simp only[if_pos aki];exact⟨_,akl,hr,.inl ⟨trivial,by simp⟩,id,fun σ D hD=>⟨by cases σ<;>rfl,D,dH.2 ⟨C,by simp only;omega,hC,hD⟩,rfl⟩⟩
  ·simp only[if_neg aki];exact⟨_,true,aBB,.inr trivial,fun _=>rfl,fun σ D hD=>⟨by cases σ<;>rfl,D,dH.2 ⟨C,by simp only;omega,hC,hD⟩,rfl⟩⟩
 ·intro i j i' j' C C' hi hi' hC hC' he σ σ' nA;have q8:∀ {p q:Nat×Nat} {σ σ':Path},σ++[p]=σ'++[q]->σ=σ'/\p=q:=fun hh=>by
   have:=List.append_inj' hh rfl;exact⟨this.1,by simpa using this.2⟩
  by_cases h1:i<k<;>by_cases h2:i'<k
  ·simp only[if_pos h1,if_pos h2]at nA;obtain⟨e1,e2⟩:=q8 nA;simp only[Prod.mk.injEq]at e2;exact⟨by omega,e2.2,e1⟩
  ·simp only[if_pos h1,if_neg h2]at he;exact absurd he hne
  ·simp only[if_neg h1,if_pos h2]at he;exact absurd he.symm hne
  ·simp only[if_neg h1,if_neg h2]at nA;obtain⟨e1,e2⟩:=q8 nA;simp only[Prod.mk.injEq]at e2;exact⟨by omega,e2.2,e1⟩
 ·intro hv;have:=hA.aC hv;exact List.eq_nil_of_length_eq_zero (by rw[hlen];exact this)
 ·intro hv;rw[hlen];exact hA.len hv
 ·intro i hi;rw[hlen]at hi;obtain⟨zs,⟨z1,z2⟩,z3⟩:=hA.cell i hi;refine⟨zs,?_,fun s y hy=>by rw[hA.hm];exact z3 s y hy⟩
  rw[iW hk];by_cases aki:i<k
  ·rw[if_pos aki];refine(z1 aki).move fun s _=>?_
   rw[show[(i,0+s)]=[]++[(i,0+s)]from rfl,fJ];simp only[if_pos aki];rfl
  ·rw[if_neg aki];have:=z2 (by omega)
   rw[Nat.zero_add]at this;refine this.move fun s _=>?_
   rw[show[(i,0+s)]=[]++[(i,0+s)]from rfl,fJ];simp only[if_neg aki];rfl
theorem l6 {te:TypeId} {tg:List CK} {xs:List (ai tg)} {π:Path} {B:aD0} (h:(az.arr te tg xs false false).has π true B):False:=by
 obtain⟨ho,_⟩:=h;revert ho;cases π<;>exact fun h=>by cases h
theorem Rel.Pp (h:Rel Γ M w0 ρ st vs a w) {r:Nat} {te:TypeId} {tg:List CK} {xs:List (ai tg)} (hr:st.rg[r]?=some (.arr te tg xs false false)):
 Rel Γ M w0 (aE ρ st.rg.length (ρ r)) (st.push [.arr te tg xs false false]) vs a w:=by
 have hlt:r<st.rg.length:=fh hr;have aA:∀ {π o B},(az.arr te tg xs false false).has π o B->B.aA (st.rg.length+1) (aE ρ st.rg.length (ρ r)) st.rg.length π w:=by
  intro π o B hB;have:=h.rs.blk r _ π o B hr hB;obtain⟨_,A,_,rfl⟩:=hB;show Ar.aA w (aE ρ st.rg.length (ρ r) st.rg.length) π A;rw[aF];exact this
 refine h.grow (Below.refl _ _) (fun r' hr' π=>by rw[bB hr']) ?_
 refine h.rs.snoc (Nat.le_succ _) (Nat.le_refl _) (fun π o B hB=>aA hB) (fun π o B hB hv=>h.rs.lt r _ π o B hr hB hv) (fun π B hB _=>(l6 hB).elim) (fun π B hB _=>(l6 hB).elim) (fun π o B hB hv r' g' aW B' h1 h2 v'=>?_) (fun π aW o' B B' hB=>(l6 hB).elim)
 refine h.rs.dj r' r g' _ aW π o B' B h1 hr h2 hB v' hv ?_;rintro⟨rfl,rfl⟩;rw[hr]at h1;obtain rfl:=Option.some.inj h1;exact l6 h2
theorem yF (hE:bE P Γ E) (h:Rel Γ M w0 ρ st vs a w) {t ty e dO:TypeId} {m:Nat} (ht:E.ty t= .sl e m) {tg:List CK} (hD:E.kd e=some tg) {r r2 l k lo n:Nat} {xs ys:List (ai tg)} {akl o2 i2:Bool}
 (hr:st.rg[r]?=some (.arr e tg xs true akl)) (aBB:st.rg[r2]?=some (.arr dO tg ys o2 i2)) (hne:r≠r2) (hk:l+k=xs.length) {v0:Value} (hs:(ρ r []).head l k v0) {vx:Value}
 (hx:(ρ r2 []).head lo n vx) (hn:lo+n<=ys.length) (hcap:(k+n)*tg.length<=gD):
 ∃ v w' ρ',(Builtin.append_ #[t,t] ty #[v0,vx]).run P w= .ok v w'/\Rel Γ M w0 ρ' ((((st.aBZ r2 (.arr dO tg ys false false)).push [.dead]).map (At.kill true true r)).aBZ r (.arr e tg (xs.drop l++(ys.drop lo).take n) true false)) vs a w'/\(ρ' r []).head 0 (k+n) v:=by
 obtain⟨ci,_⟩:=hE.kd e tg hD;have h1:Rel Γ M w0 ρ (st.aBZ r2 (az.arr dO tg ys o2 i2).frozen) vs a w:=⟨by simpa[St.aBZ]using h.tm,by simpa[St.aBZ]using h.fr,h.df,by simpa[St.aBZ]using h.rs.weaken aBB p9,h.bl,h.gl,h.gn⟩
 have aBy:(st.aBZ r2 (az.arr dO tg ys o2 i2).frozen).rg.length=st.rg.length:=by simp[St.aBZ]
 have Ny:=fh hr;have O5:=fh aBB;have s7:(st.aBZ r2 (az.arr dO tg ys o2 i2).frozen).rg[r]?=some (.arr e tg xs true akl):=by
  simp only[St.aBZ];rw[List.getElem?_set_ne (fun e=>hne e.symm)];exact hr
 have QE:(st.aBZ r2 (az.arr dO tg ys o2 i2).frozen).rg[r2]?=some (.arr dO tg ys false false):=by
  simp only[St.aBZ];rw[List.getElem?_set_self O5];rfl
 have h2:=h1.Pp QE;rw[aBy]at h2;have e3:(((st.aBZ r2 (.arr dO tg ys false false)).push [.dead]:St))=((((st.aBZ r2 (az.arr dO tg ys o2 i2).frozen).push [.arr dO tg ys false false]).aBZ st.rg.length .dead):St):=by
  simp[St.aBZ,St.push,az.frozen]
 rw[e3];have hr':((st.aBZ r2 (az.arr dO tg ys o2 i2).frozen).push [.arr dO tg ys false false]).rg[r]?=some (.arr e tg xs true akl):=by
  simp only[St.push];rw[List.getElem?_append_left (by rw[aBy];exact Ny)];exact s7
 have DI:((st.aBZ r2 (az.arr dO tg ys o2 i2).frozen).push [.arr dO tg ys false false]).rg[st.rg.length]?=some (.arr dO tg ys false false):=by
  simp only[St.push];rw[List.getElem?_append_right (by rw[aBy];exact Nat.le_refl _),aBy,Nat.sub_self];rfl
 have hs':(aE ρ st.rg.length (ρ r2) r []).head l k v0:=by rw[bB Ny];exact hs
 have hx':(aE ρ st.rg.length (ρ r2) st.rg.length []).head lo n vx:=by rw[aF];exact hx
 have aBA:r≠st.rg.length:=by omega
 generalize (st.aBZ r2 (az.arr dO tg ys o2 i2).frozen).push [.arr dO tg ys false false]=S at*;generalize aE ρ st.rg.length (ρ r2)=ρ at*;generalize st.rg.length=r3 at*;have aBw:(az.arr e tg xs true akl).has [] true (.arr ⟨e,tg,xs⟩):=⟨rfl,_,rfl,rfl⟩;have zc:(az.arr dO tg ys false false).has [] false (.arr ⟨dO,tg,ys⟩):=⟨rfl,_,rfl,rfl⟩;have h0:Ar.aA w (ρ r) [] ⟨e,tg,xs⟩:=h2.rs.blk r _ [] true _ hr' aBw;have h4:Ar.aA w (ρ r3) [] ⟨dO,tg,ys⟩:=h2.rs.blk r3 _ [] false _ DI zc;obtain⟨v,w',I,hrun,hA⟩:=nH (ty:=ty) hE ht hD h0 hk hs' (fun hv=>⟨(h2.rs.own r _ [] _ hr' aBw hv).1,(h2.rs.own r _ [] _ hr' aBw hv).2,h2.rs.lt r _ [] true _ hr' aBw hv⟩) h4 hx' hn hcap h2.bl
 have hlen:(xs.drop l++(ys.drop lo).take n).length=k+n:=by rw[List.length_append,List.length_drop,List.length_take,List.length_drop];omega
 have M6:∀ i,i<n->((ys.drop lo).take n).getD i (ai.d tg)=ys.getD (lo+i) (ai.d tg):=fun i hi=>by
  simp only[List.getD_eq_getElem?_getD];rw[List.getElem?_take_of_lt hi,List.getElem?_drop]
 have sub:∀ i j C,i<k+n->ai.sub tg ((xs.drop l++(ys.drop lo).take n).getD i (ai.d tg)) j=some C->(i<k/\ai.sub tg (xs.getD (l+i) (ai.d tg)) j=some C)\/(¬i<k/\ai.sub tg (ys.getD (lo+(i-k)) (ai.d tg)) j=some C):=by
  intro i j C hi hC;rw[iW hk]at hC;split at hC
  ·exact .inl ⟨‹_›,hC⟩
  ·rw[M6 _ (by omega)]at hC;exact .inr ⟨‹_›,hC⟩
 refine⟨v,w',_,hrun,h2.wU (src:=fun i j=>if i<k then(r,[(l+i,j)])else(r3,[(lo+(i-k),j)])) (I:=I) hr' DI aBA hA.fr hA.size hA.same (fun hh=>by cases hh) ?_ ?_ ci hA.hm ?_ ?_ ?_ (fun hv=>(hA.mine hv).1) (fun hv=>(hA.mine hv).2) hA.at_,by rw[aF];exact hA.head⟩
 ·intro i j C hi hC;rw[hlen]at hi;rcases sub i j C hi hC with⟨aki,hC⟩|⟨aki,hC⟩
  ·simp only[if_pos aki];exact⟨_,akl,hr',.inl ⟨trivial,by simp⟩,(fun h=>by cases h),fun σ D hD=>⟨by cases σ<;>rfl,D,dH.2 ⟨C,by simp only;omega,hC,hD⟩,rfl⟩⟩
  ·simp only[if_neg aki];exact⟨_,false,DI,.inr trivial,id,fun σ D hD=>⟨by cases σ<;>rfl,D,dH.2 ⟨C,by simp only;omega,hC,hD⟩,rfl⟩⟩
 ·intro i j i' j' C C' hi hi' hC hC' he σ σ' nA;have q8:∀ {p q:Nat×Nat} {σ σ':Path},σ++[p]=σ'++[q]->σ=σ'/\p=q:=fun hh=>by
   have:=List.append_inj' hh rfl;exact⟨this.1,by simpa using this.2⟩
  by_cases h1:i<k<;>by_cases h2:i'<k
  ·simp only[if_pos h1,if_pos h2]at nA;obtain⟨e1,e2⟩:=q8 nA;simp only[Prod.mk.injEq]at e2;exact⟨by omega,e2.2,e1⟩
  ·simp only[if_pos h1,if_neg h2]at he;exact absurd he aBA
  ·simp only[if_neg h1,if_pos h2]at he;exact absurd he.symm aBA
  ·simp only[if_neg h1,if_neg h2]at nA;obtain⟨e1,e2⟩:=q8 nA;simp only[Prod.mk.injEq]at e2;exact⟨by omega,e2.2,e1⟩
 ·intro hv;have:=hA.aC hv;exact List.eq_nil_of_length_eq_zero (by rw[hlen];exact this)
 ·intro hv;rw[hlen];exact hA.len hv
 ·intro i hi;rw[hlen]at hi;obtain⟨zs,⟨z1,z2⟩,z3⟩:=hA.cell i hi;refine⟨zs,?_,fun s y hy=>by rw[hA.hm];exact z3 s y hy⟩
  rw[iW hk];by_cases aki:i<k
  ·rw[if_pos aki];refine(z1 aki).move fun s _=>?_
   rw[show[(i,0+s)]=[]++[(i,0+s)]from rfl,fJ];simp only[if_pos aki];rfl
  ·rw[if_neg aki,M6 _ (by omega)]
   have:=z2 (by omega)
   refine this.move fun s _=>?_
   rw[show[(i,0+s)]=[]++[(i,0+s)]from rfl,fJ];simp only[if_neg aki];rfl
end
end Go.Sy
end
section
namespace Go.Sy
open Go Go.RowKit
universe u
section
variable {cc:Bool} {P:Program} {Γ:bn} {E:Env} {M:Nat->Prop} {w0:World} {ρ:Keys} {st:St} {vs:Fv} {a:Act} {w:World}
theorem Fy {η bU:Path->RI} {π aW:Path} {i i':Nat}:∀ {tg:List CK} {x b:ai tg} {j j0:Nat} {C:Ar} {ys:List Value} {y:Value},ai.cP tg x j C=some b->
 (∀ s,s<tg.length->s≠j->bU ((i',j0+s)::aW)=η ((i,j0+s)::π))->(bU ((i',j0+j)::aW)).head 0 C.xs.length y->ai.aA η π i j0 tg x ys->j<tg.length/\ai.aA bU aW i' j0 tg b (ys.set j y):=by
 have one:∀ {c:CK} {j:Nat} {x:c.ty} {y:Value},bU ((i',j)::aW)=η ((i,j)::π)->c.aA η π i j x y->c.aA bU aW i' j x y:=by
  intro c j x y he h;cases c with
  |sl e t=>show RI.head (bU ((i',j)::aW)) 0 _ _;rw[he];exact h
  |_=>exact h
 have put:∀ {c:CK} {j:Nat} {C:Ar} {z:c.ty} {y:Value},c.cP C=some z->(bU ((i',j)::aW)).head 0 C.xs.length y->c.aA bU aW i' j z y:=by
  intro c j C z y h hy;cases c with
  |sl e tg=>
   have:=jT h;obtain rfl:=Option.some.inj this;exact hy
  |_=>cases h
 intro tg;induction tg with
 |nil=>intro x b j j0 C ys y h;cases h
 |cons c cs ih=>
  intro x b j j0 C ys y h he hy hl;cases cs with
  |nil=>cases j with
   |zero=>obtain⟨v,rfl,h2⟩:=hl;exact⟨by simp,y,rfl,put h hy⟩
   |succ j=>cases h
  |cons c' cs=>cases j with
   |zero=>
    simp only[ai.cP]at h;split at h
    ·rename_i z hz;obtain rfl:=Option.some.inj h;obtain⟨v,ys',rfl,h2,h3⟩:=hl;exact⟨by simp,y,ys',rfl,put hz hy,h3.move fun s hs=>by have:=he (s+1) (by simpa using hs) (by omega);rw[show j0+1+s=j0+(s+1) by omega];exact this⟩
    ·cases h
   |succ j=>
    simp only[ai.cP]at h;split at h
    ·rename_i z hz;obtain rfl:=Option.some.inj h;obtain⟨v,ys',rfl,h2,h3⟩:=hl;obtain⟨k1,k2⟩:=ih (j0:=j0+1) hz (fun s hs hne=>by have:=he (s+1) (by simpa using hs) (by omega);rw[show j0+1+s=j0+(s+1) by omega];exact this)
      (by rw[show j0+1+j=j0+(j+1) by omega];exact hy) h3
     exact⟨by simpa using k1,v,ys'.set j y,rfl,one (by have:=he 0 (by simp) (by omega);rwa[Nat.add_zero]at this) h2,k2⟩
    ·cases h
theorem HV:∀ {tg:List CK} {x b:ai tg} {j:Nat} {C:Ar},ai.cP tg x j C=some b->j<tg.length:=by
 intro tg;induction tg with
 |nil=>intro x b j C h;cases h
 |cons c cs ih=>
  intro x b j C h;cases cs with
  |nil=>cases j with
   |zero=>simp
   |succ j=>cases h
  |cons c' cs=>cases j with
   |zero=>simp
   |succ j=>
    simp only[ai.cP]at h;split at h
    ·rename_i z hz;have:=ih hz;simpa using this
    ·cases h
theorem Fz (h:Rel Γ M w0 ρ st vs a w) {r r2 i j n:Nat} {te e2:TypeId} {tg iU:List CK} {xs:List (ai tg)} {ys:List (ai iU)} {b:ai tg} (hr:st.rg[r]?=some (.arr te tg xs true true)) (aBB:st.rg[r2]?=some (.arr e2 iU ys true true)) (hne:r≠r2)
 (hi:i<xs.length) (jK:ai.cP tg (Ar.get ⟨te,tg,xs⟩ i) j ⟨e2,iU,ys⟩=some b) {y:Value} (hx:(ρ r2 []).head 0 n y) (hn:n=ys.length):
 (∀ s,s<1->(w.cell? ((ρ r []).at (i*(ρ r []).m+j+s))).isSome=true)/\(∀ o,w.frozen? ⟨(ρ r []).b,o,none⟩=false)/\
 ∃ ρ',Rel Γ M w0 ρ' (((st.aBZ r2 .dead).map (At.kill false true r)).aBZ r (.arr te tg (xs.set i b) true true)) vs a (w.setCells (ρ r []).b ((ρ r []).off+(i*(ρ r []).m+j)) [y]):=by
 have aBw:(az.arr te tg xs true true).has [] true (.arr ⟨te,tg,xs⟩):=⟨rfl,_,rfl,rfl⟩;have zc:(az.arr e2 iU ys true true).has [] true (.arr ⟨e2,iU,ys⟩):=⟨rfl,_,rfl,rfl⟩;have h0:Ar.aA w (ρ r) [] ⟨te,tg,xs⟩:=h.rs.blk r _ [] true _ hr aBw;have hv:(ρ r []).aC=false:=by
  cases hv:(ρ r []).aC with
  |false=>rfl
  |true=>have:=h0.aC hv;simp only at this;rw[this]at hi;simp at hi
 obtain⟨aah,AR⟩:=h.rs.own r _ [] _ hr aBw hv;have hlt:=h.rs.lt r _ [] true _ hr aBw hv;have hm:(ρ r []).m=tg.length:=h0.m;obtain⟨Qe,c1,c2⟩:=h0.cell i hi;simp only at c1 c2;have hj:j<tg.length:=HV jK;have hcell:∀ s,s<1->(w.cell? ((ρ r []).at (i*(ρ r []).m+j+s))).isSome=true:=fun s hs=>by
  have:=c2 (j+s) (Qe[j+s]'(by rw[bL c1];omega)) (List.getElem?_eq_getElem _)
  rw[Nat.add_assoc,this];rfl
 refine⟨hcell,aah.fz,_,h.wU (src:=fun k s=>if k=i/\s=j then(r2,[])else(r,[(k,s)])) (I:=ρ r []) (xs':=xs.set i b) hr aBB hne (fI aah.own _ _ h.bl) (by rw[dA];exact Nat.le_refl _) (fun b' hb hd=>gj _ _ _ _ _ ?_) (fun _=>rfl) ?_ ?_ h0.tg hm
  (fun hh=>by rw[hv]at hh;cases hh) (fun hh=>by simpa using h0.len hh) ?_ (fun _=>by rw[dA];exact hlt) (fun _=>⟨⟨aah.own,fun j=>by rw[World.frozen?_setCells];exact aah.fz j⟩,aB8 _ _ AR⟩) (fun hh=> .inr ⟨hh,rfl⟩)⟩
 ·rcases hd with hd|hd
  ·rw[hv]at hd;cases hd
  ·exact hd
 ·intro k s C hk hC;have hk':k<xs.length:=by simpa using hk
  have hC:ai.sub tg (Ar.get ⟨te,tg,xs.set i b⟩ k) s=some C:=hC;rw[ji hi]at hC;by_cases e1:k=i
  ·rw[if_pos e1]at hC;by_cases e3:s=j
   ·subst e3;rw[tu jK]at hC;obtain rfl:=Option.some.inj hC;rw[if_pos (And.intro e1 rfl)];exact⟨_,true,aBB,.inr rfl,fun _=>rfl,fun σ D hD=>⟨by rw[List.append_nil];cases σ<;>rfl,D,by rw[List.append_nil];exact hD,rfl⟩⟩
   ·rw[rK jK s e3]at hC;simp only[if_neg (fun hh:k=i/\s=j=>e3 hh.2)]
    exact⟨_,true,hr,.inl ⟨trivial,by simp⟩,fun _=>rfl,fun σ D hD=>⟨by cases σ<;>rfl,D,dH.2 ⟨C,hk',by rw[e1];exact hC,hD⟩,rfl⟩⟩
  ·rw[if_neg e1]at hC;simp only[if_neg (fun hh:k=i/\s=j=>e1 hh.1)]
   exact⟨_,true,hr,.inl ⟨trivial,by simp⟩,fun _=>rfl,fun σ D hD=>⟨by cases σ<;>rfl,D,dH.2 ⟨C,hk',hC,hD⟩,rfl⟩⟩
 ·intro k s k' s' C C' _ _ _ _ he σ σ' nA;by_cases e1:k=i/\s=j<;>by_cases e3:k'=i/\s'=j
  ·simp only[if_pos e1,if_pos e3,List.append_nil]at nA;exact⟨e1.1.trans e3.1.symm,e1.2.trans e3.2.symm,nA⟩
  ·simp only[if_pos e1,if_neg e3]at he;exact absurd he.symm hne
  ·simp only[if_neg e1,if_pos e3]at he;exact absurd he hne
  ·simp only[if_neg e1,if_neg e3]at nA;have:=List.append_inj' nA rfl;obtain⟨q1,q2⟩:=this;simp only[List.cons.injEq,Prod.mk.injEq,and_true]at q2;exact⟨q2.1,q2.2,q1⟩
 ·intro k hk;have hk':k<xs.length:=by simpa using hk
  show ∃ zs,ai.aA _ [] k 0 tg (Ar.get ⟨te,tg,xs.set i b⟩ k) zs/\_;rw[ji hi];by_cases e:k=i
  ·subst e;rw[if_pos rfl];refine⟨Qe.set j y,(Fy jK (fun s hs hs'=>?_) ?_ c1).2,fun s z hz=>?_⟩
   ·rw[show[(k,0+s)]=[]++[(k,0+s)]from rfl,fJ,Nat.zero_add];rw[if_neg (fun hh:k=k/\s=j=>hs' hh.2)]
    try rfl
   ·rw[show[(k,0+j)]=[]++[(k,0+j)]from rfl,fJ,Nat.zero_add,if_pos ⟨rfl,rfl⟩,<-hn];exact hx
   ·by_cases e3:s=j
    ·subst e3;rw[List.getElem?_set_self (by rw[bL c1];exact hj)]at hz
     obtain rfl:=Option.some.inj hz;have:=World.cell?_setCells_in (ρ r []).b [y] ((ρ r []).off+(k*(ρ r []).m+s)) w (fun s' hs'=>by have:=hcell s' (by simpa using hs');simpa[RI.at,Nat.add_assoc]using this) 0 (by simp)
     simpa[RI.at]using this
    ·rw[List.getElem?_set_ne (Ne.symm e3)]at hz;rw[World.cell?_setCells_out]
     ·exact c2 s z hz
     ·intro _ _;simp only[RI.at,List.length_cons,List.length_nil];omega
  ·rw[if_neg e];obtain⟨zs,z1,z2⟩:=h0.cell k hk';refine⟨zs,z1.move fun s _=>?_,fun s z hz=>?_⟩
   ·rw[show[(k,0+s)]=[]++[(k,0+s)]from rfl,fJ,if_neg (fun hh:k=i/\0+s=j=>e hh.1)]
    try rfl
   ·have hs:s<tg.length:=by rw[<-bL z1];exact(List.getElem?_eq_some_iff.1 hz).1
    rw[World.cell?_setCells_out]
    ·exact z2 s z hz
    ·intro _ _;simp only[RI.at,List.length_cons,List.length_nil];rcases Nat.lt_or_gt_of_ne e with hlt|hgt
     ·have h1:(k+1)*(ρ r []).m<=i*(ρ r []).m:=Nat.mul_le_mul_right _ hlt;rw[Nat.add_mul]at h1;omega
     ·have h1:(i+1)*(ρ r []).m<=k*(ρ r []).m:=Nat.mul_le_mul_right _ hgt;rw[Nat.add_mul]at h1;omega
theorem yV (hE:bE P Γ E) (h:Rel Γ M w0 ρ st vs a w) {t:TypeId} (hno:E.ty t≠ .other) {r i j:Nat} {π:Path} {l:List At} {vx:Value} (hr:r<st.rg.length) (hl:be (At.ok st.rg.length ρ) l vx.cells.toList) (hone:∀ z∈vx.cells.toList,z.oneCell'=true)
 (hlen:l.length=(E.ty t).cells) {K:St->Prop} (hK:w9 cc st r π i j l K):
 ∃ (w':World) (an:St) (ρ':Keys),(Instr.storeAt t (.pointer (some ((ρ r π).at (i*(ρ r π).m+j)))) vx).run P w= .ok () w'/\Rel Γ M w0 ρ' an vs a w'/\K an:=by
 unfold w9 at hK;split at hK
 ·rename_i r2 q g hq;unfold Eb at hq;split at hq;case h_2=>cases hq
  rename_i D3 n te tg xs hg;split at hq;case h_2=>cases hq
  rename_i e2 iU ys AJ hb;split at hq;case h_2=>cases hq
  rename_i b jK;simp only[Option.some.injEq,Prod.mk.injEq]at hq;obtain⟨rfl,rfl,rfl⟩:=hq;rw[aV]at hK;obtain⟨⟨hi,hn,_⟩,hK⟩:=hK;simp only[aa.ae]at hi hn;simp only[St.aks,St.agQ,St.ag1]at hK;have hcs:∃ y,vx.cells.toList=[y]/\(ρ D3 []).head 0 n y:=by
   match hc:vx.cells.toList,hl with
   |[y],hl=>exact⟨y,rfl,hl.1.2⟩
  obtain⟨y,hy,hx⟩:=hcs;obtain⟨s1,s2,ρ',s3⟩:=Fz h (bg hg (by simp)) (bg AJ (by simp)) (mz hb) hi jK hx hn
  have hsz:=xg hE hno;refine⟨_,_,ρ',?_,s3,hK⟩;have hst:=run_storeCells_cells (P:=P) (ρ r []).b ((ρ r []).off+(i*(ρ r []).m+j)) vx.cells.toList 0 w
   (fun s hs=>by rw[hy]at hs;have:=s1 s (by simpa using hs);simpa[RI.at,Nat.add_assoc]using this) (fun s _=>s2 _) hone
  have Qu:vx.cells.size=(E.ty t).cells:=by
   have:vx.cells.toList.length=(E.ty t).cells:=by rw[<-hlen,hl.length]
   simpa using this
  simp only[Nat.add_zero]at hst;rw[<-hy];simp[Instr.storeAt,Instr.sureAddr,storeVar,cY hsz,Qu,RI.at,hst]
 ·obtain⟨w',an,h1,h2,h3⟩:=BW hE h hno hr hl hone hlen hK;exact⟨w',an,ρ,h1,h2,h3⟩
end
end Go.Sy
end
section
namespace Go.Sy
open Go Go.RowKit
universe u
section
variable {P:Program} {Γ:bn} {E:Env} {M:Nat->Prop} {w0:World} {ρ:Keys} {st:St} {vs:Fv} {a:Act} {w:World}
theorem vr {te:TypeId} {tg:List CK} {xs:List (ai tg)} (hf:aaa tg=true) {η:Path->RI} {π:Path} (oO:TypeId) (h:Ar.aA w η π ⟨te,tg,xs⟩):Ar.aA w (fun _=>η π) [] ⟨oO,tg,xs⟩:=
 ⟨h.tg,h.m,h.aC,h.len,fun i hi=>by obtain⟨ys,h1,h2⟩:=h.cell i hi;exact⟨ys,lA hf h1,h2⟩⟩
theorem rz (h:Rel Γ M w0 ρ st vs a w) {tg:List CK} (hf:aaa tg=true) {r lo n:Nat} {π:Path} {q:List aa} {news:List (ai tg)} (he:aBO st tg r π lo n=some (q,news)) (hq:bW q):
 ∃ te ys,Ar.aA w (fun _=>ρ r π) [] ⟨te,tg,ys⟩/\lo+n<=ys.length/\news=(ys.drop lo).take n:=by
 unfold aBO at he;split at he
 ·rename_i q' B hB;split at he
  ·rename_i hh _;simp only[Option.some.injEq,Prod.mk.injEq]at he;obtain⟨rfl,rfl⟩:=he;rw[aH]at hq;obtain⟨_,hl⟩:=mD h hB hq.1;obtain⟨te,bX,ys⟩:=B;obtain⟨hh⟩:=hh;have qS:bX=tg:=hh;subst qS;exact⟨te,ys,vr hf te hl,hq.2.1,rfl⟩
  ·cases he
 ·cases he
theorem Ia (hE:bE P Γ E) {e:TypeId} {tg:List CK} (hD:E.kd e=some tg):(P.info? e).map (·.size)=some tg.length:=by
 obtain⟨_,i,z,hi,hsz,_⟩:=hE.kd e tg hD;rw[hi];simp[hsz]
theorem KZ (hE:bE P Γ E) (h:Rel Γ M w0 ρ st vs a w) {t ty e:TypeId} {m:Nat} (ht:E.ty t= .sl e m) {tg:List CK} (hD:E.kd e=some tg) (cZ:aaa tg=true) {r l k:Nat} {xs:List (ai tg)} {akl gV:Bool}
 (hr:st.rg[r]?=some (.arr e tg xs true akl)) (hk:l+k=xs.length) {v0:Value} (hs:(ρ r []).head l k v0) {I2:RI} {dO:TypeId} {ys:List (ai tg)} {lo n:Nat} {vx:Value}
 (h2:Ar.aA w (fun _=>I2) [] ⟨dO,tg,ys⟩) (hx:I2.head lo n vx) (hn:lo+n<=ys.length) (hcap:(k+n)*tg.length<=gD):
 ∃ v w' ρ',(Builtin.append_ #[t,t] ty #[v0,vx]).run P w= .ok v w'/\Rel Γ M w0 ρ' ((st.map (At.kill true true r)).aBZ r (.arr e tg (xs.drop l++(ys.drop lo).take n) true gV)) vs a w'/\(ρ' r []).head 0 (k+n) v:=by
 have aBw:(az.arr e tg xs true akl).has [] true (.arr ⟨e,tg,xs⟩):=⟨rfl,_,rfl,rfl⟩;have h0:=vr cZ e (h.rs.blk r _ [] true _ hr aBw);obtain⟨v,w',I,hrun,hA⟩:=aBV (ty:=ty) hE ht hD cZ h0 hk hs (fun hv=>⟨(h.rs.own r _ [] _ hr aBw hv).1,(h.rs.own r _ [] _ hr aBw hv).2,h.rs.lt r _ [] true _ hr aBw hv⟩) h2 hx hn hcap h.bl
 exact⟨v,w',_,hrun,h.replace hr cZ hA.fr hA.size hA.same hA.aA (fun hv=>(hA.mine hv).1) (fun hv=>(hA.mine hv).2) hA.at_,by rw[aF];exact hA.head⟩
theorem aAX (hE:bE P Γ E) (h:Rel Γ M w0 ρ st vs a w) {t ty e:TypeId} {m:Nat} (ht:E.ty t= .sl e m) {tg:List CK} (hD:E.kd e=some tg) (cZ:aaa tg=true) {v0:Value} (hs:∃ a0,v0= .slice a0 0 0) {b:Bool}
 {I2:RI} {dO:TypeId} {ys:List (ai tg)} {lo n:Nat} {vx:Value} (h2:Ar.aA w (fun _=>I2) [] ⟨dO,tg,ys⟩) (hx:I2.head lo n vx) (hn:lo+n<=ys.length) (hcap:n*tg.length<=gD):
 ∃ v w' ρ',(Builtin.append_ #[t,t] ty #[v0,vx]).run P w= .ok v w'/\Rel Γ M w0 ρ' (st.push [.arr e tg ((ys.drop lo).take n) true b]) vs a w'/\(ρ' st.rg.length []).head 0 n v:=by
 obtain⟨ci,_⟩:=hE.kd e tg hD;have h0:Ar.aA w (fun _=>{iC with m:=tg.length}) [] ⟨e,tg,([]:List (ai tg))⟩:=⟨ci,rfl,fun _=>rfl,fun hv=>(by cases hv),fun i hi=>(by simp at hi)⟩
 obtain⟨v,w',I,hrun,hA⟩:=aBV (ty:=ty) (k:=0) (l:=0) hE ht hD cZ h0 rfl ⟨fun _=>⟨rfl,hs⟩,fun hv=>(by cases hv)⟩ (fun hv=>(by cases hv)) h2 hx hn (by rw[Nat.zero_add];exact hcap) h.bl
 simp only[List.drop_nil,List.nil_append,Nat.zero_add]at hA;have fU:Below w.heap.size w w':=⟨hA.fr.os.trans h.bl.os.symm,hA.fr.tape.trans h.bl.tape.symm,hA.fr.output.trans h.bl.output.symm,hA.size,fun b hb=>hA.same b hb (.inl rfl)⟩
 refine⟨v,w',aE ρ st.rg.length fun _=>I,hrun,h.grow fU (fun r hr π=>by rw[bB hr]) (h.rs.fresh fU ?_ ?_ ?_ ?_),by rw[aF];exact hA.head⟩
 ·rintro π o B ⟨_,A,nu,rfl⟩;obtain⟨rfl,rfl⟩:=fT cZ nu;show Ar.aA w' (aE ρ st.rg.length _ st.rg.length) [] _;rw[aF];exact hA.aA
 ·rintro π o B _ hv;rcases hA.at_ hv with hI|⟨hI,_⟩
  ·exact⟨hI,(hA.mine hv).1⟩
  ·cases hI
 ·rintro π B ⟨_,A,nu,rfl⟩ hv;obtain⟨rfl,rfl⟩:=fT cZ nu;exact(hA.mine hv).2
 ·rintro π aW o o' B B' ⟨_,A,nu,rfl⟩ ⟨_,A',Qp,rfl⟩ _ _;obtain⟨rfl,rfl⟩:=fT cZ nu;obtain⟨rfl,rfl⟩:=fT cZ Qp;rfl
theorem IC (hE:bE P Γ E) (h:Rel Γ M w0 ρ st vs a w) {t ty e:TypeId} {m:Nat} (ht:E.ty t= .sl e m) {tg:List CK} (hD:E.kd e=some tg) {d:Option Nat} {s:Tm} {vS vX:Value} {K:St->Prop}
 (hz:∃ a0,vX= .slice a0 0 0) (hk:match s with
    | .a (.sl _ _ _ _)=>st.aBS d s K
    | .a (.v (.slice none 0 0))=>st.aBS d s K
    | .a .z=>st.aBS d s K
    |_=>False) (hs:s.ok st.rg.length ρ vS):∃ v w' an ρ' y,(Builtin.append_ #[t,t] ty #[vS,vX]).run P w= .ok v w'/\Rel Γ M w0 ρ' an vs a w'/\Tm.ok an.rg.length ρ' y v/\an.fits d/\K (an.put d y):=by
 obtain⟨hu,_,_⟩:=hE.aav ht;have hsz:=Ia hE hD;have zero:∀ a0 k c,vS= .slice a0 k c->k<=c->st.aBS d s K->
  ∃ v w' an ρ' y,(Builtin.append_ #[t,t] ty #[vS,vX]).run P w= .ok v w'/\Rel Γ M w0 ρ' an vs a w'/\Tm.ok an.rg.length ρ' y v/\an.fits d/\K (an.put d y):=by
  intro a0 k c hv hkc hk;obtain⟨b0,hx0⟩:=hz;rw[St.aZ]at hk;refine⟨_,w,st,ρ,s,?_,h,hs,hk.1,hk.2⟩;rw[hv,hx0];exact jR hu hsz a0 b0 k c 0 hkc
 split at hk
 ·obtain⟨ad,c,hv,hkc,_,_⟩:=jj (show RI.head _ _ _ _ from hs.2);exact zero _ _ _ hv hkc hk
 ·exact zero _ _ _ hs.1 (Nat.le_refl _) hk
 ·obtain⟨a0,hv⟩:=hs;exact zero _ _ _ hv (Nat.le_refl _) hk
 ·exact hk.elim
theorem Cx (hE:bE P Γ E) (h:Rel Γ M w0 ρ st vs a w) {d:Option Nat} {t ty e:TypeId} {m:Nat} (ht:E.ty t= .sl e m) {tg:List CK} (hD:E.kd e=some tg) {r l k r2 n:Nat} {v0 vx:Value} (hs:(ρ r []).head l k v0) (hx:(ρ r2 []).head 0 n vx) {K:St->Prop}
 (hK:Ev E st d e tg r l k r2 n K):
 ∃ v w' an ρ' y,(Builtin.append_ #[t,t] ty #[v0,vx]).run P w= .ok v w'/\Rel Γ M w0 ρ' an vs a w'/\Tm.ok an.rg.length ρ' y v/\an.fits d/\K (an.put d y):=by
 unfold Ev at hK;split at hK;case h_2=>exact hK.elim
 rename_i e' bX xs akl dO iU ys hg AJ hb;split at hK;case h_2=>exact hK.elim
 rename_i h1 h2 he _ _;obtain rfl:=Nat.eq_of_beq_eq_true he;obtain⟨h1⟩:=h1;obtain⟨h2⟩:=h2;have aIe:tg=bX:=h1;subst aIe;have G6:iU=tg:=h2;subst G6;rw[aV]at hK;obtain⟨⟨q1,q2,q3,_⟩,hK⟩:=hK;simp only[aa.ae]at q1 q2 q3;simp only[St.aks,St.agQ,St.ag1,aAW]at hK;have hr:=bg hg (by simp)
 obtain⟨v,w',ρ',c1,c2,c3⟩:=zy (ty:=ty) hE h ht hD hr (bg AJ (by simp)) (mz hb) q2 hs hx q1 q3
 exact⟨v,w',_,ρ',.a (.sl r [] 0 (k+n)),c1,c2,⟨by simpa[St.aBZ,St.map]using fh hr,c3⟩,hK.1,hK.2⟩
theorem Rel.Eg (h:Rel Γ M w0 ρ st vs a w) (e:TypeId) {tg:List CK} (ci:tg≠[]):
 Rel Γ M w0 (aE ρ st.rg.length fun _=>{iC with m:=tg.length}) (st.push [.arr e tg [] true true]) vs a w:=by
 have fU:Below w.heap.size w w:=Below.refl _ _;refine h.grow fU (fun r hr π=>by rw[bB hr]) (h.rs.fresh fU ?_ ?_ ?_ ?_)
 ·rintro π o B hB;obtain⟨rfl,rfl⟩:=mm hB;show Ar.aA w (aE ρ st.rg.length _ st.rg.length) [] _;rw[aF];exact⟨ci,rfl,fun _=>rfl,fun hh=>(by cases hh),fun i hi=>(by simp at hi)⟩
 ·rintro π o B _ hv;cases hv
 ·rintro π B _ hv;cases hv
 ·rintro π aW o o' B B' _ _ hv;cases hv
theorem Cy (hE:bE P Γ E) (h:Rel Γ M w0 ρ st vs a w) {d:Option Nat} {t ty e:TypeId} {m:Nat} (ht:E.ty t= .sl e m) {tg:List CK} (hD:E.kd e=some tg) {r l k r2 lo n:Nat} {v0 vx:Value} (hs:(ρ r []).head l k v0) (hx:(ρ r2 []).head lo n vx) {K:St->Prop}
 (hK:Ew E st d e tg r l k r2 lo n K):
 ∃ v w' an ρ' y,(Builtin.append_ #[t,t] ty #[v0,vx]).run P w= .ok v w'/\Rel Γ M w0 ρ' an vs a w'/\Tm.ok an.rg.length ρ' y v/\an.fits d/\K (an.put d y):=by
 unfold Ew at hK;split at hK;case h_2=>exact hK.elim
 rename_i e' bX xs akl dO iU ys o2 hg AJ hb;split at hK;case h_2=>exact hK.elim
 rename_i h1 h2 he _ _;obtain rfl:=Nat.eq_of_beq_eq_true he;obtain⟨h1⟩:=h1;obtain⟨h2⟩:=h2;have aIe:tg=bX:=h1;subst aIe;have G6:iU=tg:=h2;subst G6;rw[aV]at hK;obtain⟨⟨q1,q2,q3,_⟩,hK⟩:=hK;simp only[aa.ae]at q1 q2 q3;simp only[St.aks,St.cS,St.agQ,St.ag1,aAW]at hK;have hr:=bg hg (by simp)
 obtain⟨v,w',ρ',c1,c2,c3⟩:=yF (ty:=ty) hE h ht hD hr (bg AJ (by simp)) (mz hb) q2 hs hx q1 q3
 exact⟨v,w',_,ρ',.a (.sl r [] 0 (k+n)),c1,c2,⟨by simpa[St.aBZ,St.map,St.push]using Nat.lt_succ_of_lt (fh hr),c3⟩,hK.1,hK.2⟩
theorem sP (hE:bE P Γ E) (h:Rel Γ M w0 ρ st vs a w) {d:Option Nat} {t ty e:TypeId} {m:Nat} (ht:E.ty t= .sl e m) {tg:List CK} (hD:E.kd e=some tg) {r l k r2 lo n:Nat} {v0 vx:Value} (hs:(ρ r []).head l k v0) (hx:(ρ r2 []).head lo n vx) {K:St->Prop}
 (hK:rW E st d e tg r l k r2 lo n K):
 ∃ v w' an ρ' y,(Builtin.append_ #[t,t] ty #[v0,vx]).run P w= .ok v w'/\Rel Γ M w0 ρ' an vs a w'/\Tm.ok an.rg.length ρ' y v/\an.fits d/\K (an.put d y):=by
 unfold rW at hK;split at hK
 ·exact Cy hE h ht hD hs hx hK
 ·split at hK
  ·exact Cx hE h ht hD hs hx hK
  ·exact hK.elim
theorem Ey (hE:bE P Γ E) (h:Rel Γ M w0 ρ st vs a w) {d:Option Nat} {t t' ty:TypeId} {n:Int} {K:St->Prop} (hK:IB E st d t t' n K):
 ∃ v w' an ρ' y,(Builtin.append_ #[t,t'] ty #[.slice none 0 0,.int .i64 n]).run P w= .ok v w'/\Rel Γ M w0 ρ' an vs a w'/\Tm.ok an.rg.length ρ' y v/\an.fits d/\K (an.put d y):=by
 unfold IB at hK;split at hK;case h_2=>exact hK.elim
 rename_i e m kn ht ht';split at hK;case h_2=>exact hK.elim
 rename_i tg hD;split at hK;case h_2=>exact hK.elim
 rename_i cZ;rw[aV]at hK;obtain⟨⟨h0,hsz,_⟩,hK⟩:=hK;simp only[aa.ae]at h0 hsz;simp only[dX,St.cS,aAW]at hK;obtain⟨hu,_,_⟩:=hE.aav ht;have Hv:P.underlying t'=some (.int kn):=by have:=hE.ty t';rw[ht']at this;exact this.1
 obtain⟨ci,i,z,hi,hs,hz,vj,hby⟩:=hE.kd e tg hD;have hpos:0<tg.length:=List.length_pos_iff.2 ci;obtain⟨N,rfl⟩:∃ N:Nat,n=(N:Int):=⟨n.toNat,by omega⟩
 have wI:N*tg.length<=16777216:=by
  have h5:((N*tg.length:Nat):Int)<=16777216:=by rw[Int.natCast_mul];exact hsz
  omega
 have hN:N<=16777216:=Nat.le_trans (Nat.le_mul_of_pos_right N hpos) wI;have bytes:N*i.bytes<=281474976710656:=by
  have h1:=Nat.mul_le_mul_left N hby;have h2:N*(32*tg.length)=32*(N*tg.length):=by rw[<-Nat.mul_assoc,Nat.mul_comm N 32,Nat.mul_assoc]
  omega
 have vk:z.cells.size=tg.length:=by
  have:=congrArg List.length vj;simpa[aay]using this
 have hrun:=Lib.run_append_nil_zeros w t t' ty e i z .i64 kn hu Hv hi hz N (by omega) (by rw[hs];exact hpos) (by omega) bytes
 generalize PK:grownCap w N 0 e=cp at hrun;have tJ:N<=cp:=by rw[<-PK];exact grownCap_ge w _ _ e
 have AG:cp<=maxLen:=by rw[<-PK];exact grownCap_le_maxLen w _ _ _ (Nat.le_trans hN (Nat.le_of_ble_eq_true rfl))
 have fU:Below w.heap.size w (w.drew.alloc (.cells (Builtin.zeroCells z.cells N++Builtin.zeroCells z.cells (cp-N)) e)):=((Below.refl _ _).drew).alloc (Nat.le_refl _) _;have hheap:(w.drew.alloc (.cells (Builtin.zeroCells z.cells N++Builtin.zeroCells z.cells (cp-N)) e)).heap[w.heap.size]?=some (.cells (Builtin.zeroCells z.cells N++Builtin.zeroCells z.cells (cp-N)) e):=by
  show(w.heap.push _)[w.heap.size]?=_;simp
 refine⟨_,_,st.push [.arr e tg [] true true],aE ρ st.rg.length fun _=>⟨w.heap.size,0,tg.length,cp,false⟩,.a (.sl st.rg.length [] 0 N),hrun,h.grow (gs:=[.arr e tg [] true true]) fU (fun r hr π=>by rw[bB hr]) (h.rs.fresh (g:=.arr e tg [] true true) fU ?_ ?_ ?_ ?_),⟨by simp[St.push],?_⟩,hK.1,hK.2⟩
 ·rintro π o B hB;obtain⟨rfl,rfl⟩:=mm hB;show Ar.aA _ (aE ρ st.rg.length _ st.rg.length) [] _;rw[aF];exact⟨ci,rfl,fun _=>rfl,fun _=>Nat.zero_le _,fun i hi=>(by simp at hi)⟩
 ·rintro π o B _ _;exact⟨Nat.le_refl _,(Array.getElem?_eq_some_iff.1 hheap).1⟩
 ·rintro π B hB _;obtain⟨rfl,rfl⟩:=mm hB;refine⟨⟨.inr h.bl.size,fun j=>?_⟩,AG,_,hheap,?_⟩
  ·have qT:=hheap;simp only[World.frozen?];rw[qT];simp
  ·show _=0+cp*tg.length;rw[Array.size_append,size_zeroCells,size_zeroCells,vk,<-Nat.add_mul,Nat.zero_add]
   congr 1
   omega
 ·rintro π aW o o' B B' hB Q3 _ _;obtain⟨rfl,rfl⟩:=mm hB;obtain⟨rfl,rfl⟩:=mm Q3;rfl
 ·rw[aF];exact⟨fun hv=>(by cases hv),fun _=>⟨by simp only[Nat.zero_add];exact tJ,_,rfl,fun _=>by simp[RI.at]⟩⟩
theorem Cw (hE:bE P Γ E) (h:Rel Γ M w0 ρ st vs a w) {d:Option Nat} {t ty:TypeId} {s x:Tm} {vS vX:Value} (hs:s.ok st.rg.length ρ vS) (hx:x.ok st.rg.length ρ vX) {K:St->Prop} (hK:Eu E st d t s x K):
 ∃ v w' an ρ' y,(Builtin.append_ #[t,t] ty #[vS,vX]).run P w= .ok v w'/\Rel Γ M w0 ρ' an vs a w'/\Tm.ok an.rg.length ρ' y v/\an.fits d/\K (an.put d y):=by
 unfold Eu at hK;split at hK;case h_2=>exact hK.elim
 rename_i e m ht;split at hK;case h_2=>exact hK.elim
 rename_i tg hD;obtain⟨hu,_,_⟩:=hE.aav ht;have hsz:=Ia hE hD;have zero':=fun hz hk=>IC hE h ht hD (ty:=ty) (d:=d) (vX:=vX) (K:=K) hz hk hs
 split at hK
 ·
  rename_i ny;split at ny<;>try dsimp only at hK
  ·exact zero' ⟨_,hx.1⟩ hK
  ·exact zero' hx hK
  ·cases ny
  ·cases ny
 ·rename_i r2 jr lo n ny;split at ny
  ·cases ny
  ·cases ny
  ·rename_i D3 OK lo' n';simp only[Option.some.injEq,Prod.mk.injEq]at ny;obtain⟨rfl,rfl,rfl,rfl⟩:=ny;have hx':=hx.2;have new:(∃ a0,vS= .slice a0 0 0)->sB E.aN st tg D3 OK lo' n' (fun st news b=>aBP E.aN [(aa.of (n'*tg.length<=gD))] (pE E.aN (.arr e tg news true b) (fun g=>fy E.aN st.rg (fun r=>st.dN [g] (fun st=>iJ E.aN st d r n' K)))))->
    ∃ v w' an ρ' y,(Builtin.append_ #[t,t] ty #[vS,vX]).run P w= .ok v w'/\Rel Γ M w0 ρ' an vs a w'/\Tm.ok an.rg.length ρ' y v/\an.fits d/\K (an.put d y):=by
    intro hz hk;unfold sB at hk;split at hk
    ·rename_i cZ;split at hk
     ·rename_i q xs hq;rw[aV]at hk;obtain⟨te,ys,p1,p2,rfl⟩:=rz h cZ hq hk.1;obtain⟨_,hk⟩:=hk;rw[aV]at hk;obtain⟨⟨hcap,_⟩,hk⟩:=hk;simp only[aa.ae]at hcap;simp only[tP,dX,St.cS,aAW]at hk;obtain⟨v,w',ρ',c1,c2,c3⟩:=aAX (ty:=ty) (b:=true) hE h ht hD cZ hz p1 hx' p2 hcap;exact⟨v,w',_,ρ',.a (.sl st.rg.length [] 0 n'),c1,c2,⟨by simp[St.push],c3⟩,hk.1,hk.2⟩
     ·exact hk.elim
    ·exact hk.elim
   have nil:(∃ a0,vS= .slice a0 0 0)->OK=[]->fy E.aN st.rg (fun r=>st.dN [.arr e tg [] true true] (fun st=>rW E st d e tg r 0 0 D3 lo' n' K))->
    ∃ v w' an ρ' y,(Builtin.append_ #[t,t] ty #[vS,vX]).run P w= .ok v w'/\Rel Γ M w0 ρ' an vs a w'/\Tm.ok an.rg.length ρ' y v/\an.fits d/\K (an.put d y):=by
    rintro hz rfl hk;simp only[dX,St.cS]at hk;obtain⟨ci,_⟩:=hE.kd e tg hD;refine sP hE (h.Eg e ci) ht hD ?_ ?_ hk
    ·rw[aF];exact⟨fun _=>⟨rfl,hz⟩,fun hh=>(by cases hh)⟩
    ·rw[bB hx.1];exact hx'
   split at hK
   ·split at hK
    ·exact sP hE h ht hD hs.2 hx' hK
    ·obtain⟨rfl,_⟩:=hs;exact nil ⟨_,rfl⟩ rfl hK
    ·exact nil hs rfl hK
    ·exact hK.elim
   ·rename_i Rs;split at hK
    ·rename_i r l k;split at hK
     ·rename_i e' bX xs akl hg;have hr:=bg hg (by simp)
      split at hK
      ·rename_i hh hne he _;obtain rfl:=Nat.eq_of_beq_eq_true he;obtain⟨hh⟩:=hh;have qS:tg=bX:=hh;subst qS;unfold sB at hK;split at hK
       ·rename_i cZ;split at hK
        ·rename_i q news hq;rw[aV]at hK;obtain⟨te,ys,p1,p2,rfl⟩:=rz h cZ hq hK.1;obtain⟨_,hK⟩:=hK;rw[aV]at hK;obtain⟨⟨cB,hcap,_⟩,hK⟩:=hK;simp only[aa.ae]at cB hcap;simp only[St.agQ,St.ag1,aAW]at hK;obtain⟨v,w',ρ',c1,c2,c3⟩:=KZ (ty:=ty) (gV:=fu akl true) hE h ht hD cZ hr cB hs.2 p1 hx' p2 hcap;exact⟨v,w',_,ρ',.a (.sl r [] 0 (k+n')),c1,c2,⟨by simpa[St.aBZ,St.map]using hs.1,c3⟩,hK.1,hK.2⟩
        ·exact hK.elim
       ·exact hK.elim
      ·exact hK.elim
     ·exact hK.elim
    ·obtain⟨rfl,_⟩:=hs;exact new ⟨_,rfl⟩ hK
    ·exact new hs hK
    ·exact hK.elim
  ·cases ny
 ·exact hK.elim
end
end Go.Sy
end
section
namespace Go.Sy
open Go Go.RowKit
universe u
section
variable {P:Program} {Γ:bn} {E:Env} {M:Nat->Prop} {w0:World} {ρ:Keys} {st:St} {vs:Fv} {a:Act} {w:World}
theorem Rel.JT (h:Rel Γ M w0 ρ st vs a w) {r:Nat} {t:TypeId} {k:IntKind} {c:CK} {es es':List (Int×c.ty)} (hr:st.rg[r]?=some (.map t k c es true)) {aD:Array MapEntry}
 (h1:aD.toList.map (fun e=>(e.key,e.val))=e8 k c es') (h2:aD.toList.map (·.born)=List.range aD.size):
 Rel Γ M w0 ρ (st.aBZ r (.map t k c es' true)) vs a {w with heap:=w.heap.setIfInBounds (ρ r []).b (.map aD aD.size)}:=by
 have hB:(az.map t k c es true).has [] true (.map k c es):=⟨rfl,rfl,rfl⟩;obtain⟨_,hv,jB,hb0,_,_⟩:=h.rs.blk r _ [] true _ hr hB;have aah:bY M w0 w (ρ r []):=h.rs.own r _ [] _ hr hB hv;have AE:=h.rs.lt r _ [] true _ hr hB hv;have hlen:(st.aBZ r (.map t k c es' true)).rg.length=st.rg.length:=by simp[St.aBZ]
 have heap:∀ k,k≠(ρ r []).b->(w.heap.setIfInBounds (ρ r []).b (Obj.map aD aD.size))[k]?=w.heap[k]?:=fun k hk=>by rw[Array.getElem?_setIfInBounds,if_neg (Ne.symm hk)]
 have new:(w.heap.setIfInBounds (ρ r []).b (Obj.map aD aD.size))[(ρ r []).b]?=some (.map aD aD.size):=by rw[Array.getElem?_setIfInBounds,if_pos rfl,if_pos AE]
 have other:∀ (r1:Nat) (g1:az) σ o B,st.rg[r1]?=some g1->g1.has σ o B->¬(r=r1/\[]=σ)->(ρ r1 σ).aC=false->(w.heap.setIfInBounds (ρ r []).b (Obj.map aD aD.size))[(ρ r1 σ).b]?=w.heap[(ρ r1 σ).b]?:=
  fun r1 g1 σ o B k1 k2 hne Vp=>heap _ (fun e=>h.rs.dj r r1 _ g1 [] σ o _ B hr k1 hB k2 hv Vp hne e.symm)
 have back:∀ {r1:Nat} {g1:az},(st.rg.set r (.map t k c es' true))[r1]?=some g1->∀ {σ o B},g1.has σ o B->∃ g2 B2,st.rg[r1]?=some g2/\g2.has σ o B2:=by
  intro r1 g1 k1 σ o B k2;rcases cF k1 with⟨rfl,rfl,_⟩|⟨_,k1⟩
  ·obtain⟨rfl,rfl,rfl⟩:=k2;exact⟨_,_,hr,rfl,rfl,rfl⟩
  ·exact⟨_,_,k1,k2⟩
 refine⟨by rw[hlen];exact h.tm,by rw[hlen];exact h.fr,h.df,?_,⟨h.bl.os,h.bl.tape,h.bl.output,by simpa using h.bl.size,fun k hk hm=>?_⟩,Γ.st _ _ h.gl fun b hb=>heap b ?_,h.gn⟩
 ·rw[hlen];refine⟨fun r1 g1 σ o B k1 k2=>?_,fun r1 g1 σ o B k1 k2 Vp=>?_,fun r1 g1 σ B k1 k2 Vp=>?_,fun r1 r2 g1 g2 σ σ' o' B B' k1 k2 k3 k4 v1 v2 hne=>?_⟩
  ·rcases cF k1 with⟨rfl,rfl,_⟩|⟨hne,k1⟩
   ·obtain⟨rfl,rfl,rfl⟩:=k2;exact⟨rfl,hv,aD,new,h1,h2⟩
   ·exact(h.rs.blk r1 g1 σ o B k1 k2).cX (fun _=>rfl) (Nat.le_refl _) (fun _ _ _=>rfl) (fun Vp=>other r1 g1 σ o B k1 k2 (fun e'=>hne e'.1.symm) Vp)
  ·obtain⟨g2,B2,b1,b2⟩:=back k1 k2;simpa using h.rs.lt r1 g2 σ o B2 b1 b2 Vp
  ·rcases cF k1 with⟨rfl,rfl,_⟩|⟨hne,k1⟩
   ·obtain⟨rfl,_,rfl⟩:=k2;exact⟨aah.own,fun j=>by simp only[World.frozen?];rw[new]⟩
   ·exact(h.rs.own r1 g1 σ B k1 k2 Vp).cX (other r1 g1 σ true B k1 k2 (fun e'=>hne e'.1.symm) Vp)
  ·obtain⟨g3,B3,b1,b2⟩:=back k1 k3;obtain⟨g4,B4,b3,b4⟩:=back k2 k4;exact h.rs.dj r1 r2 g3 g4 σ σ' o' B3 B4 b1 b3 b2 b4 v1 v2 hne
 ·have e:k≠(ρ r []).b:=fun e=>by
   subst e;rcases aah.own with ho|ho
   ·exact hm ho
   ·omega
  exact(heap k e).trans (h.bl.block k hk hm)
 ·have:=h.gn b hb;rcases aah.own with ho|ho
  ·intro e;subst e;exact this.1 ho
  ·omega
theorem akc (o:Obj):(w.alloc o).heap[w.heap.size]?=some o:=by
 show(w.heap.push o)[w.heap.size]?=some o;exact Array.getElem?_push_size
theorem Rel.NZ (h:Rel Γ M w0 ρ st vs a w) (t:TypeId) (k:IntKind) (c:CK):
 Rel Γ M w0 (aE ρ st.rg.length (dx w)) (st.push [.map t k c [] true]) vs a (w.alloc (.map #[] 0)):=by
 refine h.grow (agB _) (fun r hr π=>by rw[bB hr]) (h.rs.fresh (agB _) ?_ ?_ ?_ ?_)
 ·rintro π o B ⟨rfl,rfl,rfl⟩;exact⟨rfl,by rw[aF];rfl,#[],by rw[aF];exact akc _,rfl,rfl⟩
 ·rintro π o B ⟨rfl,rfl,rfl⟩ _;exact⟨Nat.le_refl _,by simp[dx]⟩
 ·rintro π B ⟨rfl,_,rfl⟩ _;exact⟨.inr h.bl.size,fun j=>by simp only[dx,World.frozen?,akc]⟩
 ·rintro π aW o o' B B' ⟨rfl,_⟩ ⟨rfl,_⟩ _ _;rfl
end
end Go.Sy
end
section
namespace Go.Sy
open Go Go.RowKit
universe u
section
variable {P:Program} {Γ:bn} {E:Env} {M:Nat->Prop} {w0:World} {ρ:Keys} {st:St} {vs:Fv} {a:Act} {w:World}
theorem Rel.uj (h:Rel Γ M w0 ρ st vs a w) {r:Nat} {g g':az} {B0:aD0} (hr:st.rg[r]?=some g) (hB:g.has [] true B0) (hv:(ρ r []).aC=false) (hm0:bY M w0 w (ρ r [])) {obj:Obj}
 (lh:∀ σ o B,g'.has σ o B->σ=[]/\o=true/\(∀ w':World,w'.heap[(ρ r []).b]?=some obj->B.aA st.rg.length ρ r [] w')/\(∀ (w':World) I,bY M w0 w' I->B.mine M w0 w' I))
 (hfz:∀ (w':World) (b j:Nat),w'.heap[b]?=some obj->w'.frozen? ⟨b,j,none⟩=false):
 Rel Γ M w0 ρ (st.aBZ r g') vs a (w.putObj (ρ r []).b obj):=by
 have AE:=h.rs.lt r _ [] true _ hr hB hv;have hlen:(st.aBZ r g').rg.length=st.rg.length:=by simp[St.aBZ]
 have heap:∀ k,k≠(ρ r []).b->(w.putObj (ρ r []).b obj).heap[k]?=w.heap[k]?:=fun k hk=>World.putObj_heap_other hk
 have new:(w.putObj (ρ r []).b obj).heap[(ρ r []).b]?=some obj:=World.putObj_heap_same AE;have other:∀ (r1:Nat) (g1:az) σ o B,st.rg[r1]?=some g1->g1.has σ o B->¬(r=r1/\[]=σ)->(ρ r1 σ).aC=false->(w.putObj (ρ r []).b obj).heap[(ρ r1 σ).b]?=w.heap[(ρ r1 σ).b]?:=
  fun r1 g1 σ o B k1 k2 hne Vp=>heap _ (fun e=>h.rs.dj r r1 _ g1 [] σ o _ B hr k1 hB k2 hv Vp hne e.symm)
 have back:∀ {r1:Nat} {g1:az},(st.rg.set r g')[r1]?=some g1->∀ {σ o B},g1.has σ o B->∃ g2 B2,st.rg[r1]?=some g2/\g2.has σ o B2:=by
  intro r1 g1 k1 σ o B k2;rcases cF k1 with⟨rfl,rfl,_⟩|⟨_,k1⟩
  ·obtain⟨rfl,rfl,_⟩:=lh _ _ _ k2;exact⟨_,_,hr,hB⟩
  ·exact⟨_,_,k1,k2⟩
 refine⟨by rw[hlen];exact h.tm,by rw[hlen];exact h.fr,h.df,?_,⟨h.bl.os,h.bl.tape,h.bl.output,by rw[World.putObj_size];exact h.bl.size,fun k hk hm=>?_⟩,Γ.st _ _ h.gl fun b hb=>heap b ?_,h.gn⟩
 ·rw[hlen];refine⟨fun r1 g1 σ o B k1 k2=>?_,fun r1 g1 σ o B k1 k2 Vp=>?_,fun r1 g1 σ B k1 k2 Vp=>?_,fun r1 r2 g1 g2 σ σ' o' B B' k1 k2 k3 k4 v1 v2 hne=>?_⟩
  ·rcases cF k1 with⟨rfl,rfl,_⟩|⟨hne,k1⟩
   ·obtain⟨rfl,rfl,hl',_⟩:=lh _ _ _ k2;exact hl' _ new
   ·exact(h.rs.blk r1 g1 σ o B k1 k2).cX (fun _=>rfl) (Nat.le_refl _) (fun _ _ _=>rfl) (fun Vp=>other r1 g1 σ o B k1 k2 (fun e'=>hne e'.1.symm) Vp)
  ·obtain⟨g2,B2,b1,b2⟩:=back k1 k2;rw[World.putObj_size];exact h.rs.lt r1 g2 σ o B2 b1 b2 Vp
  ·rcases cF k1 with⟨rfl,rfl,_⟩|⟨hne,k1⟩
   ·obtain⟨rfl,_,_,hm'⟩:=lh _ _ _ k2;exact hm' _ _ ⟨hm0.own,fun j=>hfz _ _ _ new⟩
   ·exact(h.rs.own r1 g1 σ B k1 k2 Vp).cX (other r1 g1 σ true B k1 k2 (fun e'=>hne e'.1.symm) Vp)
  ·obtain⟨g3,B3,b1,b2⟩:=back k1 k3;obtain⟨g4,B4,b3,b4⟩:=back k2 k4;exact h.rs.dj r1 r2 g3 g4 σ σ' o' B3 B4 b1 b3 b2 b4 v1 v2 hne
 ·have e:k≠(ρ r []).b:=fun e=>by
   subst e;rcases hm0.own with ho|ho
   ·exact hm ho
   ·omega
  exact(heap k e).trans (h.bl.block k hk hm)
 ·have:=h.gn b hb;rcases hm0.own with ho|ho
  ·intro e;subst e;exact this.1 ho
  ·omega
theorem Rel.wR (h:Rel Γ M w0 ρ st vs a w) {m:Option Nat} {n:Nat} (hm:∀ r,m=some r->r<st.rg.length):
 Rel Γ M w0 (aE ρ st.rg.length (dx w)) (st.push [.iter m n []]) vs a (w.alloc (.mapIter (m.map fun r=>(ρ r []).b) n #[] n)):=by
 refine h.grow (agB _) (fun r hr π=>by rw[bB hr]) (h.rs.fresh (agB _) ?_ ?_ ?_ ?_)
 ·rintro π o B ⟨rfl,rfl,rfl⟩;refine⟨rfl,by rw[aF];rfl,fun r hr=>by have:=hm r hr;omega,?_⟩
  rw[aF];simp only[dx,akc];cases m with
  |none=>rfl
  |some r=>simp only[Option.map_some];rw[bB (hm r rfl)];rfl
 ·rintro π o B ⟨rfl,rfl,rfl⟩ _;exact⟨Nat.le_refl _,by simp[dx]⟩
 ·rintro π B ⟨rfl,_,rfl⟩ _;exact⟨.inr h.bl.size,fun j=>by simp only[dx,World.frozen?,akc]⟩
 ·rintro π aW o o' B B' ⟨rfl,_⟩ ⟨rfl,_⟩ _ _;rfl
theorem Rel.Bl (h:Rel Γ M w0 ρ st vs a w) {r m n:Nat} {seen seen':List Nat} (hr:st.rg[r]?=some (.iter (some m) n seen)):
 Rel Γ M w0 ρ (st.aBZ r (.iter (some m) n seen')) vs a (w.putObj (ρ r []).b (.mapIter (some (ρ m []).b) n seen'.reverse.toArray n)):=by
 have hB:(az.iter (some m) n seen).has [] true (.it (some m) n seen):=⟨rfl,rfl,rfl⟩;obtain⟨_,hv,hm,_⟩:=h.rs.blk r _ [] true _ hr hB;exact h.uj hr hB hv (h.rs.own r _ [] _ hr hB hv) (fun σ o B hh=>by obtain⟨rfl,rfl,rfl⟩:=hh;exact⟨rfl,rfl,fun w' fS=>⟨rfl,hv,hm,fS⟩,fun _ _ hh=>hh⟩) (fun w' b j fS=>by simp[World.frozen?,fS])
end
end Go.Sy
end
