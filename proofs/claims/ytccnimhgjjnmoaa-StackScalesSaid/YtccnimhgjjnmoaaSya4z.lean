/-
  Texts of the claims: Sya4z. No condition: lemmas and contracts.
-/
import Derived.Test.YtccnimhgjjnmoaaSya1z
import Derived.Test.YtccnimhgjjnmoaaSya2z
import Derived.Test.YtccnimhgjjnmoaaSya3z
import Derived.Laws.MakeOwn
import Derived.WalkSpells
import Derived.Lib.SliceRun
import Derived.Deep.LoopGhost
import Derived.RangeFuncLeaves
import Derived.RangeFuncRecord
import Derived.TacticsIn
import Derived.LoopNIn
import Derived.Sort.LoopGhostIn
set_option linter.all false
set_option maxRecDepth 100000
set_option maxHeartbeats 40000000
section
namespace Go.Sy
open Go Go.RowKit
universe u
section
variable {P:Program} {Γ:bn} {E:Env} {M:Nat->Prop} {w0:World} {ρ:Keys} {st:St} {vs:Fv} {a:Act} {w:World}
theorem Rel.N0 (h:Rel Γ M w0 ρ st vs a w) (t:TypeId) (kk:List CK) (e:TypeId) (tg:List CK):
 Rel Γ M w0 (aE ρ st.rg.length (dx w)) (st.push [.bH t kk e tg [] true true]) vs a (w.alloc (.map #[] 0)):=by
 have root:∀ {π:Path} {o:Bool} {B:aD0},(az.bH t kk e tg [] true true).has π o B->π=[]/\o=true/\B= .bH kk tg []:=by
  rintro π o B (h|⟨j,_,_,hj,_⟩)
  ·exact h
  ·simp at hj
 refine h.grow (agB _) (fun r hr π=>by rw[bB hr]) (h.rs.fresh (agB _) ?_ ?_ ?_ ?_)
 ·intro π o B hB;obtain⟨rfl,rfl,rfl⟩:=root hB;exact⟨rfl,by rw[aF];rfl,#[],by rw[aF];exact akc _,rfl,rfl,fun j x hx=>by simp at hx⟩
 ·intro π o B hB _;obtain⟨rfl,rfl,rfl⟩:=root hB;exact⟨Nat.le_refl _,by simp[dx]⟩
 ·intro π B hB _;obtain⟨rfl,_,rfl⟩:=root hB;exact⟨.inr h.bl.size,fun j=>by simp only[dx,World.frozen?,akc]⟩
 ·intro π aW o o' B B' h1 h2 _ _;obtain⟨rfl,_⟩:=root h1;obtain⟨rfl,_⟩:=root h2;rfl
theorem rh {η bU:Path->RI} {π aW:Path} {te:TypeId} {tg:List CK} {xs:List (ai tg)} (hf:aaa tg=true) (he:bU aW=η π) (h:Ar.aA w η π ⟨te,tg,xs⟩):Ar.aA w bU aW ⟨te,tg,xs⟩ where
 tg:=h.tg
 m:=by rw[he];exact h.m
 aC:=by rw[he];exact h.aC
 len:=by rw[he];exact h.len
 cell:=fun i hi=>by
  obtain⟨ys,h1,h2⟩:=h.cell i hi;exact⟨ys,lA hf h1,fun s y hy=>by rw[he];exact h2 s y hy⟩
theorem qi {a b:Bool} (h:fu a b=true):a=true/\b=true:=by cases a<;>cases b<;>first|exact⟨rfl,rfl⟩|cases h
theorem dS.N8 {N:Nat} (hN:st.rg.length=N) {e:TypeId} {tg:List CK} {ys:List (ai tg)} {b:Bool} (hs:dS M w0 w ρ st [.arr e tg ys b b])
 (RL:st.tm.ok N ρ a.tmps) (hfr:be (Sl.ok N ρ) st.fr vs.fs) (Hh:a.defers=vs.ds) (Hg:Frame M w0 w) (nv:Γ.G w) (qR:∀ b,b<Γ.n->¬M b/\b<w0.heap.size)
 {r:Nat} {t:TypeId} {kk:List CK} {es:List (ai kk×List (ai tg))} {akl:Bool} (hr:st.rg[r]?=some (.bH t kk e tg es true akl)) (hf:aaa tg=true) (k:ai kk) {obj:Array MapEntry}
 (Jd:∀ bU:Path->RI,(∀ j,j≠br kk k es->bU [(j,0)]=ρ r [(j,0)])->(bU [(br kk k es,0)]=ρ N [])->∀ w':World,w'.heap[(ρ r []).b]?=some (.map obj obj.size)->kR w' (ρ r []).b bU kk tg (fL kk k ys es)):
 ∃ ρ',Rel Γ M w0 ρ' ((st.map (At.kill false true r)).aBZ r (.bH t kk e tg (fL kk k ys es) true (fu akl b))) vs a {w with heap:=w.heap.setIfInBounds (ρ r []).b (.map obj obj.size)}:=by
 subst hN;have nw:=hs.rs;have Ja:r<st.rg.length:=fh hr;have jk:(st.rg++[az.arr e tg ys b b])[r]?=some (.bH t kk e tg es true akl):=aao hr;have hA:(st.rg++[az.arr e tg ys b b])[st.rg.length]?=some (.arr e tg ys b b):=by simp
 have AC:(az.arr e tg ys b b).has [] b (.arr ⟨e,tg,ys⟩):=⟨rfl,_,rfl,rfl⟩;have hB:(az.bH t kk e tg es true akl).has [] true (.bH kk tg es):=.inl ⟨rfl,rfl,rfl⟩;obtain⟨_,hv,_⟩:=nw.blk r _ [] true _ jk hB;have aah:bY M w0 w (ρ r []):=nw.own r _ [] _ jk hB hv;have AE:=nw.lt r _ [] true _ jk hB hv;generalize lT:(fun τ:Path=>if τ=[(br kk k es,0)]then ρ st.rg.length []else ρ r τ)=η
 have fC:η []=ρ r []:=by rw[<-lT];simp
 have KO:η [(br kk k es,0)]=ρ st.rg.length []:=by rw[<-lT];simp
 have KN:∀ τ,τ≠[(br kk k es,0)]->η τ=ρ r τ:=fun τ h=>by rw[<-lT];simp only[if_neg h]
 have ht:false=false->η []=ρ r []:=fun _=>fC
 have hne:∀ {r'},r'≠r->aE ρ r η r'=ρ r':=fun hh=>by simp[aE,hh]
 have heap:∀ k,k≠(ρ r []).b->(w.heap.setIfInBounds (ρ r []).b (Obj.map obj obj.size))[k]?=w.heap[k]?:=fun k hk=>by rw[Array.getElem?_setIfInBounds,if_neg (Ne.symm hk)]
 have new:(w.heap.setIfInBounds (ρ r []).b (Obj.map obj obj.size))[(ρ r []).b]?=some (.map obj obj.size):=by rw[Array.getElem?_setIfInBounds,if_pos rfl,if_pos AE]
 have hlen:((st.map (At.kill false true r)).aBZ r (.bH t kk e tg (fL kk k ys es) true (fu akl b))).rg.length=st.rg.length:=by simp[St.aBZ,St.map]
 have other:∀ (r1:Nat) (g1:az) σ o B,(st.rg++[az.arr e tg ys b b])[r1]?=some g1->g1.has σ o B->¬(r=r1/\[]=σ)->(ρ r1 σ).aC=false->(w.heap.setIfInBounds (ρ r []).b (Obj.map obj obj.size))[(ρ r1 σ).b]?=w.heap[(ρ r1 σ).b]?:=
  fun r1 g1 σ o B k1 k2 hn Vp=>heap _ (fun e=>nw.dj r r1 _ g1 [] σ o _ B jk k1 hB k2 hv Vp hn e.symm)
 have get:∀ (r1:Nat) (g1:az),((st.map (At.kill false true r)).aBZ r (.bH t kk e tg (fL kk k ys es) true (fu akl b))).rg[r1]?=some g1->
  (r1=r/\g1= .bH t kk e tg (fL kk k ys es) true (fu akl b))\/(r1≠r/\r1<st.rg.length/\∃ g0,(st.rg++[az.arr e tg ys b b])[r1]?=some g0/\g1=g0.mapA (At.kill false true r)):=by
  intro r1 g1 h1;rcases cF (l:=(st.map (At.kill false true r)).rg) h1 with⟨rfl,rfl,_⟩|⟨hn,h1⟩
  ·exact .inl ⟨rfl,rfl⟩
  ·simp only[St.map,List.getElem?_map,Option.map_eq_some_iff]at h1;obtain⟨g0,h1,h2⟩:=h1;exact .inr ⟨hn,fh h1,g0,aao h1,h2.symm⟩
 have content:∀ j,j<(fL kk k ys es).length->(j=br kk k es/\((fL kk k ys es).getD j (ai.d kk,[])).2=ys)\/(j≠br kk k es/\j<es.length/\((fL kk k ys es).getD j (ai.d kk,[])).2=(es.getD j (ai.d kk,[])).2):=by
  intro j hj;by_cases h1:j=br kk k es
  ·refine .inl ⟨h1,?_⟩;rw[List.getD_eq_getElem?_getD,mO,if_pos h1];rfl
  ·refine .inr ⟨h1,?_,?_⟩
   ·rw[nU]at hj;have:=A3 (k:=k) es;split at hj<;>omega
   ·rw[List.getD_eq_getElem?_getD,mO,if_neg h1,List.getD_eq_getElem?_getD]
 have spot:∀ (r1:Nat) (g1:az) π o B,((st.map (At.kill false true r)).aBZ r (.bH t kk e tg (fL kk k ys es) true (fu akl b))).rg[r1]?=some g1->g1.has π o B->
  r1<st.rg.length/\∃ rs g lJ f B0,(st.rg++[az.arr e tg ys b b])[rs]?=some g/\g.has lJ f B0/\(o=true->f=true)/\aE ρ r η r1 π=ρ rs lJ/\
   ((rs=r1/\lJ=π/\¬(r1=r/\π=[(br kk k es,0)]))\/(r1=r/\π=[(br kk k es,0)]/\rs=st.rg.length/\lJ=[])):=by
  intro r1 g1 π o B h1 h2;rcases get r1 g1 h1 with⟨rfl,rfl⟩|⟨hn,agM,g0,p1,rfl⟩
  ·refine⟨Ja,?_⟩;rcases h2 with⟨rfl,rfl,rfl⟩|⟨j,rfl,ho,hj,_,rfl⟩
   ·exact⟨r1,_,[],true,_,jk,hB,id,by rw[aF];exact fC,.inl ⟨rfl,rfl,by simp⟩⟩
   ·rcases content j hj with⟨rfl,_⟩|⟨vb,hj',_⟩
    ·refine⟨_,_,[],b,_,hA,AC,fun h0=>?_,by rw[aF];exact KO,.inr ⟨rfl,rfl,rfl,rfl⟩⟩
     exact(qi (ho.symm.trans h0)).2
    ·refine⟨r1,_,[(j,0)],akl,_,jk,.inr ⟨j,rfl,rfl,hj',hf,rfl⟩,fun h0=>(qi (ho.symm.trans h0)).1,by rw[aF];exact KN _ (by simpa using vb),.inl ⟨rfl,rfl,fun hh=>vb (by simpa using hh.2)⟩⟩
  ·obtain⟨B0,b1,_,_⟩:=gX (ρ:=ρ) (M:=M) (w0:=w0) h2;exact⟨agM,r1,g0,π,o,B0,p1,b1,id,by rw[hne hn],.inl ⟨rfl,rfl,fun hh=>hn hh.1⟩⟩
 refine⟨aE ρ r η,?_,?_,Hh,?_,⟨Hg.os,Hg.tape,Hg.output,by simpa using Hg.size,fun k hk hm=>?_⟩,Γ.st _ _ nv fun b hb=>heap b ?_,qR⟩
 ·rw[hlen];exact Sl.dJ ht RL
 ·rw[hlen];exact rC ht hfr
 ·rw[hlen];refine⟨fun r1 g1 π o B h1 h2=>?_,fun r1 g1 π o B h1 h2 Vp=>?_,fun r1 g1 π B h1 h2 Vp=>?_,fun r1 r2 g1 g2 π aW o' B B' h1 h2 k1 k2 v1 v2 hn=>?_⟩
  ·rcases get r1 g1 h1 with⟨rfl,rfl⟩|⟨hn,agM,g0,p1,rfl⟩
   ·rcases h2 with⟨rfl,rfl,rfl⟩|⟨j,rfl,ho,hj,_,rfl⟩
    ·refine⟨rfl,by rw[aF,fC];exact hv,?_⟩
     rw[aF,fC];exact Jd η (fun j hj=>KN _ (by simpa using hj)) KO _ new
    ·show Ar.aA _ (aE ρ r1 η r1) [(j,0)] _;rw[aF];rcases content j hj with⟨rfl,hc⟩|⟨vb,hj',hc⟩
     ·rw[hc];have hl:Ar.aA w (ρ st.rg.length) [] ⟨e,tg,ys⟩:=nw.blk _ _ [] b _ hA AC;exact rh hf KO (hl.cX (fun _=>rfl) (fun Vp=>other _ _ [] b _ hA AC (fun hh=>by have:=hh.1;omega) Vp))
     ·rw[hc];have hh:(az.bH t kk e tg es true akl).has [(j,0)] akl (.arr ⟨e,tg,(es.getD j (ai.d kk,[])).2⟩):=.inr ⟨j,rfl,rfl,hj',hf,rfl⟩;have hl:Ar.aA w (ρ r1) [(j,0)] ⟨e,tg,(es.getD j (ai.d kk,[])).2⟩:=nw.blk _ _ _ akl _ jk hh;exact rh hf (KN _ (by simpa using vb)) (hl.cX (fun _=>rfl) (fun Vp=>other _ _ _ akl _ jk hh (fun hh=>by simp at hh) Vp))
   ·obtain⟨B0,b1,b2,_⟩:=gX (ρ:=ρ) (M:=M) (w0:=w0) h2;refine b2 _ _ r1 _ ht hn ?_;exact(nw.blk r1 g0 π o B0 p1 b1).cX (fun _=>rfl) (Nat.le_refl _) (fun _ _ _=>rfl) (fun Vp=>other r1 g0 π o B0 p1 b1 (fun hh=>hn hh.1.symm) Vp)
  ·obtain⟨_,rs,g,lJ,f,B0,p1,p2,_,p4,_⟩:=spot r1 g1 π o B h1 h2;rw[p4]at Vp ⊢;simpa using nw.lt rs g lJ f B0 p1 p2 Vp
  ·rcases get r1 g1 h1 with⟨rfl,rfl⟩|⟨hn,agM,g0,p1,rfl⟩
   ·rcases h2 with⟨rfl,ho,rfl⟩|⟨j,rfl,ho,hj,_,rfl⟩
    ·rw[aF,fC];exact⟨aah.own,fun j=>by simp only[World.frozen?];rw[new]⟩
    ·obtain⟨RC,RD⟩:=qi ho.symm;rw[aF]at Vp ⊢;rcases content j hj with⟨rfl,hc⟩|⟨vb,hj',hc⟩
     ·rw[KO]at Vp ⊢;subst RD;have:=(nw.own _ _ [] _ hA AC Vp).cX (w':={w with heap:=w.heap.setIfInBounds (ρ r1 []).b (.map obj obj.size)}) (other _ _ [] _ _ hA AC (fun hh=>by have:=hh.1;omega) Vp)
      exact this
     ·rw[KN _ (by simpa using vb)]at Vp ⊢
      subst RC;have hh:(az.bH t kk e tg es true true).has [(j,0)] true (.arr ⟨e,tg,(es.getD j (ai.d kk,[])).2⟩):=.inr ⟨j,rfl,rfl,hj',hf,rfl⟩;have:=(nw.own _ _ _ _ jk hh Vp).cX (w':={w with heap:=w.heap.setIfInBounds (ρ r1 []).b (.map obj obj.size)}) (other _ _ _ _ _ jk hh (fun hh=>by simp at hh) Vp)
      exact this
   ·obtain⟨B0,b1,_,b3⟩:=gX (ρ:=ρ) (M:=M) (w0:=w0) h2;rw[hne hn]at Vp ⊢;exact b3 _ _ ((nw.own r1 g0 π B0 p1 b1 Vp).cX (other r1 g0 π true B0 p1 b1 (fun hh=>hn hh.1.symm) Vp))
  ·obtain⟨l1,rs,g,lJ,f,B0,p1,p2,p3,p4,p5⟩:=spot r1 g1 π true B h1 k1;obtain⟨l2,KB,g',FI,f',JW,q1,q2,_,q4,q5⟩:=spot r2 g2 aW o' B' h2 k2;rw[p4]at v1 ⊢;rw[q4]at v2 ⊢;obtain rfl:=p3 rfl;refine nw.dj rs KB g g' lJ FI f' B0 JW p1 q1 p2 q2 v1 v2 ?_;rintro⟨e1,e2⟩;rcases p5 with⟨a1,a2,a3⟩|⟨a1,a2,a3,a4⟩<;>rcases q5 with⟨b1,b2,b3⟩|⟨b1,b2,b3,b4⟩
   ·exact hn ⟨a1.symm.trans (e1.trans b1),a2.symm.trans (e2.trans b2)⟩
   ·omega
   ·omega
   ·exact hn ⟨a1.trans b1.symm,a2.trans b2.symm⟩
 ·have e:k≠(ρ r []).b:=fun e=>by
   subst e;rcases aah.own with ho|ho
   ·exact hm ho
   ·omega
  exact(heap k e).trans (Hg.block k hk hm)
 ·have:=qR b hb;rcases aah.own with ho|ho
  ·intro e;subst e;exact this.1 ho
  ·omega
theorem s9 {m:Operand} {r:Nat} (h:ac4 st m=some r):ev st m=some (.a (.mp r))/\∃ t kk e tg es o i,st.rg[r]?=some (.bH t kk e tg es o i):=by
 unfold ac4 at h;split at h
 ·rename_i r' h1;split at h
  ·rename_i t kk e tg es o i hg;obtain rfl:=Option.some.inj h;exact⟨h1,t,kk,e,tg,es,o,i,bg hg (by simp)⟩
  ·cases h
 ·cases h
theorem yO (hE:bE P Γ E) (h:Rel Γ M w0 ρ st vs a w) {d:Option Nat} {t:TypeId} {m n:Operand} {ok:Bool} {r:Nat} {K:St->Prop} (hr:ac4 st m=some r) (hm:wQ E st d t r n ok K):
 ∃ y x,(Instr.lookup t (a.eval m) (a.eval n) ok).run P w= .ok y w/\x.ok st.rg.length ρ y/\K (st.put d x):=by
 obtain⟨h0,_⟩:=s9 hr;unfold wQ at hm;split at hm
 ·rename_i kt et l t' kk e tg es o i ht hn hg;split at hm
  ·rename_i aBH e' bX k hk hv hc;split at hm
   ·rename_i q1 q2 q3 _ _ _;obtain rfl:=q1.down;obtain⟨ns,qU⟩:=nT hE hk;obtain⟨_,_,hz⟩:=nZ hE hv;obtain⟨hu,_⟩:=hE.mb ht;obtain⟨hr',em⟩:=ax h h0;obtain⟨ys,en,hys⟩:=ax h hn;obtain rfl:=mU hc hys;have Vo:=bg hg (by simp)
    obtain⟨_,_,lg⟩:=h.rs.blk r _ [] o (.bH aBH tg es) Vo (.inl ⟨rfl,rfl,rfl⟩);obtain⟨v,hrun,f1,f2⟩:=nJ (P:=P) hu qU hz lg k ok;rw[em,en];have hrun:=hrun w rfl;have hle:=A3 (k:=k) es;rcases Nat.lt_or_ge (br aBH k es) es.length with hlt|hge
    ·have cB:=hm.1 _ rfl hlt;rw[St.aZ]at cB;refine⟨_,_,hrun,?_,cB.2⟩;rw[show decide (br aBH k es<es.length)=true from decide_eq_true hlt];cases ok with
     |true=>exact⟨[_,_],rfl,⟨hr',f1 hlt⟩,rfl,trivial⟩
     |false=>exact⟨hr',f1 hlt⟩
    ·have cB:=hm.2 (by omega)
     rw[St.aZ]at cB;refine⟨_,_,hrun,?_,cB.2⟩;obtain rfl:=f2 (by omega)
     rw[show decide (br aBH k es<es.length)=false from decide_eq_false (by omega)]
     cases ok with
     |true=>exact⟨[_,_],rfl,⟨rfl,rfl⟩,rfl,trivial⟩
     |false=>exact⟨rfl,rfl⟩
   ·exact hm.elim
  ·exact hm.elim
 ·exact hm.elim
theorem pY (hE:bE P Γ E) (h:Rel Γ M w0 ρ st vs a w) {d:Option Nat} {t:TypeId} {m n x:Operand} {r:Nat} {K:St->Prop} (hr:ac4 st m=some r) (hm:sy E st d t r n x K):
 ∃ w' an ρ',(Instr.mapUpdate t (a.eval m) (a.eval n) (a.eval x)).run P w= .ok () w'/\Rel Γ M w0 ρ' an vs a w'/\K (an.put d (.a .un)):=by
 obtain⟨h0,_⟩:=s9 hr;unfold sy at hm;split at hm
 ·rename_i kt et l xa ht hn hx;split at hm
  ·rename_i kk e tg hk hv;split at hm
   ·rename_i k hc;obtain⟨ci,cZ,_⟩:=nZ hE hv;have RN:=ax h hx;obtain⟨an,ys,b,η,hK,agN,aBD,O3⟩:=sY (held:=[]) ⟨by rw[List.append_nil];exact h.rs⟩ RN ci hm
    simp only[List.nil_append,List.length_nil,Nat.add_zero]at aBD;split at hK
    ·rename_i t' aBH e' bX es akl hg;split at hK
     ·rename_i q1 q2 q3 _ _ _;obtain rfl:=q1.down;obtain rfl:=q2.down;obtain rfl:=q3.down;rw[St.agQ,St.ag1,St.aZ]at hK;obtain⟨ns,qU⟩:=nT hE hk;obtain⟨hu,_⟩:=hE.mb ht;obtain⟨hr',em⟩:=ax h h0;obtain⟨us,en,RM⟩:=ax h hn;obtain rfl:=mU hc RM;have Vo:=bg hg (by simp)
      have hlt:r<an.rg.length:=fh Vo;have QX:aE ρ st.rg.length η r=ρ r:=bB hr';obtain⟨_,_,lg⟩:=aBD.rs.blk r _ [] true (.bH kk tg es) (aao Vo) (.inl ⟨rfl,rfl,rfl⟩);obtain⟨obj,hrun,Jd⟩:=BK (P:=P) (xs:=ys) hu qU lg k (a.eval x);have hN:an.rg.length=st.rg.length:=agN.len;obtain⟨ρ',cC⟩:=aBD.N8 (Γ:=Γ) (vs:=vs) (a:=a) hN
       (by rw[agN.tm];exact h.tm.mono (Nat.le_refl _) (fun r hr π=>by rw[bB hr]))
       (by rw[agN.fr];exact h.fr.mono fun _ _ hh=>hh.mono (Nat.le_refl _) (fun r hr π=>by rw[bB hr])) h.df h.bl h.gl h.gn Vo cZ k
       (fun bU p1 p2 w' fS=>Jd bU p1 (by rw[p2,aF];exact O3) w' fS)
      refine⟨_,_,ρ',?_,cC,hK.2⟩;rw[em,en];rw[QX]at hrun ⊢;exact hrun
     ·exact hK.elim
    ·exact hK.elim
   ·exact hm.elim
  ·exact hm.elim
 ·exact hm.elim
end
end Go.Sy
end
section
namespace Go.Sy
open Go Go.RowKit
universe u
section
variable {P:Program} {Γ:bn} {E:Env} {M:Nat->Prop} {w0:World} {ρ:Keys} {st:St} {vs:Fv} {a:Act} {w:World}
theorem Rel.put (h:Rel Γ M w0 ρ st vs a w) (d:Option Nat) {x:Tm} {y:Value} (hx:x.ok st.rg.length ρ y):Rel Γ M w0 ρ (st.put d x) vs (a.put d y) w:=by
 cases d with
 |none=>exact h
 |some d=>exact⟨by simpa[St.put,Act.put]using h.tm.put d hx,h.fr,h.df,h.rs,h.bl,h.gl,h.gn⟩
theorem jL (h:Rel Γ M w0 ρ st vs a w) {o:Operand} {n:Int} (he:oA st o=some n):∃ k,a.eval o= .int k n:=by
 unfold oA at he;split at he
 ·rename_i k m hx;simp only[Option.some.injEq]at he;subst he;exact⟨k,(ax h hx).1⟩
 ·cases he
theorem Be (z:List Value) (n i s:Nat) (hi:i<n) (hs:s<z.length):(madeCells z.toArray (n*z.length)).toList[i*z.length+s]?=z[s]?:=by
 have hlt:i*z.length+s<n*z.length:=by
  have:(i+1)*z.length<=n*z.length:=Nat.mul_le_mul_right _ hi;rw[Nat.add_mul]at this;omega
 simp only[madeCells,Array.toList_map,Array.toList_range,List.getElem?_map,List.getElem?_range hlt,Option.map_some,List.size_toArray];rw[Nat.mul_comm i,Nat.mul_add_mod,Nat.mod_eq_of_lt hs];rw[List.getElem?_eq_getElem hs]
 congr 1
 simp[hs]
theorem pX (hE:bE P Γ E) (h:Rel Γ M w0 ρ st vs a w) {d:Option Nat} {t:TypeId} {m n x:Operand} {K:St->Prop} (hm:sx E st d t m n x K):
 ∃ w' an,(Instr.mapUpdate t (a.eval m) (a.eval n) (a.eval x)).run P w= .ok () w'/\Rel Γ M w0 ρ an vs a w'/\K (an.put d (.a .un)):=by
 unfold sx at hm;split at hm
 ·rename_i kt et r k' n0 xa ht h1 h2 h3;split at hm
  ·rename_i k t' k2 c es hk hg;split at hm
   ·rename_i v xX pT hv;obtain rfl:=akr xX;obtain rfl:=akr pT;rw[St.ag1,St.aZ]at hm;obtain⟨hu,_⟩:=hE.mb ht;obtain⟨hr,em⟩:=ax h h1;obtain⟨en,_⟩:=ax h h2;have ex:=tQ hv (ax h h3);have Vo:=bg hg (by simp)
    obtain⟨_,_,lg⟩:=h.rs.blk r _ [] true (.map k2 c es) Vo ⟨rfl,rfl,rfl⟩;obtain⟨aD,hrun,e1,e2⟩:=sM hu (k:=k2) (by have:=hE.ty kt;rw[hk]at this;exact this.1) lg n0 v
    refine⟨_,_,?_,h.JT Vo e1 e2,hm.2⟩;rw[em,en,ex];exact hrun
   ·exact hm.elim
  ·exact hm.elim
 ·exact hm.elim
theorem wZ {t e:TypeId} (hu:P.underlying t=some (.slice e)) {op:BinOp} {b:Bool} (hb:Fm op=some b) (u v:Operand) (ad:Option Addr) (n c n' c':Nat):
 (do eqGuard op t u v (.slice ad n c) (.slice none n' c');binOp op t (.slice ad n c) (.slice none n' c'):Sem Value).run P w= .ok (.bool (if ad.isNone then !b else b)) w:=by
 unfold Fm at hb;split at hb
 ·obtain rfl:=Option.some.inj hb;rw[Sem.run_bind,show(eqGuard .eql t u v (.slice ad n c) (.slice none n' c')).run P w= .ok () w by simp[eqGuard],Result.andThen_ok,Lib.run_eql_slice_nil w t e ad n c n' c' hu]
  cases ad<;>rfl
 ·obtain rfl:=Option.some.inj hb;rw[Sem.run_bind,show(eqGuard .neq t u v (.slice ad n c) (.slice none n' c')).run P w= .ok () w by simp[eqGuard],Result.andThen_ok,run_neq_slice_nil_any w t e ad n c n' c' hu]
  cases ad<;>rfl
 ·cases hb
theorem Hj {K:RI} {lo n:Nat} {y:Value} (h:K.head lo n y):∃ ad c,y= .slice ad n c/\(0<n->ad.isNone=false):=by
 cases hv:K.aC with
 |true=>obtain⟨rfl,ad,e⟩:=h.1 hv;exact⟨ad,0,e,fun h=>absurd h (by omega)⟩
 |false=>
  obtain⟨_,ad,e,h2⟩:=h.2 hv;exact⟨ad,_,e,fun h=>by rw[h2 (by omega)];rfl⟩
theorem Fl (hE:bE P Γ E) (h:Rel Γ M w0 ρ st vs a w) {d:Option Nat} {t:TypeId} {op:BinOp} {x y:Operand} {K:St->Prop} (hm:Jq E st d t op (ev st x) (ev st y) K):
 ∃ z zt,(do eqGuard op t x y (a.eval x) (a.eval y);binOp op t (a.eval x) (a.eval y):Sem Value).run P w= .ok z w/\zt.ok st.rg.length ρ z/\K (st.put d zt):=by
 unfold Jq at hm;split at hm
 ·rename_i e m b x' n' c' ht hb hx hy;obtain⟨hu,_⟩:=hE.aav ht;have hy':a.eval y= .slice none n' c':=(ax h hy).1;rw[hy'];split at hm
  ·rename_i n c;have hx':a.eval x= .slice none n c:=(ax h hx).1;rw[hx',wZ hu hb];split at hm
   ·rw[St.aZ]at hm;exact⟨_,.a .ff,rfl,rfl,hm.2⟩
   ·rw[St.aZ]at hm;exact⟨_,.a .tt,rfl,rfl,hm.2⟩
  ·obtain⟨ad,hx'⟩:=ax h hx;split at hm
   ·exact hm.elim
   ·rw[hx',wZ hu hb];have hk:=hm (if ad.isNone then !b else b)
    rw[St.aZ]at hk;exact⟨_,bl _,rfl,⟨rfl,rfl⟩,hk.2⟩
  ·rename_i r π lo n;obtain⟨ad,c,hx',h0⟩:=Hj (ax h hx).2;rw[hx',wZ hu hb];split at hm
   ·rw[aV]at hm;obtain⟨⟨hn,_⟩,hk⟩:=hm;simp only[aa.ae]at hn;rw[St.aZ]at hk;refine⟨_,_,rfl,?_,hk.2⟩;rw[h0 hn];cases b<;>rfl
   ·have hk:=hm (if ad.isNone then !b else b) (fun hn=>by rw[h0 hn];rfl)
    rw[St.aZ]at hk;exact⟨_,bl _,rfl,⟨rfl,rfl⟩,hk.2⟩
  ·exact hm.elim
 ·exact hm.elim
theorem Fx (hE:bE P Γ E) {t e:TypeId} {m:Nat} (ht:E.ty t= .sl e m) {tg:List CK} (hD:E.kd e=some tg) {parts:Array (Nat×Value)} (hp:parts.toList=[]):
 (Instr.buildSlice t 0 parts).run P w= .ok (.slice (some ⟨w.heap.size,0,none⟩) 0 0) (w.alloc (.cells #[] e)):=by
 obtain⟨hu,_,_⟩:=hE.aav ht;obtain⟨hne,⟨i,z,h1,h2,h3,h4,_⟩⟩:=hE.kd e tg hD;simp only[Instr.buildSlice,run_underlying hu,Sem.run_bind,Result.andThen_ok];simp only[sizeOf,typeInfo,h1,Sem.run_bind,run_program,Result.andThen_ok,Sem.run_pure,h2];rw[if_neg (by omega),if_pos (by omega)]
 simp only[Sem.run_bind,Sem.run_pure,Result.andThen_ok,hp,Instr.fill];simp[newRow];rw[show(Array.range 0)=#[]from by decide]
 simp only[List.map_toArray,List.map_nil]
theorem GL (hE:bE P Γ E) (h:Rel Γ M w0 ρ st vs a w) {o:Oper} {K:St->Prop} (hm:aBj E st o K) {next:Act->World->Prop} {Q:Exit->Act->World->Prop}
 (hK:∀ an a' w' ρ',K an->Rel Γ M w0 ρ' an vs a' w'->(dM o=true->Below w.heap.size w w')->next a' w'):o.wp P a w next Q:=by
 unfold aBj at hm;unfold Oper.wp;split at hm
 ·
  rename_i t x hop;split at hm
  ·exact hm.elim
  ·rename_i xv hx hno;split at hm
   ·rename_i l hl;split at hm
    ·obtain⟨c1,_,_⟩:=eZ (ax h hx) hl;simp only[dX,St.cS,St.aZ]at hm;have hrun:(execOp a.eval o).run P w= .ok (.value (.pointer (some ⟨w.heap.size,0,none⟩))) (w.alloc (.cells (a.eval x).cells.toList.toArray t)):=by
      simp[execOp,hop,Instr.box,newVar,newRow]
     rw[hrun];refine hK _ _ _ _ hm.2 ((h.box c1 t).put o.dst ⟨by simp[St.push],?_⟩) (fun _=>agB _)
     rw[aF];simp[RI.at,dx]
    ·exact hm.elim
   ·exact hm.elim
  ·exact hm.elim
 ·
  rename_i t hop;split at hm
  ·exact hm.elim
  ·rename_i z hz hno;obtain⟨_,i,zv,h1,h2,h3⟩:=hE.zero _ _ hz;simp only[dX,St.cS,St.aZ]at hm;have hrun:(execOp a.eval o).run P w= .ok (.value (.pointer (some ⟨w.heap.size,0,none⟩))) (w.alloc (.cells zv.cells.toList.toArray t)):=by
    simp[execOp,hop,Instr.alloc,newVar,newRow,zeroValue,typeInfo,h1,h2]
   rw[hrun];refine hK _ _ _ _ hm.2 ((h.box (h3 _ _) t).put o.dst ⟨by simp[St.push],?_⟩) (fun _=>agB _)
   rw[aF];simp[RI.at,dx]
  ·exact hm.elim
 ·
  rename_i t ad x hop;split at hm
  ·exact hm.elim
  ·rename_i r π i j xv ha hx hno;split at hm
   ·rename_i l hl;split at hm
    ·rename_i hlen;obtain⟨c1,_,c3⟩:=eZ (ax h hx) hl;obtain⟨hr,hp⟩:=ax h ha;obtain⟨w',an,ρ',hrun,cC,hk⟩:=yV hE h hno hr c1 c3 (dK hlen) hm;rw[St.aZ]at hk;have eF:(execOp a.eval o).run P w= .ok .skip w':=by
      simp[execOp,hop,hp,hrun]
     rw[eF];exact hK _ _ _ _ hk.2 (cC.put o.dst (x:=.a .un) (y:=undef) rfl) (fun iQ=>by simp[dM,hop]at iQ)
    ·exact hm.elim
   ·exact hm.elim
  ·exact hm.elim
 ·
  rename_i op t x y hop;obtain⟨z,zt,hrun,hz,hk⟩:=Fl hE h hm;have eF:(execOp a.eval o).run P w= .ok (.value z) w:=by
   simp only[execOp,hop];change Sem.run P (do let x<-(do eqGuard _ _ _ _ _ _;binOp _ _ _ _:Sem Value);pure (Next.value x)) w=_
   rw[Sem.run_bind,hrun];rfl
  rw[eF];exact hK _ _ _ _ hk (h.put o.dst hz) (fun _=>Below.refl _ _)
 ·
  rename_i t n parts hop;split at hm
  ·rename_i e m ht;split at hm
   ·rename_i tg hD;split at hm
    ·rename_i RA hp;obtain rfl:=Nat.eq_of_beq_eq_true RA;rw[St.aZ]at hm;have hrun:(execOp a.eval o).run P w= .ok (.value (.slice (some ⟨w.heap.size,0,none⟩) 0 0)) (w.alloc (.cells #[] e)):=by
      simp only[execOp,hop,Sem.run_bind,Fx hE ht hD (parts:=parts.map fun(i,x)=>(i,a.eval x)) (by simp[hp]),Result.andThen_ok,Sem.run_pure]
     rw[hrun];exact hK _ _ _ _ hm.2 ((h.cX (agB _)).put o.dst (x:=.a .z) ⟨_,rfl⟩) (fun _=>agB _)
    have aBD:dS M w0 w ρ st []:=⟨by simpa using h.rs⟩
    have hb:0<n/\n*tg.length<=16777216:=by
     obtain⟨an,xs,b,_,_,_,_,k1,_⟩:=vu (a:=a) (hE.kn e tg hD) aBD (fun o x hx=>ax h hx) hm
     split at k1
     ·rw[aV]at k1;exact⟨k1.1.1,k1.1.2.1⟩
     ·exact k1.elim
    obtain⟨an,xs,b,ρ',k1,k2,k3,k4,k5,k6⟩:=Jm hE h ht hD (hE.kn e tg hD) hm hb.1 hb.2 (fun st xs b hk=>by split at hk;assumption;exact hk.elim)
    split at k1
    ·rw[aV]at k1;simp only[dX,St.cS,St.aZ,k5]at k1;have hrun:(execOp a.eval o).run P w= .ok (.value (.slice (some ⟨w.heap.size,0,none⟩) n n)) (w.alloc (.cells ((parts.toList.flatMap fun p=>(a.eval p.2).cells.toList)).toArray e)):=by
      simp only[execOp,hop,Sem.run_bind,k2,Result.andThen_ok,Sem.run_pure]
     rw[hrun];exact hK _ _ _ _ k1.2.2 (k3.put o.dst (x:=.a (.sl st.rg.length [] 0 n)) (by rw[show(an.push [.arr e tg xs true b]).rg.length=st.rg.length+1 by simp[St.push,k5]];exact k6)) (fun _=>agB _)
    ·exact k1.elim
   ·exact hm.elim
  ·exact hm.elim
 ·
  rename_i t len cap hop;split at hm
  ·rename_i e m n c ht hn hc;split at hm
   ·rename_i tg hD;rw[aV]at hm;obtain⟨⟨h0,hnc,hsz,_⟩,hm⟩:=hm;simp only[aa.ae]at h0 hnc hsz;subst hnc;simp only[dX,tP,St.cS,aAW]at hm;obtain⟨kl,el⟩:=jL h hn;obtain⟨kc,ec⟩:=jL h hc;obtain⟨hu,_,_⟩:=hE.aav ht;obtain⟨ci,i,z,hi,hs,hz,vj,hby⟩:=hE.kd e tg hD;have hpos:0<tg.length:=List.length_pos_iff.2 ci;have Hq:n<=16777216:=Int.le_trans (by have:=Int.mul_le_mul_of_nonneg_left (show(1:Int)<=tg.length by omega) h0;omega) hsz
    have hbytes:(i.bytes:Int)*n<=281474976710656:=by
     have h1:(i.bytes:Int)*n<=(32*tg.length:Nat)*n:=Int.mul_le_mul_of_nonneg_right (by exact_mod_cast hby) h0
     have h2:((32*tg.length:Nat):Int)*n=32*(n*tg.length):=by push_cast;rw[Int.mul_assoc,Int.mul_comm (tg.length:Int)]
     omega
    have hrun:=run_make (P:=P) w t e i z hu hi hz kl kc n n h0 (Int.le_refl _) hbytes (by omega)
    have vk:z.cells=(ai.zero tg).toArray:=Array.ext' (by simpa using vj)
    rw[hs,vk]at hrun;have ve:=BI (te:=e) h ci (hE.kn e tg hD) (n:=n.toNat) (by simp only[maxLen];omega) (cs:=(madeCells (ai.zero tg).toArray (n.toNat*tg.length)).toList) (by simp[madeCells])
     (fun i hi s hs=>by have:=Be (ai.zero tg) n.toNat i s hi (by rw[aay];exact hs);rwa[aay]at this)
    simp only[Array.toArray_toList]at ve;have eF:(execOp a.eval o).run P w= .ok (.value (.slice (some ⟨w.heap.size,0,none⟩) n.toNat n.toNat)) (w.alloc (.cells (madeCells (ai.zero tg).toArray (n.toNat*tg.length)) e)):=by
     simp[execOp,hop,el,ec,hrun]
    rw[eF];refine hK _ _ _ _ hm.2 (ve.put o.dst ⟨by simp[St.push],?_⟩) (fun _=>agB _)
    rw[aF];exact⟨fun hv=>by simp[aac]at hv,fun _=>⟨by simp[aac],some ⟨w.heap.size,0,none⟩,by simp[aac],fun _=>by simp[RI.at,aac]⟩⟩
   ·exact hm.elim
  ·exact hm.elim
 ·
  rename_i t rv hop;split at hm
  ·rename_i kt et ht;have hrun:(execOp a.eval o).run P w= .ok (.value (.map (some w.heap.size))) (w.alloc (.map #[] 0)):=by
    simp[execOp,hop,Instr.makeMap]
   rw[hrun];split at hm
   ·rename_i kk e tg hk hc;simp only[dX,St.cS,St.aZ]at hm;refine hK _ _ _ _ hm.2 ((h.N0 t kk e tg).put o.dst ⟨by simp[St.push],?_⟩) (fun _=>agB _)
    rw[aF];rfl
   ·split at hm
    ·rename_i k c hk hc;simp only[dX,St.cS,St.aZ]at hm;refine hK _ _ _ _ hm.2 ((h.NZ t k c).put o.dst ⟨by simp[St.push],?_⟩) (fun _=>agB _)
     rw[aF];rfl
    ·exact hm.elim
  ·exact hm.elim
 ·
  rename_i t x hop;split at hm
  ·rename_i k et ht hx;obtain⟨hu,_⟩:=hE.mb ht;have hv:a.eval x= .map none:=(ax h hx).1;simp only[dX,St.cS,St.aZ]at hm;have hrun:(execOp a.eval o).run P w= .ok (.value (.pointer (some ⟨w.heap.size,0,none⟩))) (w.alloc (.mapIter none 0 #[] 0)):=by
    simp[execOp,hop,Instr.range,hv,run_underlying hu]
   rw[hrun];refine hK _ _ _ _ hm.2 ((h.wR (m:=none) (n:=0) (fun r hr=>by cases hr)).put o.dst ⟨by simp[St.push],?_⟩) (fun _=>agB _)
   rw[aF];rfl
  ·rename_i k et m ht hx;obtain⟨hu,_⟩:=hE.mb ht;obtain⟨hlt,hv⟩:=ax h hx;split at hm
   ·rename_i t2 k2 c2 es o2 hg;simp only[Dk,dX,St.cS,St.aZ]at hm;obtain⟨_,_,hmap⟩:=h.rs.blk m _ [] o2 (.map k2 c2 es) (bg hg (by simp)) ⟨rfl,rfl,rfl⟩
    obtain⟨aD,h1,h2,_⟩:=rq hmap;have hrun:(execOp a.eval o).run P w= .ok (.value (.pointer (some ⟨w.heap.size,0,none⟩))) (w.alloc (.mapIter (some (ρ m []).b) es.length #[] es.length)):=by
     rw[<-h2];simp[execOp,hop,Instr.range,hv,run_underlying hu,getObj,Sem.run,h1]
    rw[hrun];refine hK _ _ _ _ hm.2 ((h.wR (m:=some m) (n:=es.length) (fun r hr=>by cases hr;exact hlt)).put o.dst ⟨by simp[St.push],?_⟩) (fun _=>agB _)
    rw[aF];rfl
   ·rename_i t2 RQ e2 iU es o2 i2 hg;simp only[Dk,dX,St.cS,St.aZ]at hm;obtain⟨_,_,aD,h1,h2,_⟩:=h.rs.blk m _ [] o2 (.bH RQ iU es) (bg hg (by simp)) (.inl ⟨rfl,rfl,rfl⟩)
    have hrun:(execOp a.eval o).run P w= .ok (.value (.pointer (some ⟨w.heap.size,0,none⟩))) (w.alloc (.mapIter (some (ρ m []).b) es.length #[] es.length)):=by
     rw[<-h2];simp[execOp,hop,Instr.range,hv,run_underlying hu,getObj,Sem.run,h1]
    rw[hrun];refine hK _ _ _ _ hm.2 ((h.wR (m:=some m) (n:=es.length) (fun r hr=>by cases hr;exact hlt)).put o.dst ⟨by simp[St.push],?_⟩) (fun _=>agB _)
    rw[aF];rfl
   ·exact hm.elim
  ·exact hm.elim
 ·
  rename_i x av1 hop;split at hm
  ·rename_i r hx;obtain⟨hlt,hv⟩:=ax h hx;split at hm
   ·rename_i n seen hg;obtain⟨_,_,_,h4⟩:=h.rs.blk r _ [] true (.it none n seen) (bg hg (by simp)) ⟨rfl,rfl,rfl⟩
    rw[St.aZ]at hm;have hrun:(execOp a.eval o).run P w= .ok (.value (.tuple #[.bool false])) w:=by
     simp[execOp,hop,Instr.next,hv,getObj,Sem.run,h4]
    rw[hrun];exact hK _ _ _ _ hm.2 (h.put o.dst (x:=.bF [.a .ff]) ⟨[.bool false],rfl,rfl,trivial⟩) (fun _=>Below.refl _ _)
   ·rename_i m n seen hg;split at hm
    ·rename_i t k c es own qQ;rw[aV]at hm;obtain⟨⟨hn,_⟩,Nq,Nr⟩:=hm;simp only[aa.ae]at hn;have Vo:=bg hg (by simp)
     obtain⟨_,_,i3,i4⟩:=h.rs.blk r _ [] true (.it (some m) n seen) Vo ⟨rfl,rfl,rfl⟩;obtain⟨_,_,i6⟩:=h.rs.blk m _ [] own (.map k c es) (bg qQ (by simp)) ⟨rfl,rfl,rfl⟩
     rcases wY (P:=P) (ty:=o.type) i6 i4 hn with⟨hall,pn⟩|⟨j,hj,iQ,w1,mL,pn⟩
     ·have hk:=Nr fun j hj=>ry (hall j hj)
      rw[St.aZ]at hk;have hrun:(execOp a.eval o).run P w= .ok (.value (.tuple #[.bool false])) w:=by
       simp[execOp,hop,hv,pn]
      rw[hrun];exact hK _ _ _ _ hk.2 (h.put o.dst (x:=.bF [.a .ff]) ⟨[.bool false],rfl,rfl,trivial⟩) (fun _=>Below.refl _ _)
     ·have hk:=Nq j hj (aIj iQ);simp only[St.aks,St.aZ]at hk;have h1:Rel Γ M w0 ρ st vs a w1:=by
       rcases mL with rfl|rfl
       ·exact h
       ·exact h.cX ((Below.refl _ _).drew)
      have hrun:(execOp a.eval o).run P w= .ok (.value (.tuple #[.bool true,.int k (es.getD j (0,c.d)).1,c.val (es.getD j (0,c.d)).2])) (w1.putObj (ρ r []).b (.mapIter (some (ρ m []).b) n (j::seen).reverse.toArray n)):=by
       simp only[execOp,hop,hv,Sem.run_bind,pn,Result.andThen_ok,Sem.run_pure];rfl
      rw[hrun];exact hK _ _ _ _ hk.2 ((h1.Bl (seen':=j::seen) Vo).put o.dst (x:=.bF [.a .tt,.a (.v (.int k (es.getD j (0,c.d)).1)),.a (c.pl (es.getD j (0,c.d)).2)]) ⟨[.bool true,.int k (es.getD j (0,c.d)).1,c.val (es.getD j (0,c.d)).2],rfl,rfl,⟨rfl,rfl⟩,pJ,trivial⟩) (fun iQ=>by simp[dM,hop]at iQ)
    ·rename_i t kk e tg es own akl qQ;rw[aV]at hm;obtain⟨⟨hn,_⟩,Nq,Nr⟩:=hm;simp only[aa.ae]at hn;have Vo:=bg hg (by simp)
     obtain⟨_,_,i3,i4⟩:=h.rs.blk r _ [] true (.it (some m) n seen) Vo ⟨rfl,rfl,rfl⟩;obtain⟨_,_,i6⟩:=h.rs.blk m _ [] own (.bH kk tg es) (bg qQ (by simp)) (.inl ⟨rfl,rfl,rfl⟩)
     rcases vL (P:=P) (ty:=o.type) i6 i4 hn with⟨hall,pn⟩|⟨j,hj,iQ,v,w1,mL,pn⟩
     ·have hk:=Nr fun j hj=>ry (hall j hj)
      rw[St.aZ]at hk;have hrun:(execOp a.eval o).run P w= .ok (.value (.tuple #[.bool false])) w:=by
       simp[execOp,hop,hv,pn]
      rw[hrun];exact hK _ _ _ _ hk.2 (h.put o.dst (x:=.bF [.a .ff]) ⟨[.bool false],rfl,rfl,trivial⟩) (fun _=>Below.refl _ _)
     ·have hk:=Nq j hj (aIj iQ);simp only[St.aks,St.aZ]at hk;have h1:Rel Γ M w0 ρ st vs a w1:=by
       rcases mL with rfl|rfl
       ·exact h
       ·exact h.cX ((Below.refl _ _).drew)
      have hrun:(execOp a.eval o).run P w= .ok (.value (.tuple #[.bool true,.agg (ai.a8 kk (es.getD j (ai.d kk,[])).1).toArray,v])) (w1.putObj (ρ r []).b (.mapIter (some (ρ m []).b) n (j::seen).reverse.toArray n)):=by
       simp only[execOp,hop,hv,Sem.run_bind,pn,Result.andThen_ok,Sem.run_pure];rfl
      rw[hrun];exact hK _ _ _ _ hk.2 ((h1.Bl (seen':=j::seen) Vo).put o.dst (x:=.bF [.a .tt,.agg (ai.lV kk (es.getD j (ai.d kk,[])).1),.a .any]) ⟨[.bool true,.agg (ai.a8 kk (es.getD j (ai.d kk,[])).1).toArray,v],rfl,rfl,⟨_,rfl,BD _ _⟩,trivial,trivial⟩) (fun iQ=>by simp[dM,hop]at iQ)
    ·exact hm.elim
   ·exact hm.elim
  ·exact hm.elim
 ·
  rename_i t m n x hop;split at hm
  ·rename_i r hr;obtain⟨w',an,ρ',hrun,cC,hk⟩:=pY hE h hr hm;have eF:(execOp a.eval o).run P w= .ok .skip w':=by simp[execOp,hop,hrun]
   rw[eF];exact hK _ _ _ _ hk (cC.put o.dst (x:=.a .un) (y:=undef) rfl) (fun iQ=>by simp[dM,hop]at iQ)
  ·obtain⟨w',an,hrun,cC,hk⟩:=pX hE h hm;have eF:(execOp a.eval o).run P w= .ok .skip w':=by simp[execOp,hop,hrun]
   rw[eF];exact hK _ _ _ _ hk (cC.put o.dst (x:=.a .un) (y:=undef) rfl) (fun iQ=>by simp[dM,hop]at iQ)
 ·
  rename_i t m n x hop;split at hm
  ·rename_i r hr;obtain⟨w',an,ρ',hrun,cC,hk⟩:=pY hE h hr hm;have eF:(execOp a.eval o).run P w= .ok .skip w':=by simp[execOp,hop,hrun]
   rw[eF];exact hK _ _ _ _ hk (cC.put o.dst (x:=.a .un) (y:=undef) rfl) (fun iQ=>by simp[dM,hop]at iQ)
  ·obtain⟨w',an,hrun,cC,hk⟩:=pX hE h hm;have eF:(execOp a.eval o).run P w= .ok .skip w':=by simp[execOp,hop,hrun]
   rw[eF];exact hK _ _ _ _ hk (cC.put o.dst (x:=.a .un) (y:=undef) rfl) (fun iQ=>by simp[dM,hop]at iQ)
 ·
  rename_i t m n ok hop;split at hm
  ·rename_i r hr;obtain⟨y,x,hrun,hx,hk⟩:=yO hE h hr hm;have eF:(execOp a.eval o).run P w= .ok (.value y) w:=by simp[execOp,hop,hrun]
   rw[eF];exact hK _ _ _ _ hk (h.put o.dst hx) (fun _=>Below.refl _ _)
  ·exact hm.elim
 ·
  rename_i c hop;split at hm
  ·rename_i agL;split at hm
   ·rename_i s x t t' hargs E6;split at hm
    ·rename_i sv xv ht hs hx;obtain rfl:=Nat.eq_of_beq_eq_true ht;obtain⟨v,w',an,ρ',y,hrun,cC,hy,_,hk⟩:=Cw (ty:=o.type) hE h (ax h hs) (ax h hx) hm;have e1:c={callee:=.builtin .append,args:=#[s,x],argTypes:=#[t,t]}:=by
      cases c with
      |mk callee args argTypes=>
       simp only at agL hargs E6
       congr 1
       ·exact Array.ext' (by simpa using hargs)
       ·exact Array.ext' (by simpa using E6)
     subst e1;have eF:(execOp a.eval o).run P w= .ok (.value v) w':=by
      simp[execOp,hop,resolve,invoke,builtin,hrun]
     rw[eF];exact hK _ _ _ _ hk (cC.put o.dst hy) (fun iQ=>by simp[dM,hop]at iQ)
    ·rename_i n ht hs hx;obtain⟨v,w',an,ρ',y,hrun,cC,hy,_,hk⟩:=Ey (ty:=o.type) hE h hm;have e1:c={callee:=.builtin .append,args:=#[s,x],argTypes:=#[t,t']}:=by
      cases c with
      |mk callee args argTypes=>
       simp only at agL hargs E6
       congr 1
       ·exact Array.ext' (by simpa using hargs)
       ·exact Array.ext' (by simpa using E6)
     subst e1;have es:a.eval s= .slice none 0 0:=(ax h hs).1;have ex:a.eval x= .int .i64 n:=(ax h hx).1;have eF:(execOp a.eval o).run P w= .ok (.value v) w':=by
      simp[execOp,hop,resolve,invoke,builtin,es,ex,hrun]
     rw[eF];exact hK _ _ _ _ hk (cC.put o.dst hy) (fun iQ=>by simp[dM,hop]at iQ)
    ·exact hm.elim
   ·exact hm.elim
  ·exact hm.elim
 ·exact hm.elim
end
end Go.Sy
end
section
namespace Go.Sy
open Go Go.RowKit
universe u
structure zk (P:Program) (f:FuncId):Prop where
 h:∃ fn,P.funcs[f]?=some fn/\(fn.name== "runtime.NumGoroutine")=false/\fn.body.isNone=false
structure bQ (P:Program) (f:FuncId) (b:Body):Prop where
 h:∃ fn,P.funcs[f]?=some fn/\(fn.name== "runtime.NumGoroutine")=false/\fn.body=some b.code/\fn.ntmps=b.n/\fn.results=b.rs.toArray
structure aL (P:Program) (Γ:bn) (E:Env):Prop where
 mixed:P.follows .mixedOrders=true
 fn:∀ f c,E.ct f=some c->zk P f
 inl:∀ f b,E.inl f=some b->bQ P f b
 env:bE P Γ E
theorem bQ.fn {P:Program} {f:FuncId} {b:Body} (h:bQ P f b):zk P f:=by
 obtain⟨fn,h1,h2,h3,_⟩:=h.h;exact⟨fn,h1,h2,by rw[h3];rfl⟩
def ju (P:Program) (Γ:bn) (E:Env) (cl:Cl):Prop:=
 ∀ f b,E.inl f=some b->∀ st args K,cl b args st K->∀ (M:Nat->Prop) (w0:World) (ρ:Keys) (vs:Fv) (a:Act) (w:World) (a8:List Value),Rel Γ M w0 ρ st vs a w->be (Tm.ok st.rg.length ρ) args a8->
  Calls P f a8.toArray w fun e w'=>∃ v an ρ' x,e= .returned v/\Rel Γ M w0 ρ' an vs a w'/\Tm.ok an.rg.length ρ' x v/\K x an
section
variable {P:Program} {Γ:bn} {E:Env} {cl:Cl} {M:Nat->Prop} {w0:World} {ρ:Keys} {st:St} {vs:Fv} {a:Act} {w:World}
theorem kJ (h:Rel Γ M w0 ρ st vs a w):∀ {os:List Operand} {l:List Tm},oY st os=some l->be (Tm.ok st.rg.length ρ) l (os.map a.eval)
 |[],l,he=>by simp only[oY,Option.some.injEq]at he;subst he;trivial
 |o::os,l,he=>by
  simp only[oY]at he;split at he
  ·rename_i x l' h1 h2;simp only[Option.some.injEq]at he;subst he;exact⟨ax h h1,kJ h h2⟩
  ·cases he
theorem ol (h:Rel Γ M w0 ρ st vs a w) {fo:Operand} {f:FuncId} {pre aBd:List Tm} (he:kj st fo=some (f,pre,aBd)):
 ∃ ps us:List Value,a.eval fo= .func (.func f) ps.toArray us.toArray/\be (Tm.ok st.rg.length ρ) pre ps/\be (Tm.ok st.rg.length ρ) aBd us:=by
 unfold kj at he;split at he
 ·rename_i f' l hx;simp only[Option.some.injEq,Prod.mk.injEq]at he;obtain⟨rfl,rfl,rfl⟩:=he;obtain⟨h1,h2⟩:=ax h hx;refine⟨[],_,h2,trivial,?_⟩;clear h2 hx;induction l with
  |nil=>trivial
  |cons r l ih=>exact⟨⟨h1 r (by simp),by simp⟩,ih fun r' hr'=>h1 r' (by simp[hr'])⟩
 ·rename_i f' first ay3 hx
  split at he
  ·rename_i l h1 h2;split at he
   ·rename_i h3;simp only[Option.some.injEq,Prod.mk.injEq]at he;obtain⟨rfl,rfl,rfl⟩:=he;have hv:a.eval fo= .func (.func f') first ay3:=(ax h hx).1
    refine⟨[.agg l],[],?_,⟨⟨[],?_,trivial⟩,trivial⟩,trivial⟩
    ·rw[hv,<-h1,<-h2]
    ·rw[<-h3]
   ·cases he
  ·cases he
 ·cases he
theorem mY {f:FuncId} (hf:zk P f) {o:Oper} {c:Call} (ho:o.op= .call c) {fo:Operand} (hc:c.callee= .value fo) {ps us:List Value} (hv:a.eval fo= .func (.func f) ps.toArray us.toArray):
 (execOp a.eval o).run P w= .ok (.enter f (ps++((c.args.toList.map a.eval)++us)).toArray) w:=by
 obtain⟨fn,h1,h2,h3⟩:=hf.h;have e:ps.toArray++(c.args.map a.eval)++us.toArray=(ps++((c.args.toList.map a.eval)++us)).toArray:=Array.ext' (by simp)
 cases c;simp only at hc;subst hc;simp only[execOp,ho,resolve,hv,Deferred.ofValue];simp only[Sem.run_bind,Sem.run_pure,Result.andThen_ok,invoke];simp only at e;rw[e];simp only[callFunc,Sem.run_bind,run_program,Result.andThen_ok,h1,h2,h3,Bool.false_eq_true,if_false,Sem.run_pure]
def St.Gr (st:St) (ch:List (Nat×az)):St:=⟨st.tm,st.fr,ch.foldl (fun rg c=>rg.set c.1 c.2) st.rg⟩
theorem Gq (c:Bool):∀ (ch:List (Nat×az)) (st:St) (k:St->Prop),Mq c st ch k=k (st.Gr ch)
 |[],_,_=>rfl
 |(r,g)::ch,st,k=>by
  show St.jS c st r g (fun st=>Mq c st ch k)=_
  rw[St.ag1,Gq c ch];rfl
theorem uJ (ch:List (Nat×az)):∀ (rg:List az),(ch.foldl (fun rg c=>rg.set c.1 c.2) rg).length=rg.length:=by
 induction ch with
 |nil=>intro rg;rfl
 |cons c ch ih=>intro rg;rw[List.foldl_cons,ih,List.length_set]
theorem Rel.called (h:Rel Γ M w0 ρ st vs a w) {w':World} {ρ':Keys} {ch:List (Nat×az)} {gs:List az}
 (hf:Frame (fun b=>∃ (r:Nat) (g:az) (π:Path) (B:aD0),st.rg[r]?=some g/\g.has π true B/\(ρ r π).aC=false/\(ρ r π).b=b) w w') (hρ:∀ r,r<st.rg.length->∀ π,ρ' r π=ρ r π)
 (hr:cA M w0 (st.rg.length+gs.length) ρ' (ch.foldl (fun rg c=>rg.set c.1 c.2) st.rg++gs) w'):Rel Γ M w0 ρ' ((st.Gr ch).push gs) vs a w':=by
 have hN:((st.Gr ch).push gs).rg.length=st.rg.length+gs.length:=by simp[St.push,St.Gr,uJ]
 have keep:∀ k,k<w0.heap.size->¬M k->k<w.heap.size->w'.heap[k]?=w.heap[k]?:=fun k hk hm Rx=>hf.block k Rx (by
  rintro⟨r,g,π,B,h1,h2,h3,h4⟩;have hown:=h.rs.own r g π B h1 h2 h3;have:M (ρ r π).b\/w0.heap.size<=(ρ r π).b:=by cases B with|box=>exact hown.own|map=>exact hown.own|bH=>exact hown.own|it=>exact hown.own|lp=>exact hown.own|arr=>exact hown.1.own
  rw[h4]at this;rcases this with h5|h5
  ·exact hm h5
  ·omega)
 refine⟨?_,?_,h.df,?_,?_,Γ.st _ _ h.gl fun b hb=>?_,h.gn⟩
 ·rw[hN];exact h.tm.mono (Nat.le_add_right _ _) hρ
 ·rw[hN];exact h.fr.mono fun s v hs=>hs.mono (Nat.le_add_right _ _) hρ
 ·rw[hN];exact hr
 ·exact⟨hf.os.trans h.bl.os,hf.tape.trans h.bl.tape,hf.output.trans h.bl.output,Nat.le_trans h.bl.size hf.size,fun k hk hm=>(keep k hk hm (Nat.lt_of_lt_of_le hk h.bl.size)).trans (h.bl.block k hk hm)⟩
 ·have:=h.gn b hb;exact keep b this.2 this.1 (Nat.lt_of_lt_of_le this.2 h.bl.size)
theorem vQ {d:Option Nat} {m:Nat} {i:Int} {K:St->Prop}:∀ {n:Nat} {l:List At} {k:Nat},sI st d m i K n l k->∀ j,j<n->i=((k+j:Nat):Int)->st.aBS d (match (l.drop (j*m)).take m with|[x]=> .a x|l=> .agg l) K
 |0,_,_,_,j,hj,_=>by omega
 |n+1,l,k,h,j,hj,hi=>by
  obtain⟨h1,h2⟩:(i=(k:Int)->st.aBS d (match l.take m with|[x]=> .a x|l=> .agg l) K)/\sI st d m i K n (l.drop m) (k+1):=h
  cases j with
  |zero=>rw[Nat.zero_mul,List.drop_zero];exact h1 (by simpa using hi)
  |succ j=>
   have:=vQ h2 j (by omega) (by rw[hi];congr 1;omega)
   rw[List.drop_drop]at this;rwa[show m+j*m=(j+1)*m by rw[Nat.add_mul];omega]at this
end
end Go.Sy
end
section
namespace Go.Sy
open Go Go.RowKit
universe u
section
variable {P:Program} {Γ:bn} {E:Env} {cl:Cl} {M:Nat->Prop} {w0:World} {ρ:Keys} {st:St} {vs:Fv} {a:Act} {w:World}
theorem Fs (hE:bE P Γ E) {e:TypeId} (h1:∀ fs n,E.ty e≠ .st fs n) (h2:∀ a b c,E.ty e≠ .ar a b c) (h3:E.ty e≠ .other):(∃ d,P.underlying e=some d/\lD d=true)/\(P.info? e).map (·.size)=some 1:=by
 have hty:=hE.ty e;cases eT:E.ty e with
 |st fs n=>exact absurd eT (h1 fs n)
 |ar a b c=>exact absurd eT (h2 a b c)
 |other=>exact absurd eT h3
 |int k=>rw[eT]at hty;exact⟨⟨_,hty.1,rfl⟩,hty.2⟩
 |bool=>rw[eT]at hty;exact⟨⟨_,hty.1,rfl⟩,hty.2⟩
 |str=>rw[eT]at hty;exact⟨⟨_,hty.1,rfl⟩,hty.2⟩
 |sl e m=>rw[eT]at hty;exact⟨⟨_,hty.1,rfl⟩,hty.2.2⟩
 |map k e=>rw[eT]at hty;exact⟨⟨_,hty.1,rfl⟩,hty.2⟩
 |word=>rw[eT]at hty;exact hty
theorem yQ {t e:TypeId} {n:Nat} (hu:P.underlying t=some (.array n e)) (hs:(P.info? e).map (·.size)=some 1) {d:TypeDesc} (NC:P.underlying e=some d) (hd:lD d=true) {ys:List Value} {k:IntKind} {i:Int} (hi:0<=i/\i<n) {y:Value} (hy:ys[i.toNat]?=some y):
 (Instr.index t (.agg ys.toArray) (.int k i)).run P w= .ok y w:=by
 have hlt:=(List.getElem?_eq_some_iff.1 hy).1;have hg:=(List.getElem?_eq_some_iff.1 hy).2;cases d<;>first|(simp[lD]at hd;done)|simp[Instr.index,run_underlying hu,asIntOf,cY hs,hi,part,isAgg,run_underlying NC,hy]
theorem aBk (hP:aL P Γ E) (hC:ju P Γ E cl) (h:Rel Γ M w0 ρ st vs a w) {o:Oper} {K:St->Prop} (he:gO E cl st o K) {next:Act->World->Prop} {Q:Exit->Act->World->Prop}
 (hK:∀ an a' w' ρ',K an->Rel Γ M w0 ρ' an vs a' w'->(keeps E o=true->Below w.heap.size w w')->next a' w'):o.wp P a w next Q:=by
 unfold gO at he;split at he
 ·
  rename_i c iN;have hop:o.op= .call c/\∃ fo,c.callee= .value fo:=by
   unfold oc at iN;split at iN
   ·rename_i c' hop;split at iN
    ·rename_i fo agL;simp only[Option.some.injEq]at iN;subst iN;exact⟨hop,fo,agL⟩
    ·cases iN
   ·cases iN
  obtain⟨hop,fo,agL⟩:=hop;unfold Oper.wp;unfold GH at he;rw[agL]at he;simp only at he;split at he
  ·rename_i f pre aBd args AF hargs;obtain⟨ps,us,hv,hpre,aaf⟩:=ol h AF;have hall:=hpre.append ((kJ h hargs).append aaf);have hlo:w0.heap.size<=w.heap.size:=h.bl.size;have qR:∀ b,b<Γ.n->b<w.heap.size:=fun b hb=>Nat.lt_of_lt_of_le (h.gn b hb).2 hlo
   split at he
   ·rename_i F hF;split at he
    ·rename_i q t Q5;rw[aV,St.gZ]at he;have hct:au.Ok P Γ f (.fn F):=hP.env.ct f _ hF;rw[mY (hP.fn f _ hF) hop agL hv];refine(hct _ _ _ _ Q5 he.1 M w0 ρ w _ hlo qR h.gl hall h.rs).mono ?_;rintro e w' ⟨v,rfl,ht,hb⟩;exact hK _ _ _ _ he.2.2 ((h.cX hb).put o.dst ht) (fun _=>hb)
    ·exact he.elim
   ·rename_i C hF;have hct:au.Ok P Γ f (.new C):=hP.env.ct f _ hF;rw[mY (hP.fn f _ hF) hop agL hv];refine(hct _ _ _ he M w0 ρ w _ hlo h.gn h.gl hall h.rs).mono ?_;rintro e w' ⟨v,res,ρ',rfl,hk,hb,hρ,ht,hr⟩;simp only[cM.zf,mo,St.cS,St.aZ]at hk;have hh:=h.grow hb hρ hr;exact hK _ _ _ _ hk.2 (hh.put o.dst (by simpa[St.push]using ht)) (fun _=>hb)
   ·rename_i C hF;have hct:au.Ok P Γ f (.rel C):=hP.env.ct f _ hF;rw[mY (hP.fn f _ hF) hop agL hv];refine(hct _ _ _ he M w0 ρ w _ hlo h.gn h.gl hall h.rs).mono ?_;rintro e w' ⟨v,ch,res,ρ',rfl,hk,hf,hρ,_,ht,hr⟩;simp only[Gq,cM.zf,mo,St.cS,St.aZ]at hk;have hh:=h.called hf hρ hr;have hl:(st.Gr ch).rg.length=st.rg.length:=uJ ch st.rg;rw[hl]at hk;refine hK _ _ _ _ hk.2 (hh.put o.dst (by simpa[St.push,hl]using ht)) (fun li=>?_)
    unfold keeps at li;rw[hop]at li;simp only[agL]at li;split at li
    ·rename_i g hg;have:f=g:=by
      injection hg with hg;subst hg;simp only[kj,ev,Option.some.injEq,Prod.mk.injEq]at AF;exact AF.1.symm
     subst this;rw[hF]at li;cases li
    ·cases li
    ·rename_i Hq xW;exact absurd rfl (xW _)
   ·rename_i hF;split at he
    ·rename_i b hb;rw[mY (hP.inl f b hb).fn hop agL hv];refine(hC f b hb _ _ _ he M w0 ρ vs a w _ h hall).mono ?_;rintro e w' ⟨v,an,ρ',x,rfl,hr,hx,hk⟩;rw[St.aZ]at hk;refine hK _ _ _ _ hk.2 (hr.put o.dst hx) (fun li=>?_)
     unfold keeps at li;rw[hop]at li;simp only[agL]at li;split at li
     ·rename_i g hg;have:f=g:=by
       injection hg with hg;subst hg;simp only[kj,ev,Option.some.injEq,Prod.mk.injEq]at AF;exact AF.1.symm
      subst this;rw[hF]at li;cases li
     ·cases li
     ·rename_i Hq xW;exact absurd rfl (xW _)
    ·exact he.elim
  ·exact he.elim
 ·rename_i iN;have hkeep:keeps E o=dM o:=by
   unfold keeps;split
   ·rename_i c hop;unfold oc at iN;rw[hop]at iN;simp only at iN;split at iN
    ·cases iN
    ·rename_i hno;split
     ·rename_i g hg;exact absurd hg (hno _)
     ·rename_i x _ hg;exact absurd hg (hno _)
     ·rfl
   ·rfl
  split at he
  ·rename_i q x hp;rw[aV,St.gZ]at he;obtain⟨y,hr,hy⟩:=qy hP.env h hp he.1;unfold Oper.wp;rw[hr];exact hK _ _ _ _ he.2.2 (h.put o.dst hy) (fun _=>Below.refl _ _)
  ·split at he
   ·rename_i t x ix hop;split at he
    ·rename_i e m n l k i ht hx Rv;rw[aV]at he;obtain⟨⟨hin,_⟩,he⟩:=he;simp only[aa.ae]at hin;obtain⟨hu,hm,_⟩:=hP.env.aIp ht;obtain⟨ys,hv,hl⟩:=ax h hx;have aBF:a.eval ix= .int k i:=(ax h Rv).1;have fin:∀ {T:Ty},E.ty e=T->(∀ fs n,T≠ .st fs n)->(∀ a b c,T≠ .ar a b c)->T≠ .other->fg l (n*m)=true->sI st o.dst m i K n l 0->o.wp P a w next Q:=by
      intro T hT n1 n2 n3 hlen hsp;obtain⟨⟨d,Rn,Nh⟩,xX⟩:=Fs hP.env (e:=e) (fun fs n=>hT▸n1 fs n) (fun a b c=>hT▸n2 a b c) (hT▸n3)
      obtain rfl:m=1:=by rw[hm]at xX;exact Option.some.inj xX
      have hlen':=dK hlen;rw[Nat.mul_one]at hlen';have E5:=vQ hsp i.toNat (by omega) (by omega)
      rw[Nat.mul_one]at E5;have hlt:i.toNat<l.length:=by omega
      obtain⟨y,hy,hxy⟩:=hl.get i.toNat l[i.toNat] (by simp[hlt])
      have e1:(l.drop i.toNat).take 1=[l[i.toNat]]:=by
       rw[List.drop_eq_getElem_cons hlt];rfl
      rw[e1]at E5;simp only[St.aZ]at E5;unfold Oper.wp;have hrun:(execOp a.eval o).run P w= .ok (.value y) w:=by
       simp only[execOp,hop,hv,aBF,Sem.run_bind,yQ hu hm Rn Nh hin hy,Result.andThen_ok,Sem.run_pure]
      rw[hrun];exact hK _ _ _ _ E5.2 (h.put o.dst hxy) (fun _=>Below.refl _ _)
     split at he
     ·exact he.elim
     ·exact he.elim
     ·exact he.elim
     ·rename_i hlen n1 n2 n3;exact fin rfl (fun fs n=>n1 fs n) (fun a b c=>n2 a b c) n3 hlen he
     ·exact he.elim
    ·exact he.elim
   ·exact GL hP.env h he fun an a' w' ρ' hk hr hb=>hK an a' w' ρ' hk hr (fun li=>hb (hkeep▸li))
theorem oZ (hP:aL P Γ E) (hC:ju P Γ E cl) (h:Rel Γ M w0 ρ st vs a w) {o:Oper} {K:St->Prop} (he:gO E cl st o K) {next:Act->World->Prop} {Q:Exit->Act->World->Prop}
 (hK:∀ an a' w' ρ',K an->Rel Γ M w0 ρ' an vs a' w'->next a' w'):o.wp P a w next Q:=
 aBk hP hC h he fun an a' w' ρ' hk hr _=>hK an a' w' ρ' hk hr
end
end Go.Sy
end
section
namespace Go.Sy
open Go Go.RowKit
universe u
section
variable {P:Program} {Γ:bn} {E:Env} {cl:Cl} {M:Nat->Prop} {w0:World} {ρ:Keys} {st:St} {vs:Fv} {a:Act} {w:World}
theorem Rel.KA (h:Rel Γ M w0 ρ st vs a w) {d:Nat} {x:Tm} (hx:x.ok st.rg.length ρ (a.tmps.getD d undef)):Rel Γ M w0 ρ (st.put (some d) x) vs a w:=by
 have e:a.tmps.setIfInBounds d (a.tmps.getD d undef)=a.tmps:=by
  apply Array.ext (by simp)
  intro i h1 h2;rw[Array.getElem_setIfInBounds (by simpa using h2)]
  split
  ·rename_i hi;subst hi;simp[Array.getD,h2]
  ·rfl
 have:=h.tm.put d hx;rw[e]at this;exact⟨this,h.fr,h.df,h.rs,h.bl,h.gl,h.gn⟩
theorem aBu (h:Rel Γ M w0 ρ st vs a w) (t:Nat):(st.tm.get t).ok st.rg.length ρ (a.tmps.getD t undef):=h.tm.h t
theorem pP {ops:Array Oper} {j d:Nat} (hd:(ops[j]?).bind (·.dst)=some d) {b:Bool} (hb:a.tmps.getD d undef= .bool b):yielded ops a.tmps j=some b:=by
 unfold yielded;rw[hd];cases hh:a.tmps[d]? with
 |none=>simp[Array.getD_eq_getD_getElem?,hh,undef]at hb
 |some y=>
  have:y= .bool b:=by simpa[Array.getD_eq_getD_getElem?,hh]using hb
  subst this;simp[hh]
theorem FH {ops:Array Oper} {j d:Nat} (hd:(ops[j]?).bind (·.dst)=some d) (hb:a.tmps.getD d undef=undef):yielded ops a.tmps j=none:=by
 unfold yielded;rw[hd];cases hh:a.tmps[d]? with
 |none=>simp[hh]
 |some y=>
  have:y=undef:=by simpa[Array.getD_eq_getD_getElem?,hh]using hb
  subst this;simp[hh,undef]
theorem dz (h:Rel Γ M w0 ρ st vs a w) {ops:Array Oper} {o:Oper} {ni no:St->Prop} {cc:Bool} (he:cV cc st ops o.guard ni no):
 (∃ an,ni an/\Rel Γ M w0 ρ an vs a w/\Region.wanted o (yielded ops a.tmps)=true)\/(∃ an,no an/\Rel Γ M w0 ρ an vs a w/\Region.wanted o (yielded ops a.tmps)=false):=by
 unfold cV at he;unfold Region.wanted;split at he
 ·rename_i hg;exact .inl ⟨st,he,h,by simp[hg]⟩
 ·rename_i j want hg;simp only[hg];split at he
  ·exact he.elim
  ·rename_i d hd;have hok:=aBu h d;split at he
   ·rename_i ht;rw[ht]at hok;rw[FH hd hok];exact .inr ⟨st,he,h,by simp⟩
   ·rename_i ht;rw[ht]at hok;rw[pP hd hok];cases want with
    |true=>exact .inl ⟨st,he,h,by simp⟩
    |false=>exact .inr ⟨st,he,h,by simp⟩
   ·rename_i ht;rw[ht]at hok;rw[pP hd hok];cases want with
    |true=>exact .inr ⟨st,he,h,by simp⟩
    |false=>exact .inl ⟨st,he,h,by simp⟩
   ·rename_i b ht;rw[ht]at hok;have hok:a.tmps.getD d undef= .bool b:=hok.1;rw[pP hd hok];have eT:b=true->Rel Γ M w0 ρ (st.put (some d) (.a .tt)) vs a w:=fun hb=>h.KA (by rw[hok,hb];rfl)
    have Kl:b=false->Rel Γ M w0 ρ (st.put (some d) (.a .ff)) vs a w:=fun hb=>h.KA (by rw[hok,hb];rfl)
    split at he
    ·cases b<;>cases want<;>simp only[St.aZ]at he
     ·exact .inl ⟨_,he.2,Kl rfl,by simp⟩
     ·exact .inr ⟨_,he.2,Kl rfl,by simp⟩
     ·exact .inr ⟨_,he.2,eT rfl,by simp⟩
     ·exact .inl ⟨_,he.2,eT rfl,by simp⟩
    cases want with
    |true=>
     simp only[St.aZ]at he;cases b with
     |true=>exact .inl ⟨_,(he.1 rfl).2,eT rfl,by simp⟩
     |false=>exact .inr ⟨_,(he.2 rfl).2,Kl rfl,by simp⟩
    |false=>
     simp only[St.aZ]at he;cases b with
     |true=>exact .inr ⟨_,(he.1 rfl).2,eT rfl,by simp⟩
     |false=>exact .inl ⟨_,(he.2 rfl).2,Kl rfl,by simp⟩
   ·exact he.elim
theorem iM (hP:aL P Γ E) (hC:ju P Γ E cl) {ops:Array Oper} {K:St->Prop} {Q:Exit->Act->World->Prop} (hK:∀ an a' w' ρ',K an->Rel Γ M w0 ρ' an vs a' w'->Q .normal a' w'):
 ∀ (l:List Oper) (st:St) (a:Act) (w:World) (ρ:Keys),lZ E cl ops l st K->Rel Γ M w0 ρ st vs a w->wpList P ops Q l a w
 |[],st,a,w,ρ,he,h=>hK _ _ _ _ he h
 |o::rest,st,a,w,ρ,he,h=>by
  change cV E.aN st ops o.guard (fun st=>gO E cl st o (fun st=>lZ E cl ops rest st K)) (fun st=>st.aBS o.dst (.a .un) (fun st=>lZ E cl ops rest st K))at he
  unfold wpList;rcases dz h he with⟨an,hy,h',hw⟩|⟨an,hn,h',hw⟩
  ·rw[if_pos hw];exact .inl (oZ hP hC h' hy fun oM a2 w2 nP hk hr=>iM hP hC hK rest oM a2 w2 nP hk hr)
  ·rw[if_neg (by rw[hw];simp)]
   simp only[St.aZ]at hn;exact iM hP hC hK rest _ _ _ _ hn.2 (h'.put o.dst (x:=.a .un) (y:=undef) rfl)
theorem At.fun {N:Nat} {x:At} {y y':Value} (hs:x.sure=true) (h:x.ok N ρ y) (h':x.ok N ρ y'):y=y':=by
 cases x<;>first|(simp[At.sure]at hs;done)|exact h.trans h'.symm|exact h.1.trans h'.1.symm|exact h.2.trans h'.2.symm|exact h.2.2.trans h'.2.2.symm
theorem sE {α:Type} {R:α->Value->Prop} {f:α->Bool} (hf:∀ x y y',f x=true->R x y->R x y'->y=y'):∀ {l:List α} {ys ys':List Value},bZ f l=true->be R l ys->be R l ys'->ys=ys'
 |[],[],[],_,_,_=>rfl
 |x::l,y::ys,y'::ys',hs,h,h'=>by
  simp only[bZ]at hs;split at hs
  ·rename_i hx;rw[hf x y y' hx h.1 h'.1,sE hf hs h.2 h'.2]
  ·cases hs
theorem C1.fun {N:Nat} {x:C1} {y y':Value} (hs:x.sure=true) (h:x.ok N ρ y) (h':x.ok N ρ y'):y=y':=by
 cases x with
 |a x=>exact At.fun hs h h'
 |agg l=>
  obtain⟨ys,rfl,h⟩:=h;obtain⟨ys',rfl,h'⟩:=h';rw[sE (fun _ _ _=>At.fun) hs h h']
theorem Tm.fun {N:Nat} {x:Tm} {y y':Value} (hs:x.sure=true) (h:x.ok N ρ y) (h':x.ok N ρ y'):y=y':=by
 cases x with
 |a x=>exact At.fun hs h h'
 |agg l=>
  obtain⟨ys,rfl,h⟩:=h;obtain⟨ys',rfl,h'⟩:=h';rw[sE (fun _ _ _=>At.fun) hs h h']
 |bF l=>
  obtain⟨ys,rfl,h⟩:=h;obtain⟨ys',rfl,h'⟩:=h';rw[sE (fun _ _ _=>C1.fun) hs h h']
theorem GM (hE:bE P Γ E) (h:Rel Γ M w0 ρ st vs a w) {o:Oper} {q:List aa} {x:Tm} (he:oo E st o=some (q,x)) (hq:bW q) (hc:calm o x=true):
 ∃ y,(∀ w1,Below w.heap.size w w1->(execOp a.eval o).run P w1= .ok (.value y) w1)/\x.ok st.rg.length ρ y:=by
 obtain⟨y,hr,hy⟩:=qy hE h he hq;unfold calm at hc;split at hc
 ·rename_i hro;unfold BH at hro;split at hro
  ·rename_i u hop;refine⟨y,fun w1 _=>?_,hy⟩
   simp only[execOp,hop,Sem.run_pure,Result.ok.injEq]at hr ⊢;exact⟨hr.1,trivial⟩
  ·rename_i u hop;refine⟨y,fun w1 _=>?_,hy⟩
   simp only[execOp,hop,Sem.run_pure,Result.ok.injEq]at hr ⊢;exact⟨hr.1,trivial⟩
  ·rename_i t ad hop;simp only[oo,hop]at he;split at he
   ·rename_i hx;obtain⟨y,h1,h2⟩:=mE hE h (ax h hx) he hq;exact⟨y,fun w1 hw=>by simp[execOp,hop,h1 w1 hw],h2⟩
   ·cases he
  ·rename_i t i hop;refine⟨y,fun w1 _=>?_,hy⟩
   have:(Instr.extract (a.eval t) i).run P w= .ok y w:=by
    simp only[execOp,hop]at hr;cases hh:(Instr.extract (a.eval t) i).run P w with
    |ok v w'=>rw[Sem.run_bind,hh]at hr;simp at hr;rw[hr.1,hr.2]
    |halt e w'=>rw[Sem.run_bind,hh]at hr;cases hr
   have:(Instr.extract (a.eval t) i).run P w1= .ok y w1:=by
    unfold Instr.extract at this ⊢;split at this<;>(try split at this)<;>simp_all
   simp[execOp,hop,this]
  ·rename_i t u lo hi hop;simp only[oo,hop]at he;split at he
   ·rename_i hx;obtain⟨y,h1,h2⟩:=pR hE h (ax h hx) he hq;exact⟨y,fun w1 _=>by simp[execOp,hop,h1 w1],h2⟩
   ·cases he
  ·rename_i t m n hop;simp only[oo,hop]at he;split at he
   ·rename_i kt et ht;split at he
    ·rename_i k c' x k' n' hk Nd hx hi;split at he
     ·rename_i es hs hm;simp only[Option.some.injEq,Prod.mk.injEq]at he;obtain⟨rfl,rfl⟩:=he;obtain⟨hu,_⟩:=hE.mb ht;have No:P.underlying kt=some (.int k):=by have:=hE.ty kt;rw[hk]at this;exact this.1
      obtain rfl:=akr hs;have aBF:a.eval _= .int k' n':=(ax h hi).1;obtain⟨y,h1,h2⟩:=A9 h hu No (hE.sc et c' Nd) hm (ax h hx) n';exact⟨y,fun w1 mL=>by simp[execOp,hop,aBF,h1 w1 mL],h2⟩
     ·cases he
    ·rename_i r l hx hi;split at he
     ·rename_i t' kk e tg es o i aBH e' bX _ hg hk hv;split at he
      ·rename_i q1 q2 q3 k _ _ _ Nd;simp only[Option.some.injEq,Prod.mk.injEq]at he;obtain⟨rfl,rfl⟩:=he;have hin:=hq.1;simp only[aa.ae]at hin;obtain⟨y,h1,h2⟩:=rj hE h ht hg hk hv q1.down Nd hin (ax h hx) (ax h hi);exact⟨y,fun w1 mL=>by simp[execOp,hop,h1 w1 mL],h2⟩
      ·cases he
     ·cases he
    ·cases he
   ·cases he
  ·cases hro
 ·split at hc
  ·rename_i Nt;obtain⟨y,h1,h2⟩:=Aj hE h Nt he hq;exact⟨y,fun w1 _=>h1 w1,h2⟩
  ·exact⟨y,fun w1 hw=>by
    obtain⟨y',hr',hy'⟩:=qy hE (h.cX hw) he hq;rw[hr',Tm.fun hc hy' hy],hy⟩
theorem agG (hP:aL P Γ E) {w1:World} (h:Rel Γ M w0 ρ st vs a w1) {o:Oper} {q:List aa} {x:Tm} (he:kp E st o=some (q,x)) (hq:bW q) (hs:calm o x=true):
 ∃ v,x.ok st.rg.length ρ v/\∀ w,Below w1.heap.size w1 w->o.quietAt P a (fun w'=>Below w.heap.size w w') w v:=by
 unfold kp at he;split at he
 ·rename_i c iN;have hop:o.op= .call c:=by
   unfold oc at iN;split at iN
   ·rename_i c' hop;split at iN
    ·simp only[Option.some.injEq]at iN;subst iN;exact hop
    ·cases iN
   ·cases iN
  have hs:x.sure=true:=by
   unfold calm BH oD at hs;rw[hop]at hs;exact hs
  split at he
  ·rename_i fo agL;split at he
   ·rename_i f pre aBd args AF hargs;obtain⟨ps,us,hv,hpre,aaf⟩:=ol h AF;have hall:=hpre.append ((kJ h hargs).append aaf);split at he
    ·rename_i F hF;have hct:au.Ok P Γ f (.fn F):=hP.env.ct f _ hF;have call:∀ w,Below w1.heap.size w1 w->Calls P f (ps++((c.args.toList.map a.eval)++us)).toArray w fun e w'=>∃ v,e= .returned v/\x.ok st.rg.length ρ v/\Below w.heap.size w w':=fun w hw=>
      hct _ _ _ _ he hq M w0 ρ w _ (h.cX hw).bl.size (fun b hb=>Nat.lt_of_lt_of_le (h.gn b hb).2 (h.cX hw).bl.size) (h.cX hw).gl hall (h.cX hw).rs
     obtain⟨e,w',fr,⟨v,_,PW,_⟩,_⟩:=call w1 (Below.refl _ _) [];refine⟨v,PW,fun w hw=>?_⟩
     unfold Oper.quietAt;rw[mY (hP.fn f _ hF) hop agL hv];refine⟨rfl,(call w hw).mono ?_⟩;rintro e w' ⟨v',rfl,j6,hb⟩;exact⟨by rw[Tm.fun hs j6 PW],hb⟩
    ·cases he
   ·cases he
  ·cases he
 ·obtain⟨y,hr,hy⟩:=GM hP.env h he hq hs;refine⟨y,hy,fun w hw=>?_⟩
  unfold Oper.quietAt;rw[hr w hw];exact⟨rfl,rfl⟩
theorem BG {o:Oper} {a:Act} {C C':World->Prop} {w:World} {v:Value} (hc:∀ w',C w'->C' w') (h:o.quietAt P a C w v):o.quietAt P a C' w v:=by
 unfold Oper.quietAt at*;generalize (execOp a.eval o).run P w=r at*;cases r with
 |ok n w'=>
  cases n<;>simp only[Oper.quietUpon]at h ⊢<;>try exact h
  exact⟨h.1,h.2.mono fun e w'' ⟨he,hw⟩=>⟨he,hc _ hw⟩⟩
 |halt x w'=>exact h
theorem ES (hP:aL P Γ E) {w1:World} (h:Rel Γ M w0 ρ st vs a w1) {o:Oper} {q:List aa} {x:Tm} (he:kp E st o=some (q,x)) (hq:bW q) (hs:calm o x=true):
 ∃ v,x.ok st.rg.length ρ v/\∀ w,Below w1.heap.size w1 w->o.quietAt P a (fun w'=>Below w1.heap.size w1 w') w v:=by
 obtain⟨v,h1,h2⟩:=agG hP h he hq hs;exact⟨v,h1,fun w hw=>BG (fun w' hb=>hw.trans (hb.mono hw.size)) (h2 w hw)⟩
theorem qz (hP:aL P Γ E) {w1:World} {ops:Array Oper} {K:St->Prop} {Qf:Act->Prop} (hK:∀ an a',K an->Rel Γ M w0 ρ an vs a' w1->Qf a'):
 ∀ (l:List Oper) (st:St) (a:Act),Ke E ops l st K->Rel Γ M w0 ρ st vs a w1->wpQuiet P ops (fun w'=>Below w1.heap.size w1 w') Qf l a
 |[],st,a,he,h=>hK _ _ he h
 |o::rest,st,a,he,h=>by
  change cV E.aN st ops o.guard
   (fun st=>match kp E st o with
     |some (q,x)=>aBP E.aN q (match calm o x with|true=>st.iF E o x (fun st=>Ke E ops rest st K)|false=>False)
     |none=>False)
   (fun st=>st.aBS o.dst (.a .un) (fun st=>Ke E ops rest st K))at he
  unfold wpQuiet;rcases dz h he with⟨an,hy,h',hw⟩|⟨an,hn,h',hw⟩
  ·rw[if_pos hw];split at hy
   ·rename_i q x hp;rw[aV]at hy;obtain⟨hq,hy⟩:=hy;split at hy
    ·rename_i hs;rw[St.gZ]at hy;obtain⟨v,hv,hall⟩:=ES hP h' hp hq hs;exact⟨v,hall,qz hP hK rest _ _ hy.2 (h'.put o.dst hv)⟩
    ·exact hy.elim
   ·exact hy.elim
  ·rw[if_neg (by rw[hw];simp)]
   simp only[St.aZ]at hn;exact qz hP hK rest _ _ hn.2 (h'.put o.dst (x:=.a .un) (y:=undef) rfl)
def dW (P:Program) (ops:Array Oper) (S:World->Prop) (o:Oper) (v:Value) (a:Act):Prop:=
 (Region.wanted o (yielded ops a.tmps)=true/\∀ w,S w->o.quietAt P a (fun w'=>Below w.heap.size w w') w v)\/
 (Region.wanted o (yielded ops a.tmps)=false/\v=undef)
theorem dW.of_same {ops:Array Oper} {S:World->Prop} {o:Oper} {v:Value} {a a':Act} (hy:dW P ops S o v a) (he:execOp a'.eval o=execOp a.eval o)
 (hw:Region.wanted o (yielded ops a'.tmps)=Region.wanted o (yielded ops a.tmps)):dW P ops S o v a':=by
 unfold dW Oper.quietAt at*;rw[he,hw];exact hy
theorem dW.sub {ops:Array Oper} {S S':World->Prop} {o:Oper} {v:Value} {a:Act} (hs:∀ w,S' w->S w) (hy:dW P ops S o v a):dW P ops S' o v a:=
 hy.imp (fun⟨h1,h2⟩=>⟨h1,fun w hw=>h2 w (hs w hw)⟩) id
def eU (S:World->Prop):Prop:=∀ w w',S w->Below w.heap.size w w'->S w'
theorem eU.below (w:World):eU (fun w'=>Below w.heap.size w w'):=fun _ _ h h'=>h.trans (h'.mono h.size)
theorem dW.wpOp {ops:Array Oper} {S:World->Prop} {i:Nat} {o:Oper} {v:Value} {Q:Exit->Act->World->Prop} (hi:ops[i]?=some o) (hS:eU S) (hy:dW P ops S o v a) {K:Act->World->Prop}
 (h:∀ w',S w'->K (a.put o.dst v) w') {w:World} (hw:S w):wpOp P ops Q i K a w:=by
 unfold Go.wpOp;simp only[hi];rcases hy with⟨fS,hv⟩|⟨fS,rfl⟩
 ·simp only[fS,if_true];refine .inl ?_;have h3:=hv w hw;unfold Oper.quietAt at h3;unfold Oper.wp;generalize (execOp a.eval o).run P w=r at*;cases r with
  |ok n w'=>
   cases n<;>simp only[Oper.quietUpon]at h3<;>simp only[Oper.upon]
   case value u=>obtain⟨e1,e2⟩:=h3;rw[e1,e2];exact h _ hw
   case skip=>obtain⟨e1,e2⟩:=h3;rw[e1,<-e2];exact h _ hw
   case enter f args=>
    obtain⟨e1,hc⟩:=h3;rw[e1];exact hc.mono fun e w'' ⟨he,QI⟩=>by subst he;exact h _ (hS _ _ hw QI)
  |halt x w'=>simp only[Oper.quietUpon]at h3
 ·simp only[fS,Bool.false_eq_true,if_false];exact h _ hw
theorem If {ops:Array Oper} {S:World->Prop} {j:Nat} {oi oj:Oper} {v:Value} {Q:Exit->Act->World->Prop} (hj:ops[j]?=some oj) (hap:oi.apart ops oj=true)
 (hsi:∀ cs b,oi.op≠ .select cs b) (hsj:∀ cs b,oj.op≠ .select cs b) (hQ:∀ c a w,¬Q (.panic c) a w) {K:Act->World->Prop} {a:Act} {w:World}
 (hy:dW P ops S oi v a) (h:wpOp P ops Q j K (a.put oi.dst v) w):wpOp P ops Q j (fun a' w'=>dW P ops S oi v a'/\K (a'.put oi.dst v) w') a w:=by
 obtain⟨h1,h2,h3⟩:=Oper.apart_spec hap;have keep:∀ (a:Act),dW P ops S oi v a->∀ u,dW P ops S oi v (a.put oj.dst u):=fun a hy u=>
  hy.of_same (execOp_put oi hsi a oj.dst u h3) (wanted_put oi a oj.dst u h3)
 unfold wpOp at*;simp only[hj]at*;rw[wanted_put oj a oi.dst v h1]at h;split
 ·rename_i hw;simp only[hw,if_true]at h;rcases h with h|⟨hasks,O4⟩;case inr=>exact .inr ⟨by unfold Oper.asks at*;rw[execOp_put oj hsj a oi.dst v h1]at hasks;exact hasks,O4⟩
  refine .inl ?_;unfold Oper.wp at*;rw[execOp_put oj hsj a oi.dst v h1]at h;generalize (execOp a.eval oj).run P w=r at*;cases r with
  |ok n w'=>
   cases n<;>simp only[Oper.upon]at h ⊢
   case value u=>exact⟨keep a hy u,by rw[<-Act.put_comm a v u h2];exact h⟩
   case skip=>exact⟨keep a hy _,by rw[<-Act.put_comm a v undef h2];exact h⟩
   case defer d=>
    refine⟨keep {a with defers:=d::a.defers} (hy.of_same rfl rfl) _,?_⟩;rw[<-Act.put_comm _ v undef h2,<-Act.put_defers];exact h
   case enter f args=>
    refine Calls.mono h fun e w'' he=>?_
    cases e with
    |returned u=>exact⟨keep a hy u,by rw[<-Act.put_comm a v u h2];exact he⟩
    |panicked c=>exact absurd he (hQ _ _ _)
    |outgrown=>exact he
   case row row args=>exact Rows.mono h fun u w'' he=>⟨keep a hy u,by rw[<-Act.put_comm a v u h2];exact he⟩
  |halt x w'=>
   cases x<;>simp only[Oper.upon]at h ⊢
   case panic u=>exact absurd h (hQ _ _ _)
 ·rename_i hw;simp only[hw]at h;exact⟨keep a hy _,by rw[<-Act.put_comm a v undef h2];exact h⟩
def fE (P:Program) (ops:Array Oper) (Q:Exit->Act->World->Prop) (n:Nat) (L:Array Bool->Act->World->Prop):Nat->(World->Prop)->Array Bool->Act->Prop
 |0,S,listed,a=>∀ w,S w->L listed a w
 |f+1,S,listed,a=>Region.ready .any ops listed≠[]/\∀ i∈Region.ready .any ops listed,i<n/\
   ∀ w,S w->wpOp P ops Q i (fun a' w'=>∃ S',S' w'/\(∀ v,S' v->S v)/\eU S'/\fE P ops Q n L f S' (listed.setIfInBounds i true) a') a w
theorem my {ops:Array Oper} {Q:Exit->Act->World->Prop} {n g:Nat} {L:Array Bool->Act->World->Prop} (hL:∀ listed a w,L listed a w->wpAny P .any ops Q g listed a w):
 ∀ (f:Nat) (S:World->Prop) (listed:Array Bool) (a:Act) (w:World),S w->fE P ops Q n L f S listed a->wpAny P .any ops Q (f+g) listed a w
 |0,S,listed,a,w,hw,h=>by rw[Nat.zero_add];exact hL _ _ _ (h w hw)
 |f+1,S,listed,a,w,hw,h=>by
  rw[show f+1+g=(f+g)+1 by omega]
  refine⟨fun h0=>absurd h0 h.1,fun i hi=>wpOp_mono (fun a' w' hh=>?_) ((h.2 i hi).2 w hw)⟩
  obtain⟨S',h1,_,_,h4⟩:=hh;exact my hL f S' _ a' w' h1 h4
theorem Et {ops:Array Oper} {Q:Exit->Act->World->Prop} {n i:Nat} {oi:Oper} {v:Value} {L:Array Bool->Act->World->Prop} (hi:ops[i]?=some oi) (hsel:∀ (j:Nat) (o:Oper) cs b,ops[j]?=some o->o.op≠ .select cs b)
 (hQ:∀ c a w,¬Q (.panic c) a w) (ht:jW ops n=true) (hin:i<n) (hdone:∀ listed a w,L listed a w->∀ j∈Region.ready .any ops listed,n<=j):
 ∀ (f:Nat) (S:World->Prop) (listed:Array Bool) (a:Act),HeadInv .any ops n listed->eU S->(∃ w,S w)->
  (∀ j oj,ops[j]?=some oj->j≠i->listed.getD j true=false->(∀ e∈oj.after,Region.binds .any e=true->e.on≠i)->oi.apart ops oj=true)->
  i∈Region.ready .any ops listed->dW P ops S oi v a->fE P ops Q n L f S (listed.setIfInBounds i true) (a.put oi.dst v)->fE P ops Q n L (f+1) S listed a:=by
 have waits:∀ (listed:Array Bool),HeadInv .any ops n listed->i∈Region.ready .any ops listed->∀ j∈Region.ready .any ops listed,j<n:=fun listed inv hr j hj=>by
  simp only[jW,Bool.or_eq_true,Bool.and_eq_true,decide_eq_true_eq]at ht;rcases ht with ht|⟨⟨h1,h2⟩,h3⟩
  ·have:=Nat.eq_of_beq_eq_true ht;obtain⟨_,oj,Hs,_⟩:=mem_ready.1 hj;have:=(Array.getElem?_eq_some_iff.1 Hs).1;omega
  ·exact Nat.lt_of_not_le fun hle=>tail_waits h2 h3 h1 inv _ i rfl hin (mem_ready.1 hr).1 j hle hj
 intro f;induction f with
 |zero=>
  intro S listed a inv hsh hne _ hr hy H;refine⟨fun h0=>(by rw[h0]at hr;cases hr),fun j hj=>?_⟩
  have vc:=waits listed inv hr j hj;refine⟨vc,?_⟩;by_cases xV:j=i
  ·subst xV;exact fun w hw=>hy.wpOp hi hsh (fun w' fS=>⟨S,fS,fun _ h=>h,hsh,H⟩) hw
  ·obtain⟨w,hw⟩:=hne;exact absurd (hdone _ _ _ (H w hw) j (ready_mono hj xV)) (by omega)
 |succ f ih=>
  intro S listed a inv hsh hne hfree hr hy H;refine⟨fun h0=>(by rw[h0]at hr;cases hr),fun j hj=>?_⟩
  have vc:=waits listed inv hr j hj;refine⟨vc,?_⟩;by_cases xV:j=i
  ·subst xV;exact fun w hw=>hy.wpOp hi hsh (fun w' fS=>⟨S,fS,fun _ h=>h,hsh,H⟩) hw
  ·intro w hw;obtain⟨Nl,oj,Hs,hall⟩:=mem_ready.1 hj;have QC:∀ e∈oj.after,Region.binds .any e=true->e.on≠i:=fun e he hb heq=>by
    have h1:=hall e he hb;rw[heq,getD_both (mem_ready.1 hr).1]at h1;cases h1
   have h2:=If Hs (hfree j oj Hs xV Nl QC) (fun cs b=>hsel i oi cs b hi) (fun cs b=>hsel j oj cs b Hs) hQ hy ((H.2 j (ready_mono hj xV)).2 w hw)
   refine wpOp_mono (fun a' w' h3=>?_) h2
   obtain⟨hy',S',b1,b2,b3,b4⟩:=h3;refine⟨S',b1,b2,b3,ih S' (listed.setIfInBounds j true) a' (inv.set hj vc) b3 ⟨w',b1⟩ (fun k ok hk Rw Qz hno=>hfree k ok hk Rw ?_ hno) (ready_mono hr (Ne.symm xV)) (hy'.sub b2) ?_⟩
   ·by_cases vb:j=k
    ·subst vb;exact Nl
    ·rwa[getD_set_ne true vb]at Qz
   ·rw[Array.setIfInBounds_comm _ _ xV];exact b4
theorem gJ {ops:Array Oper} {Q:Exit->Act->World->Prop} {n i:Nat} {oi:Oper} {v:Value} {L:Array Bool->Act->World->Prop} (hi:ops[i]?=some oi) (hsel:Region.noSelect ops=true)
 (hQ:∀ c a w,¬Q (.panic c) a w) (ht:jW ops n=true) (hin:i<n) (hdone:∀ listed a w,L listed a w->∀ j∈Region.ready .any ops listed,n<=j)
 {f:Nat} {S:World->Prop} {listed:Array Bool} {a:Act} (inv:HeadInv .any ops n listed) (hsh:eU S) (hne:∃ w,S w) (hB:jU ops i listed=true) (hy:dW P ops S oi v a)
 (H:fE P ops Q n L f S (listed.setIfInBounds i true) (a.put oi.dst v)):fE P ops Q n L (f+1) S listed a:=by
 simp only[jU,Bool.and_eq_true,Bool.or_eq_true,decide_eq_true_eq]at hB;obtain⟨hr,hB⟩:=hB;have hr':i∈Region.ready .any ops listed:=by simpa using hr
 rcases hB with hB|hB
 ·refine⟨fun h0=>(by rw[h0]at hr';cases hr'),fun j hj=>?_⟩
  rw[hB]at hj;obtain rfl:j=i:=by simpa using hj
  exact⟨hin,fun w hw=>hy.wpOp hi hsh (fun w' fS=>⟨S,fS,fun _ h=>h,hsh,H⟩) hw⟩
 ·exact Et hi (Region.noSelect_spec hsel) hQ ht hin hdone f S listed a inv hsh hne (Region.free_spec hi hB) hr' hy H
theorem vT:∀ (l:List Oper),storeAt l<=l.length
 |[]=>Nat.le_refl _
 |x::l=>by
  simp only[storeAt];split
  ·simp only[List.length_cons];exact Nat.succ_le_succ (vT l)
  ·exact Nat.zero_le _
theorem xK (hP:aL P Γ E) (hC:ju P Γ E cl) {l:List Oper} {n:Nat} {Q:Exit->Act->World->Prop} (hn:n<=l.length) (hsel:Region.noSelect l.toArray=true) (ht:jW l.toArray n=true)
 (hstep:∀ k,k<n->jU l.toArray k (upTo l.toArray k)=true) (po:Region.seqB .any l.toArray (l.toArray.size-n) n (upTo l.toArray n)=true) (hQ:∀ c a w,¬Q (.panic c) a w) {K:St->Prop}
 (hK:∀ an a' w' ρ',K an->Rel Γ M w0 ρ' an vs a' w'->wpList P l.toArray Q (l.drop n) a' w'):
 ∀ (hd:List Oper) (k:Nat),hd=(l.take n).drop k->k<=n->HeadInv .any l.toArray n (upTo l.toArray k)->∀ (st:St) (a:Act) (w:World) (ρ:Keys),GI E cl l l.toArray hd k st K->Rel Γ M w0 ρ st vs a w->
  fE P l.toArray Q n (fun listed a w=>Region.seqB .any l.toArray (l.toArray.size-n) n listed=true/\wpList P l.toArray Q (l.drop n) a w) hd.length (fun w'=>Below w.heap.size w w') (upTo l.toArray k) a
 |[],k,hd,hk,inv,st,a,w,ρ,he,h=>by
  have:k=n:=by
   have:=congrArg List.length hd;simp only[List.length_nil,List.length_drop,List.length_take]at this;omega
  subst this;exact fun w' fS=>⟨po,hK _ _ _ _ he (h.cX fS)⟩
 |o::rest,k,hd,hk,inv,st,a,w,ρ,he,h=>by
  have hkn:k<n:=by
   have:=congrArg List.length hd;simp only[List.length_cons,List.length_drop,List.length_take]at this;omega
  have eN:l.toArray[k]?=some o:=by
   have h1:((l.take n).drop k)[0]?=some o:=by rw[<-hd];rfl
   rw[List.getElem?_drop,Nat.add_zero,List.getElem?_take_of_lt hkn]at h1;simpa using h1
  have O6:rest=(l.take n).drop (k+1):=by
   have h1:((l.take n).drop k).drop 1=rest:=by rw[<-hd];rfl
   rw[<-h1,List.drop_drop]
  have hB:=hstep k hkn;have qM:=hB;simp only[jU,Bool.and_eq_true]at qM;have hr:k∈Region.ready .any l.toArray (upTo l.toArray k):=by simpa using qM.1
  have inv':HeadInv .any l.toArray n (upTo l.toArray (k+1)):=inv.set hr hkn;have hdone:∀ (listed:Array Bool) (a:Act) (w:World),(Region.seqB .any l.toArray (l.toArray.size-n) n listed=true/\wpList P l.toArray Q (l.drop n) a w)->∀ j∈Region.ready .any l.toArray listed,n<=j:=fun listed a w hL=>seqB_ready hL.1
  have IH:=xK hP hC hn hsel ht hstep po hQ hK rest (k+1) O6 hkn inv';change cV E.aN st l.toArray o.guard
   (fun st=>match kp E st o with
     |some (q,x)=>(match calm o x with|true=>aBP E.aN q (st.iF E o x (fun st=>GI E cl l l.toArray rest (k+1) st K))|false=>False)
     |none=>(match keeps E o with|true=>iZ E.aN (sj l.toArray k) (FL l k) (gO E cl st o (fun st=>GI E cl l l.toArray rest (k+1) st K))|false=>False))
   (fun st=>st.aBS o.dst (.a .un) (fun st=>GI E cl l l.toArray rest (k+1) st K))at he
  rcases dz h he with⟨an,hy,h',hw⟩|⟨an,hno,h',hw⟩
  ·split at hy
   ·rename_i q x hp;split at hy
    ·rename_i hs;rw[aV,St.gZ]at hy;obtain⟨hq,hy⟩:=hy;obtain⟨v,hv,hall⟩:=agG hP h' hp hq hs;exact gJ eN hsel hQ ht hkn hdone inv (eU.below w) ⟨w,Below.refl _ _⟩ hB (.inl ⟨hw,fun w' fS=>hall w' fS⟩) (IH _ _ w _ hy.2 (h'.put o.dst hv))
    ·exact hy.elim
   ·split at hy;case h_2=>exact hy.elim
    rename_i hkeep;obtain⟨hfo,hy⟩:=fp Tk.mk hy;have I8:Region.ready .any l.toArray (upTo l.toArray k)=[k]:=by simpa[sj]using hfo.h
    refine⟨fun h0=>(by rw[h0]at hr;cases hr),fun j hj=>?_⟩
    rw[I8]at hj;obtain rfl:j=k:=by simpa using hj
    refine⟨hkn,fun w' fS=>?_⟩
    unfold wpOp;simp only[eN];rw[if_pos hw];refine .inl (aBk hP hC (h'.cX fS) hy fun Om Ps w'' OL AK AN AD=>?_)
    have xR:Below w'.heap.size w' w'':=AD hkeep;exact⟨fun v=>Below w''.heap.size w'' v,Below.refl _ _,fun v hv=>(fS.trans (xR.mono fS.size)).trans (hv.mono (Nat.le_trans fS.size xR.size)),eU.below _,IH _ _ _ _ AK AN⟩
  ·rw[St.aZ]at hno;exact gJ eN hsel hQ ht hkn hdone inv (eU.below w) ⟨w,Below.refl _ _⟩ hB (.inr ⟨hw,rfl⟩) (IH _ _ w _ hno.2 (h'.put o.dst (x:=.a .un) (y:=undef) rfl))
theorem BZ (ops:Array Oper) (done:List Nat) (i:Nat):lG ops (done++[i])=(lG ops done).setIfInBounds i true:=by simp[lG,List.foldl_append]
theorem uT (hP:aL P Γ E) (hC:ju P Γ E cl) {l:List Oper} {all:List Nat} {Q:Exit->Act->World->Prop} (hsel:Region.noSelect l.toArray=true) (ht:jW l.toArray all.length=true)
 (hstep:∀ k,k<all.length->jU l.toArray (all.getD k 0) (lG l.toArray (all.take k))=true/\all.getD k 0<all.length) (po:Region.seqB .any l.toArray (l.toArray.size-all.length) all.length (lG l.toArray all)=true) (hQ:∀ c a w,¬Q (.panic c) a w) {K:St->Prop}
 (hK:∀ an a' w' ρ',K an->Rel Γ M w0 ρ' an vs a' w'->wpList P l.toArray Q (l.drop all.length) a' w'):
 ∀ (ord done:List Nat),done++ord=all->HeadInv .any l.toArray all.length (lG l.toArray done)->∀ (st:St) (a:Act) (w:World) (ρ:Keys),Ah E cl l l.toArray ord done st K->Rel Γ M w0 ρ st vs a w->
  fE P l.toArray Q all.length (fun listed a w=>Region.seqB .any l.toArray (l.toArray.size-all.length) all.length listed=true/\wpList P l.toArray Q (l.drop all.length) a w) ord.length (fun w'=>Below w.heap.size w w') (lG l.toArray done) a
 |[],done,hd,inv,st,a,w,ρ,he,h=>by
  rw[List.append_nil]at hd;subst hd;exact fun w' fS=>⟨po,hK _ _ _ _ he (h.cX fS)⟩
 |i::rest,done,hd,inv,st,a,w,ρ,he,h=>by
  have hkn:done.length<all.length:=by rw[<-hd];simp
  have PM:all.getD done.length 0=i:=by rw[<-hd];simp[List.getD]
  have pU:all.take done.length=done:=by rw[<-hd];simp
  obtain⟨hB,hin⟩:=hstep done.length hkn;rw[PM,pU]at hB;rw[PM]at hin;have qM:=hB;simp only[jU,Bool.and_eq_true]at qM;have hr:i∈Region.ready .any l.toArray (lG l.toArray done):=by simpa using qM.1
  have inv':HeadInv .any l.toArray all.length (lG l.toArray (done++[i])):=by rw[BZ];exact inv.set hr hin
  have hdone:∀ (listed:Array Bool) (a:Act) (w:World),(Region.seqB .any l.toArray (l.toArray.size-all.length) all.length listed=true/\wpList P l.toArray Q (l.drop all.length) a w)->∀ j∈Region.ready .any l.toArray listed,all.length<=j:=fun listed a w hL=>seqB_ready hL.1
  have IH:=uT hP hC hsel ht hstep po hQ hK rest (done++[i]) (by rw[<-hd];simp) inv'
  change (match l[i]? with
   |none=>False
   |some o=>cV E.aN st l.toArray o.guard
    (fun st=>match kp E st o with
      |some (q,x)=>(match calm o x with|true=>aBP E.aN q (st.iF E o x (fun st=>Ah E cl l l.toArray rest (done++[i]) st K))|false=>False)
      |none=>(match keeps E o with|true=>iZ E.aN (sk l.toArray done i) (C2 l done i) (gO E cl st o (fun st=>Ah E cl l l.toArray rest (done++[i]) st K))|false=>False))
    (fun st=>st.aBS o.dst (.a .un) (fun st=>Ah E cl l l.toArray rest (done++[i]) st K)))at he
  split at he
  ·exact he.elim
  rename_i o ho;have eN:l.toArray[i]?=some o:=by simpa using ho
  rw[BZ]at IH;rcases dz h he with⟨an,hy,h',hw⟩|⟨an,hno,h',hw⟩
  ·split at hy
   ·rename_i q x hp;split at hy
    ·rename_i hs;rw[aV,St.gZ]at hy;obtain⟨hq,hy⟩:=hy;obtain⟨v,hv,hall⟩:=agG hP h' hp hq hs;exact gJ eN hsel hQ ht hin hdone inv (eU.below w) ⟨w,Below.refl _ _⟩ hB (.inl ⟨hw,fun w' fS=>hall w' fS⟩) (IH _ _ w _ hy.2 (h'.put o.dst hv))
    ·exact hy.elim
   ·split at hy;case h_2=>exact hy.elim
    rename_i hkeep;obtain⟨hfo,hy⟩:=fp Tk.mk hy;have I8:Region.ready .any l.toArray (lG l.toArray done)=[i]:=by simpa[sk]using hfo.h
    refine⟨fun h0=>(by rw[h0]at hr;cases hr),fun j hj=>?_⟩
    rw[I8]at hj;obtain rfl:j=i:=by simpa using hj
    refine⟨hin,fun w' fS=>?_⟩
    unfold wpOp;simp only[eN];rw[if_pos hw];refine .inl (aBk hP hC (h'.cX fS) hy fun Om Ps w'' OL AK AN AD=>?_)
    have xR:Below w'.heap.size w' w'':=AD hkeep;exact⟨fun v=>Below w''.heap.size w'' v,Below.refl _ _,fun v hv=>(fS.trans (xR.mono fS.size)).trans (hv.mono (Nat.le_trans fS.size xR.size)),eU.below _,IH _ _ _ _ AK AN⟩
  ·rw[St.aZ]at hno;exact gJ eN hsel hQ ht hin hdone inv (eU.below w) ⟨w,Below.refl _ _⟩ hB (.inr ⟨hw,rfl⟩) (IH _ _ w _ hno.2 (h'.put o.dst (x:=.a .un) (y:=undef) rfl))
theorem eM (hP:aL P Γ E) (hC:ju P Γ E cl) {l:List Oper} {Q:Exit->Act->World->Prop} {K:St->Prop} (hsel:Region.noSelect l.toArray=true) (hQ:∀ c a w,¬Q (.panic c) a w)
 (hK:∀ an a' w' ρ',K an->Rel Γ M w0 ρ' an vs a' w'->Q .normal a' w'):
 ∀ (t:OT) (n:Nat) (listed:Array Bool) (st:St) (a:Act) (w:World) (ρ:Keys),jC E cl l l.toArray K t st->Rel Γ M w0 ρ st vs a w->
  (nD l.toArray t true n listed=true->t.vl=false->wpAny P .any l.toArray Q n listed a w)/\
  (nD l.toArray t false n listed=true->∀ i∈t.fV,wpOp P l.toArray Q i (wpAny P .any l.toArray Q (n-1) (listed.setIfInBounds i true)) a w)
 | .fin,n,listed,st,a,w,ρ,he,h=>⟨fun _ hf=>(by cases hf),fun _ i hi=>(by cases hi)⟩
 | .take i t,n,listed,st,a,w,ρ,he,h=>by
   refine⟨fun hok _=>?_,fun hok=>(by simp[nD]at hok)⟩
   simp only[nD,Bool.true_and,Bool.and_eq_true,decide_eq_true_eq]at hok;obtain⟨hfree,Ng,hn,hsub⟩:=hok;change (match l[i]? with
    |some o=>cV E.aN st l.toArray o.guard (fun st=>match oD o,oo E st o with
      |true,some (q,x)=>aBP E.aN q (st.iF E o x (fun st=>OT.next t (K st) (jC E cl l l.toArray K t st)))
      |_,_=>False) (fun st=>st.aBS o.dst (.a .un) (fun st=>OT.next t (K st) (jC E cl l l.toArray K t st)))
    |none=>False)at he
   split at he
   ·rename_i o ho;have mJ:l.toArray[i]?=some o:=by simpa using ho
    obtain⟨m,rfl⟩:∃ m,n=m+1:=⟨n-1,by omega⟩
    have next:∀ (an:St) (a':Act) (ρ':Keys),OT.next t (K an) (jC E cl l l.toArray K t an)->Rel Γ M w0 ρ' an vs a' w->wpAny P .any l.toArray Q m (listed.setIfInBounds i true) a' w:=fun an a' ρ' hk hr=>by
     rw[Nat.add_sub_cancel]at hsub;cases t with
     |fin=>
      have jk:Region.ready .any l.toArray (listed.setIfInBounds i true)=[]:=by simpa[nD]using hsub
      exact wpAny_done jk (hK _ _ _ _ hk hr) m
     |alt i2 t2 m2=>exact(eM hP hC hsel hQ hK (.alt i2 t2 m2) m _ an a' w ρ' hk hr).1 hsub rfl
     |take i2 t2=>exact(eM hP hC hsel hQ hK (.take i2 t2) m _ an a' w ρ' hk hr).1 hsub rfl
    rcases dz h he with⟨an,hy,h',hw⟩|⟨an,hno,h',hw⟩
    ·split at hy
     ·rename_i q x Nt aag;rw[aV,St.gZ]at hy;obtain⟨hq,hy⟩:=hy;obtain⟨v,hv,hx⟩:=Aj hP.env h' Nt aag hq;exact wpAny_take mJ hsel hfree Ng (fun c a w hq=>absurd hq (hQ _ _ _)) (.inl ⟨hw,hv⟩) (next _ _ _ hy.2 (h'.put o.dst hx))
     ·exact hy.elim
    ·rw[St.aZ]at hno;exact wpAny_take mJ hsel hfree Ng (fun c a w hq=>absurd hq (hQ _ _ _)) (.inr ⟨hw,rfl⟩) (next _ _ _ hno.2 (h'.put o.dst (x:=.a .un) (y:=undef) rfl))
   ·exact he.elim
 | .alt i t m,n,listed,st,a,w,ρ,he,h=>by
   change (match l[i]? with
    |some o=>cV E.aN st l.toArray o.guard (fun st=>gO E cl st o (fun st=>OT.next t (K st) (jC E cl l l.toArray K t st))) (fun st=>st.aBS o.dst (.a .un) (fun st=>OT.next t (K st) (jC E cl l l.toArray K t st)))
    |none=>False)/\jC E cl l l.toArray K m st at he
   obtain⟨he,hem⟩:=he;have amn:n≠0->nD l.toArray t true (n-1) (listed.setIfInBounds i true)=true->nD l.toArray m false n listed=true->∀ j∈(OT.alt i t m).fV,wpOp P l.toArray Q j (wpAny P .any l.toArray Q (n-1) (listed.setIfInBounds j true)) a w:=by
    intro hn hsub hm j hj;simp only[OT.fV,List.mem_cons]at hj;rcases hj with rfl|hj
    ·have next:∀ (an:St) (a':Act) (w':World) (ρ':Keys),OT.next t (K an) (jC E cl l l.toArray K t an)->Rel Γ M w0 ρ' an vs a' w'->wpAny P .any l.toArray Q (n-1) (listed.setIfInBounds j true) a' w':=by
      intro an a' w' ρ' hk hr;cases t with
      |fin=>
       have jk:Region.ready .any l.toArray (listed.setIfInBounds j true)=[]:=by simpa[nD]using hsub
       exact wpAny_done jk (hK _ _ _ _ hk hr) _
      |alt i2 t2 m2=>exact(eM hP hC hsel hQ hK (.alt i2 t2 m2) _ _ an a' w' ρ' hk hr).1 hsub rfl
      |take i2 t2=>exact(eM hP hC hsel hQ hK (.take i2 t2) _ _ an a' w' ρ' hk hr).1 hsub rfl
     split at he
     ·rename_i o ho;have mJ:l.toArray[j]?=some o:=by simpa using ho
      unfold wpOp;simp only[mJ];rcases dz h he with⟨an,hy,h',hw⟩|⟨an,hno,h',hw⟩
      ·rw[if_pos hw];exact .inl (oZ hP hC h' hy fun oM a2 w2 nP hk hr=>next oM a2 w2 nP hk hr)
      ·rw[if_neg (by rw[hw];simp)]
       simp only[St.aZ]at hno;exact next _ _ _ _ hno.2 (h'.put o.dst (x:=.a .un) (y:=undef) rfl)
     ·exact he.elim
    ·exact(eM hP hC hsel hQ hK m n listed st a w ρ hem h).2 hm j hj
   refine⟨fun hok _=>?_,fun hok=>?_⟩
   ·simp only[nD,Bool.not_true,Bool.false_or,Bool.and_eq_true,decide_eq_true_eq]at hok;obtain⟨hh,hn,h1,h2⟩:=hok;obtain⟨k,rfl⟩:∃ k,n=k+1:=⟨n-1,by omega⟩
    refine wpAny_all hh.symm (by simp[OT.fV]) fun j hj=>?_
    have:=amn (by omega) h1 h2 j hj
    rwa[Nat.add_sub_cancel]at this
   ·simp only[nD,Bool.not_false,Bool.true_or,Bool.true_and,Bool.and_eq_true,decide_eq_true_eq]at hok;exact amn hok.1 hok.2.1 hok.2.2
theorem abA (hP:aL P Γ E) (hC:ju P Γ E cl) {l:List Oper} {n:Nat} {Q:Exit->Act->World->Prop} (hsel:Region.noSelect l.toArray=true) (ht:jW l.toArray n=true) (hQ:∀ c a w,¬Q (.panic c) a w) {K:St->Prop}
 (hK:∀ an a' w' ρ',K an->Rel Γ M w0 ρ' an vs a' w'->wpList P l.toArray Q (l.drop n) a' w'):
 ∀ (t:OT) (f:Nat) (listed:Array Bool) (st:St) (a:Act) (w:World) (ρ:Keys),HeadInv .any l.toArray n listed->uU E cl l l.toArray K t st->Rel Γ M w0 ρ st vs a w->
  (gu l.toArray n t true f listed=true->t.vl=false->fE P l.toArray Q n (fun listed a w=>Region.seqB .any l.toArray (l.toArray.size-n) n listed=true/\wpList P l.toArray Q (l.drop n) a w) f (fun w'=>Below w.heap.size w w') listed a)/\
  (gu l.toArray n t false f listed=true->∀ i∈t.fV,i∈Region.ready .any l.toArray listed->i<n/\∀ w',Below w.heap.size w w'->wpOp P l.toArray Q i (fun a' w2=>∃ S',S' w2/\(∀ v,S' v->Below w.heap.size w v)/\eU S'/\
    fE P l.toArray Q n (fun listed a w=>Region.seqB .any l.toArray (l.toArray.size-n) n listed=true/\wpList P l.toArray Q (l.drop n) a w) (f-1) S' (listed.setIfInBounds i true) a') a w')
 | .fin,f,listed,st,a,w,ρ,inv,he,h=>⟨fun _ hf=>(by cases hf),fun _ i hi=>(by cases hi)⟩
 | .take i t,f,listed,st,a,w,ρ,inv,he,h=>by
   refine⟨fun hok _=>?_,fun hok=>(by simp[gu]at hok)⟩
   simp only[gu,Bool.true_and,Bool.and_eq_true,decide_eq_true_eq]at hok;obtain⟨hB,hin,hf,hsub⟩:=hok;obtain⟨f,rfl⟩:∃ m,f=m+1:=⟨f-1,by omega⟩
   rw[Nat.add_sub_cancel]at hsub;change (match l[i]? with
    |some o=>cV E.aN st l.toArray o.guard (fun st=>match kp E st o with
      |some (q,x)=>(match calm o x with|true=>aBP E.aN q (st.iF E o x (fun st=>OT.next t (K st) (uU E cl l l.toArray K t st)))|false=>False)
      |none=>False) (fun st=>st.aBS o.dst (.a .un) (fun st=>OT.next t (K st) (uU E cl l l.toArray K t st)))
    |none=>False)at he
   have hdone:∀ (listed:Array Bool) (a:Act) (w:World),(Region.seqB .any l.toArray (l.toArray.size-n) n listed=true/\wpList P l.toArray Q (l.drop n) a w)->∀ j∈Region.ready .any l.toArray listed,n<=j:=fun listed a w hL=>seqB_ready hL.1
   have hr:i∈Region.ready .any l.toArray listed:=by
    have qM:=hB;simp only[jU,Bool.and_eq_true]at qM;simpa using qM.1
   have inv':HeadInv .any l.toArray n (listed.setIfInBounds i true):=inv.set hr hin;have next:∀ (an:St) (a':Act) (ρ':Keys),OT.next t (K an) (uU E cl l l.toArray K t an)->Rel Γ M w0 ρ' an vs a' w->
    fE P l.toArray Q n (fun listed a w=>Region.seqB .any l.toArray (l.toArray.size-n) n listed=true/\wpList P l.toArray Q (l.drop n) a w) f (fun w'=>Below w.heap.size w w') (listed.setIfInBounds i true) a':=fun an a' ρ' hk cC=>by
    cases t with
    |fin=>
     simp only[gu,Bool.not_true,Bool.false_or,Bool.and_eq_true]at hsub;obtain⟨h1,h2⟩:=hsub;obtain rfl:=Nat.eq_of_beq_eq_true h1;exact fun w' fS=>⟨h2,hK _ _ _ _ hk (cC.cX fS)⟩
    |alt i2 t2 m2=>exact(abA hP hC hsel ht hQ hK (.alt i2 t2 m2) f _ an a' w ρ' inv' hk cC).1 hsub rfl
    |take i2 t2=>exact(abA hP hC hsel ht hQ hK (.take i2 t2) f _ an a' w ρ' inv' hk cC).1 hsub rfl
   split at he
   ·rename_i o ho;have eN:l.toArray[i]?=some o:=by simpa using ho
    rcases dz h he with⟨an,hy,h',hw⟩|⟨an,hno,h',hw⟩
    ·split at hy
     ·rename_i q x hp;split at hy
      ·rename_i hs;rw[aV,St.gZ]at hy;obtain⟨hq,hy⟩:=hy;obtain⟨v,hv,hall⟩:=agG hP h' hp hq hs;exact gJ eN hsel hQ ht hin hdone inv (eU.below w) ⟨w,Below.refl _ _⟩ hB (.inl ⟨hw,fun w' fS=>hall w' fS⟩) (next _ _ _ hy.2 (h'.put o.dst hv))
      ·exact hy.elim
     ·exact hy.elim
    ·rw[St.aZ]at hno;exact gJ eN hsel hQ ht hin hdone inv (eU.below w) ⟨w,Below.refl _ _⟩ hB (.inr ⟨hw,rfl⟩) (next _ _ _ hno.2 (h'.put o.dst (x:=.a .un) (y:=undef) rfl))
   ·exact he.elim
 | .alt i t m,f,listed,st,a,w,ρ,inv,he,h=>by
   change (match l[i]? with
    |some o=>cV E.aN st l.toArray o.guard (fun st=>match keeps E o with|true=>gO E cl st o (fun st=>OT.next t (K st) (uU E cl l l.toArray K t st))|false=>False) (fun st=>st.aBS o.dst (.a .un) (fun st=>OT.next t (K st) (uU E cl l l.toArray K t st)))
    |none=>False)/\uU E cl l l.toArray K m st at he
   obtain⟨he,hem⟩:=he;have amn:i<n->f≠0->gu l.toArray n t true (f-1) (listed.setIfInBounds i true)=true->gu l.toArray n m false f listed=true->∀ j∈(OT.alt i t m).fV,j∈Region.ready .any l.toArray listed->j<n/\∀ w',Below w.heap.size w w'->wpOp P l.toArray Q j (fun a' w2=>∃ S',S' w2/\(∀ v,S' v->Below w.heap.size w v)/\eU S'/\
    fE P l.toArray Q n (fun listed a w=>Region.seqB .any l.toArray (l.toArray.size-n) n listed=true/\wpList P l.toArray Q (l.drop n) a w) (f-1) S' (listed.setIfInBounds j true) a') a w':=by
    intro hin hf hsub hm j hj Hp;simp only[OT.fV,List.mem_cons]at hj;rcases hj with rfl|hj
    ·have inv':HeadInv .any l.toArray n (listed.setIfInBounds j true):=inv.set Hp hin;have next:∀ (an:St) (a':Act) (w':World) (ρ':Keys),OT.next t (K an) (uU E cl l l.toArray K t an)->Rel Γ M w0 ρ' an vs a' w'->
      fE P l.toArray Q n (fun listed a w=>Region.seqB .any l.toArray (l.toArray.size-n) n listed=true/\wpList P l.toArray Q (l.drop n) a w) (f-1) (fun v=>Below w'.heap.size w' v) (listed.setIfInBounds j true) a':=by
      intro an a' w' ρ' hk cC;cases t with
      |fin=>
       simp only[gu,Bool.not_true,Bool.false_or,Bool.and_eq_true]at hsub;obtain⟨h1,h2⟩:=hsub;rw[Nat.eq_of_beq_eq_true h1];exact fun w2 lS=>⟨h2,hK _ _ _ _ hk (cC.cX lS)⟩
      |alt i2 t2 m2=>exact(abA hP hC hsel ht hQ hK (.alt i2 t2 m2) _ _ an a' w' ρ' inv' hk cC).1 hsub rfl
      |take i2 t2=>exact(abA hP hC hsel ht hQ hK (.take i2 t2) _ _ an a' w' ρ' inv' hk cC).1 hsub rfl
     refine⟨hin,fun w' fS=>?_⟩
     split at he
     ·rename_i o ho;have mJ:l.toArray[j]?=some o:=by simpa using ho
      unfold wpOp;simp only[mJ];rcases dz h he with⟨an,hy,h',hw⟩|⟨an,hno,h',hw⟩
      ·rw[if_pos hw];split at hy
       ·rename_i hkeep;refine .inl (aBk hP hC (h'.cX fS) hy fun Om Ps w'' OL AK AN AD=>?_)
        have xR:Below w'.heap.size w' w'':=AD hkeep;exact⟨fun v=>Below w''.heap.size w'' v,Below.refl _ _,fun v hv=>(fS.trans (xR.mono fS.size)).trans (hv.mono (Nat.le_trans fS.size xR.size)),eU.below _,next _ _ _ _ AK AN⟩
       ·exact hy.elim
      ·rw[if_neg (by rw[hw];simp)]
       simp only[St.aZ]at hno;exact⟨fun v=>Below w'.heap.size w' v,Below.refl _ _,fun v hv=>fS.trans (hv.mono fS.size),eU.below _,next _ _ _ _ hno.2 ((h'.cX fS).put o.dst (x:=.a .un) (y:=undef) rfl)⟩
     ·exact he.elim
    ·exact(abA hP hC hsel ht hQ hK m f listed st a w ρ inv hem h).2 hm j hj Hp
   refine⟨fun hok _=>?_,fun hok=>?_⟩
   ·simp only[gu,Bool.not_true,Bool.false_or,Bool.and_eq_true,decide_eq_true_eq]at hok;obtain⟨hh,hin,hf,h1,h2⟩:=hok;obtain⟨f,rfl⟩:∃ k,f=k+1:=⟨f-1,by omega⟩
    refine⟨by rw[<-hh];simp[OT.fV],fun j hj=>?_⟩
    have:=amn hin hf h1 h2 j (by rw[hh];exact hj) hj
    rwa[Nat.add_sub_cancel]at this
   ·simp only[gu,Bool.not_false,Bool.true_or,Bool.true_and,Bool.and_eq_true,decide_eq_true_eq]at hok;exact amn hok.1 hok.2.1 hok.2.2.1 hok.2.2.2
/-! ### Stores between quiet operations -/
theorem aax:∀ (l:List Nat) {st:St} {K:St->Prop},FG l st K->Rel Γ M w0 ρ st vs a w->∃ an,K an/\Rel Γ M w0 ρ an vs a w
 |[],st,K,he,h=>⟨st,he,h⟩
 |r::l,st,K,he,h=>by
  have he:st.eP r (st.rg.getD r .dead).uv (fun st=>FG l st K):=he
  rw[St.aks]at he;refine aax l he ?_;cases hr:st.rg[r]? with
  |none=>
   have e:st.aBZ r (st.rg.getD r .dead).uv=st:=by
    cases st;simp only[St.aBZ];rw[List.set_eq_of_length_le (List.getElem?_eq_none_iff.1 hr)]
   rw[e];exact h
  |some g=>
   have e:st.rg.getD r .dead=g:=by simp[List.getD,hr]
   rw[e];have hlen:(st.aBZ r g.uv).rg.length=st.rg.length:=by simp[St.aBZ]
   refine⟨by rw[hlen];exact h.tm,by rw[hlen];exact h.fr,h.df,?_,h.bl,h.gl,h.gn⟩
   rw[hlen];refine h.rs.weaken hr ?_;cases g with
   |box o l=>
    rintro π f B ⟨rfl,rfl,rfl⟩;refine⟨_,.box l,⟨rfl,rfl,rfl⟩,id,fun hl=>?_,id⟩
    obtain⟨h1,h2,h3,h4⟩:=hl;refine⟨h1,h2,h3,fun j x hx=>?_⟩
    simp only[List.getElem?_map,Option.map_eq_some_iff]at hx;obtain⟨x0,hx0,rfl⟩:=hx;obtain⟨y,_,hc⟩:=h4 j x0 hx0;exact⟨y,trivial,hc⟩
   |_=>exact gI.refl
theorem Rel.uh (h:Rel Γ M w0 ρ st vs a w) {r:Nat} {cells:List At} (hr:st.rg[r]?=some (.box true cells)) (hall:bZ sr cells=true) {base:Nat} {us:List Value} (hlen:base+us.length<=cells.length):
 Rel Γ M w0 ρ st vs a (w.setCells (ρ r []).b base us):=by
 have hB:(az.box true cells).has [] true (.box cells):=⟨rfl,rfl,rfl⟩;obtain⟨_,h1,h2,h3⟩:=h.rs.blk r _ [] true _ hr hB;have e:st.aBZ r (.box true cells)=st:=by
  cases st;simp only[St.aBZ,St.mk.injEq,true_and];apply List.ext_getElem?;intro i;rw[List.getElem?_set];split
  ·rename_i hi;subst hi;split
   ·exact hr.symm
   ·rename_i hl;simp only at hr;rw[List.getElem?_eq_none (by omega)]at hr;cases hr
  ·rfl
 have lg:∀ j,(ρ r []).at j=⟨(ρ r []).b,j,none⟩:=fun j=>by simp[RI.at,h1]
 have hcell:∀ j,j<cells.length->(w.cell? ⟨(ρ r []).b,j,none⟩).isSome=true:=fun j hj=>by
  obtain⟨y,_,hc⟩:=h3 j cells[j] (List.getElem?_eq_getElem hj);rw[lg]at hc;rw[hc];rfl
 have:=h.write (g':=.box true cells) (base:=base) (us:=us) hr hB h2 (fun σ o B' hh=>⟨B',hh,fun _ _ hl=>hl,fun _ hm=>hm⟩) (fun o B' hh=>by
  obtain⟨_,_,rfl⟩:=hh;refine⟨rfl,h1,h2,fun j x hx=>?_⟩
  have hj:=(List.getElem?_eq_some_iff.1 hx).1;have hx':x= .any:=by
   have:=iI hall x (List.mem_of_getElem? hx);unfold sr at this;split at this
   ·rfl
   ·cases this
  subst hx';have:((w.setCells (ρ r []).b base us).cell? ⟨(ρ r []).b,j,none⟩).isSome=true:=by
   by_cases hin:base<=j/\j<base+us.length
   ·have h5:=World.cell?_setCells_in (ρ r []).b us base w (fun s hs=>hcell _ (by omega)) (j-base) (by omega)
    rw[show base+(j-base)=j by omega]at h5
    rw[h5];rfl
   ·rw[World.cell?_setCells_out]
    ·exact hcell j hj
    ·intro _ _;simp only;omega
  rw[lg];obtain⟨y,hy⟩:=Option.isSome_iff_exists.1 this;exact⟨y,trivial,hy⟩)
 rwa[e]at this
structure uo (st:St) (ρ:Keys) (S:World->Prop):Prop where
 sh:eU S
 wr:∀ (r:Nat) (cells:List At),st.rg[r]?=some (.box true cells)->bZ sr cells=true->∀ base us,base+us.length<=cells.length->∀ w,S w->S (w.setCells (ρ r []).b base us)
theorem Rel.KE:uo st ρ (fun w'=>Rel Γ M w0 ρ st vs a w'):=
 ⟨fun _ _ h hb=>h.cX hb,fun _ _ hr hall _ _ hl _ h=>h.uh hr hall hl⟩
theorem aat (hE:bE P Γ E) {o:Oper} {r j:Nat} {cells l:List At} (hs:pL E st o=some (r,j,cells,l)):
 st.rg[r]?=some (.box true cells)/\bZ sr cells=true/\j+l.length<=cells.length/\o.dst=none/\o.guard=none/\
 ∀ (w:World),Rel Γ M w0 ρ st vs a w->∃ us:List Value,us.length=l.length/\(execOp a.eval o).run P w= .ok .skip (w.setCells (ρ r []).b j us)/\Rel Γ M w0 ρ (st.aBZ r (.box true (Z9 cells j l))) vs a (w.setCells (ρ r []).b j us):=by
 unfold pL at hs;split at hs;case h_2=>cases hs
 rename_i t ad x hop hd hgd;split at hs
 ·cases hs
 ·rename_i ty r' j' x' Ro hex hno;split at hs;case h_2=>cases hs
  rename_i l' cells' hl hg;split at hs;case h_2=>cases hs
  rename_i hlen Qr hall;simp only[Option.some.injEq,Prod.mk.injEq]at hs;obtain⟨rfl,rfl,rfl,rfl⟩:=hs;have Vo:=bg hg (by simp)
  have hj:j'+l'.length<=cells'.length:=Nat.le_of_ble_eq_true Qr;refine⟨Vo,hall,hj,hd,hgd,fun w h=>?_⟩
  obtain⟨jl,ha⟩:=ax h Ro;have Hw:=ax h hex;obtain⟨h1,h2,h3⟩:=eZ Hw hl;have hty:E.ty t≠ .other:=hno;have hlen':=dK hlen;obtain⟨k1,k2⟩:=IF hE h hty Vo hj h1 h3 hlen';obtain⟨_,o1,_,_⟩:=h.rs.blk r' _ [] true (.box cells') Vo ⟨rfl,rfl,rfl⟩;rw[o1]at k1 k2;rw[show 0+(0*(ρ r' []).m+j')=j' by omega]at k1 k2
  refine⟨_,h1.length.symm,?_,k2⟩;simp only[execOp,hop,ha,Sem.run_bind,k1,Result.andThen_ok,Sem.run_pure]
 ·cases hs
/-! ### Writes into a new block,in whatever world -/
def vY (b:Nat):List (Nat×List Value)->World->World
 |[],v=>v
 |x::l,v=>vY b l (v.setCells b x.1 x.2)
theorem aA1 {B b:Nat} (hb:B<=b):∀ (us:List Value) (o:Nat) {u v:World},Below B u v->Below B u (v.setCells b o us)
 |[],_,_,_,h=>h
 |x::us,o,_,_,h=>aA1 hb us (o+1) (h.setCell (p:=⟨b,o,none⟩) hb x)
theorem xm {B b:Nat} (hb:B<=b):∀ (ws:List (Nat×List Value)) {u v:World},Below B u v->Below B u (vY b ws v)
 |[],_,_,h=>h
 |x::ws,_,_,h=>xm hb ws (aA1 hb x.2 x.1 h)
theorem wh {B:Nat} {u v:World} (h:Below B u v) (p:Addr) (x:Value):Below B (u.setCell p x) (v.setCell p x):=
 ⟨h.os,h.tape,h.output,by simpa[World.setCell]using h.size,fun k hk=>by simp only[World.setCell,Array.getElem?_modify];rw[h.block k hk]⟩
theorem jY {B b:Nat}:∀ (us:List Value) (o:Nat) {u v:World},Below B u v->Below B (u.setCells b o us) (v.setCells b o us)
 |[],_,_,_,h=>h
 |x::us,o,_,_,h=>jY us (o+1) (wh h ⟨b,o,none⟩ x)
theorem n8 {B b:Nat}:∀ (ws:List (Nat×List Value)) {u v:World},Below B u v->Below B (vY b ws u) (vY b ws v)
 |[],_,_,h=>h
 |x::ws,_,_,h=>n8 ws (jY x.2 x.1 h)
theorem BR {b:Nat}:∀ (ws:List (Nat×List Value)) (v:World),(vY b ws v).heap.size=v.heap.size
 |[],_=>rfl
 |x::ws,v=>(BR ws _).trans (dA ..)
theorem set_comm (v:World) {p q:Addr} (h:p.block≠q.block) (x y:Value):(v.setCell p x).setCell q y=(v.setCell q y).setCell p x:=by
 simp only[World.setCell,World.mk.injEq,and_true];refine Array.ext_getElem? fun k=>?_
 simp only[Array.getElem?_modify];by_cases h1:q.block=k
 ·by_cases h2:p.block=k
  ·exact absurd (h2.trans h1.symm) h
  ·simp[h1,h2]
 ·by_cases h2:p.block=k<;>simp[h1,h2]
theorem oJ {b:Nat} {p:Addr} (h:p.block≠b) (x:Value):∀ (us:List Value) (o:Nat) (v:World),(v.setCell p x).setCells b o us=(v.setCells b o us).setCell p x
 |[],_,_=>rfl
 |y::us,o,v=>by
  show((v.setCell p x).setCell ⟨b,o,none⟩ y).setCells b (o+1) us=((v.setCell ⟨b,o,none⟩ y).setCells b (o+1) us).setCell p x;rw[set_comm v (q:=⟨b,o,none⟩) h,oJ h x us]
theorem aIS {b b':Nat} (h:b'≠b) (us:List Value) (o:Nat):∀ (lI:List Value) (o':Nat) (v:World),(v.setCells b' o' lI).setCells b o us=(v.setCells b o us).setCells b' o' lI
 |[],_,_=>rfl
 |y::lI,o',v=>by
  show((v.setCell ⟨b',o',none⟩ y).setCells b' (o'+1) lI).setCells b o us=((v.setCells b o us).setCell ⟨b',o',none⟩ y).setCells b' (o'+1) lI;rw[aIS h us o lI,oJ (p:=⟨b',o',none⟩) h]
theorem Ch {b b':Nat} (h:b'≠b) (lI:List Value) (o':Nat):∀ (ws:List (Nat×List Value)) (v:World),vY b ws (v.setCells b' o' lI)=(vY b ws v).setCells b' o' lI
 |[],_=>rfl
 |x::ws,v=>by
  show vY b ws ((v.setCells b' o' lI).setCells b x.1 x.2)=_;rw[aIS h,Ch h lI o' ws];rfl
theorem DZ {N:Nat} {ρ:Keys}:∀ {z:List At} {ys:List Value},be (At.ok N ρ) z ys->be (At.ok N ρ) (z.map fun _=>At.any) ys
 |[],[],_=>trivial
 |[],_::_,h=>h
 |_::_,[],h=>h
 |_::_,_::_,h=>⟨trivial,DZ h.2⟩
theorem CN (hE:bE P Γ E) (h:Rel Γ M w0 ρ st vs a w) {o:Oper} {K:St->Prop} (he:yZ E st o K):
 o.guard=none/\∃ (g:az) (x:Tm) (y:Value) (ob:Obj) (ξ:Path->RI),K ((st.push [g]).put o.dst x)/\(execOp a.eval o).run P w= .ok (.value y) (w.alloc ob)/\
  Rel Γ M w0 (aE ρ st.rg.length ξ) ((st.push [g]).put o.dst x) vs (a.put o.dst y) (w.alloc ob)/\(ξ []).b=w.heap.size:=by
 unfold yZ at he;split at he
 ·rename_i t hop hg;refine⟨hg,?_⟩;split at he
  ·exact he.elim
  ·rename_i z hz hno;obtain⟨_,i,zv,h1,h2,h3⟩:=hE.zero _ _ hz;simp only[dX,St.cS,St.aZ]at he;refine⟨_,_,.pointer (some ⟨w.heap.size,0,none⟩),.cells zv.cells.toList.toArray t,dx w,he.2,?_,?_,rfl⟩
   ·simp[execOp,hop,Instr.alloc,newVar,newRow,zeroValue,typeInfo,h1,h2]
   ·refine(h.box (DZ (h3 _ _)) t).put o.dst ⟨by simp[St.push],?_⟩
    rw[aF];simp[RI.at,dx]
  ·exact he.elim
 ·rename_i t len cap hop hg;refine⟨hg,?_⟩;split at he
  ·rename_i e m n c ht hn hc;split at he
   ·rename_i tg hD;rw[aV]at he;obtain⟨⟨h0,hnc,hsz,_⟩,hm⟩:=he;simp only[aa.ae]at h0 hnc hsz;subst hnc;simp only[dX,St.cS,St.aZ]at hm;obtain⟨kl,el⟩:=jL h hn;obtain⟨kc,ec⟩:=jL h hc;obtain⟨hu,_,_⟩:=hE.aav ht;obtain⟨ci,i,z,hi,hs,hz,vj,hby⟩:=hE.kd e tg hD;have hpos:0<tg.length:=List.length_pos_iff.2 ci;have Hq:n<=16777216:=Int.le_trans (by have:=Int.mul_le_mul_of_nonneg_left (show(1:Int)<=tg.length by omega) h0;omega) hsz
    have hbytes:(i.bytes:Int)*n<=281474976710656:=by
     have h1:(i.bytes:Int)*n<=(32*tg.length:Nat)*n:=Int.mul_le_mul_of_nonneg_right (by exact_mod_cast hby) h0
     have h2:((32*tg.length:Nat):Int)*n=32*(n*tg.length):=by push_cast;rw[Int.mul_assoc,Int.mul_comm (tg.length:Int)]
     omega
    have hrun:=run_make (P:=P) w t e i z hu hi hz kl kc n n h0 (Int.le_refl _) hbytes (by omega)
    have vk:z.cells=(ai.zero tg).toArray:=Array.ext' (by simpa using vj)
    rw[hs,vk]at hrun;have ve:=BI (te:=e) h ci (hE.kn e tg hD) (n:=n.toNat) (by simp only[maxLen];omega) (cs:=(madeCells (ai.zero tg).toArray (n.toNat*tg.length)).toList) (by simp[madeCells])
     (fun i hi s hs=>by have:=Be (ai.zero tg) n.toNat i s hi (by rw[aay];exact hs);rwa[aay]at this)
    simp only[Array.toArray_toList]at ve;refine⟨_,_,.slice (some ⟨w.heap.size,0,none⟩) n.toNat n.toNat,.cells (madeCells (ai.zero tg).toArray (n.toNat*tg.length)) e,_,hm.2,?_,ve.put o.dst ⟨by simp[St.push],?_⟩,?_⟩
    ·simp[execOp,hop,el,ec,hrun]
    ·rw[aF];exact⟨fun hv=>by simp[aac]at hv,fun _=>⟨by simp[aac],some ⟨w.heap.size,0,none⟩,by simp[aac],fun _=>by simp[RI.at,aac]⟩⟩
    ·simp[aac]
   ·exact he.elim
  ·exact he.elim
 ·exact he.elim
theorem fc (hP:aL P Γ E) {l:List Oper} {Q:Exit->Act->World->Prop} (hsel:Region.noSelect l.toArray=true) (hQ:∀ c a w,¬Q (.panic c) a w) {K:St->Prop}
 (hK:∀ an a' w' ρ',K an->Rel Γ M w0 ρ' an vs a' w'->Q .normal a' w'):
 ∀ (t:OT) (f:Nat) (listed:Array Bool) (st:St) (a:Act) (S:World->Prop) (ρ:Keys),HeadInv .any l.toArray l.length listed->uo st ρ S->(∃ w,S w)->(∀ w,S w->Rel Γ M w0 ρ st vs a w)->Ak E l K t st->
  (gu l.toArray l.length t true f listed=true->t.vl=false->fE P l.toArray Q l.length (fun listed a w=>Region.seqB .any l.toArray (l.toArray.size-l.length) l.length listed=true/\wpList P l.toArray Q (l.drop l.length) a w) f S listed a)/\
  (gu l.toArray l.length t false f listed=true->∀ i∈t.fV,i∈Region.ready .any l.toArray listed->i<l.length/\∀ w',S w'->wpOp P l.toArray Q i (fun a' w2=>∃ S',S' w2/\(∀ v,S' v->S v)/\eU S'/\
    fE P l.toArray Q l.length (fun listed a w=>Region.seqB .any l.toArray (l.toArray.size-l.length) l.length listed=true/\wpList P l.toArray Q (l.drop l.length) a w) (f-1) S' (listed.setIfInBounds i true) a') a w')
 | .fin,f,listed,st,a,S,ρ,inv,hS,hne,hR,he=>⟨fun _ hf=>(by cases hf),fun _ i hi=>(by cases hi)⟩
 | .take i t,f,listed,st,a,S,ρ,inv,hS,hne,hR,he=>by
   refine⟨fun hok _=>?_,fun hok=>(by simp[gu]at hok)⟩
   simp only[gu,Bool.true_and,Bool.and_eq_true,decide_eq_true_eq]at hok;obtain⟨hB,hin,hf,hsub⟩:=hok;obtain⟨f,rfl⟩:∃ m,f=m+1:=⟨f-1,by omega⟩
   rw[Nat.add_sub_cancel]at hsub;obtain⟨w,Kt⟩:=hne;have h:=hR w Kt;change (match l[i]? with
    |some o=>(match o.guard,kp E st o with
      |none,some (q,x)=>(match x.sure with|true=>aBP E.aN q (st.iF E o x (fun st=>OT.next t (K st) (Ak E l K t st)))|false=>False)
      |_,_=>False)
    |none=>False)at he
   have ht:jW l.toArray l.length=true:=by simp[jW]
   have hdone:∀ (listed:Array Bool) (a:Act) (w:World),(Region.seqB .any l.toArray (l.toArray.size-l.length) l.length listed=true/\wpList P l.toArray Q (l.drop l.length) a w)->∀ j∈Region.ready .any l.toArray listed,l.length<=j:=fun listed a w hL=>seqB_ready hL.1
   have hr:i∈Region.ready .any l.toArray listed:=by
    have qM:=hB;simp only[jU,Bool.and_eq_true]at qM;simpa using qM.1
   have inv':HeadInv .any l.toArray l.length (listed.setIfInBounds i true):=inv.set hr hin;have next:∀ (an:St) (a':Act),an.rg=st.rg->(∀ w,S w->Rel Γ M w0 ρ an vs a' w)->OT.next t (K an) (Ak E l K t an)->
    fE P l.toArray Q l.length (fun listed a w=>Region.seqB .any l.toArray (l.toArray.size-l.length) l.length listed=true/\wpList P l.toArray Q (l.drop l.length) a w) f S (listed.setIfInBounds i true) a':=fun an a' s8 cC hk=>by
    have sZ:uo an ρ S:=⟨hS.sh,by rw[s8];exact hS.wr⟩
    cases t with
    |fin=>
     simp only[gu,Bool.not_true,Bool.false_or,Bool.and_eq_true]at hsub;obtain⟨h1,h2⟩:=hsub;obtain rfl:=Nat.eq_of_beq_eq_true h1;exact fun w' fS=>⟨h2,by rw[List.drop_length];exact hK _ _ _ _ hk (cC w' fS)⟩
    |alt i2 t2 m2=>exact(fc hP hsel hQ hK (.alt i2 t2 m2) f _ an a' S ρ inv' sZ ⟨w,Kt⟩ cC hk).1 hsub rfl
    |take i2 t2=>exact(fc hP hsel hQ hK (.take i2 t2) f _ an a' S ρ inv' sZ ⟨w,Kt⟩ cC hk).1 hsub rfl
   split at he
   ·rename_i o ho;have eN:l.toArray[i]?=some o:=by simpa using ho
    split at he
    ·rename_i q x hg hp;split at he
     ·rename_i hs;rw[aV,St.gZ]at he;obtain⟨hq,he⟩:=he;have hw:Region.wanted o (yielded l.toArray a.tmps)=true:=by unfold Region.wanted;rw[hg]
      have hc:calm o x=true:=by unfold calm;split<;>first|rfl|(split<;>first|rfl|exact hs)
      obtain⟨v,hv,_⟩:=agG hP h hp hq hc;refine gJ (v:=v) eN hsel hQ ht hin hdone inv hS.sh ⟨w,Kt⟩ hB (.inl ⟨hw,fun w' fS=>?_⟩) (next (st.put o.dst x) (a.put o.dst v) (by cases o.dst<;>rfl) (fun w' fS=>?_) he.2)
      ·obtain⟨v',j6,OZ⟩:=agG hP (hR w' fS) hp hq hc;obtain rfl:=Tm.fun hs hv j6;exact OZ w' (Below.refl _ _)
      ·exact(hR w' fS).put o.dst hv
     ·exact he.elim
    ·exact he.elim
   ·exact he.elim
 | .alt i t m,f,listed,st,a,S,ρ,inv,hS,hne,hR,he=>by
   change (match l[i]? with
    |some o=>(match pL E st o with|some (r,j,cells,l')=>st.eP r (.box true (Z9 cells j l')) (fun st=>OT.next t (K st) (Ak E l K t st))|none=>yZ E st o (fun st=>OT.next t (K st) (Ak E l K t st)))
    |none=>False)/\Ak E l K m st at he
   obtain⟨he,hem⟩:=he;have amn:i<l.length->f≠0->gu l.toArray l.length t true (f-1) (listed.setIfInBounds i true)=true->gu l.toArray l.length m false f listed=true->∀ j∈(OT.alt i t m).fV,j∈Region.ready .any l.toArray listed->j<l.length/\∀ w',S w'->wpOp P l.toArray Q j (fun a' w2=>∃ S',S' w2/\(∀ v,S' v->S v)/\eU S'/\
    fE P l.toArray Q l.length (fun listed a w=>Region.seqB .any l.toArray (l.toArray.size-l.length) l.length listed=true/\wpList P l.toArray Q (l.drop l.length) a w) (f-1) S' (listed.setIfInBounds j true) a') a w':=by
    intro hin hf hsub hm j hj Hp;simp only[OT.fV,List.mem_cons]at hj;rcases hj with rfl|hj
    ·have inv':HeadInv .any l.toArray l.length (listed.setIfInBounds j true):=inv.set Hp hin;split at he
     ·rename_i o ho;have mJ:l.toArray[j]?=some o:=by simpa using ho
      split at he
      ·rename_i r k cells l' RJ;rw[St.aks]at he;refine⟨hin,fun w' fS=>?_⟩
       have Qs:=aat (ρ:=ρ) (st:=st) (vs:=vs) (a:=a) (M:=M) (w0:=w0) hP.env RJ;obtain⟨b1,b2,b3,b4,b5,b6⟩:=Qs;obtain⟨us,u1,u2,u3⟩:=b6 w' (hR w' fS);have hw:Region.wanted o (yielded l.toArray a.tmps)=true:=by unfold Region.wanted;rw[b5]
       unfold wpOp;simp only[mJ];rw[if_pos hw];refine .inl ?_;unfold Oper.wp;rw[u2];have ea:a.put o.dst undef=a:=by rw[b4];rfl
       show ∃ S',S' _/\(∀ v,S' v->S v)/\eU S'/\fE P l.toArray Q l.length _ (f-1) S' (listed.setIfInBounds j true) (a.put o.dst undef);rw[ea];have jl:=fh b1;have eN:∀ (r1:Nat) (c1:List At),(st.aBZ r (.box true (Z9 cells k l'))).rg[r1]?=some (.box true c1)->bZ sr c1=true->(st.rg[r1]?=some (.box true c1)\/r1=r):=fun r1 c1 h1 _=>by
        rcases cF h1 with⟨rfl,_,_⟩|⟨_,h1⟩
        ·exact .inr rfl
        ·exact .inl h1
       let S':World->Prop:=fun v=>S v/\Rel Γ M w0 ρ (st.aBZ r (.box true (Z9 cells k l'))) vs a v
       have lS:S' (w'.setCells (ρ r []).b k us):=⟨hS.wr r cells b1 b2 k us (by omega) w' fS,u3⟩
       have sZ:uo (st.aBZ r (.box true (Z9 cells k l'))) ρ S':=by
        refine⟨fun v v' hv hb=>⟨hS.sh _ _ hv.1 hb,hv.2.cX hb⟩,fun r1 c1 h1 h2 base lI hl' v hv=>⟨?_,hv.2.uh h1 h2 hl'⟩⟩
        rcases eN r1 c1 h1 h2 with h3|rfl
        ·exact hS.wr r1 c1 h3 h2 base lI hl' v hv.1
        ·have hlen:c1.length=cells.length:=by
          rcases cF h1 with⟨_,e,_⟩|⟨hne,_⟩
          ·injection e with _ e;rw[e];have gen:∀ (l cells:List At) (off:Nat),(Z9 cells off l).length=cells.length:=by
            intro l;induction l with
            |nil=>intro _ _;rfl
            |cons x l ih=>intro cells off;simp only[Z9,ih,List.length_set]
           exact gen _ _ _
          ·exact absurd rfl hne
         exact hS.wr r1 cells b1 b2 base lI (by omega) v hv.1
       refine⟨S',lS,fun v hv=>hv.1,sZ.sh,?_⟩
       cases t with
       |fin=>
        simp only[gu,Bool.not_true,Bool.false_or,Bool.and_eq_true]at hsub;obtain⟨h1,h2⟩:=hsub;rw[Nat.eq_of_beq_eq_true h1];exact fun w2 lS=>⟨h2,by rw[List.drop_length];exact hK _ _ _ _ he lS.2⟩
       |alt i2 t2 m2=>exact(fc hP hsel hQ hK (.alt i2 t2 m2) _ _ _ a S' ρ inv' sZ ⟨_,lS⟩ (fun v hv=>hv.2) he).1 hsub rfl
       |take i2 t2=>exact(fc hP hsel hQ hK (.take i2 t2) _ _ _ a S' ρ inv' sZ ⟨_,lS⟩ (fun v hv=>hv.2) he).1 hsub rfl
      ·refine⟨hin,fun w' fS=>?_⟩
       obtain⟨b5,g,x,y,ob,ξ,he,hrun,cC,RO⟩:=CN hP.env (hR w' fS) he;have hw:Region.wanted o (yielded l.toArray a.tmps)=true:=by unfold Region.wanted;rw[b5]
       unfold wpOp;simp only[mJ];rw[if_pos hw];refine .inl ?_;unfold Oper.wp;rw[hrun];let S':World->Prop:=fun v=>(∀ ws,S (vY w'.heap.size ws v))/\Rel Γ M w0 (aE ρ st.rg.length ξ) ((st.push [g]).put o.dst x) vs (a.put o.dst y) v
       have lS:S' (w'.alloc ob):=⟨fun ws=>hS.sh w' _ fS (xm (Nat.le_refl _) ws (agB ob)),cC⟩
       have QF:((st.push [g]).put o.dst x).rg=st.rg++[g]:=by cases o.dst<;>rfl
       have sZ:uo ((st.push [g]).put o.dst x) (aE ρ st.rg.length ξ) S':=by
        refine⟨fun v v' hv hb=>⟨fun ws=>hS.sh _ _ (hv.1 ws) (by rw[BR];exact n8 ws hb),hv.2.cX hb⟩,fun r1 c1 h1 h2 base lI hl' v hv=>⟨fun ws=>?_,hv.2.uh h1 h2 hl'⟩⟩
        rw[QF]at h1;by_cases hlt:r1<st.rg.length
        ·rw[List.getElem?_append_left hlt]at h1;have Kj:(ρ r1 []).b<w'.heap.size:=by
          have hB:(az.box true c1).has [] true (.box c1):=⟨rfl,rfl,rfl⟩;obtain⟨_,_,gU,_⟩:=(hR w' fS).rs.blk r1 _ [] true _ h1 hB;exact(hR w' fS).rs.lt r1 _ [] true _ h1 hB gU
         rw[bB hlt,Ch (by omega)]
         exact hS.wr r1 c1 h1 h2 base lI hl' _ (hv.1 ws)
        ·have s7:r1=st.rg.length:=by
          have:=(List.getElem?_eq_some_iff.1 h1).1;simp only[List.length_append,List.length_singleton]at this;omega
         subst s7;rw[aF,RO];exact hv.1 ((base,lI)::ws)
       refine⟨S',lS,fun v hv=>hv.1 [],sZ.sh,?_⟩
       cases t with
       |fin=>
        simp only[gu,Bool.not_true,Bool.false_or,Bool.and_eq_true]at hsub;obtain⟨h1,h2⟩:=hsub;rw[Nat.eq_of_beq_eq_true h1];exact fun w2 lS=>⟨h2,by rw[List.drop_length];exact hK _ _ _ _ he lS.2⟩
       |alt i2 t2 m2=>exact(fc hP hsel hQ hK (.alt i2 t2 m2) _ _ _ _ S' _ inv' sZ ⟨_,lS⟩ (fun v hv=>hv.2) he).1 hsub rfl
       |take i2 t2=>exact(fc hP hsel hQ hK (.take i2 t2) _ _ _ _ S' _ inv' sZ ⟨_,lS⟩ (fun v hv=>hv.2) he).1 hsub rfl
     ·exact he.elim
    ·exact(fc hP hsel hQ hK m f listed st a S ρ inv hS hne hR hem).2 hm j hj Hp
   refine⟨fun hok _=>?_,fun hok=>?_⟩
   ·simp only[gu,Bool.not_true,Bool.false_or,Bool.and_eq_true,decide_eq_true_eq]at hok;obtain⟨hh,hin,hf,h1,h2⟩:=hok;obtain⟨f,rfl⟩:∃ k,f=k+1:=⟨f-1,by omega⟩
    refine⟨by rw[<-hh];simp[OT.fV],fun j hj=>?_⟩
    have:=amn hin hf h1 h2 j (by rw[hh];exact hj) hj
    rwa[Nat.add_sub_cancel]at this
   ·simp only[gu,Bool.not_false,Bool.true_or,Bool.true_and,Bool.and_eq_true,decide_eq_true_eq]at hok;exact amn hok.1 hok.2.1 hok.2.2.1 hok.2.2.2
def fY (R:Act->World->Prop) (e:Exit) (a:Act) (w:World):Prop:=match e with| .normal=>R a w|_=>False
theorem uS (hP:aL P Γ E) (hC:ju P Γ E cl) (h:Rel Γ M w0 ρ st vs a w) {id:Nat} {l:List Oper} {K:St->Prop} (he:Z5 E cl id l st K) {R:Act->World->Prop}
 (hK:∀ an a' w' ρ',K an->Rel Γ M w0 ρ' an vs a' w'->R a' w'):wpAny P .any l.toArray (fY R) l.toArray.size (Array.replicate l.toArray.size false) a {w with drawn:=w.drawn+1}:=by
 unfold Z5 at he;have h1:Rel Γ M w0 ρ st vs a {w with drawn:=w.drawn+1}:=h.cX ((Below.refl w.heap.size w).drew);split at he
 ·rename_i dt _;obtain⟨ds,t⟩:=dt;obtain⟨hB,he⟩:=fp Tk.mk he;have hB:=hB.h;simp only[rB,Bool.and_eq_true,decide_eq_true_eq]at hB;obtain⟨hsel,hn,ht,Hr,hok⟩:=hB;have mK:l.toArray.size=l.length:=by simp
  obtain⟨aIT,he,s7⟩:=aax ds he h1;have pu:HeadInv .any l.toArray l.length (Array.replicate l.toArray.size false):=
   ⟨by simp,fun j oj _ hl=>(by rw[getD_replicate_false]at hl;cases hl),fun t _ ht=>getD_in (by simpa using ht) (getD_replicate_false _ _)⟩
  have H:fE P l.toArray (fY R) l.length (fun listed a w=>Region.seqB .any l.toArray (l.toArray.size-l.length) l.length listed=true/\wpList P l.toArray (fY R) (l.drop l.length) a w) l.length (fun w'=>Rel Γ M w0 ρ aIT vs a w') (Array.replicate l.toArray.size false) a:=by
   cases t with
   |fin=>cases Hr
   |alt i2 t2 m2=>exact(fc (Q:=fY R) hP hsel (fun c a w hq=>hq) (fun an a' w' ρ' hk hr=>hK _ _ _ _ hk hr) (.alt i2 t2 m2) _ _ aIT a _ ρ pu Rel.KE ⟨_,s7⟩ (fun _ h=>h) he).1 hok rfl
   |take i2 t2=>exact(fc (Q:=fY R) hP hsel (fun c a w hq=>hq) (fun an a' w' ρ' hk hr=>hK _ _ _ _ hk hr) (.take i2 t2) _ _ aIT a _ ρ pu Rel.KE ⟨_,s7⟩ (fun _ h=>h) he).1 hok rfl
  have:=my (Q:=fY R) (g:=l.toArray.size-l.length) (fun listed a' w' hL=>by
   have:=wpAny_of_seq (md:=.any) (Q':=fY R) (l.drop l.length) l.length listed a' w' (fun j=>by simp[List.getElem?_drop]) (by rw[List.length_drop,<-mK];exact hL.1) hL.2
   rwa[List.length_drop,<-mK]at this) _ _ _ _ _ s7 H
  rwa[show l.length+(l.toArray.size-l.length)=l.toArray.size by omega]at this
 split at he
 ·rename_i nt _;obtain⟨n,t⟩:=nt;obtain⟨hB,he⟩:=fp Tk.mk he;have hB:=hB.h;simp only[rB,Bool.and_eq_true,decide_eq_true_eq]at hB;obtain⟨hsel,hn,ht,Hr,hok⟩:=hB;have mK:l.toArray.size=l.length:=by simp
  have pu:HeadInv .any l.toArray n (Array.replicate l.toArray.size false):=
   ⟨by simp,fun j oj _ hl=>(by rw[getD_replicate_false]at hl;cases hl),fun t _ ht=>getD_in (by simpa using ht) (getD_replicate_false _ _)⟩
  let Q':Exit->Act->World->Prop:=fY R;have tl:=fun an a' w' ρ' (hk:lZ E cl l.toArray (l.drop n) an K) (hr:Rel Γ M w0 ρ' an vs a' w')=>iM (Q:=Q') hP hC (fun an a' w' ρ' hk hr=>show Q' .normal a' w' from hK _ _ _ _ hk hr) _ _ _ _ _ hk hr
  have H:fE P l.toArray Q' n (fun listed a w=>Region.seqB .any l.toArray (l.toArray.size-n) n listed=true/\wpList P l.toArray Q' (l.drop n) a w) n (fun w'=>Below w.heap.size {w with drawn:=w.drawn+1} w') (Array.replicate l.toArray.size false) a:=by
   cases t with
   |fin=>cases Hr
   |alt i2 t2 m2=>exact(abA (Q:=Q') (w0:=w0) (M:=M) (Γ:=Γ) (vs:=vs) hP hC hsel ht (fun c a w hq=>hq) tl (.alt i2 t2 m2) _ _ st a _ ρ pu he h1).1 hok rfl
   |take i2 t2=>exact(abA (Q:=Q') (w0:=w0) (M:=M) (Γ:=Γ) (vs:=vs) hP hC hsel ht (fun c a w hq=>hq) tl (.take i2 t2) _ _ st a _ ρ pu he h1).1 hok rfl
  have:=my (Q:=Q') (g:=l.toArray.size-n) (fun listed a' w' hL=>by
   have:=wpAny_of_seq (md:=.any) (Q':=Q') (l.drop n) n listed a' w' (fun j=>by simp[List.getElem?_drop]) (by rw[List.length_drop,<-mK];exact hL.1) hL.2
   rwa[List.length_drop,<-mK]at this) _ _ _ _ _ (Below.refl _ _) H
  rwa[show n+(l.toArray.size-n)=l.toArray.size by omega]at this
 split at he
 ·rename_i t _;obtain⟨hB,he⟩:=fp Tk.mk he;have hB:=hB.h;simp only[Bv,Bool.and_eq_true]at hB;obtain⟨hsel,Hr,hok⟩:=hB;let Q':Exit->Act->World->Prop:=fY R;cases t with
  |fin=>cases Hr
  |alt i2 t2 m2=>exact(eM (Q:=Q') hP hC hsel (fun c a w hq=>hq) (fun an a' w' ρ' hk hr=>hK _ _ _ _ hk hr) (.alt i2 t2 m2) _ _ st a _ ρ he h1).1 hok rfl
  |take i2 t2=>exact(eM (Q:=Q') hP hC hsel (fun c a w hq=>hq) (fun an a' w' ρ' hk hr=>hK _ _ _ _ hk hr) (.take i2 t2) _ _ st a _ ρ he h1).1 hok rfl
 split at he
 ·rename_i ord _;obtain⟨hB,he⟩:=fp Tk.mk he;have hB:=hB.h;simp only[Fh,Bool.and_eq_true,decide_eq_true_eq,List.all_eq_true,List.mem_range]at hB;obtain⟨⟨⟨⟨hsel,hn⟩,ht⟩,hstep⟩,po⟩:=hB;have mK:l.toArray.size=l.length:=by simp
  have pu:HeadInv .any l.toArray ord.length (lG l.toArray []):=
   ⟨by simp[lG],fun j oj _ hl=>(by rw[show lG l.toArray []=Array.replicate l.toArray.size false from rfl,getD_replicate_false]at hl;cases hl),fun t _ ht=>getD_in (by simpa[lG]using ht) (getD_replicate_false _ _)⟩
  let Q':Exit->Act->World->Prop:=fY R;have H:=uT (all:=ord) (Q:=Q') (w0:=w0) (M:=M) (Γ:=Γ) (vs:=vs) hP hC hsel ht hstep po (fun c a w hq=>hq) (K:=fun st=>lZ E cl l.toArray (l.drop ord.length) st K)
   (fun an a' w' ρ' hk hr=>iM hP hC (fun an a' w' ρ' hk hr=>show Q' .normal a' w' from hK _ _ _ _ hk hr) _ _ _ _ _ hk hr) ord [] rfl pu st a _ ρ he h1
  have:=my (Q:=Q') (g:=l.toArray.size-ord.length) (fun listed a' w' hL=>by
   have:=wpAny_of_seq (md:=.any) (Q':=Q') (l.drop ord.length) ord.length listed a' w' (fun j=>by simp[List.getElem?_drop]) (by rw[List.length_drop,<-mK];exact hL.1) hL.2
   rwa[List.length_drop,<-mK]at this) _ _ _ _ _ (Below.refl _ _) H
  rwa[show ord.length+(l.toArray.size-ord.length)=l.toArray.size by omega]at this
 split at he
 ·obtain⟨hB,he⟩:=fp Tk.mk he;have hB:=hB.h;simp only[Region.lexB,Bool.and_eq_true]at hB;refine wpAny_of_quiet (C:=fun w'=>Below w.heap.size {w with drawn:=w.drawn+1} w') (Q:=fun a'=>∀ w',Below w.heap.size {w with drawn:=w.drawn+1} w'->R a' w') (fun _ w' fS h=>h w' fS) _ _ _ _ (Below.refl _ _) ?_
  have:=wpAnyQ_lex (C:=fun w'=>Below w.heap.size {w with drawn:=w.drawn+1} w') (md:=.any) hB.1 l 0 (Array.replicate l.toArray.size false) a (by simp) (by simpa using hB.2)
   (qz (w1:={w with drawn:=w.drawn+1}) hP (Qf:=fun a'=>∀ w',Below w.heap.size {w with drawn:=w.drawn+1} w'->R a' w') (fun an a' hk hr w' fS=>hK _ _ _ _ hk (hr.cX fS)) _ _ _ he h1)
  simpa using this
 ·obtain⟨hB,he⟩:=fp Tk.mk he;have hB:=hB.h;simp only[Fg,Bool.and_eq_true,decide_eq_true_eq,List.all_eq_true,List.mem_range]at hB;obtain⟨⟨⟨⟨hsel,hn⟩,ht⟩,hstep⟩,po⟩:=hB;have hn':storeAt l<=l.length:=vT l;have mK:l.toArray.size=l.length:=by simp
  have pu:HeadInv .any l.toArray (storeAt l) (upTo l.toArray 0):=
   ⟨by simp[upTo],fun j oj _ hl=>(by rw[upTo,getD_replicate_false]at hl;cases hl),fun t _ ht=>getD_in (by simpa[upTo]using ht) (getD_replicate_false _ _)⟩
  let Q':Exit->Act->World->Prop:=fY R;have H:=xK (n:=storeAt l) (Q:=Q') (w0:=w0) (M:=M) (Γ:=Γ) (vs:=vs) hP hC hn' hsel ht hstep po (fun c a w hq=>hq) (K:=fun st=>lZ E cl l.toArray (l.drop (storeAt l)) st K)
   (fun an a' w' ρ' hk hr=>iM hP hC (fun an a' w' ρ' hk hr=>show Q' .normal a' w' from hK _ _ _ _ hk hr) _ _ _ _ _ hk hr) (l.take (storeAt l)) 0 (by simp) (Nat.zero_le _) pu st a _ ρ he h1
  have:=my (Q:=Q') (g:=l.toArray.size-storeAt l) (fun listed a' w' hL=>by
   have:=wpAny_of_seq (md:=.any) (Q':=Q') (l.drop (storeAt l)) (storeAt l) listed a' w' (fun j=>by simp[List.getElem?_drop]) (by rw[List.length_drop,<-mK];exact hL.1) hL.2
   rwa[List.length_drop,<-mK]at this) _ _ _ _ _ (Below.refl _ _) H
  rwa[List.length_take,Nat.min_eq_left hn',show storeAt l+(l.toArray.size-storeAt l)=l.toArray.size by omega]at this
theorem Ag (hP:aL P Γ E) (hC:ju P Γ E cl) (h:Rel Γ M w0 ρ st vs a w) {id:Nat} {l:List Oper} {K:St->Prop} (he:Z5 E cl id l st K) {Q:Exit->Act->World->Prop}
 (hK:∀ an a' w' ρ',K an->Rel Γ M w0 ρ' an vs a' w'->Q .normal a' w'):(Code.region id l.toArray true).wp P Q a w:=
 Code.wp_mono (Q:=fY (Q .normal)) (fun e a w hq=>by cases e<;>first|exact hq|exact hq.elim) (wp_region_any hP.mixed (uS hP hC h he hK))
end
end Go.Sy
end
section
namespace Go.Sy
open Go Go.RowKit
universe u
section
variable {P:Program} {Γ:bn} {E:Env} {cl:Cl} {M:Nat->Prop} {w0:World} {ρ:Keys} {st:St} {vs:Fv} {a:Act} {w:World}
def iG (ρ:Keys) (is:List Nat) (m:Nat) (gs:List az):Keys:=fun r π=>
 if rn is r<m then ρ (rn is r) π else{iC with m:=(match gs.getD r .dead with| .arr _ tg _ _ _=>tg.length|_=>0)}
theorem b8 {is:List Nat} {m r:Nat} {gs:List az} (h:rn is r<m):iG ρ is m gs r=ρ (rn is r):=by
 funext π;simp only[iG];rw[if_pos h]
theorem kz {is:List Nat} {m r:Nat} {gs:List az} {π:Path} (h:m<=rn is r):(iG ρ is m gs r π).aC=true:=by
 simp only[iG];rw[if_neg (by omega)];rfl
theorem nN {I:RI} (h:I.aC=true) {a0:Option Addr}:I.head 0 0 (.slice a0 0 0):=⟨fun _=>⟨rfl,_,rfl⟩,fun hf=>by rw[h]at hf;cases hf⟩
theorem nB {is:List Nat} {m n:Nat} {gs:List az} {x x':At} {y:Value} (hl:DP is m n x x') (h:x.ok m ρ y):x'.ok n (iG ρ is m gs) y:=by
 unfold DP at hl;split at hl
 ·trivial
 ·exact h
 ·exact⟨none,h.1⟩
 ·exact h
 ·obtain⟨h1,h2,rfl,rfl,rfl⟩:=hl;obtain⟨rfl,_⟩:=h;exact⟨h2,nN (kz h1)⟩
 ·obtain⟨h1,h2,rfl,rfl,rfl⟩:=hl;obtain⟨a0,rfl⟩:=h;exact⟨h2,nN (kz h1)⟩
 ·obtain⟨rfl,rfl⟩:=hl;exact h
 ·obtain rfl:=hl;exact h
 ·obtain rfl:=hl;exact h
 ·exact h
 ·exact h
 ·obtain rfl:=hl;obtain rfl:y= .bool true:=h;exact⟨rfl,rfl⟩
 ·obtain rfl:=hl;obtain rfl:y= .bool false:=h;exact⟨rfl,rfl⟩
 ·obtain⟨h1,h2,rfl,rfl,rfl,rfl⟩:=hl;exact⟨h1,by rw[b8 h2];exact h.2⟩
 ·obtain⟨h1,h2,rfl,rfl,rfl,rfl⟩:=hl;exact⟨h1,by rw[b8 h2];exact h.2⟩
 ·obtain⟨rfl,rfl,h1⟩:=hl;refine⟨fun r hr=>(h1 r hr).1,?_⟩
  rw[h.2,List.map_map]
  congr 2
  exact List.map_congr_left fun r hr=>by rw[b8 (h1 r hr).2];rfl
 ·obtain⟨h1,h2,rfl⟩:=hl;exact⟨h1,by rw[b8 h2];exact h.2⟩
 ·obtain⟨h1,h2,rfl⟩:=hl;exact⟨h1,by rw[b8 h2];exact h.2⟩
 ·obtain⟨h1,h2,rfl⟩:=hl;exact⟨h1,by rw[b8 h2];exact h.2⟩
 ·exact h
 ·exact hl.elim
theorem aBJ {is:List Nat} {m n:Nat} {gs:List az}:∀ {l l':List At} {ys:List Value},akm is m n l l'->be (At.ok m ρ) l ys->be (At.ok n (iG ρ is m gs)) l' ys
 |[],[],[],_,_=>trivial
 |_::_,_::_,_::_,hl,h=>⟨nB hl.1 h.1,aBJ hl.2 h.2⟩
theorem HD {is:List Nat} {m n:Nat} {gs:List az} {x x':C1} {y:Value} (hl:NT is m n x x') (h:x.ok m ρ y):x'.ok n (iG ρ is m gs) y:=by
 unfold NT at hl;split at hl
 ·exact nB hl h
 ·obtain⟨ys,h1,h2⟩:=h;exact⟨ys,h1,aBJ hl h2⟩
 ·exact hl.elim
theorem vq {is:List Nat} {m n:Nat} {gs:List az}:∀ {l l':List C1} {ys:List Value},Jj is m n l l'->be (C1.ok m ρ) l ys->be (C1.ok n (iG ρ is m gs)) l' ys
 |[],[],[],_,_=>trivial
 |_::_,_::_,_::_,hl,h=>⟨HD hl.1 h.1,vq hl.2 h.2⟩
theorem HE {is:List Nat} {m n:Nat} {gs:List az} {x x':Tm} {y:Value} (hl:DR is m n x x') (h:x.ok m ρ y):x'.ok n (iG ρ is m gs) y:=by
 unfold DR at hl;split at hl
 ·trivial
 ·exact nB hl h
 ·obtain⟨ys,h1,h2⟩:=h;exact⟨ys,h1,aBJ hl h2⟩
 ·obtain⟨ys,h1,h2⟩:=h;exact⟨ys,h1,vq hl h2⟩
 ·exact hl.elim
theorem DS {is:List Nat} {m n:Nat} {x:Tm}:DR is m n x (.a .any):=by cases x<;>exact trivial
theorem mQ {is:List Nat} {m n:Nat}:∀ {t' t:Tr},wM is m n t t'->∀ i,DR is m n (t.get i) (t'.get i)
 | .nil,_,_,i=>DS
 | .node y l r,.nil,h,i=>by
   have h':(match (generalizing:=false) y with| .a .any=>True|_=>False)/\wM is m n .nil l/\wM is m n .nil r:=h
   obtain⟨h1,h2,h3⟩:=h';unfold Tr.get;split
   ·split at h1
    ·exact DS
    ·exact h1.elim
   ·split
    ·exact mQ h2 _
    ·exact mQ h3 _
 | .node y l r,.node x l0 r0,h,i=>by
   have h':DR is m n x y/\wM is m n l0 l/\wM is m n r0 r:=h;obtain⟨h1,h2,h3⟩:=h';unfold Tr.get;split
   ·exact h1
   ·split
    ·exact mQ h2 _
    ·exact mQ h3 _
theorem rf {is:List Nat} {m n:Nat} {gs:List az} {s s':Sl} {xs:Array Value} (hl:Kv is m n s s') (h:s.ok m ρ xs):s'.ok n (iG ρ is m gs) xs:=
 ⟨h.n.trans hl.1,fun i=>HE (mQ hl.2 i) (h.h i)⟩
theorem yd {is:List Nat} {m n:Nat} {gs:List az}:∀ {l l':List Sl} {ys:List (Array Value)},NU is m n l l'->be (Sl.ok m ρ) l ys->be (Sl.ok n (iG ρ is m gs)) l' ys
 |[],[],[],_,_=>trivial
 |_::_,_::_,_::_,hl,h=>⟨rf hl.1 h.1,yd hl.2 h.2⟩
theorem A6 {is:List Nat} {m n:Nat}:∀ {l l':List At},akm is m n l l'->∀ (j:Nat) (x':At),l'[j]?=some x'->∃ x,l[j]?=some x/\DP is m n x x'
 |[],[],_,j,x',h=>by simp at h
 |x::_,_::_,hl,0,x',h=>by simp at h;subst h;exact⟨x,rfl,hl.1⟩
 |_::_,_::_,hl,j+1,x',h=>by
  obtain⟨x,h1,h2⟩:=A6 hl.2 j x' (by simpa using h)
  exact⟨x,by simpa using h1,h2⟩
theorem ik {b b':Bool} (h:mI b b'):b'=true->b=true:=by
 cases b
 ·intro h';rw[show b'=false from h]at h';cases h'
 ·exact fun _=>rfl
theorem lz {is:List Nat} {m n:Nat} {gs:List az} {g g':az} {r:Nat} {π:Path} {o:Bool} {B':aD0} (hl:DQ is m n g g') (aBC:rn is r<m) (h:g'.has π o B'):
 ∃ o2 B,g.has π o2 B/\(o=true->o2=true)/\(B.aA m ρ (rn is r) π w->B'.aA n (iG ρ is m gs) r π w)/\(B.mine M w0 w (ρ (rn is r) π)->B'.mine M w0 w (ρ (rn is r) π)):=by
 unfold DQ at hl;split at hl
 ·exact h.elim
 ·rename_i o1 l N2 l';obtain⟨hf,hl⟩:=hl;obtain⟨rfl,rfl,rfl⟩:=h;refine⟨_,.box l,⟨rfl,rfl,rfl⟩,ik hf,fun hh=>?_,id⟩
  obtain⟨_,h2,h3,h4⟩:=hh;refine⟨rfl,by rw[b8 aBC];exact h2,by rw[b8 aBC];exact h3,fun j x' hx=>?_⟩
  obtain⟨x,hx,hle⟩:=A6 hl j x' hx;obtain⟨y,hy,hc⟩:=h4 j x hx;exact⟨y,nB hle hy,by rw[b8 aBC];exact hc⟩
 ·rename_i te tg xs o1 i1 oO bX xs' N2 RP;obtain⟨⟨hh,rfl,hxs⟩,Ni,jH⟩:=hl;subst hh;obtain rfl:xs=xs':=hxs;obtain⟨A,rfl,hA,rfl⟩:=Ar.gQ h;refine⟨mH π o1 i1,.arr A,⟨rfl,A,hA,rfl⟩,?_,fun hh=>?_,id⟩
  ·cases π with
   |nil=>exact ik Ni
   |cons=>exact ik jH
  ·show A.aA w (iG ρ is m gs r) π;rw[b8 aBC];exact hh
 ·rename_i t k c es o1 t' k' c' es' N2;obtain⟨⟨hh,rfl,rfl,AI⟩,hf⟩:=hl;subst hh;obtain rfl:es=es':=AI;obtain⟨rfl,rfl,rfl⟩:=h;refine⟨_,.map k c es,⟨rfl,rfl,rfl⟩,ik hf,fun hh=>?_,id⟩
  obtain⟨_,h2,h3⟩:=hh;exact⟨rfl,by rw[b8 aBC];exact h2,by rw[b8 aBC];exact h3⟩
 ·rename_i t kk e tg es o1 i1 t' aBH e' bX es' N2 RP;obtain⟨⟨hh,qS,rfl,rfl,AI⟩,Ni,jH⟩:=hl;subst hh;subst qS;obtain rfl:es=es':=AI;rcases h with⟨rfl,rfl,rfl⟩|⟨j,rfl,rfl,hj,hf,rfl⟩
  ·refine⟨_,_,.inl ⟨rfl,rfl,rfl⟩,ik Ni,fun hh=>?_,id⟩
   obtain⟨_,h2,h3⟩:=hh;exact⟨rfl,by rw[b8 aBC];exact h2,by rw[b8 aBC];exact h3⟩
  ·refine⟨_,_,.inr ⟨j,rfl,rfl,hj,hf,rfl⟩,ik jH,fun hh=>?_,id⟩
   show Ar.aA w (iG ρ is m gs r) _ _;rw[b8 aBC];exact hh
 ·rename_i r1 k1 l1 Su Sr Ss;obtain⟨⟨rfl,rfl⟩,a1,a2,a3⟩:=hl;obtain⟨rfl,rfl,rfl⟩:=h;refine⟨_,.it (some r1) k1 l1,⟨rfl,rfl,rfl⟩,id,fun hh=>?_,id⟩
  obtain⟨_,h2,h3,h4⟩:=hh;refine⟨rfl,by rw[b8 aBC];exact h2,fun r' hr'=>by cases hr';exact a1,?_⟩
  rw[b8 aBC,h4];simp only[Option.map_some];rw[a3]at a2;rw[b8 a2,a3]
 ·obtain⟨rfl,rfl⟩:=hl;obtain⟨rfl,rfl,rfl⟩:=h;refine⟨_,.it none _ _,⟨rfl,rfl,rfl⟩,id,fun hh=>?_,id⟩
  obtain⟨_,h2,h3,h4⟩:=hh;exact⟨rfl,by rw[b8 aBC];exact h2,(fun r' hr'=>by cases hr'),by rw[b8 aBC];exact h4⟩
 ·obtain⟨hs,rfl,rfl,rfl,rfl⟩:=hl;obtain⟨rfl,rfl,rfl⟩:=h;refine⟨_,.lp _ _ _ _ _,⟨rfl,rfl,rfl⟩,id,fun hh=>?_,id⟩
  obtain⟨_,h2,h3,h4,h5⟩:=hh;exact⟨rfl,by rw[b8 aBC];exact h2,rf hs h3,by rw[b8 aBC];exact h4,by rw[b8 aBC];exact h5⟩
 ·exact hl.elim
theorem A7 {is:List Nat} {m n:Nat} {rg:List az}:∀ {l:List az} {k:Nat},Ff is m n rg k l->∀ (r:Nat) (g':az),l[r]?=some g'->
 (rn is (k+r)<m/\DQ is m n (rg.getD (rn is (k+r)) .dead) g')\/(m<=rn is (k+r)/\Bm g')
 |[],_,_,r,g',h=>by simp at h
 |y::ys,k,hl,r,g',h=>by
  obtain⟨h1,h2⟩:(match Nat.blt (rn is k) m with|true=>DQ is m n (rg.getD (rn is k) .dead) y|false=>Bm y)/\Ff is m n rg (k+1) ys:=hl
  cases r with
  |zero=>
   simp at h;subst h;rw[Nat.add_zero];split at h1
   ·rename_i hb;exact .inl ⟨Nat.le_of_ble_eq_true hb,h1⟩
   ·rename_i hb;refine .inr ⟨?_,h1⟩;rcases Nat.lt_or_ge (rn is k) m with hlt|hge
    ·rw[show Nat.blt (rn is k) m=true from Nat.ble_eq_true_of_le hlt]at hb;cases hb
    ·exact hge
  |succ r=>
   have:=A7 h2 r g' (by simpa using h)
   rwa[show k+1+r=k+(r+1) by omega]at this
theorem aal {r:Nat}:∀ {l:List Nat},Vq r l=false->r∉l
 |[],_=>by simp
 |x::l,h=>by
  simp only[Vq]at h;split at h
  ·cases h
  ·rename_i hb;intro hm;rcases List.mem_cons.1 hm with rfl|hm
   ·simp at hb
   ·exact aal h hm
theorem qY {is:List Nat} {m:Nat}:∀ {n:Nat} {seen:List Nat},AT is m n seen=true->(∀ j,j<n->rn is j<m->rn is j∉seen)/\(∀ j k,j<n->k<n->j≠k->rn is j<m->rn is k<m->rn is j≠rn is k)
 |0,_,_=>⟨fun j hj=>by omega,fun j k hj=>by omega⟩
 |n+1,seen,h=>by
  simp only[AT]at h;split at h
  ·rename_i hb;have hge:¬rn is n<m:=fun hlt=>by rw[show Nat.blt (rn is n) m=true from Nat.ble_eq_true_of_le hlt]at hb;cases hb
   obtain⟨h1,h2⟩:=qY h;refine⟨fun j hj hm=>?_,fun j k hj hk hne h3 h4=>?_⟩
   ·rcases Nat.lt_succ_iff_lt_or_eq.1 hj with hj|rfl
    ·exact h1 j hj hm
    ·exact absurd hm hge
   ·rcases Nat.lt_succ_iff_lt_or_eq.1 hj with hj|rfl
    ·rcases Nat.lt_succ_iff_lt_or_eq.1 hk with hk|rfl
     ·exact h2 j k hj hk hne h3 h4
     ·exact absurd h4 hge
    ·exact absurd h3 hge
  ·split at h
   ·cases h
   ·rename_i hmem;obtain⟨h1,h2⟩:=qY h;refine⟨fun j hj hm=>?_,fun j k hj hk hne h3 h4=>?_⟩
    ·rcases Nat.lt_succ_iff_lt_or_eq.1 hj with hj|rfl
     ·exact fun hs=>h1 j hj hm (List.mem_cons_of_mem _ hs)
     ·exact aal hmem
    ·rcases Nat.lt_succ_iff_lt_or_eq.1 hj with hj|rfl
     ·rcases Nat.lt_succ_iff_lt_or_eq.1 hk with hk|rfl
      ·exact h2 j k hj hk hne h3 h4
      ·exact fun e=>h1 j hj h3 (by rw[e];exact List.mem_cons_self)
     ·rcases Nat.lt_succ_iff_lt_or_eq.1 hk with hk|rfl
      ·exact fun e=>h1 k hk h4 (by rw[<-e];exact List.mem_cons_self)
      ·exact absurd rfl hne
theorem DX {g:az} (hn:Bm g) {π:Path} {o:Bool} {B:aD0} (h:g.has π o B):∃ te tg akl,π=[]/\tg≠[]/\g= .arr te tg [] o akl/\B= .arr ⟨te,tg,[]⟩:=by
 cases g with
 |dead=>exact h.elim
 |box=>exact hn.elim
 |map=>exact hn.elim
 |bH=>exact hn.elim
 |iter=>exact hn.elim
 |lp=>exact hn.elim
 |arr te tg xs o1 i1=>
  obtain⟨rfl,ci⟩:=hn;obtain⟨A,rfl,hA,rfl⟩:=Ar.gQ h;have none:∀ {π:Path} {A:Ar},Ar.has ⟨te,tg,[]⟩ π A->π=[]/\A=⟨te,tg,[]⟩:=by
   intro π;induction π with
   |nil=>intro A h;exact⟨rfl,h⟩
   |cons p π ih=>
    obtain⟨i,j⟩:=p;rintro A ⟨B,h1,h2,_⟩;obtain⟨_,rfl⟩:=ih h1;simp at h2
  obtain⟨rfl,rfl⟩:=none hA;exact⟨te,tg,i1,rfl,ci,rfl,rfl⟩
theorem Rel.le (h:Rel Γ M w0 ρ st vs a w) {is:List Nat} {an:St} (hl:Le is st an):∃ ρ',Rel Γ M w0 ρ' an vs a w:=by
 unfold Le at hl;rw[mo,mo]at hl;obtain⟨h1,h2,h3,h4⟩:=hl;obtain⟨_,hinj⟩:=qY h4;have get:∀ (r:Nat) (g':az),an.rg[r]?=some g'->(rn is r<st.rg.length/\∃ g,DQ is st.rg.length an.rg.length g g'/\∀ π o B,g'.has π o B->st.rg[rn is r]?=some g)\/(st.rg.length<=rn is r/\Bm g'):=by
  intro r g' hr;rcases A7 h3 r g' hr with⟨k1,k2⟩|k
  ·rw[Nat.zero_add]at k1 k2;refine .inl ⟨k1,_,k2,fun π o B hh=>?_⟩
   simp[List.getD,k1]
  ·rw[Nat.zero_add]at k;exact .inr k
 refine⟨iG ρ is st.rg.length an.rg,rf h1 h.tm,yd h2 h.fr,h.df,⟨fun r g' π o B hr hh=>?_,fun r g' π o B hr hh hv=>?_,fun r g' π B hr hh hv=>?_,fun r1 r2 g1 g2 aCa jr o' B1 B2 e1 e2 k1 k2 v1 v2 hne=>?_⟩,h.bl,h.gl,h.gn⟩
 ·rcases get r g' hr with⟨k1,g,k2,k3⟩|⟨k1,k2⟩
  ·obtain⟨o2,B0,b1,_,b3,_⟩:=lz (ρ:=ρ) (M:=M) (w0:=w0) (w:=w) (gs:=an.rg) k2 k1 hh;exact b3 (h.rs.blk _ g π o2 B0 (k3 π o B hh) b1)
  ·obtain⟨te,tg,akl,rfl,ci,rfl,rfl⟩:=DX k2 hh;refine⟨ci,?_,fun _=>rfl,fun hf=>?_,fun i hi=>by simp at hi⟩
   ·simp only[iG];rw[if_neg (by omega)];simp[List.getD,hr]
   ·rw[kz k1]at hf;cases hf
 ·rcases get r g' hr with⟨k1,g,k2,k3⟩|⟨k1,k2⟩
  ·obtain⟨o2,B0,b1,_,_,_⟩:=lz (ρ:=ρ) (M:=M) (w0:=w0) (w:=w) (gs:=an.rg) k2 k1 hh;rw[b8 k1]at hv ⊢;exact h.rs.lt _ g π o2 B0 (k3 π o B hh) b1 hv
  ·rw[kz k1]at hv;cases hv
 ·rcases get r g' hr with⟨k1,g,k2,k3⟩|⟨k1,k2⟩
  ·obtain⟨o2,B0,b1,b2,_,b4⟩:=lz (ρ:=ρ) (M:=M) (w0:=w0) (w:=w) (gs:=an.rg) k2 k1 hh;obtain rfl:=b2 rfl;rw[b8 k1]at hv ⊢;exact b4 (h.rs.own _ g π B0 (k3 π true B hh) b1 hv)
  ·rw[kz k1]at hv;cases hv
 ·rcases get r1 g1 e1 with⟨p1,g10,p2,p3⟩|⟨p1,p2⟩
  ·rcases get r2 g2 e2 with⟨q1,g20,q2,q3⟩|⟨q1,q2⟩
   ·obtain⟨oa,Ba,a1,a2,_,_⟩:=lz (ρ:=ρ) (M:=M) (w0:=w0) (w:=w) (gs:=an.rg) p2 p1 k1;obtain⟨ob,Bb,b1,_,_,_⟩:=lz (ρ:=ρ) (M:=M) (w0:=w0) (w:=w) (gs:=an.rg) q2 q1 k2;obtain rfl:=a2 rfl;rw[b8 p1]at v1 ⊢;rw[b8 q1]at v2 ⊢;refine h.rs.dj _ _ g10 g20 aCa jr ob Ba Bb (p3 _ _ _ k1) (q3 _ _ _ k2) a1 b1 v1 v2 ?_;rintro⟨x1,x2⟩;by_cases Hu:r1=r2
    ·exact hne ⟨Hu,x2⟩
    ·exact hinj r1 r2 (fh (st:=an) e1) (fh (st:=an) e2) Hu p1 q1 x1
   ·rw[kz q1]at v2;cases v2
  ·rw[kz p1]at v1;cases v1
end
end Go.Sy
end
section
namespace Go.Sy
open Go Go.RowKit
universe u
/-! ### The old world grows -/
structure kQ (M:Nat->Prop) (w0:World) (M':Nat->Prop) (cu:World):Prop where
 fr:Frame M w0 cu
 sub:∀ k,M' k->M k\/w0.heap.size<=k
theorem kQ.refl (M:Nat->Prop) (w0:World):kQ M w0 M w0:=⟨Frame.refl M w0,fun _ h=> .inl h⟩
theorem kQ.frame {M M':Nat->Prop} {w0 cu w:World} (h:kQ M w0 M' cu) (hf:Frame M' cu w):Frame M w0 w:=
 ⟨hf.os.trans h.fr.os,hf.tape.trans h.fr.tape,hf.output.trans h.fr.output,Nat.le_trans h.fr.size hf.size,fun k hk hm=>
   (hf.block k (Nat.lt_of_lt_of_le hk h.fr.size) (fun hm'=>by rcases h.sub k hm' with h1|h1;exact hm h1;omega)).trans (h.fr.block k hk hm)⟩
theorem kQ.trans {M M' M2:Nat->Prop} {w0 cu yA:World} (h:kQ M w0 M' cu) (k:kQ M' cu M2 yA):kQ M w0 M2 yA:=
 ⟨h.frame k.fr,fun j hj=>by
   rcases k.sub j hj with h1|h1
   ·exact h.sub j h1
   ·exact .inr (Nat.le_trans h.fr.size h1)⟩
def mark (D:Nat):Deferred:={target:=.collected D,args:=#[]}
def qd (M:Nat->Prop) (w0:World) (D:Nat):Prop:=D<w0.heap.size/\¬M D/\w0.heap[D]?=some (.deferred (some []))
theorem kQ.Of {M M':Nat->Prop} {w0 cu:World} (h:kQ M w0 M' cu) {D:Nat} (hs:qd M w0 D):qd M' cu D:=
 ⟨Nat.lt_of_lt_of_le hs.1 h.fr.size,fun hm=>by rcases h.sub D hm with h1|h1;exact hs.2.1 h1;exact absurd h1 (Nat.not_le.2 hs.1),(h.fr.block D hs.1 hs.2.1).trans hs.2.2⟩
theorem qd.now {M:Nat->Prop} {w0 w:World} {D:Nat} (hs:qd M w0 D) (hf:Frame M w0 w):w.heap[D]?=some (.deferred (some [])):=(hf.block D hs.1 hs.2.1).trans hs.2.2
structure iH (M:Nat->Prop) (w0:World) (M':Nat->Prop) (cu:World) (ds ds':List Deferred):Prop where
 ext:kQ M w0 M' cu
 marks:∃ Ds:List Nat,ds'=Ds.map mark++ds/\Ds.Nodup/\∀ D∈Ds,qd M' cu D/\w0.heap.size<=D
theorem iH.refl (M:Nat->Prop) (w0:World) (ds:List Deferred):iH M w0 M w0 ds ds:=⟨kQ.refl M w0,[],rfl,List.nodup_nil,by simp⟩
theorem iH.trans {M M' M2:Nat->Prop} {w0 cu yA:World} {ds ds' xE:List Deferred} (h:iH M w0 M' cu ds ds') (k:iH M' cu M2 yA ds' xE):iH M w0 M2 yA ds xE:=by
 obtain⟨h1,Ds,h2,h3,h4⟩:=h;obtain⟨k1,Es,k2,k3,k4⟩:=k;refine⟨h1.trans k1,Es++Ds,by rw[k2,h2];simp,?_,fun D hD=>?_⟩
 ·rw[List.nodup_append];refine⟨k3,h3,fun a ha b hb e=>?_⟩
  subst e;have:=(k4 a ha).2;have:=(h4 a hb).1.1;omega
 ·rcases List.mem_append.1 hD with hD|hD
  ·exact⟨(k4 D hD).1,Nat.le_trans h1.fr.size (k4 D hD).2⟩
  ·exact⟨k1.Of (h4 D hD).1,(h4 D hD).2⟩
theorem bY.fq {M M':Nat->Prop} {w0 cu w:World} (h:kQ M w0 M' cu) {I:RI} (hm:bY M' cu w I):bY M w0 w I:=
 ⟨by rcases hm.own with h1|h1
     ·exact h.sub _ h1
     ·exact .inr (Nat.le_trans h.fr.size h1),hm.fz⟩
theorem aD0.mine.fq {M M':Nat->Prop} {w0 cu w:World} (h:kQ M w0 M' cu) {I:RI} {B:aD0} (hm:B.mine M' cu w I):B.mine M w0 w I:=by
 cases B with
 |arr A=>exact⟨bY.fq h hm.1,hm.2⟩
 |box=>exact bY.fq h hm
 |map=>exact bY.fq h hm
 |bH=>exact bY.fq h hm
 |it=>exact bY.fq h hm
 |lp=>exact bY.fq h hm
theorem cA.fq {M M':Nat->Prop} {w0 cu w:World} (h:kQ M w0 M' cu) {N:Nat} {ρ:Keys} {rg:List az} (hr:cA M' cu N ρ rg w):cA M w0 N ρ rg w:=
 ⟨hr.blk,hr.lt,fun r g π B h1 h2 hv=>(hr.own r g π B h1 h2 hv).fq h,hr.dj⟩
theorem pQ {w:World} {D:Nat} {x:Option (List Deferred)} (h:w.heap[D]?=some (.deferred x)) (o:Nat):w.cell? ⟨D,o,none⟩=none:=by simp[World.cell?,h]
theorem uY {w:World} {D:Nat} {x:Option (List Deferred)} (h:w.heap[D]?=some (.deferred x)) (o:Nat):w.frozen? ⟨D,o,none⟩=false:=by simp[World.frozen?,h]
theorem cA.N7 {M:Nat->Prop} {w0 w:World} {N:Nat} {ρ:Keys} {rg:List az} (h:cA M w0 N ρ rg w) {D:Nat} {x y:Option (List Deferred)} (hD:w.heap[D]?=some (.deferred x)):cA M w0 N ρ rg (w.putObj D (.deferred y)):=by
 have hlt:D<w.heap.size:=(Array.getElem?_eq_some_iff.1 hD).1;have Q4:(w.putObj D (.deferred y)).heap[D]?=some (.deferred y):=World.putObj_heap_same hlt;have other:∀ b,b≠D->(w.putObj D (.deferred y)).heap[b]?=w.heap[b]?:=fun b hb=>World.putObj_heap_other hb
 refine⟨fun r g π o B h1 h2=>?_,fun r g π o B h1 h2 hv=>?_,fun r g π B h1 h2 hv=>?_,h.dj⟩
 ·by_cases hb:(ρ r π).b=D
  ·have hl:=h.blk r g π o B h1 h2;cases B with
   |box cells=>
    obtain⟨rfl,a1,a2,a3⟩:=hl;refine⟨rfl,a1,a2,fun j z hz=>?_⟩
    obtain⟨v,_,hc⟩:=a3 j z hz;have:=pQ hD ((ρ r []).off+j);rw[<-hb]at this;rw[show(ρ r []).at j=⟨(ρ r []).b,(ρ r []).off+j,none⟩from rfl,this]at hc;cases hc
   |arr A=>
    have hl:A.aA w (ρ r) π:=hl;refine⟨hl.tg,hl.m,hl.aC,hl.len,fun i hi=>?_⟩
    obtain⟨ys,c1,c2⟩:=hl.cell i hi;exfalso;have hpos:0<ys.length:=by rw[bL c1];exact List.length_pos_iff.2 hl.tg
    have:=c2 0 ys[0] (List.getElem?_eq_getElem hpos);rw[show(ρ r π).at (i*(ρ r π).m+0)=⟨(ρ r π).b,(ρ r π).off+(i*(ρ r π).m+0),none⟩from rfl,hb,pQ hD]at this;cases this
   |map k c es=>obtain⟨rfl,a1,aD,a2,_⟩:=hl;rw[hb,hD]at a2;cases a2
   |bH kk tg es=>obtain⟨rfl,a1,aD,a2,_⟩:=hl;rw[hb,hD]at a2;cases a2
   |it m n l=>obtain⟨rfl,a1,_,a2⟩:=hl;rw[hb,hD]at a2;cases a2
   |lp b s L q j=>obtain⟨rfl,a1,_,a2,_⟩:=hl;rw[hb,hD]at a2;cases a2
  ·exact(h.blk r g π o B h1 h2).cX (fun _=>rfl) (Nat.le_refl _) (fun _ _ _=>rfl) (fun _=>other _ hb)
 ·rw[World.putObj_size];exact h.lt r g π o B h1 h2 hv
 ·by_cases hb:(ρ r π).b=D
  ·have hl:=h.own r g π B h1 h2 hv;have fz:∀ j,(w.putObj D (.deferred y)).frozen? ⟨(ρ r π).b,j,none⟩=false:=fun j=>by rw[hb];exact uY Q4 j
   cases B with
   |arr A=>obtain⟨_,_,cur,h5,_⟩:=hl;rw[hb,hD]at h5;cases h5
   |box=>exact⟨bY.own hl,fz⟩
   |map=>exact⟨bY.own hl,fz⟩
   |bH=>exact⟨bY.own hl,fz⟩
   |it=>exact⟨bY.own hl,fz⟩
   |lp=>exact⟨bY.own hl,fz⟩
  ·exact(h.own r g π B h1 h2 hv).cX (other _ hb)
/-! ### Frames,of functions and of rounds -/
def qb (ro:Option Nat):Fence:={Fence.wide with round:=ro}
theorem zT {ro:Option Nat} {n:Nat} {P:Program} {f:FuncId} {args:Array Value} {w:World} {R:Ending->World->Prop} (h:Calls P f args w R):CallsIn (qb ro) n P f args w R:=
 ⟨trivial,(callsIn_wide.2 h:CallsIn Fence.wide n P f args w R).2⟩
theorem LM {ro:Option Nat} {n:Nat} {P:Program} {row:String} {args:Array Value} {w:World} {R:Value->World->Prop} (h:Rows P row args w R):RowsIn (qb ro) n P row args w R:=fun c cs _=>by
 obtain⟨v,w',h1,h2⟩:=h c cs;exact⟨v,w',h1,(stepsIn_wide (P:=P)).2 h2⟩
theorem agU {ro:Option Nat} {n:Nat} {P:Program} {o:Oper} {a:Act} {w:World} {next:Act->World->Prop} {Q:Exit->Act->World->Prop} (hd:∀ c,o.op≠ .defer c) (h:o.wp P a w next Q):o.wpIn (qb ro) n P a w next Q:=by
 refine⟨fun _ _=>trivial,?_⟩
 rw[Oper.semAt_eq _ _ _ hd];unfold Oper.wp at h;cases hx:(execOp a.eval o).run P w with
 |ok nx w'=>
  rw[hx]at h;cases nx with
  |value v=>exact h
  |skip=>exact h
  |«defer» d=>exact h
  |enter f args=>exact⟨fun hh=>(by cases hh),zT h⟩
  |row row args=>exact⟨fun hh=>(by cases hh),LM h⟩
  |_=>exact h.elim
 |halt s w'=>
  rw[hx]at h;cases s with
  |panic v=>exact h
  |_=>exact h.elim
end Go.Sy
end
section
namespace Go.Sy
open Go Go.RowKit
universe u
section
variable {P:Program} {Γ:bn} {E:Env} {cl:Cl} {rd:Rd} {M M':Nat->Prop} {w0 cu:World} {ρ:Keys} {st:St} {vs:Fv} {a:Act} {w:World}
theorem Rel.fq (hx:kQ M w0 M' cu) (hg:∀ b,b<Γ.n->¬M b/\b<w0.heap.size) (h:Rel Γ M' cu ρ st vs a w):Rel Γ M w0 ρ st vs a w:=
 ⟨h.tm,h.fr,h.df,h.rs.fq hx,hx.frame h.bl,h.gl,hg⟩
theorem Rel.DW (h:Rel Γ M w0 ρ st vs a w) {L:Loop} (hs:st.tm.ok st.rg.length ρ L.tmps):
 Rel Γ M w0 (aE ρ st.rg.length (dx w)) (st.push [.lp w.heap.size st.tm L .ready none]) vs a (w.alloc (.loop {L with state:=.ready,pending:=none})):=by
 refine h.grow (agB _) (fun r hr π=>by rw[bB hr]) (h.rs.fresh (agB _) ?_ ?_ ?_ ?_)
 ·rintro π o B ⟨rfl,rfl,rfl⟩;exact⟨rfl,by rw[aF];rfl,hs.mono (Nat.le_add_right _ _) (fun r hr π=>by rw[bB hr]),by rw[aF];simp only[dx,akc],by rw[aF];rfl⟩
 ·rintro π o B ⟨rfl,rfl,rfl⟩ _;exact⟨Nat.le_refl _,by simp[dx]⟩
 ·rintro π B ⟨rfl,_,rfl⟩ _;exact⟨.inr h.bl.size,fun j=>by simp only[dx,World.frozen?,akc]⟩
 ·rintro π aW o o' B B' ⟨rfl,_⟩ ⟨rfl,_⟩ _ _;rfl
theorem Rel.BX (h:Rel Γ M w0 ρ st vs a w) {r l:Nat} {s:Sl} {L:Loop} {q q':LoopState} {j j':Option Code} (hr:st.rg[r]?=some (.lp l s L q j)):
 Rel Γ M w0 ρ (st.aBZ r (.lp l s L q' j')) vs a (w.putObj l (.loop {L with state:=q',pending:=j'})):=by
 have hB:(az.lp l s L q j).has [] true (.lp l s L q j):=⟨rfl,rfl,rfl⟩;obtain⟨_,hv,hs,hh,hl⟩:=h.rs.blk r _ [] true _ hr hB;have:=h.uj (g':=.lp l s L q' j') (obj:=.loop {L with state:=q',pending:=j'}) hr hB hv (h.rs.own r _ [] _ hr hB hv) (fun σ o B hh=>by obtain⟨rfl,rfl,rfl⟩:=hh;exact⟨rfl,rfl,fun w' fS=>⟨rfl,hv,hs,fS,hl⟩,fun _ _ hh=>hh⟩) (fun w' b j fS=>by simp[World.frozen?,fS])
 rw[hl]at this;exact this
theorem Rel.IV (h:Rel Γ M w0 ρ st vs a w) {r l:Nat} {s:Sl} {L:Loop} {q:LoopState} {j:Option Code} (hr:st.rg[r]?=some (.lp l s L q j)) (obj:Loop):
 Rel Γ M w0 ρ (st.aBZ r .dead) vs a (w.putObj l (.loop obj)):=by
 have hB:(az.lp l s L q j).has [] true (.lp l s L q j):=⟨rfl,rfl,rfl⟩;obtain⟨_,hv,hs,hh,hl⟩:=h.rs.blk r _ [] true _ hr hB;have:=h.uj (g':=.dead) (obj:=.loop obj) hr hB hv (h.rs.own r _ [] _ hr hB hv) (fun σ o B hh=>hh.elim) (fun w' b j fS=>by simp[World.frozen?,fS])
 rw[hl]at this;exact this
theorem nV {fn:Func} {R:Ending->World->Prop} {n:Nat} (hR:∀ w':World,Rel Γ M w0 ρ st vs a w'->∃ v,(results fn a.tmps).run P w'= .ok v w'/\R (.returned v) w'):
 ∀ (Ds:List Nat) (w:World),Rel Γ M w0 ρ st vs a w->Ds.Nodup->(∀ D∈Ds,w.heap[D]?=some (.deferred (some []))/\w0.heap.size<=D)->LeavesInM Fence.wide n P fn a.tmps R (Ds.map mark) .returning w
 |[],w,h,_,_=>hR w h
 |D::Ds,w,h,hn,hb=>by
  obtain⟨hD,akf⟩:=hb D List.mem_cons_self;refine⟨by simp,.inl ⟨D,_,rfl,run_takeDeferred hD,?_⟩⟩
  have hlt:D<w.heap.size:=(Array.getElem?_eq_some_iff.1 hD).1;have h':Rel Γ M w0 ρ st vs a (w.putObj D (.deferred none)):=
   ⟨h.tm,h.fr,h.df,h.rs.N7 hD,⟨h.bl.os,h.bl.tape,h.bl.output,by rw[World.putObj_size];exact h.bl.size,fun k hk hm=>(World.putObj_heap_other (by omega)).trans (h.bl.block k hk hm)⟩,
     Γ.st _ _ h.gl fun b hb=>World.putObj_heap_other (by have:=(h.gn b hb).2;omega),h.gn⟩
  refine nV hR Ds _ h' (List.nodup_cons.1 hn).2 fun E hE=>⟨?_,(hb E (List.mem_cons_of_mem _ hE)).2⟩
  rw[World.putObj_heap_other (fun e=>by subst e;exact(List.nodup_cons.1 hn).1 hE)]
  exact(hb E (List.mem_cons_of_mem _ hE)).1
theorem CL (h:Rel Γ M w0 ρ st vs a w) {rn:Option (Nat×Nat)} (aBC:match rn with
  |none=>True
  |some (r0,b0)=>(match st.rg.getD r0 .dead with| .lp b1 _ _ _ _=>b1=b0|_=>False)) (fn:FuncId) (ps:Array Tmp) (kU body:Code):
 ∃ (l:Nat) (mk:List Deferred) (w1:World) (M':Nat->Prop) (cu:World) (D:Nat) (ρ':Keys),(Instr.enterLoop fn a.tmps ps kU body (rn.map (·.2))).run P w= .ok (l,mk) w1/\iH M w0 M' cu vs.ds (mk++vs.ds)/\
  Rel Γ M' cu ρ' (st.push [.lp l st.tm {state:=.ready,pending:=none,fn:=fn,tmps:=a.tmps,params:=ps,assign:=kU,body:=body,defers:=D} .ready none]) ⟨vs.fs,mk++vs.ds⟩ {a with defers:=mk++a.defers} w1/\
  (ρ' st.rg.length []).b=l/\∀ r,r<st.rg.length->ρ' r=ρ r:=by
 cases rn with
 |some rb=>
  obtain⟨r0,b0⟩:=rb;simp only at aBC;split at aBC
  ·rename_i b1 s1 L1 q1 j1 hg;subst aBC;obtain⟨_,_,_,hh,hl⟩:=h.rs.blk r0 _ [] true (.lp b1 s1 L1 q1 j1) (bg hg (by simp)) ⟨rfl,rfl,rfl⟩
   rw[hl]at hh;refine⟨w.heap.size,[],_,M,w0,L1.defers,aE ρ st.rg.length (dx w),?_,iH.refl _ _ _,h.DW (L:={state:=.ready,pending:=none,fn:=fn,tmps:=a.tmps,params:=ps,assign:=kU,body:=body,defers:=L1.defers}) h.tm,by rw[aF];rfl,fun r hr=>bB hr⟩
   unfold Instr.enterLoop;simp only[Option.map_some,Sem.run_bind,run_getLoop hh,run_newObj_alloc,Result.andThen,Sem.run_pure]
  ·exact aBC.elim
 |none=>
  have fU:Below w.heap.size w (w.alloc (.deferred (some []))):=agB _;have hnew:(w.alloc (.deferred (some []))).heap[w.heap.size]?=some (.deferred (some [])):=akc _;let M1:Nat->Prop:=fun b=>(M b/\b<w0.heap.size)\/(w0.heap.size<=b/\b<w.heap.size)
  have tK:kQ M w0 M1 (w.alloc (.deferred (some []))):=⟨h.bl.below fU,fun k hk=>by
   rcases hk with hk|hk
   ·exact .inl hk.1
   ·exact .inr hk.1⟩
  have hsz:=h.bl.size;have h1:Rel Γ M1 (w.alloc (.deferred (some []))) ρ st ⟨vs.fs,[mark w.heap.size]++vs.ds⟩ {a with defers:=[mark w.heap.size]++a.defers} (w.alloc (.deferred (some []))):=by
   have hl:=h.cX fU;refine⟨h.tm,h.fr,by rw[h.df],⟨hl.rs.blk,hl.rs.lt,fun r g π B k1 k2 hv=>?_,hl.rs.dj⟩,Frame.refl _ _,hl.gl,fun b hb=>?_⟩
   ·have hm:=hl.rs.own r g π B k1 k2 hv;have hlt:=h.rs.lt r g π true B k1 k2 hv;have conv:∀ {I:RI},I.b<w.heap.size->bY M w0 (w.alloc (.deferred (some []))) I->bY M1 (w.alloc (.deferred (some []))) (w.alloc (.deferred (some []))) I:=fun{I} hI hm=>⟨by
     rcases hm.own with h3|h3
     ·by_cases h4:I.b<w0.heap.size
      ·exact .inl (.inl ⟨h3,h4⟩)
      ·exact .inl (.inr ⟨by omega,hI⟩)
     ·exact .inl (.inr ⟨h3,hI⟩),hm.fz⟩
    cases B with
    |arr A=>exact⟨conv hlt hm.1,hm.2⟩
    |box=>exact conv hlt hm
    |map=>exact conv hlt hm
    |bH=>exact conv hlt hm
    |it=>exact conv hlt hm
    |lp=>exact conv hlt hm
   ·have:=h.gn b hb;refine⟨fun hm=>?_,Nat.lt_of_lt_of_le this.2 (Nat.le_trans hsz (by simp))⟩
    rcases hm with hm|hm
    ·exact this.1 hm.1
    ·omega
  refine⟨w.heap.size+1,[mark w.heap.size],_,M1,_,w.heap.size,aE ρ st.rg.length (dx (w.alloc (.deferred (some [])))),run_enterLoop_outer _ _ _ _ _,⟨tK,[w.heap.size],rfl,by simp,fun D hD=>?_⟩,?_,by rw[aF];simp[dx],fun r hr=>bB hr⟩
  ·obtain rfl:D=w.heap.size:=by simpa using hD
   exact⟨⟨by simp,fun hm=>by rcases hm with hm|hm<;>omega,hnew⟩,hsz⟩
  ·have:=h1.DW (L:={state:=.ready,pending:=none,fn:=fn,tmps:=a.tmps,params:=ps,assign:=kU,body:=body,defers:=w.heap.size}) h.tm;rw[World.size_alloc]at this;exact this
end
end Go.Sy
end
