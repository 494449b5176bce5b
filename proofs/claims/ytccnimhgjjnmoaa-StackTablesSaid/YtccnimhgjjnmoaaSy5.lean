/-
  Texts of the claims: Sy5. No condition: lemmas and contracts.
-/
import Derived.Test.YtccnimhgjjnmoaaSy4
import Derived.Sort.Grow
set_option linter.all false
set_option maxRecDepth 100000
set_option maxHeartbeats 40000000
section
namespace Go.Sy
open Go Go.RowKit
universe u
inductive Tb (α:Type) where
 |nil
 |node (x:Option α) (l r:Tb α)
def Tb.get {α:Type}:Tb α->Nat->Option α
 | .nil,_=>none
 | .node x l r,i=>match Nat.beq i 0 with
   |true=>x
   |false=>(match Nat.beq (i%2) 1 with|true=>l.get (i / 2)|false=>r.get (i / 2-1))
def Tb.all {α:Type} (f:Nat->α->Bool):Tb α->(Nat->Nat)->Bool
 | .nil,_=>true
 | .node x l r,g=>
   (match x with|some a=>f (g 0) a|none=>true)&&(l.all f (fun i=>g (2*i+1))&&r.all f (fun i=>g (2*i+2)))
theorem Tb.aAV {α:Type} {f:Nat->α->Bool}:∀ {t:Tb α} {g:Nat->Nat},t.all f g=true->∀ i a,t.get i=some a->f (g i) a=true
 | .nil,_,_,_,_,h=>by cases h
 | .node x l r,g,hall,i,a,h=>by
   simp only[Tb.all,Bool.and_eq_true]at hall;unfold Tb.get at h;split at h
   ·rename_i h0;obtain rfl:=Nat.eq_of_beq_eq_true h0;have:=hall.1;rw[h]at this;exact this
   ·rename_i h0;have hi:i≠0:=fun e=>by subst e;simp at h0
    split at h
    ·rename_i ho;have ho:=Nat.eq_of_beq_eq_true ho;have:=Tb.aAV hall.2.1 _ _ h;rwa[show 2*(i / 2)+1=i by omega]at this
    ·rename_i ho;have ho:i%2≠1:=fun e=>by rw[e]at ho;simp at ho
     have:=Tb.aAV hall.2.2 _ _ h;rwa[show 2*(i / 2-1)+2=i by omega]at this
/-! ### Types -/
def iY (P:Program) (t n:Nat):Bool:=match P.info? t with|some i=>Nat.beq i.size n|none=>false
theorem aas {P:Program} {t n:Nat} (h:iY P t n=true):(P.info? t).map (·.size)=some n:=by
 unfold iY at h;split at h
 ·rename_i i hi;rw[hi];exact congrArg some (Nat.eq_of_beq_eq_true h)
 ·cases h
def vE:List (Nat×Nat)->List (Nat×Nat)->Bool
 |[],[]=>true
 |(a,b)::l,(c,d)::m=>Nat.beq a c&&Nat.beq b d&&vE l m
 |_,_=>false
theorem tf:∀ {l m:List (Nat×Nat)},vE l m=true->l=m
 |[],[],_=>rfl
 |[],_::_,h=>by cases h
 |_::_,[],h=>by cases h
 |(a,b)::l,(c,d)::m,h=>by
  simp only[vE,Bool.and_eq_true]at h;rw[Nat.eq_of_beq_eq_true h.1.1,Nat.eq_of_beq_eq_true h.1.2,tf h.2]
def tw (P:Program) (t:Nat):Ty->Bool
 | .int k=>(match P.underlying t with|some (.int k')=>sameKind k' k|_=>false)&&iY P t 1
 | .bool=>(match P.underlying t with|some .bool=>true|_=>false)&&iY P t 1
 | .str=>(match P.underlying t with|some .string=>true|_=>false)&&iY P t 1
 | .st fs n=>(match uc P t with|some l=>vE l fs|_=>false)&&iY P t n
 | .sl e m=>(match P.underlying t with|some (.slice e')=>Nat.beq e' e|_=>false)&&(iY P e m&&iY P t 1)
 | .ar e m n=>(match P.underlying t with|some (.array n' e')=>Nat.beq n' n&&Nat.beq e' e|_=>false)&&(iY P e m&&iY P t (n*m))
 | .map k e=>(match P.underlying t with|some (.map k' e')=>Nat.beq k' k&&Nat.beq e' e|_=>false)&&iY P t 1
 | .word=>(match P.underlying t with|some d=>lD d|_=>false)&&iY P t 1
 | .other=>true
theorem JM {P:Program} {t:Nat} {y:Ty} (h:tw P t y=true):qf P t y:=by
 cases y with
 |other=>trivial
 |int k=>
  simp only[tw,Bool.and_eq_true]at h;refine⟨?_,aas h.2⟩;have:=h.1;split at this
  ·rename_i hu;rw[hu,akr this]
  ·cases this
 |bool=>
  simp only[tw,Bool.and_eq_true]at h;refine⟨?_,aas h.2⟩;have:=h.1;split at this
  ·rename_i hu;exact hu
  ·cases this
 |str=>
  simp only[tw,Bool.and_eq_true]at h;refine⟨?_,aas h.2⟩;have:=h.1;split at this
  ·rename_i hu;exact hu
  ·cases this
 |st fs n=>
  simp only[tw,Bool.and_eq_true]at h;refine⟨yW ?_,aas h.2⟩;have:=h.1;split at this
  ·rename_i hu;rw[hu,tf this]
  ·cases this
 |sl e m=>
  simp only[tw,Bool.and_eq_true]at h;refine⟨?_,aas h.2.1,aas h.2.2⟩;have:=h.1;split at this
  ·rename_i hu;rw[hu,Nat.eq_of_beq_eq_true this]
  ·cases this
 |ar e m n=>
  simp only[tw,Bool.and_eq_true]at h;refine⟨?_,aas h.2.1,aas h.2.2⟩;have:=h.1;split at this
  ·rename_i hu;simp only[Bool.and_eq_true]at this;rw[hu,Nat.eq_of_beq_eq_true this.1,Nat.eq_of_beq_eq_true this.2]
  ·cases this
 |map k e=>
  simp only[tw,Bool.and_eq_true]at h;refine⟨?_,aas h.2⟩;have:=h.1;split at this
  ·rename_i hu;simp only[Bool.and_eq_true]at this;rw[hu,Nat.eq_of_beq_eq_true this.1,Nat.eq_of_beq_eq_true this.2]
  ·cases this
 |word=>
  simp only[tw,Bool.and_eq_true]at h;refine⟨?_,aas h.2⟩;have:=h.1;split at this
  ·rename_i d hu;exact⟨d,hu,this⟩
  ·cases this
/-! ### Zero values -/
def zB:At->Value->Bool
 | .v (.int k n),.int k' n'=>sameKind k k'&&n==n'
 | .ff,.bool b=>!b
 | .v (.string s),.string s'=>s.data.toList==s'.data.toList
 | .v (.slice none 0 0),.slice none 0 0=>true
 | .v (.map none),.map none=>true
 | .v .nilIface,.nilIface=>true
 | .v (.pointer none),.pointer none=>true
 | .v .nilFunc,.nilFunc=>true
 |_,_=>false
theorem L9 {x:At} {v:Value} (h:zB x v=true):x.one=true/\∀ N ρ,x.ok N ρ v:=by
 unfold zB at h;split at h<;>first|(cases h;done)|skip
 ·simp only[Bool.and_eq_true,beq_iff_eq]at h;obtain⟨h1,rfl⟩:=h;obtain rfl:=akr h1;exact⟨rfl,fun _ _=>⟨rfl,rfl⟩⟩
 ·rename_i b;cases b with
  |true=>cases h
  |false=>exact⟨rfl,fun _ _=>rfl⟩
 ·rename_i s s';have e:s=s':=by
   have h:=beq_iff_eq.1 h;cases s;cases s'
   congr 1
   exact Array.ext' h
  subst e;exact⟨rfl,fun _ _=>⟨rfl,rfl⟩⟩
 all_goals exact⟨rfl,fun _ _=>⟨rfl,rfl⟩⟩
def KM:List At->List Value->Bool
 |[],[]=>true
 |x::l,v::m=>zB x v&&KM l m
 |_,_=>false
theorem Cj:∀ {l:List At} {m:List Value},KM l m=true->bZ At.one l=true/\∀ N ρ,be (At.ok N ρ) l m
 |[],[],_=>⟨rfl,fun _ _=>trivial⟩
 |[],_::_,h=>by cases h
 |_::_,[],h=>by cases h
 |x::l,v::m,h=>by
  simp only[KM,Bool.and_eq_true]at h;obtain⟨h1,h2⟩:=L9 h.1;obtain⟨h3,h4⟩:=Cj h.2;refine⟨?_,fun N ρ=>⟨h2 N ρ,h4 N ρ⟩⟩
  simp only[bZ,h1];exact h3
def aB9 (P:Program) (t:Nat) (l:List At):Bool:=match P.info? t with|some i=>(match i.zero with|some z=>KM l z.cells.toList|none=>false)|none=>false
/-! ### Arrays' elements,map's values -/
def vB:Value->Value->Bool
 | .int k n,.int k' n'=>sameKind k k'&&n==n'
 | .bool a,.bool b=>a==b
 | .string s,.string s'=>s.data.toList==s'.data.toList
 | .slice none 0 0,.slice none 0 0=>true
 |_,_=>false
theorem Ef {x v:Value} (h:vB x v=true):x=v:=by
 unfold vB at h;split at h<;>first|(cases h;done)|skip
 ·simp only[Bool.and_eq_true,beq_iff_eq]at h;obtain⟨h1,rfl⟩:=h;rw[akr h1]
 ·rw[beq_iff_eq.1 h]
 ·rename_i s s';have h:=beq_iff_eq.1 h;cases s;cases s'
  congr 2
  exact Array.ext' h
 ·rfl
def KI:List Value->List Value->Bool
 |[],[]=>true
 |x::l,v::m=>vB x v&&KI l m
 |_,_=>false
theorem B5:∀ {l m:List Value},KI l m=true->l=m
 |[],[],_=>rfl
 |[],_::_,h=>by cases h
 |_::_,[],h=>by cases h
 |x::l,v::m,h=>by
  simp only[KI,Bool.and_eq_true]at h;rw[Ef h.1,B5 h.2]
def NP (P:Program) (t:Nat) (tg:List CK):Bool:=
 (match tg with|[]=>false|_=>true)&&(bZ CK.ne tg&&(match P.info? t with
   |some i=>Nat.beq i.size tg.length&&(Nat.ble i.bytes (32*tg.length)&&(match i.zero with|some z=>KI z.cells.toList (ai.zero tg)|none=>false))
   |none=>false))
def P7 (P:Program) (t:Nat) (c:CK):Bool:=match P.info? t with|some i=>(match i.zero with|some z=>vB z (c.val c.d)|none=>false)|none=>false
def zj:List Nat->List Nat->Bool
 |[],[]=>true
 |a::l,b::m=>Nat.beq a b&&zj l m
 |_,_=>false
theorem vA:∀ {l m:List Nat},zj l m=true->l=m
 |[],[],_=>rfl
 |[],_::_,h=>by cases h
 |_::_,[],h=>by cases h
 |a::l,b::m,h=>by
  simp only[zj,Bool.and_eq_true]at h;rw[Nat.eq_of_beq_eq_true h.1,vA h.2]
def MA (P:Program) (t:Nat) (ks:List Nat):Bool:=
 (match dB P 8 t with|some l=>zj l ks|none=>false)&&((match eO P t with|none=>true|some _=>false)&&!(P.eqGuardType P.depth t))
def NV (P:Program) (t:Nat) (l:List Bool):Bool:=
 match P.underlying t with
 |some (.struct fields)=>l.length<=fields.size&&(List.range l.length).all fun f=>!(l.getD f false)||(match fields[f]? with|some fd=>(match P.underlying fd.type with|some (.struct _)=>false|some (.array _ _)=>false|some _=>true|none=>false)|none=>false)
 |_=>false
theorem Jk {P:Program} {t:Nat} {l:List Bool} (h:NV P t l=true) {f:Nat} (hf:l.getD f false=true) {fields:Array Field} {fd:Field} (hu:P.underlying t=some (.struct fields)) (Nj:fields[f]?=some fd) (w:World):(isAgg fd.type).run P w= .ok false w:=by
 unfold NV at h;rw[hu]at h;simp only[Bool.and_eq_true,List.all_eq_true,List.mem_range]at h;have hlt:f<l.length:=by
  rcases Nat.lt_or_ge f l.length with hl|hl
  ·exact hl
  ·rw[List.getD_eq_getElem?_getD,List.getElem?_eq_none hl]at hf;cases hf
 have:=h.2 f hlt;rw[hf,Nj]at this;simp only[Bool.not_true,Bool.false_or]at this;split at this
 ·cases this
 ·cases this
 ·rename_i d h1 h2 hd;unfold isAgg;simp only[Sem.run_bind,run_underlying hd,Result.andThen_ok];cases d<;>first|rfl|exact absurd hd (h1 _)|exact absurd hd (h2 _ _)
 ·cases this
structure wc where
 ty:Tb Ty
 zero:Tb (List At)
 kd:Tb (List CK)
 sc:Tb CK
 alp:Tb (List Nat)
 lf:Tb (List Bool)
structure F2 (P:Program) (T:wc):Prop where
 ty:T.ty.all (tw P) id=true
 zero:T.zero.all (aB9 P) id=true
 kd:T.kd.all (NP P) id=true
 sc:T.sc.all (P7 P) id=true
 alp:T.alp.all (MA P) id=true
 lf:T.lf.all (NV P) id=true
def wc.env (T:wc) (l:List (Nat×au)) (bs:List (Nat×Body)) (aN:Bool) (un:Nat):Env:=
 {ty:=fun t=>match T.ty.get t with|some y=>y|none=> .other,zero:=T.zero.get,alp:=T.alp.get,sc:=T.sc.get,kd:=T.kd.get,lf:=fun t f=>(match T.lf.get t with|some l=>l.getD f false|none=>false),ct:=look l,inl:=look bs,exact:=!aN,aN,un}
theorem wc.OX {P:Program} {Γ:bn} {T:wc} (hT:F2 P T) {l:List (Nat×au)} (hl:aR P Γ l) (bs:List (Nat×Body)) (aN:Bool) (un:Nat):bE P Γ (T.env l bs aN un) where
 aht:=fun t h=>by cases h
 ty:=fun t=>by
  show qf P t (match T.ty.get t with|some y=>y|none=> .other)
  split
  ·rename_i y hy;exact JM (Tb.aAV hT.ty t y hy)
  ·trivial
 zero:=fun t l h=>by
  have:=Tb.aAV hT.zero t l h;unfold aB9 at this;split at this
  ·rename_i i hi;split at this
   ·rename_i z hz;obtain⟨h1,h2⟩:=Cj this;exact⟨h1,i,z,hi,hz,h2⟩
   ·cases this
  ·cases this
 alp:=fun t ks h=>by
  have:=Tb.aAV hT.alp t ks h;simp only[MA,Bool.and_eq_true]at this;obtain⟨h1,h2,h3⟩:=this;refine⟨?_,?_,by simpa using h3⟩
  ·split at h1
   ·rename_i hl;rw[show dB P 8 t=_ from hl,vA h1]
   ·cases h1
  ·split at h2
   ·assumption
   ·cases h2
 kd:=fun t tg h=>by
  have:=Tb.aAV hT.kd t tg h;simp only[NP,Bool.and_eq_true]at this;obtain⟨h1,h2,h3⟩:=this;refine⟨(fun e=>by subst e;cases h1),?_⟩
  split at h3
  ·rename_i i hi;simp only[Bool.and_eq_true]at h3;obtain⟨h4,h5,h6⟩:=h3;split at h6
   ·rename_i z hz;exact⟨i,z,hi,Nat.eq_of_beq_eq_true h4,hz,B5 h6,Nat.le_of_ble_eq_true h5⟩
   ·cases h6
  ·cases h3
 kn:=fun t tg h=>by
  have:=Tb.aAV hT.kd t tg h;simp only[NP,Bool.and_eq_true]at this;exact this.2.1
 sc:=fun t c h=>by
  have:=Tb.aAV hT.sc t c h;unfold P7 at this;split at this
  ·rename_i i hi;split at this
   ·rename_i z hz;exact⟨i,hi,by rw[hz,Ef this]⟩
   ·cases this
  ·cases this
 lf:=fun t f h fields fd hu Nj w=>by
  have h:(match T.lf.get t with|some l=>l.getD f false|none=>false)=true:=h
  split at h
  ·rename_i l hl';exact Jk (Tb.aAV hT.lf t l hl') h hu Nj w
  ·cases h
 ct:=fun f c h=>(hl.h f c h).2
end Go.Sy
end
section
namespace Go.Sy
open Go Go.RowKit
universe u
section
variable {P:Program} {Γ:bn} {E:Env} {M:Nat->Prop} {w0:World} {ρ:Keys} {w:World}
theorem I4 {te:TypeId} {tg:List CK} {xs:List (ai tg)} {o i:Bool} {π:Path} {f:Bool} {B:aD0} (hf:aaa tg=true) (hh:(az.arr te tg xs o i).has π f B):π=[]/\f=o/\B= .arr ⟨te,tg,xs⟩:=by
 obtain⟨A,rfl,hA,e⟩:=Ar.gQ hh;obtain⟨rfl,rfl⟩:=fT hf hA;exact⟨rfl,e,rfl⟩
theorem adq {te:TypeId} {tg:List CK} {xs:List (ai tg)} {o i:Bool}:(az.arr te tg xs o i).has [] o (.arr ⟨te,tg,xs⟩):=⟨rfl,_,rfl,rfl⟩
end
end Go.Sy
end
section
namespace Go.Sy
open Go Go.RowKit
universe u
section
variable {P:Program} {Γ:bn} {E:Env} {M:Nat->Prop} {w0:World} {ρ ρ':Keys} {st:St} {vs:Fv} {a:Act} {w:World}
def At.vd (r:Nat):At->At
 | .v (.slice none 0 0)=> .sl r [] 0 0
 | .z=> .sl r [] 0 0
 |x=>x
inductive bu (K:cM->Prop):Tm->St->Prop
 |base {x st} (h:N9 K x st):bu K x st
 |aC {x st} (e:TypeId) (tg:List CK) (ci:tg≠[]) (h:bu K (x.mapA (At.vd st.rg.length)) (st.push [.arr e tg [] true true])):bu K x st
theorem At.FE {N r:Nat} {x:At} {y:Value} (hr:r<N) (hv:(ρ r []).aC=true) (h:x.ok N ρ y):(x.vd r).ok N ρ y:=by
 unfold At.vd;split
 ·obtain⟨rfl,_⟩:=h;exact⟨hr,fun _=>⟨rfl,_,rfl⟩,fun h=>by rw[hv]at h;cases h⟩
 ·obtain⟨a,rfl⟩:=h;exact⟨hr,fun _=>⟨rfl,_,rfl⟩,fun h=>by rw[hv]at h;cases h⟩
 ·exact h
theorem Bu {N r:Nat} (hr:r<N) (hv:(ρ r []).aC=true):∀ {l:List At} {ys:List Value},be (At.ok N ρ) l ys->be (At.ok N ρ) (l.map (At.vd r)) ys
 |[],[],_=>trivial
 |[],_::_,h=>h.elim
 |_::_,[],h=>h.elim
 |_::_,_::_,h=>⟨At.FE hr hv h.1,Bu hr hv h.2⟩
theorem OS {N r:Nat} {x:C1} {y:Value} (hr:r<N) (hv:(ρ r []).aC=true) (h:x.ok N ρ y):(x.mapA (At.vd r)).ok N ρ y:=by
 cases x with
 |a x=>exact At.FE hr hv h
 |agg l=>obtain⟨ys,rfl,h⟩:=h;exact⟨ys,rfl,Bu hr hv h⟩
theorem HO {N r:Nat} (hr:r<N) (hv:(ρ r []).aC=true):∀ {l:List C1} {ys:List Value},be (C1.ok N ρ) l ys->be (C1.ok N ρ) (l.map (C1.mapA (At.vd r))) ys
 |[],[],_=>trivial
 |[],_::_,h=>h.elim
 |_::_,[],h=>h.elim
 |_::_,_::_,h=>⟨OS hr hv h.1,HO hr hv h.2⟩
theorem Po {N r:Nat} {x:Tm} {y:Value} (hr:r<N) (hv:(ρ r []).aC=true) (h:x.ok N ρ y):(x.mapA (At.vd r)).ok N ρ y:=by
 cases x with
 |a x=>exact At.FE hr hv h
 |agg l=>obtain⟨ys,rfl,h⟩:=h;exact⟨ys,rfl,Bu hr hv h⟩
 |bF l=>obtain⟨ys,rfl,h⟩:=h;exact⟨ys,rfl,HO hr hv h⟩
theorem LK {K:cM->Prop} {x:Tm} {st:St} (hk:bu K x st):∀ {ρ:Keys} {y:Value},Rel Γ M w0 ρ st vs a w->x.ok st.rg.length ρ y->∃ x' an ρ',Rel Γ M w0 ρ' an vs a w/\x'.ok an.rg.length ρ' y/\N9 K x' an:=by
 induction hk with
 |base h=>exact fun hr hx=>⟨_,_,_,hr,hx,h⟩
 |@aC x st e tg ci h ih=>
  intro ρ y hr hx;have hv:=hr.Eg e ci;refine ih hv ?_;have hx':=hx.mono (N':=(st.push [.arr e tg [] true true]).rg.length) (ρ':=aE ρ st.rg.length fun _=>{iC with m:=tg.length}) (by simp[St.push]) (fun r hr π=>by rw[bB hr])
  exact Po (by simp[St.push]) (by rw[aF];rfl) hx'
theorem au.fM (hP:aL P Γ E) {f:FuncId} {b:Body} (hf:bQ P f b) {d:Nat} {C:List Tm->List az->(cM->Prop)->Prop}
 (H:∀ args rg K,C args rg K->∃ is args' cE,qc args rg is args' cE/\∃ Kx,cQ E d b args' cE Kx/\∀ x st,Kx x st->bu K x st):au.Ok P Γ f (.new C):=by
 intro args rg K hC M w0 ρ w us hl qR nv hargs s8;obtain⟨is,args',cE,hp,Kx,aag,Re⟩:=H args rg K hC;refine(yy hP hf aag (fun b hb=>Nat.lt_of_lt_of_le (qR b hb).2 hl) nv (pI hp.args hargs) (s8.HR hp)).mono ?_
 rintro e w' ⟨v,an,ρ',x,a',_,rfl,hr',hx,DE,hb⟩;obtain⟨x,an,ρ',hr',hx,⟨res,js,hK,Nx,hlt,heq⟩⟩:=LK (Re _ _ DE) hr' hx;have eN:=aap Nx;let aCb:Keys:=fun r=>if r<rg.length then ρ r else ρ' (js.getD (r-rg.length) 0)
 have e1:∀ r,r<rg.length->aCb r=ρ r:=fun r hr=>by simp[aCb,hr]
 have e2:∀ r,aCb (rg.length+r)=ρ' (js.getD r 0):=fun r=>by
  show(if rg.length+r<rg.length then _ else _)=_
  rw[if_neg (by omega),Nat.add_sub_cancel_left]
 have hv:(res.tm.oF (fun r=>rg.length+r)).ok (rg.length+res.rg.length) aCb v:=
  Tm.lE res.rg.length (f:=fun r=>js.getD r 0) (ρ:=ρ') (N:=an.rg.length) (fun r hr=>by omega) (fun r _=>e2 r) hlt (xI heq hx)
 refine⟨v,res,aCb,rfl,hK,hb,fun r hr π=>by rw[e1 r hr],hv,?_⟩
 have hold:=s8.cX hb.size hb.block;have key:∀ (r:Nat) (g:az),(rg++res.rg)[r]?=some g->(r<rg.length/\rg[r]?=some g/\aCb r=ρ r)\/(∃ s i,r=rg.length+s/\res.rg[s]?=some g/\js[s]?=some i/\an.rg[i]?=some g/\g.out=true/\aCb r=ρ' i):=by
  intro r g hr;rcases Nat.lt_or_ge r rg.length with hl|hl
  ·rw[List.getElem?_append_left hl]at hr;exact .inl ⟨hl,hr,e1 r hl⟩
  ·rw[List.getElem?_append_right hl]at hr;obtain⟨i,h1,h2,h3⟩:=eN _ g hr;refine .inr ⟨r-rg.length,i,by omega,hr,h1,h2,h3,?_⟩
   rw[show r=rg.length+(r-rg.length) by omega,e2]
   simp[List.getD,h1]
 have fresh:∀ (i:Nat) (g:az),an.rg[i]?=some g->g.out=true->∀ π o B,g.has π o B->(ρ' i π).aC=false->w.heap.size<=(ρ' i π).b:=by
  intro i g hi ho π o B hh dV;obtain rfl:=LA ho hh;have:=hr'.rs.own i g π B hi hh dV;have:False\/w.heap.size<=(ρ' i π).b:=by cases B with|box=>exact this.own|map=>exact this.own|bH=>exact this.own|it=>exact this.own|lp=>exact this.own|arr=>exact this.1.own
  exact this.elim False.elim id
 refine⟨fun r g π o B hr hh=>?_,fun r g π o B hr hh dV=>?_,fun r g π B hr hh dV=>?_,fun r r' g g' π aW o' B B' h1 h2 k1 k2 v1 v2 hne=>?_⟩
 ·rcases key r g hr with⟨hl,hg,he⟩|⟨s,i,rfl,_,_,hg,ho,he⟩
  ·exact(hold.blk r g π o B hg hh).cX (fun π=>by rw[he]) (Nat.le_add_right _ _) (fun r hr π=>by rw[e1 r hr]) (fun _=>rfl)
  ·have hb:=hr'.rs.blk i g π o B hg hh;cases B with
   |arr A=>show Ar.aA w' (aCb (rg.length+s)) π A;rw[he];exact hb
   |map k c es=>
    obtain⟨b1,b2,b3⟩:=hb;exact⟨b1,by rw[he];exact b2,by rw[he];exact b3⟩
   |bH kk tg es=>
    obtain⟨b1,b2,b3⟩:=hb;exact⟨b1,by rw[he];exact b2,by rw[he];exact b3⟩
   |it=>
    cases g with
    |dead=>cases ho
    |iter=>cases ho
    |lp=>cases ho
    |map=>obtain⟨_,_,hB⟩:=hh;cases hB
    |bH=>rcases hh with⟨_,_,hB⟩|⟨_,_,_,_,_,hB⟩<;>cases hB
    |box=>obtain⟨_,_,hB⟩:=hh;cases hB
    |arr=>obtain⟨_,A,_,hA⟩:=hh;cases hA
   |lp=>
    cases g with
    |dead=>cases ho
    |iter=>cases ho
    |lp=>cases ho
    |map=>obtain⟨_,_,hB⟩:=hh;cases hB
    |bH=>rcases hh with⟨_,_,hB⟩|⟨_,_,_,_,_,hB⟩<;>cases hB
    |box=>obtain⟨_,_,hB⟩:=hh;cases hB
    |arr=>obtain⟨_,A,_,hA⟩:=hh;cases hA
   |box l=>
    obtain⟨b1,b2,b3,b4⟩:=hb;refine⟨b1,by rw[he];exact b2,by rw[he];exact b3,fun j x PV=>?_⟩
    obtain⟨y,hy,hc⟩:=b4 j x PV;have aai:bZ At.plain l=true:=by
     cases g with
     |dead=>cases ho
     |map=>obtain⟨_,_,hB⟩:=hh;cases hB
     |bH=>rcases hh with⟨_,_,hB⟩|⟨_,_,_,_,_,hB⟩<;>cases hB
     |iter=>cases ho
     |lp=>cases ho
     |arr=>obtain⟨_,A,_,hA⟩:=hh;cases hA
     |box o1 l1=>
      obtain⟨_,_,hB⟩:=hh;injection hB with hB;subst hB;cases o1 with
      |false=>cases ho
      |true=>exact ho
    exact⟨y,At.fZ (iI aai x (List.mem_of_getElem? PV)) hy,by rw[he];exact hc⟩
 ·rcases key r g hr with⟨hl,hg,he⟩|⟨s,i,rfl,_,_,hg,ho,he⟩
  ·rw[he]at dV ⊢;exact hold.lt r g π o B hg hh dV
  ·rw[he]at dV ⊢;exact hr'.rs.lt i g π o B hg hh dV
 ·rcases key r g hr with⟨hl,hg,he⟩|⟨s,i,rfl,_,_,hg,ho,he⟩
  ·rw[he]at dV ⊢;exact hold.own r g π B hg hh dV
  ·rw[he]at dV ⊢;have hm:=hr'.rs.own i g π B hg hh dV;have hfr:=fresh i g hg ho π true B hh dV;cases B with
   |box l=>exact⟨.inr (Nat.le_trans hl hfr),hm.fz⟩
   |map=>exact⟨.inr (Nat.le_trans hl hfr),hm.fz⟩
   |bH=>exact⟨.inr (Nat.le_trans hl hfr),hm.fz⟩
   |it=>exact⟨.inr (Nat.le_trans hl hfr),hm.fz⟩
   |lp=>exact⟨.inr (Nat.le_trans hl hfr),hm.fz⟩
   |arr A=>exact⟨⟨.inr (Nat.le_trans hl hfr),hm.1.fz⟩,hm.2⟩
 ·rcases key r g h1 with⟨_,hg,he⟩|⟨s,i,q1,_,q2,hg,ho,he⟩<;>rcases key r' g' h2 with⟨_,lh,he'⟩|⟨s',i',RT,_,P4,lh,mJ,he'⟩
  ·rw[he]at v1 ⊢;rw[he']at v2 ⊢;exact s8.dj r r' g g' π aW o' B B' hg lh k1 k2 v1 v2 hne
  ·rw[he]at v1 ⊢;rw[he']at v2 ⊢;have:=s8.lt r g π true B hg k1 v1;have:=fresh i' g' lh mJ aW o' B' k2 v2;omega
  ·rw[he]at v1 ⊢;rw[he']at v2 ⊢;have:=s8.lt r' g' aW o' B' lh k2 v2;have:=fresh i g hg ho π true B k1 v1;omega
  ·rw[he]at v1 ⊢;rw[he']at v2 ⊢;refine hr'.rs.dj i i' g g' π aW o' B B' hg lh k1 k2 v1 v2 fun aBx=>hne ⟨?_,aBx.2⟩
   rw[<-aBx.1]at P4;rw[q1,RT,tk Nx s s' i q2 P4]
def C1.pl:C1->Bool
 | .a (.v _)=>true
 | .a .tt=>true
 | .a .ff=>true
 |_=>false
end
end Go.Sy
end
section
namespace Go.Sy
open Go Go.RowKit Go.Sort
universe u
section
variable {P:Program} {Γ:bn} {M:Nat->Prop} {w0:World} {ρ:Keys} {w:World}
abbrev ade:Int->Value:=Value.int .i64
def agi (B:Nat) (F:List Int->List Int):au:=.rel fun args rg K=>match args with
 |[.a (.sl r [] 0 n)]=>(match rg.getD r .dead with
  | .arr te [.int .i64] xs true i=>Ob (n=List.length (α:=Int) xs/\List.length (α:=Int) xs<=B)/\K [(r,.arr te [.int .i64] (F xs) true i)] ⟨[],.bF []⟩
  |_=>False)
 |_=>False
def afD (B:Nat) (F:List Int->List Int):au:=.rel fun args rg K=>match args with
 |[.a (.sl r [] 0 n)]=>(match rg.getD r .dead with
  | .arr te [.int .i64] xs true i=>Ob (n=List.length (α:=Int) xs/\List.length (α:=Int) xs<=B)/\K [(r,.dead)] ⟨[.arr te [.int .i64] (F xs) true i],.a (.sl 0 [] 0 (List.length (α:=Int) (F xs)))⟩
  |_=>False)
 |_=>False
theorem adk {η:Path->RI} {te:TypeId} {xs:List Int} (h:Ar.aA w η [] ⟨te,[.int .i64],xs⟩):
 (η []).m=1/\∀ k,k<xs.length->w.cell? ((η []).at k)=some (ade (xs.getD k 0)):=by
 have hm:(η []).m=1:=h.m;refine⟨hm,fun k hk=>?_⟩
 obtain⟨ys,h1,h2⟩:=h.cell k hk;obtain⟨y,rfl,hy⟩:=h1;have hy:y=ade (xs.getD k 0):=hy;have:=h2 0 y rfl;rw[hm,Nat.mul_one,Nat.add_zero]at this;rw[this,hy]
theorem aeF {η:Path->RI} {te:TypeId} {xs:List Int} (hm:(η []).m=1) (hv:(η []).aC=false) (hl:xs.length<=(η []).cap) (hc:∀ k,k<xs.length->w.cell? ((η []).at k)=some (ade (xs.getD k 0))):
 Ar.aA w η [] ⟨te,[.int .i64],xs⟩ where
 tg:=by simp
 m:=hm
 aC:=fun h=>by rw[hv]at h;cases h
 len:=fun _=>hl
 cell:=fun k hk=>⟨[ade (xs.getD k 0)],⟨_,rfl,rfl⟩,fun s y hy=>by
  cases s with
  |zero=>
   cases hy;rw[hm,Nat.mul_one,Nat.add_zero];exact hc k hk
  |succ s=>cases hy⟩
theorem ads {I:RI} {xs:List Int} (hf:∀ j,w.frozen? ⟨I.b,j,none⟩=false) (hc:∀ k,k<xs.length->w.cell? (I.at k)=some (ade (xs.getD k 0))):Holds ade w I.b I.off xs.toArray:=by
 intro j hj;have hj:j<xs.length:=by simpa using hj
 refine⟨?_,hf _⟩;have:=hc j hj;unfold RI.at at this;rw[this];simp[hj]
theorem adx {n b off k:Nat} {os:Array Obj} {d:Array Int} (hk:k<w.heap.size) (hne:k≠b):(grow (putRow ade (Sort.ahead w n) b off d) os).heap[k]?=w.heap[k]?:=by
 rw[heap_grow_old _ _ (by simpa using hk)]
 simp[putRow,mapBlock,Sort.ahead,Array.getElem?_modify,hne.symm]
theorem aev {n b off:Nat} {os:Array Obj} {d:Array Int} {cur:Array Value} {e:TypeId} {fr:Nat×Nat} (hb:w.heap[b]?=some (.cells cur e fr)):
 (grow (putRow ade (Sort.ahead w n) b off d) os).heap[b]?=some (.cells (putCells ade off d cur) e fr):=by
 have hg:b<w.heap.size:=(Array.getElem?_eq_some_iff.1 hb).1;rw[heap_grow_old _ _ (by simpa using hg)]
 simp[putRow,mapBlock,Sort.ahead,Array.getElem?_modify,hb,onCells]
theorem cA.ints {rg:List az} (h:cA M w0 rg.length ρ rg w) {r:Nat} {te:TypeId} {xs ys:List Int} {i:Bool} (hr:rg[r]?=some (.arr te [.int .i64] xs true i)) (hv:(ρ r []).aC=false) (hl:ys.length=xs.length) {n:Nat} {os:Array Obj}:
 cA M w0 rg.length ρ (rg.set r (.arr te [.int .i64] ys true i)) (grow (putRow ade (Sort.ahead w n) (ρ r []).b (ρ r []).off ys.toArray) os):=by
 have cZ:aaa [CK.int .i64]=true:=rfl;have has:(az.arr te [.int .i64] xs true i).has [] true (.arr ⟨te,[.int .i64],xs⟩):=adq;have akZ:Ar.aA w (ρ r) [] ⟨te,[.int .i64],xs⟩:=h.blk r _ [] true _ hr has;have aah:bY M w0 w (ρ r [])/\Whole w (ρ r []) te:=h.own r _ [] _ hr has hv;have hlt:=h.lt r _ [] true _ hr has hv;obtain⟨hm,hc⟩:=adk akZ;have hH:=ads aah.1.fz hc;have hlen:xs.length<=(ρ r []).cap:=akZ.len hv;have aeE:∀ (r1:Nat) (g1:az) π o B,rg[r1]?=some g1->g1.has π o B->r1≠r->(ρ r1 π).aC=false->(grow (putRow ade (Sort.ahead w n) (ρ r []).b (ρ r []).off ys.toArray) os).heap[(ρ r1 π).b]?=w.heap[(ρ r1 π).b]?:=fun r1 g1 π o B e1 k1 hne v1=>
  adx (h.lt r1 g1 π o B e1 k1 v1) fun e=>h.dj r r1 _ g1 [] π o _ B hr e1 has k1 hv v1 (fun hh=>hne hh.1.symm) e.symm
 have mT:∀ {r1:Nat} {g1:az} {π o B},(rg.set r (.arr te [.int .i64] ys true i))[r1]?=some g1->g1.has π o B->(r1=r/\π=[]/\B= .arr ⟨te,[.int .i64],ys⟩/\o=true)\/(r1≠r/\rg[r1]?=some g1):=by
  intro r1 g1 π o B e1 k1;rcases cF e1 with⟨rfl,rfl,_⟩|⟨hne,e1⟩
  ·obtain⟨rfl,rfl,rfl⟩:=I4 cZ k1;exact .inl ⟨rfl,rfl,rfl,rfl⟩
  ·exact .inr ⟨hne,e1⟩
 have aec:∀ {r1:Nat} {g1:az} {π o B},(rg.set r (.arr te [.int .i64] ys true i))[r1]?=some g1->g1.has π o B->∃ g2 B2,rg[r1]?=some g2/\g2.has π o B2:=by
  intro r1 g1 π o B e1 k1;rcases mT e1 k1 with⟨rfl,rfl,rfl,rfl⟩|⟨_,e1⟩
  ·exact⟨_,_,hr,has⟩
  ·exact⟨_,_,e1,k1⟩
 refine⟨fun r1 g1 π o B e1 k1=>?_,fun r1 g1 π o B e1 k1 v1=>?_,fun r1 g1 π B e1 k1 v1=>?_,fun r1 r2 g1 g2 π aW o' B B' e1 e2 k1 k2 v1 v2 hne=>?_⟩
 ·rcases mT e1 k1 with⟨rfl,rfl,rfl,rfl⟩|⟨hne,e1⟩
  ·show Ar.aA _ (ρ r1) [] ⟨te,[.int .i64],ys⟩;refine aeF hm hv (by omega) fun k hk=>?_
   rw[cell?_grow _ _ _ (by simpa[RI.at]using hlt)]
   show(putRow ade (Sort.ahead w n) (ρ r1 []).b (ρ r1 []).off ys.toArray).cell? ⟨(ρ r1 []).b,(ρ r1 []).off+k,none⟩=_;rw[cell?_putRow ade (Sort.ahead w n) _ _ xs.toArray ys.toArray (fun j hj=>hH j hj) (by simpa using hl) k (by simpa using hk)]
   simp[hk]
  ·exact(h.blk r1 g1 π o B e1 k1).cX (fun _=>rfl) (Nat.le_refl _) (fun _ _ _=>rfl) (fun v1=>aeE r1 g1 π o B e1 k1 hne v1)
 ·obtain⟨g2,B2,a1,a2⟩:=aec e1 k1;refine Nat.lt_of_lt_of_le (h.lt r1 g2 π o B2 a1 a2 v1) ?_;simp[Sort.ahead]
 ·rcases mT e1 k1 with⟨rfl,rfl,rfl,_⟩|⟨hne,e1⟩
  ·refine⟨⟨aah.1.own,fun s=>?_⟩,aah.2.cap,?_⟩
   ·rw[frozen?_grow _ _ _ (by simpa using hlt),frozen?_putRow]
    exact aah.1.fz s
   ·obtain⟨cur,h1,h2⟩:=aah.2.blk;exact⟨_,aev h1,by simp[putCells,h2]⟩
  ·exact(h.own r1 g1 π B e1 k1 v1).cX (aeE r1 g1 π true B e1 k1 hne v1)
 ·obtain⟨g3,B3,a1,a2⟩:=aec e1 k1;obtain⟨g4,B4,a3,a4⟩:=aec e2 k2;exact h.dj r1 r2 g3 g4 π aW o' B3 B4 a1 a3 a2 a4 v1 v2 hne
theorem adI {rg:List az} {r:Nat} {te:TypeId} {xs ys:List Int} {i:Bool} (hr:rg[r]?=some (.arr te [.int .i64] xs true i)) (hv:(ρ r []).aC=false) {n:Nat} {os:Array Obj}:
 Frame (fun b=>∃ (r:Nat) (g:az) (π:Path) (B:aD0),rg[r]?=some g/\g.has π true B/\(ρ r π).aC=false/\(ρ r π).b=b) w (grow (putRow ade (Sort.ahead w n) (ρ r []).b (ρ r []).off ys.toArray) os) where
 os:=rfl
 tape:=rfl
 output:=rfl
 size:=by simp[Sort.ahead]
 block:=fun k hk hne=>adx hk fun e=>hne ⟨r,_,[],_,hr,adq,hv,e.symm⟩
theorem ad5 {rg:List az} {r:Nat} {g:az} (h:rg.getD r .dead=g) (hd:g≠ .dead):rg[r]?=some g:=by
 rw[List.getD_eq_getElem?_getD]at h;cases hx:rg[r]? with
 |none=>rw[hx]at h;exact absurd h.symm hd
 |some a=>rw[hx]at h;exact congrArg some h
theorem afO {f:FuncId} {B:Nat} {F:List Int->List Int} (hl:∀ xs,(F xs).length=xs.length)
 (h0:∀ p cap w,Calls P f #[.slice p 0 cap] w fun e w'=>e= .returned (.tuple #[])/\w'=w)
 (h1:∀ blk off cap (zs:List Int) w,Holds ade w blk off zs.toArray->blk<w.heap.size->zs.length<=cap->zs.length<=B->
   Calls P f #[.slice (some ⟨blk,off,none⟩) zs.length cap] w fun e w'=>e= .returned (.tuple #[])/\∃ n os,w'=grow (putRow ade (Sort.ahead w n) blk off (F zs).toArray) os):au.Ok P Γ f (agi B F):=by
 intro args rg K hC M w0 ρ w vs hlo qR nv hargs s8;split at hC;rotate_left
 ·exact hC.elim
 rename_i r n;split at hC;rotate_left
 ·exact hC.elim
 rename_i te KJ i hx;obtain⟨xs,hxs⟩:∃ xs:List Int,xs=KJ:=⟨KJ,rfl⟩;subst hxs;obtain⟨⟨rfl,hB⟩,hK⟩:=hC;have hr:=ad5 hx (by simp)
 have has:(az.arr te [.int .i64] xs true i).has [] true (.arr ⟨te,[.int .i64],xs⟩):=adq;have akZ:Ar.aA w (ρ r) [] ⟨te,[.int .i64],xs⟩:=s8.blk r _ [] true _ hr has;obtain⟨v,rfl,hv⟩:∃ v,vs=[v]/\Tm.ok rg.length ρ (.a (.sl r [] 0 (List.length (α:=Int) xs))) v:=by
  cases vs with
  |nil=>exact hargs.elim
  |cons v vs=>cases vs with
   |nil=>exact⟨v,rfl,hargs.1⟩
   |cons=>exact hargs.2.elim
 have hv:r<rg.length/\(ρ r []).head 0 (List.length (α:=Int) xs) v:=hv;cases dV:(ρ r []).aC with
 |true=>
  obtain⟨hz,a,rfl⟩:=hv.2.1 dV;have e:xs=[]:=akZ.aC dV;refine(h0 a 0 w).mono ?_;rintro e' w' ⟨rfl,rfl⟩;refine⟨_,_,_,ρ,rfl,hK,Frame.refl _ _,fun _ _ _=>rfl,fun c hc=>?_,⟨[],rfl,trivial⟩,?_⟩
  ·rw[List.mem_singleton.1 hc];exact hv.1
  ·have e2:F xs=xs:=by
    have:=hl xs;rw[e]at this ⊢;exact List.length_eq_zero_iff.1 this
   simp only[List.foldl_cons,List.foldl_nil,List.append_nil,List.length_nil,Nat.add_zero];rw[e2,show rg.set r (.arr te [.int .i64] xs true i)=rg by
    obtain⟨h2,h3⟩:=List.getElem?_eq_some_iff.1 hr;rw[<-h3];exact List.set_getElem_self h2]
   exact s8
 |false=>
  obtain⟨hcap,a,rfl,ha⟩:=hv.2.2 dV;obtain⟨hm,hc⟩:=adk akZ;have aah:bY M w0 w (ρ r [])/\Whole w (ρ r []) te:=s8.own r _ [] _ hr has dV;have hlt:=s8.lt r _ [] true _ hr has dV;have hH:=ads aah.1.fz hc;have fin:∀ n os,∃ (v:Value) (ch:List (Nat×az)) (res:cM) (ρ':Keys),Ending.returned (.tuple #[])= .returned v/\K ch res/\
   Frame (fun b=>∃ (r:Nat) (g:az) (π:Path) (B:aD0),rg[r]?=some g/\g.has π true B/\(ρ r π).aC=false/\(ρ r π).b=b) w (grow (putRow ade (Sort.ahead w n) (ρ r []).b (ρ r []).off (F xs).toArray) os)/\
   (∀ r,r<rg.length->∀ π,ρ' r π=ρ r π)/\(∀ c∈ch,c.1<rg.length)/\(res.tm.oF (fun r=>rg.length+r)).ok (rg.length+res.rg.length) ρ' v/\
   cA M w0 (rg.length+res.rg.length) ρ' (ch.foldl (fun rg c=>rg.set c.1 c.2) rg++res.rg) (grow (putRow ade (Sort.ahead w n) (ρ r []).b (ρ r []).off (F xs).toArray) os):=fun n os=>by
   refine⟨_,_,_,ρ,rfl,hK,adI hr dV,fun _ _ _=>rfl,fun c hc=>?_,⟨[],rfl,trivial⟩,?_⟩
   ·rw[List.mem_singleton.1 hc];exact hv.1
   ·simp only[List.foldl_cons,List.foldl_nil,List.append_nil,List.length_nil,Nat.add_zero];exact s8.ints hr dV (hl xs)
  by_cases hz:(ρ r []).cap=0
  ·
   have e:xs=[]:=List.length_eq_zero_iff.1 (by have:=akZ.len dV;omega)
   have ez:List.length (α:=Int) xs=0:=by rw[e];rfl
   rw[ez];refine(h0 a _ w).mono ?_;rintro e' w' ⟨rfl,rfl⟩;have:=fin 0 #[];have e2:grow (putRow ade (Sort.ahead w' 0) (ρ r []).b (ρ r []).off (F xs).toArray) #[]=w':=by
    have:F xs=xs:=by
     have:=hl xs;rw[e]at this ⊢;exact List.length_eq_zero_iff.1 this
    rw[grow_empty,this,ahead_zero,putRow_self _ _ _ _ _ hH]
   rw[e2]at this;exact this
  ·have e:a=some ⟨(ρ r []).b,(ρ r []).off,none⟩:=by rw[ha (by omega)];unfold RI.at;rw[Nat.zero_mul,Nat.add_zero]
   rw[e];refine(h1 _ _ _ xs w hH hlt (by have:=akZ.len dV;omega) hB).mono ?_
   rintro e' w' ⟨rfl,n,os,rfl⟩;exact fin n os
theorem cA.afV {rg:List az} (h:cA M w0 rg.length ρ rg w) {r:Nat} {g:az} (hr:rg[r]?=some g) (hb:∀ π o B,g.has π o B->∃ A,B= .arr A):
 cA M w0 (rg.length+1) (aE ρ rg.length (ρ r)) (rg.set r .dead++[g]) w:=by
 have h1:=h.weaken hr (CY (M:=M) (w0:=w0) (w:=w) (N:=rg.length) (ρ:=ρ) (r:=r) (g:=g));have hl:(rg.set r .dead).length=rg.length:=by simp
 have old:∀ (r':Nat) (g':az) π o B,(rg.set r .dead)[r']?=some g'->g'.has π o B->r'≠r/\rg[r']?=some g':=by
  intro r' g' π o B h1 h2;rcases cF h1 with⟨_,rfl,_⟩|h1
  ·exact h2.elim
  ·exact h1
 have e:aE ρ rg.length (ρ r)=aE ρ (rg.set r .dead).length (ρ r):=by rw[hl]
 rw[e];refine h1.snoc (Nat.le_succ _) (by rw[hl];omega) ?_ ?_ ?_ ?_ ?_ ?_
 ·intro π o B hB;have:=h.blk r g π o B hr hB;obtain⟨A,rfl⟩:=hb π o B hB;exact Ar.aA.cX (w:=w) (η:=ρ r) (fun σ=>by rw[aF]) (fun _=>rfl) this
 ·intro π o B hB hv;exact h.lt r g π o B hr hB hv
 ·intro π B hB hv;exact h.own r g π B hr hB hv
 ·intro π B hB hv r' g' aW o' B' k1 k2 v';obtain⟨hne,k1⟩:=old r' g' aW o' B' k1 k2;exact h.dj r r' g g' π aW o' B B' hr k1 hB k2 hv v' (fun e=>hne e.1.symm)
 ·intro π o B hB hv r' g' aW B' k1 k2 v';obtain⟨hne,k1⟩:=old r' g' aW true B' k1 k2;exact h.dj r' r g' g aW π o B' B k1 hr k2 hB v' hv (fun e=>hne e.1)
 ·intro π aW o' B B' k k' v v' hne;exact h.dj r r g g π aW o' B B' hr hr k k' v v' (fun e=>hne e.2)
theorem adX {N r:Nat} {te:TypeId} {xs ys:List Int} {i:Bool}:gI M w0 w N ρ r (.arr te [.int .i64] (xs++ys) true i) (.arr te [.int .i64] xs true i):=by
 intro π o B hB;obtain⟨rfl,rfl,rfl⟩:=I4 (tg:=[.int .i64]) rfl hB;refine⟨true,_,adq,id,fun h=>?_,id⟩
 have h:Ar.aA w (ρ r) [] ⟨te,[.int .i64],xs++ys⟩:=h;show Ar.aA w (ρ r) [] ⟨te,[.int .i64],xs⟩;obtain⟨hm,hc⟩:=adk h;refine⟨by simp,hm,fun hv=>(List.append_eq_nil_iff.1 (h.aC hv)).1,fun hv=>?_,fun k hk=>?_⟩
 ·have:(xs++ys).length<=(ρ r []).cap:=h.len hv;rw[List.length_append]at this;show xs.length<=(ρ r []).cap;omega
 ·have hk:k<xs.length:=hk;have:=hc k (by simp only[List.length_append];omega)
  refine⟨[ade (xs.getD k 0)],⟨_,rfl,rfl⟩,fun s y hy=>?_⟩
  cases s with
  |zero=>
   cases hy;rw[hm,Nat.mul_one,Nat.add_zero,this,List.getD_eq_getElem?_getD,List.getD_eq_getElem?_getD,List.getElem?_append_left hk]
  |succ s=>cases hy
theorem afn {f:FuncId} {B:Nat} {F:List Int->List Int} (hl:∀ xs,(F xs).length<=xs.length)
 (h0:∀ p cap w,Calls P f #[.slice p 0 cap] w fun e w'=>e= .returned (.slice p 0 cap)/\w'=w)
 (h1:∀ blk off cap (zs:List Int) w,Holds ade w blk off zs.toArray->blk<w.heap.size->zs.length<=cap->zs.length<=B->
   Calls P f #[.slice (some ⟨blk,off,none⟩) zs.length cap] w fun e w'=>e= .returned (.slice (some ⟨blk,off,none⟩) (F zs).length cap)/\∃ n,w'=putRow ade (Sort.ahead w n) blk off (F zs++List.replicate (zs.length-(F zs).length) 0).toArray):au.Ok P Γ f (afD B F):=by
 intro args rg K hC M w0 ρ w vs hlo qR nv hargs s8;split at hC;rotate_left
 ·exact hC.elim
 rename_i r n;split at hC;rotate_left
 ·exact hC.elim
 rename_i te KJ i hx;obtain⟨xs,hxs⟩:∃ xs:List Int,xs=KJ:=⟨KJ,rfl⟩;subst hxs;obtain⟨⟨rfl,hB⟩,hK⟩:=hC;have hr:=ad5 hx (by simp)
 have has:(az.arr te [.int .i64] xs true i).has [] true (.arr ⟨te,[.int .i64],xs⟩):=adq;have akZ:Ar.aA w (ρ r) [] ⟨te,[.int .i64],xs⟩:=s8.blk r _ [] true _ hr has;obtain⟨v,rfl,hv⟩:∃ v,vs=[v]/\Tm.ok rg.length ρ (.a (.sl r [] 0 (List.length (α:=Int) xs))) v:=by
  cases vs with
  |nil=>exact hargs.elim
  |cons v vs=>cases vs with
   |nil=>exact⟨v,rfl,hargs.1⟩
   |cons=>exact hargs.2.elim
 have hv:r<rg.length/\(ρ r []).head 0 (List.length (α:=Int) xs) v:=hv;have hprefix:∀ w' (zs:List Int),cA M w0 rg.length ρ (rg.set r (.arr te [.int .i64] (F xs++zs) true i)) w'->cA M w0 (rg.length+1) (aE ρ rg.length (ρ r)) (rg.set r .dead++[.arr te [.int .i64] (F xs) true i]) w':=fun w' zs h=>by
  have hg:(rg.set r (.arr te [.int .i64] (F xs++zs) true i))[r]?=some (.arr te [.int .i64] (F xs++zs) true i):=List.getElem?_set_self hv.1;have h2:=h.weaken hg adX;rw[List.set_set]at h2;have AJ:(rg.set r (.arr te [.int .i64] (F xs) true i))[r]?=some (.arr te [.int .i64] (F xs) true i):=List.getElem?_set_self hv.1;have hlen:(rg.set r (.arr te [.int .i64] (F xs) true i)).length=rg.length:=by simp
  have h3:=cA.afV (rg:=rg.set r (.arr te [.int .i64] (F xs) true i)) (by rw[hlen];exact h2) AJ (fun π o B hB=>by
   obtain⟨rfl,rfl,rfl⟩:=I4 (tg:=[.int .i64]) rfl hB;exact⟨_,rfl⟩)
  rw[List.set_set,hlen]at h3;exact h3
 have ae0:∀ c∈[(r,az.dead)],c.1<rg.length:=fun c hc=>by rw[List.mem_singleton.1 hc];exact hv.1
 cases dV:(ρ r []).aC with
 |true=>
  obtain⟨hz,a,rfl⟩:=hv.2.1 dV;have e:xs=[]:=akZ.aC dV;have e2:F xs=[]:=by
   have:=hl xs;rw[e]at this ⊢;exact List.length_eq_zero_iff.1 (Nat.le_zero.1 this)
  refine(h0 a 0 w).mono ?_;rintro e' w' ⟨rfl,rfl⟩;refine⟨_,_,_,aE ρ rg.length (ρ r),rfl,hK,Frame.refl _ _,fun r1 h1 π=>by rw[bB h1],ae0,?_,?_⟩
  ·show rg.length+0<rg.length+1/\(aE ρ rg.length (ρ r) (rg.length+0) []).head 0 (List.length (α:=Int) (F xs)) _;rw[Nat.add_zero,aF,e2];exact⟨Nat.lt_succ_self _,fun _=>⟨rfl,a,rfl⟩,fun h=>by rw[dV]at h;cases h⟩
  ·refine hprefix w' [] ?_;rw[List.append_nil,e2,<-e];rw[show rg.set r (.arr te [.int .i64] xs true i)=rg by
    obtain⟨h2,h3⟩:=List.getElem?_eq_some_iff.1 hr;rw[<-h3];exact List.set_getElem_self h2]
   exact s8
 |false=>
  obtain⟨hcap,a,rfl,ha⟩:=hv.2.2 dV;obtain⟨hm,hc⟩:=adk akZ;have aah:bY M w0 w (ρ r [])/\Whole w (ρ r []) te:=s8.own r _ [] _ hr has dV;have hlt:=s8.lt r _ [] true _ hr has dV;have hH:=ads aah.1.fz hc;have aaj:=akZ.len dV;have aaj:xs.length<=(ρ r []).cap:=aaj;have Si:=hl xs;by_cases hz:(ρ r []).cap=0
  ·have e:xs=[]:=List.length_eq_zero_iff.1 (by omega)
   have e2:F xs=[]:=List.length_eq_zero_iff.1 (by omega)
   have ez:List.length (α:=Int) xs=0:=by rw[e];rfl
   rw[ez];refine(h0 a _ w).mono ?_;rintro e' w' ⟨rfl,rfl⟩;refine⟨_,_,_,aE ρ rg.length (ρ r),rfl,hK,Frame.refl _ _,fun r1 h1 π=>by rw[bB h1],ae0,?_,?_⟩
   ·show rg.length+0<rg.length+1/\(aE ρ rg.length (ρ r) (rg.length+0) []).head 0 (List.length (α:=Int) (F xs)) _;rw[Nat.add_zero,aF,e2];exact⟨Nat.lt_succ_self _,fun h=>by(rw[dV]at h;cases h),fun _=>⟨by simp,a,rfl,fun h=>by omega⟩⟩
   ·refine hprefix w' [] ?_;rw[List.append_nil,e2,<-e];rw[show rg.set r (.arr te [.int .i64] xs true i)=rg by
     obtain⟨h2,h3⟩:=List.getElem?_eq_some_iff.1 hr;rw[<-h3];exact List.set_getElem_self h2]
    exact s8
  ·have e:a=some ⟨(ρ r []).b,(ρ r []).off,none⟩:=by rw[ha (by omega)];unfold RI.at;rw[Nat.zero_mul,Nat.add_zero]
   rw[e];refine(h1 _ _ _ xs w hH hlt (by omega) hB).mono ?_
   rintro e' w' ⟨rfl,n,rfl⟩;have hR:=s8.ints (ys:=F xs++List.replicate (xs.length-(F xs).length) 0) hr dV (by rw[List.length_append,List.length_replicate];omega) (n:=n) (os:=#[])
   rw[grow_empty]at hR;have af8:=adI (ys:=F xs++List.replicate (xs.length-(F xs).length) 0) hr dV (w:=w) (n:=n) (os:=#[]);rw[grow_empty]at af8;refine⟨_,_,_,aE ρ rg.length (ρ r),rfl,hK,af8,fun r1 h1 π=>by rw[bB h1],ae0,?_,hprefix _ _ hR⟩
   show rg.length+0<rg.length+1/\(aE ρ rg.length (ρ r) (rg.length+0) []).head 0 (List.length (α:=Int) (F xs)) _;rw[Nat.add_zero,aF];exact⟨Nat.lt_succ_self _,fun h=>by(rw[dV]at h;cases h),fun _=>⟨by omega,_,rfl,fun _=>by unfold RI.at;rw[Nat.zero_mul,Nat.add_zero]⟩⟩
end
end Go.Sy
end
