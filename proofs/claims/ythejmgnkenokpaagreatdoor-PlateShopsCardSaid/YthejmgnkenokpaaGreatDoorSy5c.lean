/-
  Texts of the claims on chapter 3: Sy5c. No condition: lemmas and contracts.
-/
import Derived.Test.YthejmgnkenokpaaGreatDoorSy4c
import Derived.Sort.Grow
set_option linter.all false
set_option maxRecDepth 100000
set_option maxHeartbeats 4000000
section
namespace Go.Sy
open Go Go.RowKit
universe u
inductive Tb (α : Type) where
 | nil
 | node (x : Option α) (l r : Tb α)
def Tb.get {α : Type} : Tb α -> Nat -> Option α
 | .nil,_ => none
 | .node x l r,i => match Nat.beq i 0 with
   | true => x
   | false => (match Nat.beq (i % 2) 1 with | true => l.get (i / 2) | false => r.get (i / 2 - 1))
def Tb.all {α : Type} (f : Nat -> α -> Bool) : Tb α -> (Nat -> Nat) -> Bool
 | .nil,_ => true
 | .node x l r,g =>
   (match x with | some a => f (g 0) a | none => true) && (l.all f (fun i => g (2 * i + 1)) && r.all f (fun i => g (2 * i + 2)))
theorem Tb.hO {α : Type} {f : Nat -> α -> Bool} : ∀ {t : Tb α} {g : Nat -> Nat},t.all f g = true -> ∀ i a,t.get i = some a -> f (g i) a = true
 | .nil,_,_,_,_,h => by cases h
 | .node x l r,g,hall,i,a,h => by
   simp only [Tb.all,Bool.and_eq_true] at hall
   unfold Tb.get at h
   split at h
   ·rename_i h0
    obtain rfl:=Nat.eq_of_beq_eq_true h0
    have:=hall.1
    rw [h] at this;exact this
   ·rename_i h0
    have hi : i ≠ 0:=fun e => by subst e;simp at h0
    split at h
    ·rename_i ho
     have ho:=Nat.eq_of_beq_eq_true ho
     have:=Tb.hO hall.2.1 _ _ h
     rwa [show 2 * (i / 2) + 1 = i by omega] at this
    ·rename_i ho
     have ho : i % 2 ≠ 1:=fun e => by rw [e] at ho;simp at ho
     have:=Tb.hO hall.2.2 _ _ h
     rwa [show 2 * (i / 2 - 1) + 2 = i by omega] at this
/-! ### Types -/
def iY (P : Program) (t n : Nat) : Bool:=match P.info? t with | some i => Nat.beq i.size n | none => false
theorem aas {P : Program} {t n : Nat} (h : iY P t n = true) : (P.info? t).map (·.size) = some n:=by
 unfold iY at h
 split at h
 ·rename_i i hi;rw [hi];exact congrArg some (Nat.eq_of_beq_eq_true h)
 ·cases h
def vE : List (Nat × Nat) -> List (Nat × Nat) -> Bool
 | [],[] => true
 | (a,b) :: l,(c,d) :: m => Nat.beq a c && Nat.beq b d && vE l m
 | _,_ => false
theorem tf : ∀ {l m : List (Nat × Nat)},vE l m = true -> l = m
 | [],[],_ => rfl
 | [],_ :: _,h => by cases h
 | _ :: _,[],h => by cases h
 | (a,b) :: l,(c,d) :: m,h => by
   simp only [vE,Bool.and_eq_true] at h
   rw [Nat.eq_of_beq_eq_true h.1.1,Nat.eq_of_beq_eq_true h.1.2,tf h.2]
def tw (P : Program) (t : Nat) : Ty -> Bool
 | .int k => (match P.underlying t with | some (.int k') => sameKind k' k | _ => false) && iY P t 1
 | .bool => (match P.underlying t with | some .bool => true | _ => false) && iY P t 1
 | .str => (match P.underlying t with | some .string => true | _ => false) && iY P t 1
 | .st fs n => (match uc P t with | some l => vE l fs | _ => false) && iY P t n
 | .sl e m => (match P.underlying t with | some (.slice e') => Nat.beq e' e | _ => false) && (iY P e m && iY P t 1)
 | .ar e m n => (match P.underlying t with | some (.array n' e') => Nat.beq n' n && Nat.beq e' e | _ => false) && (iY P e m && iY P t (n * m))
 | .map k e => (match P.underlying t with | some (.map k' e') => Nat.beq k' k && Nat.beq e' e | _ => false) && iY P t 1
 | .word => (match P.underlying t with | some d => lD d | _ => false) && iY P t 1
 | .other => true
theorem JM {P : Program} {t : Nat} {y : Ty} (h : tw P t y = true) : qf P t y:=by
 cases y with
 | other => trivial
 | int k =>
   simp only [tw,Bool.and_eq_true] at h
   refine ⟨?_,aas h.2⟩
   have:=h.1
   split at this
   ·rename_i hu;rw [hu,akr this]
   ·cases this
 | bool =>
   simp only [tw,Bool.and_eq_true] at h
   refine ⟨?_,aas h.2⟩
   have:=h.1
   split at this
   ·rename_i hu;exact hu
   ·cases this
 | str =>
   simp only [tw,Bool.and_eq_true] at h
   refine ⟨?_,aas h.2⟩
   have:=h.1
   split at this
   ·rename_i hu;exact hu
   ·cases this
 | st fs n =>
   simp only [tw,Bool.and_eq_true] at h
   refine ⟨yW ?_,aas h.2⟩
   have:=h.1
   split at this
   ·rename_i hu;rw [hu,tf this]
   ·cases this
 | sl e m =>
   simp only [tw,Bool.and_eq_true] at h
   refine ⟨?_,aas h.2.1,aas h.2.2⟩
   have:=h.1
   split at this
   ·rename_i hu;rw [hu,Nat.eq_of_beq_eq_true this]
   ·cases this
 | ar e m n =>
   simp only [tw,Bool.and_eq_true] at h
   refine ⟨?_,aas h.2.1,aas h.2.2⟩
   have:=h.1
   split at this
   ·rename_i hu
    simp only [Bool.and_eq_true] at this
    rw [hu,Nat.eq_of_beq_eq_true this.1,Nat.eq_of_beq_eq_true this.2]
   ·cases this
 | map k e =>
   simp only [tw,Bool.and_eq_true] at h
   refine ⟨?_,aas h.2⟩
   have:=h.1
   split at this
   ·rename_i hu
    simp only [Bool.and_eq_true] at this
    rw [hu,Nat.eq_of_beq_eq_true this.1,Nat.eq_of_beq_eq_true this.2]
   ·cases this
 | word =>
   simp only [tw,Bool.and_eq_true] at h
   refine ⟨?_,aas h.2⟩
   have:=h.1
   split at this
   ·rename_i d hu;exact ⟨d,hu,this⟩
   ·cases this
/-! ### Zero values -/
def zB : At -> Value -> Bool
 | .v (.int k n),.int k' n' => sameKind k k' && n == n'
 | .ff,.bool b => !b
 | .v (.string s),.string s' => s.data.toList == s'.data.toList
 | .v (.slice none 0 0),.slice none 0 0 => true
 | .v (.map none),.map none => true
 | .v .nilIface,.nilIface => true
 | .v (.pointer none),.pointer none => true
 | .v .nilFunc,.nilFunc => true
 | _,_ => false
theorem L9 {x : At} {v : Value} (h : zB x v = true) : x.one = true /\ ∀ N ρ,x.ok N ρ v:=by
 unfold zB at h
 split at h <;> first | (cases h;done) | skip
 ·simp only [Bool.and_eq_true,beq_iff_eq] at h
  obtain ⟨h1,rfl⟩:=h
  obtain rfl:=akr h1
  exact ⟨rfl,fun _ _ => ⟨rfl,rfl⟩⟩
 ·rename_i b
  cases b with
  | true => cases h
  | false => exact ⟨rfl,fun _ _ => rfl⟩
 ·rename_i s s'
  have e : s = s':=by
   have h:=beq_iff_eq.1 h
   cases s;cases s'
   congr 1
   exact Array.ext' h
  subst e
  exact ⟨rfl,fun _ _ => ⟨rfl,rfl⟩⟩
 all_goals exact ⟨rfl,fun _ _ => ⟨rfl,rfl⟩⟩
def KM : List At -> List Value -> Bool
 | [],[] => true
 | x :: l,v :: m => zB x v && KM l m
 | _,_ => false
theorem Cj : ∀ {l : List At} {m : List Value},KM l m = true -> bZ At.one l = true /\ ∀ N ρ,be (At.ok N ρ) l m
 | [],[],_ => ⟨rfl,fun _ _ => trivial⟩
 | [],_ :: _,h => by cases h
 | _ :: _,[],h => by cases h
 | x :: l,v :: m,h => by
   simp only [KM,Bool.and_eq_true] at h
   obtain ⟨h1,h2⟩:=L9 h.1
   obtain ⟨h3,h4⟩:=Cj h.2
   refine ⟨?_,fun N ρ => ⟨h2 N ρ,h4 N ρ⟩⟩
   simp only [bZ,h1];exact h3
def KL (P : Program) (t : Nat) (l : List At) : Bool:=match P.info? t with | some i => (match i.zero with | some z => KM l z.cells.toList | none => false) | none => false
/-! ### Arrays' elements,map's values -/
def vB : Value -> Value -> Bool
 | .int k n,.int k' n' => sameKind k k' && n == n'
 | .bool a,.bool b => a == b
 | .string s,.string s' => s.data.toList == s'.data.toList
 | .slice none 0 0,.slice none 0 0 => true
 | _,_ => false
theorem Ef {x v : Value} (h : vB x v = true) : x = v:=by
 unfold vB at h
 split at h <;> first | (cases h;done) | skip
 ·simp only [Bool.and_eq_true,beq_iff_eq] at h
  obtain ⟨h1,rfl⟩:=h
  rw [akr h1]
 ·rw [beq_iff_eq.1 h]
 ·rename_i s s'
  have h:=beq_iff_eq.1 h
  cases s;cases s'
  congr 2
  exact Array.ext' h
 ·rfl
def KI : List Value -> List Value -> Bool
 | [],[] => true
 | x :: l,v :: m => vB x v && KI l m
 | _,_ => false
theorem B5 : ∀ {l m : List Value},KI l m = true -> l = m
 | [],[],_ => rfl
 | [],_ :: _,h => by cases h
 | _ :: _,[],h => by cases h
 | x :: l,v :: m,h => by
   simp only [KI,Bool.and_eq_true] at h
   rw [Ef h.1,B5 h.2]
def NP (P : Program) (t : Nat) (tg : List CK) : Bool :=
 (match tg with | [] => false | _ => true) && (bZ CK.ne tg && (match P.info? t with
   | some i => Nat.beq i.size tg.length && (Nat.ble i.bytes (32 * tg.length) && (match i.zero with | some z => KI z.cells.toList (ai.zero tg) | none => false))
   | none => false))
def P7 (P : Program) (t : Nat) (c : CK) : Bool:=match P.info? t with | some i => (match i.zero with | some z => vB z (c.val c.d) | none => false) | none => false
def zj : List Nat -> List Nat -> Bool
 | [],[] => true
 | a :: l,b :: m => Nat.beq a b && zj l m
 | _,_ => false
theorem vA : ∀ {l m : List Nat},zj l m = true -> l = m
 | [],[],_ => rfl
 | [],_ :: _,h => by cases h
 | _ :: _,[],h => by cases h
 | a :: l,b :: m,h => by
   simp only [zj,Bool.and_eq_true] at h
   rw [Nat.eq_of_beq_eq_true h.1,vA h.2]
def MA (P : Program) (t : Nat) (ks : List Nat) : Bool :=
 (match dB P 8 t with | some l => zj l ks | none => false) && ((match eO P t with | none => true | some _ => false) && !(P.eqGuardType P.depth t))
def NV (P : Program) (t : Nat) (l : List Bool) : Bool :=
 match P.underlying t with
 | some (.struct fields) => l.length <= fields.size && (List.range l.length).all fun f => !(l.getD f false) || (match fields[f]? with | some fd => (match P.underlying fd.type with | some (.struct _) => false | some (.array _ _) => false | some _ => true | none => false) | none => false)
 | _ => false
theorem Jk {P : Program} {t : Nat} {l : List Bool} (h : NV P t l = true) {f : Nat} (hf : l.getD f false = true) {fields : Array Field} {fd : Field} (hu : P.underlying t = some (.struct fields)) (Nj : fields[f]? = some fd) (w : World) : (isAgg fd.type).run P w = .ok false w:=by
 unfold NV at h
 rw [hu] at h
 simp only [Bool.and_eq_true,List.all_eq_true,List.mem_range] at h
 have hlt : f < l.length:=by
  rcases Nat.lt_or_ge f l.length with hl | hl
  ·exact hl
  ·rw [List.getD_eq_getElem?_getD,List.getElem?_eq_none hl] at hf;cases hf
 have:=h.2 f hlt
 rw [hf,Nj] at this
 simp only [Bool.not_true,Bool.false_or] at this
 split at this
 ·cases this
 ·cases this
 ·rename_i d h1 h2 hd
  unfold isAgg
  simp only [Sem.run_bind,run_underlying hd,Result.andThen_ok]
  cases d <;> first | rfl | exact absurd hd (h1 _) | exact absurd hd (h2 _ _)
 ·cases this
structure wc where
 ty : Tb Ty
 zero : Tb (List At)
 kd : Tb (List CK)
 sc : Tb CK
 eqs : Tb (List Nat)
 lf : Tb (List Bool)
structure F2 (P : Program) (T : wc) : Prop where
 ty : T.ty.all (tw P) id = true
 zero : T.zero.all (KL P) id = true
 kd : T.kd.all (NP P) id = true
 sc : T.sc.all (P7 P) id = true
 eqs : T.eqs.all (MA P) id = true
 lf : T.lf.all (NV P) id = true
def wc.env (T : wc) (l : List (Nat × au)) (bs : List (Nat × Body)) (aN : Bool) (un : Nat) : Env :=
 { ty:=fun t => match T.ty.get t with | some y => y | none => .other,zero:=T.zero.get,eqs:=T.eqs.get,sc:=T.sc.get,kd:=T.kd.get,lf:=fun t f => (match T.lf.get t with | some l => l.getD f false | none => false),ct:=look l,inl:=look bs,exact:=!aN,aN,un }
theorem wc.OX {P : Program} {Γ : bn} {T : wc} (hT : F2 P T) {l : List (Nat × au)} (hl : aR P Γ l) (bs : List (Nat × Body)) (aN : Bool) (un : Nat) : bE P Γ (T.env l bs aN un) where
 aht:=fun t h => by cases h
 ty:=fun t => by
  show qf P t (match T.ty.get t with | some y => y | none => .other)
  split
  ·rename_i y hy;exact JM (Tb.hO hT.ty t y hy)
  ·trivial
 zero:=fun t l h => by
  have:=Tb.hO hT.zero t l h
  unfold KL at this
  split at this
  ·rename_i i hi
   split at this
   ·rename_i z hz
    obtain ⟨h1,h2⟩:=Cj this
    exact ⟨h1,i,z,hi,hz,h2⟩
   ·cases this
  ·cases this
 eqs:=fun t ks h => by
  have:=Tb.hO hT.eqs t ks h
  simp only [MA,Bool.and_eq_true] at this
  obtain ⟨h1,h2,h3⟩:=this
  refine ⟨?_,?_,by simpa using h3⟩
  ·split at h1
   ·rename_i hl;rw [show dB P 8 t = _ from hl,vA h1]
   ·cases h1
  ·split at h2
   ·assumption
   ·cases h2
 kd:=fun t tg h => by
  have:=Tb.hO hT.kd t tg h
  simp only [NP,Bool.and_eq_true] at this
  obtain ⟨h1,h2,h3⟩:=this
  refine ⟨(fun e => by subst e;cases h1),?_⟩
  split at h3
  ·rename_i i hi
   simp only [Bool.and_eq_true] at h3
   obtain ⟨h4,h5,h6⟩:=h3
   split at h6
   ·rename_i z hz
    exact ⟨i,z,hi,Nat.eq_of_beq_eq_true h4,hz,B5 h6,Nat.le_of_ble_eq_true h5⟩
   ·cases h6
  ·cases h3
 kn:=fun t tg h => by
  have:=Tb.hO hT.kd t tg h
  simp only [NP,Bool.and_eq_true] at this
  exact this.2.1
 sc:=fun t c h => by
  have:=Tb.hO hT.sc t c h
  unfold P7 at this
  split at this
  ·rename_i i hi
   split at this
   ·rename_i z hz;exact ⟨i,hi,by rw [hz,Ef this]⟩
   ·cases this
  ·cases this
 lf:=fun t f h fields fd hu Nj w => by
  have h : (match T.lf.get t with | some l => l.getD f false | none => false) = true:=h
  split at h
  ·rename_i l hl'
   exact Jk (Tb.hO hT.lf t l hl') h hu Nj w
  ·cases h
 ct:=fun f c h => (hl.h f c h).2
end Go.Sy
end
section
namespace Go.Sy
open Go Go.RowKit
universe u
section
variable {P : Program} {Γ : bn} {E : Env} {M : Nat -> Prop} {w0 : World} {ρ : Keys} {w : World}
theorem qc.back {rg cE : List az} {is : gd} {args args' : List Tm} (hp : qc args rg is args' cE) {r' : Nat} {g' : az} {π : Path} {o : Bool} {B : e6} (hr : cE[r']? = some g') (hh : g'.has π o B)
  (hv : (jd ρ is cE r' π).aC = false) : ∃ r dD g o0 B0,is[r']? = some (some (r,dD)) /\ rg[r]? = some g /\ g.has (π ++ dD) o0 B0 /\ jd ρ is cE r' π = ρ r (π ++ dD):=by
 have h:=hp.mX r' _ hr
 cases g' with
 | dead => exact hh.elim
 | iter => exact h.elim
 | lp => exact h.elim
 | box o l' =>
   obtain ⟨rfl,_,_⟩:=hh
   obtain ⟨_,r,o0,l,h1,h2,_⟩:=h
   exact ⟨r,[],_,o0,.box l,h1,h2,⟨rfl,rfl,rfl⟩,cJ h1⟩
 | map t k c es o =>
   obtain ⟨rfl,_,_⟩:=hh
   obtain ⟨_,r,o0,h1,h2⟩:=h
   exact ⟨r,[],_,o0,.map k c es,h1,h2,⟨rfl,rfl,rfl⟩,cJ h1⟩
 | bH => exact h.elim
 | arr te tg xs o i =>
   obtain ⟨A,rfl,hA,_⟩:=Ar.gQ hh
   obtain ⟨_,_,hc⟩:=h
   rcases hc with ⟨h1,_,_⟩ | ⟨r,dD,q,h1,h2,h3⟩
   ·rw [lC h1] at hv;cases hv
   ·obtain ⟨_,iP,_,k4⟩:=az.kY h2 h3
    rcases k4 π A hA with ⟨RV,RW,KJ,o0,i0,hg,k1⟩ | ⟨f0,k1⟩
    ·exact ⟨r,dD,_,_,.arr A,h1,bg (st:=⟨⟨0,.nil⟩,[],rg⟩) hg (by simp),⟨rfl,A,fe.2 ⟨_,k1,hA⟩,rfl⟩,cJ h1⟩
    ·exact ⟨r,dD,_,f0,.arr A,h1,bg (st:=⟨⟨0,.nil⟩,[],rg⟩) rfl iP,k1,cJ h1⟩
theorem I4 {te : TypeId} {tg : List CK} {xs : List (ai tg)} {o i : Bool} {π : Path} {f : Bool} {B : e6} (hf : aaa tg = true) (hh : (az.arr te tg xs o i).has π f B) : π = [] /\ f = o /\ B = .arr ⟨te,tg,xs⟩:=by
 obtain ⟨A,rfl,hA,e⟩:=Ar.gQ hh
 obtain ⟨rfl,rfl⟩:=fT hf hA
 exact ⟨rfl,e,rfl⟩
end
end Go.Sy
end
section
namespace Go.Sy
open Go Go.RowKit
universe u
section
variable {P : Program} {Γ : bn} {E : Env} {M : Nat -> Prop} {w0 : World} {ρ ρ' : Keys} {st : St} {vs : Fv} {a : Act} {w : World}
def At.vd (r : Nat) : At -> At
 | .v (.slice none 0 0) => .sl r [] 0 0
 | .z => .sl r [] 0 0
 | x => x
inductive bu (K : cM -> Prop) : Tm -> St -> Prop
 | base {x st} (h : N9 K x st) : bu K x st
 | aC {x st} (e : TypeId) (tg : List CK) (ci : tg ≠ []) (h : bu K (x.mapA (At.vd st.rg.length)) (st.push [.arr e tg [] true true])) : bu K x st
theorem At.FE {N r : Nat} {x : At} {y : Value} (hr : r < N) (hv : (ρ r []).aC = true) (h : x.ok N ρ y) : (x.vd r).ok N ρ y:=by
 unfold At.vd
 split
 ·obtain ⟨rfl,_⟩:=h
  exact ⟨hr,fun _ => ⟨rfl,_,rfl⟩,fun h => by rw [hv] at h;cases h⟩
 ·obtain ⟨a,rfl⟩:=h
  exact ⟨hr,fun _ => ⟨rfl,_,rfl⟩,fun h => by rw [hv] at h;cases h⟩
 ·exact h
theorem Bu {N r : Nat} (hr : r < N) (hv : (ρ r []).aC = true) : ∀ {l : List At} {ys : List Value},be (At.ok N ρ) l ys -> be (At.ok N ρ) (l.map (At.vd r)) ys
 | [],[],_ => trivial
 | [],_ :: _,h => h.elim
 | _ :: _,[],h => h.elim
 | _ :: _,_ :: _,h => ⟨At.FE hr hv h.1,Bu hr hv h.2⟩
theorem OS {N r : Nat} {x : C1} {y : Value} (hr : r < N) (hv : (ρ r []).aC = true) (h : x.ok N ρ y) : (x.mapA (At.vd r)).ok N ρ y:=by
 cases x with
 | a x => exact At.FE hr hv h
 | agg l => obtain ⟨ys,rfl,h⟩:=h;exact ⟨ys,rfl,Bu hr hv h⟩
theorem HO {N r : Nat} (hr : r < N) (hv : (ρ r []).aC = true) : ∀ {l : List C1} {ys : List Value},be (C1.ok N ρ) l ys -> be (C1.ok N ρ) (l.map (C1.mapA (At.vd r))) ys
 | [],[],_ => trivial
 | [],_ :: _,h => h.elim
 | _ :: _,[],h => h.elim
 | _ :: _,_ :: _,h => ⟨OS hr hv h.1,HO hr hv h.2⟩
theorem Po {N r : Nat} {x : Tm} {y : Value} (hr : r < N) (hv : (ρ r []).aC = true) (h : x.ok N ρ y) : (x.mapA (At.vd r)).ok N ρ y:=by
 cases x with
 | a x => exact At.FE hr hv h
 | agg l => obtain ⟨ys,rfl,h⟩:=h;exact ⟨ys,rfl,Bu hr hv h⟩
 | bF l => obtain ⟨ys,rfl,h⟩:=h;exact ⟨ys,rfl,HO hr hv h⟩
theorem LK {K : cM -> Prop} {x : Tm} {st : St} (hk : bu K x st) : ∀ {ρ : Keys} {y : Value},Rel Γ M w0 ρ st vs a w -> x.ok st.rg.length ρ y -> ∃ x' an ρ',Rel Γ M w0 ρ' an vs a w /\ x'.ok an.rg.length ρ' y /\ N9 K x' an:=by
 induction hk with
 | base h => exact fun hr hx => ⟨_,_,_,hr,hx,h⟩
 | @aC x st e tg ci h ih =>
   intro ρ y hr hx
   have hv:=hr.Eg e ci
   refine ih hv ?_
   have hx':=hx.mono (N':=(st.push [.arr e tg [] true true]).rg.length) (ρ':=aE ρ st.rg.length fun _ => { iC with m:=tg.length }) (by simp [St.push]) (fun r hr π => by rw [bB hr])
   exact Po (by simp [St.push]) (by rw [aF];rfl) hx'
theorem au.fM (hP : aL P Γ E) {f : FuncId} {b : Body} (hf : bQ P f b) {d : Nat} {C : List Tm -> List az -> (cM -> Prop) -> Prop}
  (H : ∀ args rg K,C args rg K -> ∃ is args' cE,qc args rg is args' cE /\ ∃ Kx,cQ E d b args' cE Kx /\ ∀ x st,Kx x st -> bu K x st) : au.Ok P Γ f (.new C):=by
 intro args rg K hC M w0 ρ w us hl qR nv hargs s8
 obtain ⟨is,args',cE,hp,Kx,hev,Re⟩:=H args rg K hC
 refine (yy hP hf hev (fun b hb => Nat.lt_of_lt_of_le (qR b hb).2 hl) nv (pI hp.args hargs) (s8.HR hp)).mono ?_
 rintro e w' ⟨v,an,ρ',x,a',_,rfl,hr',hx,DE,hb⟩
 obtain ⟨x,an,ρ',hr',hx,⟨res,js,hK,Nx,hlt,heq⟩⟩:=LK (Re _ _ DE) hr' hx
 have eN:=aap Nx
 let iA : Keys:=fun r => if r < rg.length then ρ r else ρ' (js.getD (r - rg.length) 0)
 have e1 : ∀ r,r < rg.length -> iA r = ρ r:=fun r hr => by simp [iA,hr]
 have e2 : ∀ r,iA (rg.length + r) = ρ' (js.getD r 0):=fun r => by
  show (if rg.length + r < rg.length then _ else _) = _
  rw [if_neg (by omega),Nat.add_sub_cancel_left]
 have hv : (res.tm.oF (fun r => rg.length + r)).ok (rg.length + res.rg.length) iA v :=
  Tm.lE res.rg.length (f:=fun r => js.getD r 0) (ρ:=ρ') (N:=an.rg.length) (fun r hr => by omega) (fun r _ => e2 r) hlt (xI heq hx)
 refine ⟨v,res,iA,rfl,hK,hb,fun r hr π => by rw [e1 r hr],hv,?_⟩
 have hold:=s8.later hb.size hb.block
 have key : ∀ (r : Nat) (g : az),(rg ++ res.rg)[r]? = some g -> (r < rg.length /\ rg[r]? = some g /\ iA r = ρ r) \/ (∃ s i,r = rg.length + s /\ res.rg[s]? = some g /\ js[s]? = some i /\ an.rg[i]? = some g /\ g.out = true /\ iA r = ρ' i):=by
  intro r g hr
  rcases Nat.lt_or_ge r rg.length with hl | hl
  ·rw [List.getElem?_append_left hl] at hr;exact .inl ⟨hl,hr,e1 r hl⟩
  ·rw [List.getElem?_append_right hl] at hr
   obtain ⟨i,h1,h2,h3⟩:=eN _ g hr
   refine .inr ⟨r - rg.length,i,by omega,hr,h1,h2,h3,?_⟩
   rw [show r = rg.length + (r - rg.length) by omega,e2]
   simp [List.getD,h1]
 have fresh : ∀ (i : Nat) (g : az),an.rg[i]? = some g -> g.out = true -> ∀ π o B,g.has π o B -> (ρ' i π).aC = false -> w.heap.size <= (ρ' i π).b:=by
  intro i g hi ho π o B hh dV
  obtain rfl:=LA ho hh
  have:=hr'.rs.own i g π B hi hh dV
  have : False \/ w.heap.size <= (ρ' i π).b:=by cases B with | box => exact this.own | map => exact this.own | bH => exact this.own | it => exact this.own | lp => exact this.own | arr => exact this.1.own
  exact this.elim False.elim id
 refine ⟨fun r g π o B hr hh => ?_,fun r g π o B hr hh dV => ?_,fun r g π B hr hh dV => ?_,fun r r' g g' π aW o' B B' h1 h2 k1 k2 v1 v2 hne => ?_⟩
 ·rcases key r g hr with ⟨hl,hg,he⟩ | ⟨s,i,rfl,_,_,hg,ho,he⟩
  ·exact (hold.blk r g π o B hg hh).later (fun π => by rw [he]) (Nat.le_add_right _ _) (fun r hr π => by rw [e1 r hr]) (fun _ => rfl)
  ·have hb:=hr'.rs.blk i g π o B hg hh
   cases B with
   | arr A => show Ar.aA w' (iA (rg.length + s)) π A;rw [he];exact hb
   | map k c es =>
     obtain ⟨b1,b2,b3⟩:=hb
     exact ⟨b1,by rw [he];exact b2,by rw [he];exact b3⟩
   | bH kk tg es =>
     obtain ⟨b1,b2,b3⟩:=hb
     exact ⟨b1,by rw [he];exact b2,by rw [he];exact b3⟩
   | it =>
     cases g with
     | dead => cases ho
     | iter => cases ho
     | lp => cases ho
     | map => obtain ⟨_,_,hB⟩:=hh;cases hB
     | bH => rcases hh with ⟨_,_,hB⟩ | ⟨_,_,_,_,_,hB⟩ <;> cases hB
     | box => obtain ⟨_,_,hB⟩:=hh;cases hB
     | arr => obtain ⟨_,A,_,hA⟩:=hh;cases hA
   | lp =>
     cases g with
     | dead => cases ho
     | iter => cases ho
     | lp => cases ho
     | map => obtain ⟨_,_,hB⟩:=hh;cases hB
     | bH => rcases hh with ⟨_,_,hB⟩ | ⟨_,_,_,_,_,hB⟩ <;> cases hB
     | box => obtain ⟨_,_,hB⟩:=hh;cases hB
     | arr => obtain ⟨_,A,_,hA⟩:=hh;cases hA
   | box l =>
     obtain ⟨b1,b2,b3,b4⟩:=hb
     refine ⟨b1,by rw [he];exact b2,by rw [he];exact b3,fun j x PV => ?_⟩
     obtain ⟨y,hy,hc⟩:=b4 j x PV
     have aai : bZ At.plain l = true:=by
      cases g with
      | dead => cases ho
      | map => obtain ⟨_,_,hB⟩:=hh;cases hB
      | bH => rcases hh with ⟨_,_,hB⟩ | ⟨_,_,_,_,_,hB⟩ <;> cases hB
      | iter => cases ho
      | lp => cases ho
      | arr => obtain ⟨_,A,_,hA⟩:=hh;cases hA
      | box o1 l1 =>
        obtain ⟨_,_,hB⟩:=hh
        injection hB with hB
        subst hB
        cases o1 with
        | false => cases ho
        | true => exact ho
     exact ⟨y,At.fZ (iI aai x (List.mem_of_getElem? PV)) hy,by rw [he];exact hc⟩
 ·rcases key r g hr with ⟨hl,hg,he⟩ | ⟨s,i,rfl,_,_,hg,ho,he⟩
  ·rw [he] at dV ⊢;exact hold.lt r g π o B hg hh dV
  ·rw [he] at dV ⊢;exact hr'.rs.lt i g π o B hg hh dV
 ·rcases key r g hr with ⟨hl,hg,he⟩ | ⟨s,i,rfl,_,_,hg,ho,he⟩
  ·rw [he] at dV ⊢;exact hold.own r g π B hg hh dV
  ·rw [he] at dV ⊢
   have hm:=hr'.rs.own i g π B hg hh dV
   have hfr:=fresh i g hg ho π true B hh dV
   cases B with
   | box l => exact ⟨.inr (Nat.le_trans hl hfr),hm.fz⟩
   | map => exact ⟨.inr (Nat.le_trans hl hfr),hm.fz⟩
   | bH => exact ⟨.inr (Nat.le_trans hl hfr),hm.fz⟩
   | it => exact ⟨.inr (Nat.le_trans hl hfr),hm.fz⟩
   | lp => exact ⟨.inr (Nat.le_trans hl hfr),hm.fz⟩
   | arr A => exact ⟨⟨.inr (Nat.le_trans hl hfr),hm.1.fz⟩,hm.2⟩
 ·rcases key r g h1 with ⟨_,hg,he⟩ | ⟨s,i,q1,_,q2,hg,ho,he⟩ <;> rcases key r' g' h2 with ⟨_,lh,he'⟩ | ⟨s',i',RT,_,P4,lh,mJ,he'⟩
  ·rw [he] at v1 ⊢;rw [he'] at v2 ⊢;exact s8.dj r r' g g' π aW o' B B' hg lh k1 k2 v1 v2 hne
  ·rw [he] at v1 ⊢;rw [he'] at v2 ⊢
   have:=s8.lt r g π true B hg k1 v1
   have:=fresh i' g' lh mJ aW o' B' k2 v2
   omega
  ·rw [he] at v1 ⊢;rw [he'] at v2 ⊢
   have:=s8.lt r' g' aW o' B' lh k2 v2
   have:=fresh i g hg ho π true B k1 v1
   omega
  ·rw [he] at v1 ⊢;rw [he'] at v2 ⊢
   refine hr'.rs.dj i i' g g' π aW o' B B' hg lh k1 k2 v1 v2 fun PN => hne ⟨?_,PN.2⟩
   rw [<- PN.1] at P4
   rw [q1,RT,tk Nx s s' i q2 P4]
def C1.pl : C1 -> Bool
 | .a (.v _) => true
 | .a .tt => true
 | .a .ff => true
 | _ => false
end
end Go.Sy
end
section
namespace Go.Sy
open Go Go.RowKit Go.Sort
universe u
section
variable {P : Program} {Γ : bn} {M : Nat -> Prop} {w0 : World} {ρ : Keys} {w : World}
theorem aL.ajY {E : Env} (h : aL P Γ E) (g : TypeId -> Bool) (hg : ∀ t,g t = true -> P.underlying t = some (.interface (P.methodsAt t))) : aL P Γ { E with aht:=g }:=⟨h.mixed,h.fn,h.inl,{ h.env with aht:=hg }⟩
end
end Go.Sy
end
