/-
  Texts of the claims: Sy5t. No condition: lemmas and contracts.
-/
import Derived.Test.YtcmojakklijgfaaGreatDoorSy4t
import Derived.Sort.Grow
set_option linter.all false
set_option maxRecDepth 100000
set_option maxHeartbeats 4000000
section
namespace Go.Sy
open Go Go.RowKit
universe u
inductive Tb (α : Type) where
 | nil
 | node (x : Option α) (l r : Tb α)
def Tb.get {α : Type} : Tb α → Nat → Option α
 | .nil,_ => none
 | .node x l r,i => match Nat.beq i 0 with
   | true => x
   | false => (match Nat.beq (i % 2) 1 with | true => l.get (i / 2) | false => r.get (i / 2 - 1))
def Tb.all {α : Type} (f : Nat → α → Bool) : Tb α → (Nat → Nat) → Bool
 | .nil,_ => true
 | .node x l r,g =>
   (match x with | some a => f (g 0) a | none => true) && (l.all f (fun i => g (2 * i + 1)) && r.all f (fun i => g (2 * i + 2)))
theorem Tb.all_get {α : Type} {f : Nat → α → Bool} : ∀ {t : Tb α} {g : Nat → Nat},t.all f g = true → ∀ i a,t.get i = some a → f (g i) a = true
 | .nil,_,_,_,_,h => by cases h
 | .node x l r,g,hall,i,a,h => by
   simp only [Tb.all,Bool.and_eq_true] at hall
   unfold Tb.get at h
   split at h
   ·rename_i h0
    obtain rfl:=Nat.eq_of_beq_eq_true h0
    have:=hall.1
    rw [h] at this;exact this
   ·rename_i h0
    have hi : i ≠ 0:=fun e => by subst e;simp at h0
    split at h
    ·rename_i ho
     have ho:=Nat.eq_of_beq_eq_true ho
     have:=Tb.all_get hall.2.1 _ _ h
     rwa [show 2 * (i / 2) + 1 = i by omega] at this
    ·rename_i ho
     have ho : i % 2 ≠ 1:=fun e => by rw [e] at ho;simp at ho
     have:=Tb.all_get hall.2.2 _ _ h
     rwa [show 2 * (i / 2 - 1) + 2 = i by omega] at this
/-! ### Types -/
def sizeB (P : Program) (t n : Nat) : Bool:=match P.info? t with | some i => Nat.beq i.size n | none => false
theorem sizeB_spec {P : Program} {t n : Nat} (h : sizeB P t n = true) : (P.info? t).map (·.size) = some n:=by
 unfold sizeB at h
 split at h
 ·rename_i i hi;rw [hi];exact congrArg some (Nat.eq_of_beq_eq_true h)
 ·cases h
def pairsB : List (Nat × Nat) → List (Nat × Nat) → Bool
 | [],[] => true
 | (a,b) :: l,(c,d) :: m => Nat.beq a c && Nat.beq b d && pairsB l m
 | _,_ => false
theorem pairsB_spec : ∀ {l m : List (Nat × Nat)},pairsB l m = true → l = m
 | [],[],_ => rfl
 | [],_ :: _,h => by cases h
 | _ :: _,[],h => by cases h
 | (a,b) :: l,(c,d) :: m,h => by
   simp only [pairsB,Bool.and_eq_true] at h
   rw [Nat.eq_of_beq_eq_true h.1.1,Nat.eq_of_beq_eq_true h.1.2,pairsB_spec h.2]
def tyB (P : Program) (t : Nat) : Ty → Bool
 | .int k => (match P.underlying t with | some (.int k') => sameKind k' k | _ => false) && sizeB P t 1
 | .bool => (match P.underlying t with | some .bool => true | _ => false) && sizeB P t 1
 | .str => (match P.underlying t with | some .string => true | _ => false) && sizeB P t 1
 | .st fs n => (match structAs P t with | some l => pairsB l fs | _ => false) && sizeB P t n
 | .sl e m => (match P.underlying t with | some (.slice e') => Nat.beq e' e | _ => false) && (sizeB P e m && sizeB P t 1)
 | .ar e m n => (match P.underlying t with | some (.array n' e') => Nat.beq n' n && Nat.beq e' e | _ => false) && (sizeB P e m && sizeB P t (n * m))
 | .map k e => (match P.underlying t with | some (.map k' e') => Nat.beq k' k && Nat.beq e' e | _ => false) && sizeB P t 1
 | .word => (match P.underlying t with | some d => plainD d | _ => false) && sizeB P t 1
 | .other => true
theorem tyB_spec {P : Program} {t : Nat} {y : Ty} (h : tyB P t y = true) : TyOk P t y:=by
 cases y with
 | other => trivial
 | int k =>
   simp only [tyB,Bool.and_eq_true] at h
   refine ⟨?_,sizeB_spec h.2⟩
   have:=h.1
   split at this
   ·rename_i hu;rw [hu,sameKind_eq this]
   ·cases this
 | bool =>
   simp only [tyB,Bool.and_eq_true] at h
   refine ⟨?_,sizeB_spec h.2⟩
   have:=h.1
   split at this
   ·rename_i hu;exact hu
   ·cases this
 | str =>
   simp only [tyB,Bool.and_eq_true] at h
   refine ⟨?_,sizeB_spec h.2⟩
   have:=h.1
   split at this
   ·rename_i hu;exact hu
   ·cases this
 | st fs n =>
   simp only [tyB,Bool.and_eq_true] at h
   refine ⟨structAs_spec ?_,sizeB_spec h.2⟩
   have:=h.1
   split at this
   ·rename_i hu;rw [hu,pairsB_spec this]
   ·cases this
 | sl e m =>
   simp only [tyB,Bool.and_eq_true] at h
   refine ⟨?_,sizeB_spec h.2.1,sizeB_spec h.2.2⟩
   have:=h.1
   split at this
   ·rename_i hu;rw [hu,Nat.eq_of_beq_eq_true this]
   ·cases this
 | ar e m n =>
   simp only [tyB,Bool.and_eq_true] at h
   refine ⟨?_,sizeB_spec h.2.1,sizeB_spec h.2.2⟩
   have:=h.1
   split at this
   ·rename_i hu
    simp only [Bool.and_eq_true] at this
    rw [hu,Nat.eq_of_beq_eq_true this.1,Nat.eq_of_beq_eq_true this.2]
   ·cases this
 | map k e =>
   simp only [tyB,Bool.and_eq_true] at h
   refine ⟨?_,sizeB_spec h.2⟩
   have:=h.1
   split at this
   ·rename_i hu
    simp only [Bool.and_eq_true] at this
    rw [hu,Nat.eq_of_beq_eq_true this.1,Nat.eq_of_beq_eq_true this.2]
   ·cases this
 | word =>
   simp only [tyB,Bool.and_eq_true] at h
   refine ⟨?_,sizeB_spec h.2⟩
   have:=h.1
   split at this
   ·rename_i d hu;exact ⟨d,hu,this⟩
   ·cases this
/-! ### Zero values -/
def zB : At → Value → Bool
 | .v (.int k n),.int k' n' => sameKind k k' && n == n'
 | .ff,.bool b => !b
 | .v (.string s),.string s' => s.data.toList == s'.data.toList
 | .v (.slice none 0 0),.slice none 0 0 => true
 | .v (.map none),.map none => true
 | .v .nilIface,.nilIface => true
 | .v (.pointer none),.pointer none => true
 | .v .nilFunc,.nilFunc => true
 | _,_ => false
theorem zB_spec {x : At} {v : Value} (h : zB x v = true) : x.one = true ∧ ∀ N ρ,x.ok N ρ v:=by
 unfold zB at h
 split at h <;> first | (cases h;done) | skip
 ·simp only [Bool.and_eq_true,beq_iff_eq] at h
  obtain ⟨h1,rfl⟩:=h
  obtain rfl:=sameKind_eq h1
  exact ⟨rfl,fun _ _ => ⟨rfl,rfl⟩⟩
 ·rename_i b
  cases b with
  | true => cases h
  | false => exact ⟨rfl,fun _ _ => rfl⟩
 ·rename_i s s'
  have e : s = s':=by
   have h:=beq_iff_eq.1 h
   cases s;cases s'
   congr 1
   exact Array.ext' h
  subst e
  exact ⟨rfl,fun _ _ => ⟨rfl,rfl⟩⟩
 all_goals exact ⟨rfl,fun _ _ => ⟨rfl,rfl⟩⟩
def zsB : List At → List Value → Bool
 | [],[] => true
 | x :: l,v :: m => zB x v && zsB l m
 | _,_ => false
theorem zsB_spec : ∀ {l : List At} {m : List Value},zsB l m = true → allL At.one l = true ∧ ∀ N ρ,okL (At.ok N ρ) l m
 | [],[],_ => ⟨rfl,fun _ _ => trivial⟩
 | [],_ :: _,h => by cases h
 | _ :: _,[],h => by cases h
 | x :: l,v :: m,h => by
   simp only [zsB,Bool.and_eq_true] at h
   obtain ⟨h1,h2⟩:=zB_spec h.1
   obtain ⟨h3,h4⟩:=zsB_spec h.2
   refine ⟨?_,fun N ρ => ⟨h2 N ρ,h4 N ρ⟩⟩
   simp only [allL,h1];exact h3
def zeroB (P : Program) (t : Nat) (l : List At) : Bool:=match P.info? t with | some i => (match i.zero with | some z => zsB l z.cells.toList | none => false) | none => false
/-! ### Arrays' elements,map's values -/
def vB : Value → Value → Bool
 | .int k n,.int k' n' => sameKind k k' && n == n'
 | .bool a,.bool b => a == b
 | .string s,.string s' => s.data.toList == s'.data.toList
 | .slice none 0 0,.slice none 0 0 => true
 | _,_ => false
theorem vB_spec {x v : Value} (h : vB x v = true) : x = v:=by
 unfold vB at h
 split at h <;> first | (cases h;done) | skip
 ·simp only [Bool.and_eq_true,beq_iff_eq] at h
  obtain ⟨h1,rfl⟩:=h
  rw [sameKind_eq h1]
 ·rw [beq_iff_eq.1 h]
 ·rename_i s s'
  have h:=beq_iff_eq.1 h
  cases s;cases s'
  congr 2
  exact Array.ext' h
 ·rfl
def vsB : List Value → List Value → Bool
 | [],[] => true
 | x :: l,v :: m => vB x v && vsB l m
 | _,_ => false
theorem vsB_spec : ∀ {l m : List Value},vsB l m = true → l = m
 | [],[],_ => rfl
 | [],_ :: _,h => by cases h
 | _ :: _,[],h => by cases h
 | x :: l,v :: m,h => by
   simp only [vsB,Bool.and_eq_true] at h
   rw [vB_spec h.1,vsB_spec h.2]
def kdB (P : Program) (t : Nat) (tg : List CK) : Bool :=
 (match tg with | [] => false | _ => true) && (allL CK.ne tg && (match P.info? t with
   | some i => Nat.beq i.size tg.length && (Nat.ble i.bytes (32 * tg.length) && (match i.zero with | some z => vsB z.cells.toList (Tup.zero tg) | none => false))
   | none => false))
def scB (P : Program) (t : Nat) (c : CK) : Bool:=match P.info? t with | some i => (match i.zero with | some z => vB z (c.val c.d) | none => false) | none => false
def natsB : List Nat → List Nat → Bool
 | [],[] => true
 | a :: l,b :: m => Nat.beq a b && natsB l m
 | _,_ => false
theorem natsB_spec : ∀ {l m : List Nat},natsB l m = true → l = m
 | [],[],_ => rfl
 | [],_ :: _,h => by cases h
 | _ :: _,[],h => by cases h
 | a :: l,b :: m,h => by
   simp only [natsB,Bool.and_eq_true] at h
   rw [Nat.eq_of_beq_eq_true h.1,natsB_spec h.2]
def eqsB (P : Program) (t : Nat) (ks : List Nat) : Bool :=
 (match eqKinds P 8 t with | some l => natsB l ks | none => false) && ((match leafKind P t with | none => true | some _ => false) && !(P.eqGuardType P.depth t))
def lfB (P : Program) (t : Nat) (l : List Bool) : Bool :=
 match P.underlying t with
 | some (.struct fields) => l.length ≤ fields.size && (List.range l.length).all fun f => !(l.getD f false) || (match fields[f]? with | some fd => (match P.underlying fd.type with | some (.struct _) => false | some (.array _ _) => false | some _ => true | none => false) | none => false)
 | _ => false
theorem lfB_spec {P : Program} {t : Nat} {l : List Bool} (h : lfB P t l = true) {f : Nat} (hf : l.getD f false = true) {fields : Array Field} {fd : Field} (hu : P.underlying t = some (.struct fields)) (hfd : fields[f]? = some fd) (w : World) : (isAgg fd.type).run P w = .ok false w:=by
 unfold lfB at h
 rw [hu] at h
 simp only [Bool.and_eq_true,List.all_eq_true,List.mem_range] at h
 have hlt : f < l.length:=by
  rcases Nat.lt_or_ge f l.length with hl | hl
  ·exact hl
  ·rw [List.getD_eq_getElem?_getD,List.getElem?_eq_none hl] at hf;cases hf
 have:=h.2 f hlt
 rw [hf,hfd] at this
 simp only [Bool.not_true,Bool.false_or] at this
 split at this
 ·cases this
 ·cases this
 ·rename_i d h1 h2 hd
  unfold isAgg
  simp only [Sem.run_bind,run_underlying hd,Result.andThen_ok]
  cases d <;> first | rfl | exact absurd hd (h1 _) | exact absurd hd (h2 _ _)
 ·cases this
structure Tabs where
 ty : Tb Ty
 zero : Tb (List At)
 kd : Tb (List CK)
 sc : Tb CK
 eqs : Tb (List Nat)
 lf : Tb (List Bool)
structure TabsOk (P : Program) (T : Tabs) : Prop where
 ty : T.ty.all (tyB P) id = true
 zero : T.zero.all (zeroB P) id = true
 kd : T.kd.all (kdB P) id = true
 sc : T.sc.all (scB P) id = true
 eqs : T.eqs.all (eqsB P) id = true
 lf : T.lf.all (lfB P) id = true
def Tabs.env (T : Tabs) (l : List (Nat × Ctr)) (bs : List (Nat × Body)) (conc : Bool) (un : Nat) : Env :=
 { ty:=fun t => match T.ty.get t with | some y => y | none => .other,zero:=T.zero.get,eqs:=T.eqs.get,sc:=T.sc.get,kd:=T.kd.get,lf:=fun t f => (match T.lf.get t with | some l => l.getD f false | none => false),ct:=look l,inl:=look bs,exact:=!conc,conc,un }
theorem Tabs.envOk {P : Program} {Γ : Glob} {T : Tabs} (hT : TabsOk P T) {l : List (Nat × Ctr)} (hl : CsOk P Γ l) (bs : List (Nat × Body)) (conc : Bool) (un : Nat) : EnvOk P Γ (T.env l bs conc un) where
 ifc:=fun t h => by cases h
 ty:=fun t => by
  show TyOk P t (match T.ty.get t with | some y => y | none => .other)
  split
  ·rename_i y hy;exact tyB_spec (Tb.all_get hT.ty t y hy)
  ·trivial
 zero:=fun t l h => by
  have:=Tb.all_get hT.zero t l h
  unfold zeroB at this
  split at this
  ·rename_i i hi
   split at this
   ·rename_i z hz
    obtain ⟨h1,h2⟩:=zsB_spec this
    exact ⟨h1,i,z,hi,hz,h2⟩
   ·cases this
  ·cases this
 eqs:=fun t ks h => by
  have:=Tb.all_get hT.eqs t ks h
  simp only [eqsB,Bool.and_eq_true] at this
  obtain ⟨h1,h2,h3⟩:=this
  refine ⟨?_,?_,by simpa using h3⟩
  ·split at h1
   ·rename_i hl;rw [show eqKinds P 8 t = _ from hl,natsB_spec h1]
   ·cases h1
  ·split at h2
   ·assumption
   ·cases h2
 kd:=fun t tg h => by
  have:=Tb.all_get hT.kd t tg h
  simp only [kdB,Bool.and_eq_true] at this
  obtain ⟨h1,h2,h3⟩:=this
  refine ⟨(fun e => by subst e;cases h1),?_⟩
  split at h3
  ·rename_i i hi
   simp only [Bool.and_eq_true] at h3
   obtain ⟨h4,h5,h6⟩:=h3
   split at h6
   ·rename_i z hz
    exact ⟨i,z,hi,Nat.eq_of_beq_eq_true h4,hz,vsB_spec h6,Nat.le_of_ble_eq_true h5⟩
   ·cases h6
  ·cases h3
 kn:=fun t tg h => by
  have:=Tb.all_get hT.kd t tg h
  simp only [kdB,Bool.and_eq_true] at this
  exact this.2.1
 sc:=fun t c h => by
  have:=Tb.all_get hT.sc t c h
  unfold scB at this
  split at this
  ·rename_i i hi
   split at this
   ·rename_i z hz;exact ⟨i,hi,by rw [hz,vB_spec this]⟩
   ·cases this
  ·cases this
 lf:=fun t f h fields fd hu hfd w => by
  have h : (match T.lf.get t with | some l => l.getD f false | none => false) = true:=h
  split at h
  ·rename_i l hl'
   exact lfB_spec (Tb.all_get hT.lf t l hl') h hu hfd w
  ·cases h
 ct:=fun f c h => (hl.h f c h).2
end Go.Sy
end
section
namespace Go.Sy
open Go Go.RowKit
universe u
section
variable {P : Program} {Γ : Glob} {E : Env} {M : Nat → Prop} {w0 : World} {ρ : Keys} {w : World}
theorem Passed.notOwn {rg rg' : List Reg} {is : Pas} {args args' : List Tm} (hp : Passed args rg is args' rg') {r' : Nat} {g' : Reg} {π : Path} {B : Blk} (hr : rg'[r']? = some g') (hh : g'.has π true B) : False:=by
 have h:=hp.rgs r' _ hr
 cases g' with
 | dead => exact hh
 | box o l' => obtain ⟨_,h2,_⟩:=hh;rw [h.1] at h2;cases h2
 | arr te tg xs o i =>
   obtain ⟨h2,_⟩:=hh
   rw [h.1,h.2.1] at h2
   cases π <;> cases h2
 | map t k c es o => obtain ⟨_,h2,_⟩:=hh;rw [h.1] at h2;cases h2
 | mps => exact h.elim
 | iter => exact h.elim
 | lp => exact h.elim
theorem Passed.back {rg rg' : List Reg} {is : Pas} {args args' : List Tm} (hp : Passed args rg is args' rg') {r' : Nat} {g' : Reg} {π : Path} {o : Bool} {B : Blk} (hr : rg'[r']? = some g') (hh : g'.has π o B)
  (hv : (paρ ρ is rg' r' π).void = false) : ∃ r π0 g o0 B0,is[r']? = some (some (r,π0)) ∧ rg[r]? = some g ∧ g.has (π ++ π0) o0 B0 ∧ paρ ρ is rg' r' π = ρ r (π ++ π0):=by
 have h:=hp.rgs r' _ hr
 cases g' with
 | dead => exact hh.elim
 | iter => exact h.elim
 | lp => exact h.elim
 | box o l' =>
   obtain ⟨rfl,_,_⟩:=hh
   obtain ⟨_,r,o0,l,h1,h2,_⟩:=h
   exact ⟨r,[],_,o0,.box l,h1,h2,⟨rfl,rfl,rfl⟩,paρ_some h1⟩
 | map t k c es o =>
   obtain ⟨rfl,_,_⟩:=hh
   obtain ⟨_,r,o0,h1,h2⟩:=h
   exact ⟨r,[],_,o0,.map k c es,h1,h2,⟨rfl,rfl,rfl⟩,paρ_some h1⟩
 | mps => exact h.elim
 | arr te tg xs o i =>
   obtain ⟨A,rfl,hA,_⟩:=Ar.has_flag hh
   obtain ⟨_,_,hc⟩:=h
   rcases hc with ⟨h1,_,_⟩ | ⟨r,π0,q,h1,h2,h3⟩
   ·rw [paρ_none h1] at hv;cases hv
   ·obtain ⟨_,hnd,_,k4⟩:=Reg.dn_has h2 h3
    rcases k4 π A hA with ⟨te0,tg0,xs0,o0,i0,hg,k1⟩ | ⟨f0,k1⟩
    ·exact ⟨r,π0,_,_,.arr A,h1,getD_reg (st:=⟨⟨0,.nil⟩,[],rg⟩) hg (by simp),⟨rfl,A,has_append.2 ⟨_,k1,hA⟩,rfl⟩,paρ_some h1⟩
    ·exact ⟨r,π0,_,f0,.arr A,h1,getD_reg (st:=⟨⟨0,.nil⟩,[],rg⟩) rfl hnd,k1,paρ_some h1⟩
theorem flat_has {te : TypeId} {tg : List CK} {xs : List (Tup tg)} {o i : Bool} {π : Path} {f : Bool} {B : Blk} (hf : flatK tg = true) (hh : (Reg.arr te tg xs o i).has π f B) : π = [] ∧ f = o ∧ B = .arr ⟨te,tg,xs⟩:=by
 obtain ⟨A,rfl,hA,e⟩:=Ar.has_flag hh
 obtain ⟨rfl,rfl⟩:=has_flat hf hA
 exact ⟨rfl,e,rfl⟩
theorem flat_mk {te : TypeId} {tg : List CK} {xs : List (Tup tg)} {o i : Bool} : (Reg.arr te tg xs o i).has [] o (.arr ⟨te,tg,xs⟩):=⟨rfl,_,rfl,rfl⟩
theorem At.plain_ren {f : Nat → Nat} {x : At} (h : x.plain = true) : x.ren f = x:=by cases x <;> first | rfl | cases h
theorem allL_plain_ren {f : Nat → Nat} : ∀ {l : List At},allL At.plain l = true → l.map (At.ren f) = l
 | [],_ => rfl
 | x :: l,h => by
   simp only [allL] at h
   split at h
   ·rename_i hx;rw [List.map_cons,At.plain_ren hx,allL_plain_ren h]
   ·cases h
theorem C1.plain_ren {f : Nat → Nat} {x : C1} (h : x.plain = true) : x.mapA (At.ren f) = x:=by
 cases x with
 | a x => exact congrArg C1.a (At.plain_ren h)
 | agg l => exact congrArg C1.agg (allL_plain_ren h)
theorem allC_plain_ren {f : Nat → Nat} : ∀ {l : List C1},allL C1.plain l = true → l.map (C1.mapA (At.ren f)) = l
 | [],_ => rfl
 | x :: l,h => by
   simp only [allL] at h
   split at h
   ·rename_i hx;rw [List.map_cons,C1.plain_ren hx,allC_plain_ren h]
   ·cases h
theorem Tm.plain_ren {f : Nat → Nat} {x : Tm} (h : x.plain = true) : x.ren f = x:=by
 cases x with
 | a x => exact congrArg Tm.a (At.plain_ren h)
 | agg l => exact congrArg Tm.agg (allL_plain_ren h)
 | tup l => exact congrArg Tm.tup (allC_plain_ren h)
def evTopW (E : Env) (d : Nat) (b : Body) (args : List Tm) (rg : List Reg) (r n : Nat) (K : Tm → St → Prop) : Prop :=
 frameK b.n args (fun s => eachK forceR rg (fun rg => evN E d none b.code ⟨s,[⟨1,.node (.a (.sl r [] 0 n)) .nil .nil⟩],rg⟩ (fun e st' => match e with
  | .exit _ => False
  | _ => (match evRes E st' b.rs with
    | some (q,x) => oblige E.conc q (K x st')
    | none => False))))
def backW (st : St) (te : TypeId) (tg : List CK) (xs : List (Tup tg)) (n : Nat) : Prop :=
 match st.fr with
 | [⟨_,.node (.a (.sl j [] 0 m)) _ _⟩] => m = n ∧ ∃ i,st.rg.getD j .dead = .arr te tg xs true i
 | _ => False
theorem backW_sound {st : St} {te : TypeId} {tg : List CK} {xs : List (Tup tg)} {n : Nat} (h : backW st te tg xs n) : ∃ k l r j i,st.fr = [⟨k,.node (.a (.sl j [] 0 n)) l r⟩] ∧ st.rg[j]? = some (.arr te tg xs true i):=by
 unfold backW at h
 split at h
 ·rename_i k j m l r hf
  obtain ⟨rfl,i,hj⟩:=h
  exact ⟨k,l,r,j,i,hf,getD_reg hj (by simp)⟩
 ·exact h.elim
theorem Ctr.rel1_ok (hP : ProgOk P Γ E) {f : FuncId} {b : Body} (hf : BodyOk P f b) {d : Nat} {C : List Tm → List Reg → (List (Nat × Reg) → Res → Prop) → Prop}
  (H : ∀ args rg K,C args rg K → ∃ (is : Pas) (args' : List Tm) (rg0 : List Reg) (r r' k n : Nat) (te : TypeId) (tg : List CK) (xs xs' : List (Tup tg)) (t : Tm) (i : Bool),Passed args rg is args' rg0 ∧ rg0[r']? = some (.arr te tg xs false false) ∧ is[r']? = some (some (r,[])) ∧
    rg[r]? = some (.arr te tg xs true i) ∧ flatK tg = true ∧ 0 < n ∧ args'[k]? = some (.a (.sl r' [] 0 n)) ∧ (∀ r2 r3 π,is[r2]? = some (some (r3,π)) → r3 = r → r2 = r') ∧
    K [(r,.arr te tg xs' true i)] ⟨[],t⟩ ∧ t.plain = true ∧ evTopW E d b args' (rg0.set r' (.arr te tg xs true true)) r' n (fun x st' => eqT x t ∧ backW st' te tg xs' n)) : Ctr.Ok P Γ f (.rel C):=by
 intro args rg K hC M w0 ρ w us hl hgn hgl hargs hrg
 obtain ⟨is,args',rg0,r,r',k,n,te,tg,xs,xs',t,i,hp,hr',his,hr,hflat,hn0,hk,hun,hK,hpl,hev⟩:=H args rg K hC
 have hargs':=paTs_sound (rg':=rg0) hp.args hargs
 have h0:=hrg.passed hp
 have eρ : ∀ τ,paρ ρ is rg0 r' τ = ρ r τ:=fun τ => by rw [paρ_some his,List.append_nil]
 obtain ⟨y,hy,hyo⟩:=hargs'.get k _ hk
 have hyo : r' < rg0.length ∧ (paρ ρ is rg0 r' []).head 0 n y:=hyo
 have hyr : (ρ r []).head 0 n y:=by rw [← eρ];exact hyo.2
 have hv : (ρ r []).void = false:=by
  cases hh : (ρ r []).void with
  | false => rfl
  | true => have:=(hyr.1 hh).1;omega
 have hasr : (Reg.arr te tg xs true i).has [] true (.arr ⟨te,tg,xs⟩):=flat_mk
 have hmine : Mine M w0 w (ρ r []) ∧ Whole w (ρ r []) te:=hrg.own r _ [] _ hr hasr hv
 have hlies : Ar.lies w (ρ r) [] ⟨te,tg,xs⟩:=hrg.blk r _ [] true _ hr hasr
 have hlt:=hrg.lt r _ [] true _ hr hasr hv
 -- the callee's regions,one of them its own
 have hreg : Regs (fun b => b = (ρ r []).b) w (rg0.set r' (.arr te tg xs true true)).length (paρ ρ is rg0) (rg0.set r' (.arr te tg xs true true)) w:=by
  have old : ∀ (r1 : Nat) (g1 : Reg) π o B,(rg0.set r' (.arr te tg xs true true))[r1]? = some g1 → g1.has π o B → ∃ g2 o2,rg0[r1]? = some g2 ∧ g2.has π o2 B ∧ (o = true → r1 = r' ∧ π = [] ∧ B = .arr ⟨te,tg,xs⟩):=by
   intro r1 g1 π o B e1 k1
   rcases set_get e1 with ⟨rfl,rfl,_⟩ | ⟨hne,e1⟩
   ·obtain ⟨rfl,rfl,rfl⟩:=flat_has hflat k1
    exact ⟨_,_,hr',flat_mk,fun _ => ⟨rfl,rfl,rfl⟩⟩
   ·exact ⟨g1,o,e1,k1,fun ho => by subst ho;exact (hp.notOwn e1 k1).elim⟩
  rw [List.length_set]
  refine ⟨fun r1 g1 π o B e1 k1 => ?_,fun r1 g1 π o B e1 k1 v1 => ?_,fun r1 g1 π B e1 k1 v1 => ?_,fun r1 r2 g1 g2 π π' o' B B' e1 e2 k1 k2 v1 v2 hne => ?_⟩
  ·obtain ⟨g2,o2,a1,a2,_⟩:=old r1 g1 π o B e1 k1
   exact h0.blk r1 g2 π o2 B a1 a2
  ·obtain ⟨g2,o2,a1,a2,_⟩:=old r1 g1 π o B e1 k1
   exact h0.lt r1 g2 π o2 B a1 a2 v1
  ·obtain ⟨g2,o2,a1,a2,a3⟩:=old r1 g1 π true B e1 k1
   obtain ⟨rfl,rfl,rfl⟩:=a3 rfl
   rw [eρ]
   exact ⟨⟨.inl rfl,hmine.1.fz⟩,hmine.2⟩
  ·obtain ⟨g3,o3,a1,a2,a3⟩:=old r1 g1 π true B e1 k1
   obtain ⟨rfl,rfl,rfl⟩:=a3 rfl
   obtain ⟨g4,o4,b1,b2,_⟩:=old r2 g2 π' o' B' e2 k2
   obtain ⟨r3,π0,g5,o5,B5,c1,c2,c3,c4⟩:=hp.back b1 b2 v2
   rw [c4,eρ]
   refine hrg.dj r r3 _ g5 [] (π' ++ π0) o5 _ B5 hr c2 hasr c3 hv (by rw [← c4];exact v2) fun ⟨e,e'⟩ => ?_
   have:=hun r2 r3 π0 c1 e.symm
   subst this
   obtain ⟨h1,_⟩:=List.append_eq_nil_iff.1 e'.symm
   exact hne ⟨rfl,h1.symm⟩
 -- the walk
 obtain ⟨fn,h1,h2,h3,h4,h5⟩:=hf.h
 unfold evTopW at hev
 obtain ⟨hn,hc⟩:=frameK_iff hev
 rw [eachK_id forceR_eq] at hc
 have hN : (rg0.set r' (Reg.arr te tg xs true true)).length = rg0.length:=by simp
 have hbot : okL (Sl.ok (rg0.set r' (Reg.arr te tg xs true true)).length (paρ ρ is rg0)) [⟨1,.node (.a (.sl r' [] 0 n)) .nil .nil⟩] [#[y]]:=by
  refine ⟨⟨rfl,fun j => ?_⟩,trivial⟩
  cases j with
  | zero => exact ⟨by rw [hN];exact hyo.1,hyo.2⟩
  | succ j =>
    have : (Tr.node (.a (.sl r' [] 0 n)) .nil .nil).get (j + 1) = .a .any:=by
     simp only [Tr.get]
     split
     ·rename_i e;cases (Nat.eq_of_beq_eq_true e)
     ·split <;> rfl
    show ((Tr.node (.a (.sl r' [] 0 n)) .nil .nil).get (j + 1)).ok _ _ _
    rw [this];trivial
 have hrel : Rel Γ (fun b => b = (ρ r []).b) w (paρ ρ is rg0) ⟨⟨b.n,putsT args' 0 (Tr.full (depthOf b.n))⟩,[⟨1,.node (.a (.sl r' [] 0 n)) .nil .nil⟩],rg0.set r' (.arr te tg xs true true)⟩ ⟨[#[y]],[]⟩ { tmps:=us.toArray ++ Array.replicate (b.n - us.length) undef,defers:=[] } w:=by
  refine ⟨?_,hbot,rfl,hreg,Frame.refl _ _,hgl,fun b hb => ⟨fun e => ?_,Nat.lt_of_lt_of_le (hgn b hb).2 hl⟩⟩
  ·show Sl.ok (rg0.set r' _).length _ _ _
   rw [hN];exact frame_ok hargs' hn
  ·subst e
   rcases hmine.1.own with h | h
   ·exact (hgn _ hb).1 h
   ·have:=(hgn _ hb).2;omega
 refine callsIn_wide.1 (callsIn_of_wp_marks (n:=0) h1 h3 trivial ?_ rfl)
 rw [h4]
 rw [show us.toArray.size = us.length by simp]
 refine top_leaves hP h5 hc hrel fun v st' ρ' x a' w' ds hr2 k2 hk' => ?_
 obtain ⟨heq,hback⟩:=hk'
 suffices H : ∃ (u : Value) (ch : List (Nat × Reg)) (res : Res) (ρ2 : Keys),Ending.returned v = .returned u ∧ K ch res ∧
    Frame (fun b => ∃ (r : Nat) (g : Reg) (π : Path) (B : Blk),rg[r]? = some g ∧ g.has π true B ∧ (ρ r π).void = false ∧ (ρ r π).b = b) w w' ∧
    (∀ r,r < rg.length → ∀ π,ρ2 r π = ρ r π) ∧ (∀ c ∈ ch,c.1 < rg.length) ∧ (res.tm.ren (fun r => rg.length + r)).ok (rg.length + res.rg.length) ρ2 u ∧
    Regs M w0 (rg.length + res.rg.length) ρ2 (ch.foldl (fun rg c => rg.set c.1 c.2) rg ++ res.rg) w' from H
 obtain ⟨kk,tl,tr,j,i',hfr,hrj⟩:=backW_sound hback
 have hasj : (Reg.arr te tg xs' true i').has [] true (.arr ⟨te,tg,xs'⟩):=flat_mk
 have hsl : (ρ' j []).head 0 n y:=by
  have h6:=hr2.fr
  rw [hfr] at h6
  have h7:=h6.1.h 0
  exact h7.2
 have hvj : (ρ' j []).void = false:=by
  cases hh : (ρ' j []).void with
  | false => rfl
  | true => have:=(hsl.1 hh).1;omega
 have hliesj : Ar.lies w' (ρ' j) [] ⟨te,tg,xs'⟩:=hr2.rs.blk j _ [] true _ hrj hasj
 have hminej : Mine (fun b => b = (ρ r []).b) w w' (ρ' j []) ∧ Whole w' (ρ' j []) te:=hr2.rs.own j _ [] _ hrj hasj hvj
 have eI : ρ' j [] = ρ r []:=by
  obtain ⟨c1,a1,d1,d2⟩:=hsl.2 hvj
  obtain ⟨c2,a2,d3,d4⟩:=hyr.2 hv
  have m1:=hliesj.m
  have m2:=hlies.m
  rw [d1] at d3
  simp only [Value.slice.injEq] at d3
  obtain ⟨e1,_,e3⟩:=d3
  have e4:=d2 (by omega)
  have e5:=d4 (by omega)
  rw [e1] at e4
  rw [e4] at e5
  simp only [RI.at,Option.some.injEq,Addr.mk.injEq,Nat.zero_mul,Nat.add_zero,and_true] at e5
  generalize ρ' j [] = J at *
  generalize ρ r [] = I at *
  cases J;cases I
  simp only [RI.mk.injEq]
  simp only at *
  refine ⟨e5.1,e5.2,m1.trans m2.symm,by omega,hvj.trans hv.symm⟩
 have hother : ∀ (r1 : Nat) (g1 : Reg) π o B,rg[r1]? = some g1 → g1.has π o B → r1 ≠ r → (ρ r1 π).void = false → w'.heap[(ρ r1 π).b]? = w.heap[(ρ r1 π).b]?:=fun r1 g1 π o B e1 k1 hne v1 =>
  hr2.bl.block _ (hrg.lt r1 g1 π o B e1 k1 v1) fun e => hrg.dj r r1 _ g1 [] π o _ B hr e1 hasr k1 hv v1 (fun hh => hne hh.1.symm) e.symm
 refine ⟨v,[(r,.arr te tg xs' true i)],⟨[],t⟩,ρ,rfl,hK,⟨hr2.bl.os,hr2.bl.tape,hr2.bl.output,hr2.bl.size,fun b hb hm => hr2.bl.block b hb fun e => hm ⟨r,_,[],_,hr,hasr,hv,e.symm⟩⟩,fun _ _ _ => rfl,fun c hc => ?_,?_,?_⟩
 ·rw [List.mem_singleton.1 hc];exact (List.getElem?_eq_some_iff.1 hr).1
 ·have : (t.ren (fun r => rg.length + r)).ok (rg.length + 0) ρ v:=by
   have h8 : t.ok st'.rg.length ρ' v:=eqT_sound heq k2
   have h9 : t.ren (fun r => rg.length + r) = t:=Tm.plain_ren hpl
   rw [h9]
   exact Tm.plain_ok hpl h8
  exact this
 ·simp only [List.foldl_cons,List.foldl_nil,List.append_nil,List.length_nil,Nat.add_zero]
  have newHas : ∀ {r1 : Nat} {g1 : Reg} {π o B},(rg.set r (.arr te tg xs' true i))[r1]? = some g1 → g1.has π o B → (r1 = r ∧ π = [] ∧ B = .arr ⟨te,tg,xs'⟩ ∧ o = true) ∨ (r1 ≠ r ∧ rg[r1]? = some g1):=by
   intro r1 g1 π o B e1 k1
   rcases set_get e1 with ⟨rfl,rfl,_⟩ | ⟨hne,e1⟩
   ·obtain ⟨rfl,rfl,rfl⟩:=flat_has hflat k1
    exact .inl ⟨rfl,rfl,rfl,rfl⟩
   ·exact .inr ⟨hne,e1⟩
  have oldHas : ∀ {r1 : Nat} {g1 : Reg} {π o B},(rg.set r (.arr te tg xs' true i))[r1]? = some g1 → g1.has π o B → ∃ g2 B2,rg[r1]? = some g2 ∧ g2.has π o B2:=by
   intro r1 g1 π o B e1 k1
   rcases newHas e1 k1 with ⟨rfl,rfl,rfl,rfl⟩ | ⟨_,e1⟩
   ·exact ⟨_,_,hr,hasr⟩
   ·exact ⟨_,_,e1,k1⟩
  refine ⟨fun r1 g1 π o B e1 k1 => ?_,fun r1 g1 π o B e1 k1 v1 => ?_,fun r1 g1 π B e1 k1 v1 => ?_,fun r1 r2 g1 g2 π π' o' B B' e1 e2 k1 k2 v1 v2 hne => ?_⟩
  ·rcases newHas e1 k1 with ⟨rfl,rfl,rfl,rfl⟩ | ⟨hne,e1⟩
   ·show Ar.lies w' (ρ r1) [] ⟨te,tg,xs'⟩
    refine ⟨hliesj.tg,by rw [← eI];exact hliesj.m,(fun hh => by rw [hv] at hh;cases hh),fun _ => by rw [← eI];exact hliesj.len hvj,fun s hs => ?_⟩
    obtain ⟨ys,p1,p2⟩:=hliesj.cell s hs
    exact ⟨ys,lies_flat hflat p1,fun s2 y2 hy2 => by rw [← eI];exact p2 s2 y2 hy2⟩
   ·exact (hrg.blk r1 g1 π o B e1 k1).later (fun _ => rfl) (Nat.le_refl _) (fun _ _ _ => rfl) (fun v1 => hother r1 g1 π o B e1 k1 hne v1)
  ·obtain ⟨g2,B2,a1,a2⟩:=oldHas e1 k1
   exact Nat.lt_of_lt_of_le (hrg.lt r1 g2 π o B2 a1 a2 v1) hr2.bl.size
  ·rcases newHas e1 k1 with ⟨rfl,rfl,rfl,_⟩ | ⟨hne,e1⟩
   ·refine ⟨⟨hmine.1.own,fun s => ?_⟩,?_⟩
    ·rw [← eI];exact hminej.1.fz s
    ·rw [← eI];exact hminej.2
   ·exact (hrg.own r1 g1 π B e1 k1 v1).later (hother r1 g1 π true B e1 k1 hne v1)
  ·obtain ⟨g3,B3,a1,a2⟩:=oldHas e1 k1
   obtain ⟨g4,B4,a3,a4⟩:=oldHas e2 k2
   exact hrg.dj r1 r2 g3 g4 π π' o' B3 B4 a1 a3 a2 a4 v1 v2 hne
end
end Go.Sy
end
section
namespace Go.Sy
open Go Go.RowKit
universe u
section
variable {P : Program} {Γ : Glob} {E : Env} {M : Nat → Prop} {w0 : World} {ρ ρ' : Keys} {st : St} {vs : Fv} {a : Act} {w : World}
theorem Ctr.fn_okX (hP : ProgOk P Γ E) {f : FuncId} {b : Body} (hf : BodyOk P f b) {d : Nat} {F : List Tm → List Reg → Option (List Duty × Tm)}
  (H : ∀ args rg q t,F args rg = some (q,t) → obl q → t.plain = true ∧ ∃ is args' rg',Passed args rg is args' rg' ∧ ∃ Kx,evTop E d b args' rg' Kx ∧ ∀ x st,Kx x st → eqT x t) : Ctr.Ok P Γ f (.fn F):=by
 intro args rg q t hF hq M w0 ρ w us hl hgn hgl hargs hrg
 obtain ⟨hpl,is,args',rg',hp,Kx,hev,hKx⟩:=H args rg q t hF hq
 refine (top_sound hP hf hev hgn hgl (paTs_sound hp.args hargs) (hrg.passed hp)).mono ?_
 rintro e w' ⟨v,st',ρ',x,a',_,rfl,_,hx,hkx,hb⟩
 have heq:=hKx _ _ hkx
 exact ⟨v,rfl,Tm.plain_ok hpl (eqT_sound heq hx),hb⟩
def At.vd (r : Nat) : At → At
 | .v (.slice none 0 0) => .sl r [] 0 0
 | .z => .sl r [] 0 0
 | x => x
inductive resW (K : Res → Prop) : Tm → St → Prop
 | base {x st} (h : resK K x st) : resW K x st
 | void {x st} (e : TypeId) (tg : List CK) (htg : tg ≠ []) (h : resW K (x.mapA (At.vd st.rg.length)) (st.push [.arr e tg [] true true])) : resW K x st
theorem At.vd_ok {N r : Nat} {x : At} {y : Value} (hr : r < N) (hv : (ρ r []).void = true) (h : x.ok N ρ y) : (x.vd r).ok N ρ y:=by
 unfold At.vd
 split
 ·obtain ⟨rfl,_⟩:=h
  exact ⟨hr,fun _ => ⟨rfl,_,rfl⟩,fun h => by rw [hv] at h;cases h⟩
 ·obtain ⟨a,rfl⟩:=h
  exact ⟨hr,fun _ => ⟨rfl,_,rfl⟩,fun h => by rw [hv] at h;cases h⟩
 ·exact h
theorem okL_vd {N r : Nat} (hr : r < N) (hv : (ρ r []).void = true) : ∀ {l : List At} {ys : List Value},okL (At.ok N ρ) l ys → okL (At.ok N ρ) (l.map (At.vd r)) ys
 | [],[],_ => trivial
 | [],_ :: _,h => h.elim
 | _ :: _,[],h => h.elim
 | _ :: _,_ :: _,h => ⟨At.vd_ok hr hv h.1,okL_vd hr hv h.2⟩
theorem c1_vd {N r : Nat} {x : C1} {y : Value} (hr : r < N) (hv : (ρ r []).void = true) (h : x.ok N ρ y) : (x.mapA (At.vd r)).ok N ρ y:=by
 cases x with
 | a x => exact At.vd_ok hr hv h
 | agg l => obtain ⟨ys,rfl,h⟩:=h;exact ⟨ys,rfl,okL_vd hr hv h⟩
theorem okC_vd {N r : Nat} (hr : r < N) (hv : (ρ r []).void = true) : ∀ {l : List C1} {ys : List Value},okL (C1.ok N ρ) l ys → okL (C1.ok N ρ) (l.map (C1.mapA (At.vd r))) ys
 | [],[],_ => trivial
 | [],_ :: _,h => h.elim
 | _ :: _,[],h => h.elim
 | _ :: _,_ :: _,h => ⟨c1_vd hr hv h.1,okC_vd hr hv h.2⟩
theorem tm_vd {N r : Nat} {x : Tm} {y : Value} (hr : r < N) (hv : (ρ r []).void = true) (h : x.ok N ρ y) : (x.mapA (At.vd r)).ok N ρ y:=by
 cases x with
 | a x => exact At.vd_ok hr hv h
 | agg l => obtain ⟨ys,rfl,h⟩:=h;exact ⟨ys,rfl,okL_vd hr hv h⟩
 | tup l => obtain ⟨ys,rfl,h⟩:=h;exact ⟨ys,rfl,okC_vd hr hv h⟩
theorem resW_go {K : Res → Prop} {x : Tm} {st : St} (hk : resW K x st) : ∀ {ρ : Keys} {y : Value},Rel Γ M w0 ρ st vs a w → x.ok st.rg.length ρ y → ∃ x' st' ρ',Rel Γ M w0 ρ' st' vs a w ∧ x'.ok st'.rg.length ρ' y ∧ resK K x' st':=by
 induction hk with
 | base h => exact fun hr hx => ⟨_,_,_,hr,hx,h⟩
 | @void x st e tg htg h ih =>
   intro ρ y hr hx
   have hv:=hr.voidArr e htg
   refine ih hv ?_
   have hx':=hx.mono (N':=(st.push [.arr e tg [] true true]).rg.length) (ρ':=setρ ρ st.rg.length fun _ => { noRI with m:=tg.length }) (by simp [St.push]) (fun r hr π => by rw [setρ_lt hr])
   exact tm_vd (by simp [St.push]) (by rw [setρ_at];rfl) hx'
theorem Ctr.new_okW (hP : ProgOk P Γ E) {f : FuncId} {b : Body} (hf : BodyOk P f b) {d : Nat} {C : List Tm → List Reg → (Res → Prop) → Prop}
  (H : ∀ args rg K,C args rg K → ∃ is args' rg',Passed args rg is args' rg' ∧ ∃ Kx,evTop E d b args' rg' Kx ∧ ∀ x st,Kx x st → resW K x st) : Ctr.Ok P Γ f (.new C):=by
 intro args rg K hC M w0 ρ w us hl hgn hgl hargs hrg
 obtain ⟨is,args',rg',hp,Kx,hev,hKx⟩:=H args rg K hC
 refine (top_sound hP hf hev (fun b hb => Nat.lt_of_lt_of_le (hgn b hb).2 hl) hgl (paTs_sound hp.args hargs) (hrg.passed hp)).mono ?_
 rintro e w' ⟨v,st',ρ',x,a',_,rfl,hr',hx,hkx,hb⟩
 obtain ⟨x,st',ρ',hr',hx,⟨res,js,hK,hreg,hlt,heq⟩⟩:=resW_go (hKx _ _ hkx) hr' hx
 have hget:=resRegs_get hreg
 let ρ1 : Keys:=fun r => if r < rg.length then ρ r else ρ' (js.getD (r - rg.length) 0)
 have e1 : ∀ r,r < rg.length → ρ1 r = ρ r:=fun r hr => by simp [ρ1,hr]
 have e2 : ∀ r,ρ1 (rg.length + r) = ρ' (js.getD r 0):=fun r => by
  show (if rg.length + r < rg.length then _ else _) = _
  rw [if_neg (by omega),Nat.add_sub_cancel_left]
 have hv : (res.tm.ren (fun r => rg.length + r)).ok (rg.length + res.rg.length) ρ1 v :=
  Tm.ren_ok res.rg.length (f:=fun r => js.getD r 0) (ρ:=ρ') (N:=st'.rg.length) (fun r hr => by omega) (fun r _ => e2 r) hlt (eqT_sound heq hx)
 refine ⟨v,res,ρ1,rfl,hK,hb,fun r hr π => by rw [e1 r hr],hv,?_⟩
 have hold:=hrg.later hb.size hb.block
 have key : ∀ (r : Nat) (g : Reg),(rg ++ res.rg)[r]? = some g → (r < rg.length ∧ rg[r]? = some g ∧ ρ1 r = ρ r) ∨ (∃ s i,r = rg.length + s ∧ res.rg[s]? = some g ∧ js[s]? = some i ∧ st'.rg[i]? = some g ∧ g.out = true ∧ ρ1 r = ρ' i):=by
  intro r g hr
  rcases Nat.lt_or_ge r rg.length with hl | hl
  ·rw [List.getElem?_append_left hl] at hr;exact .inl ⟨hl,hr,e1 r hl⟩
  ·rw [List.getElem?_append_right hl] at hr
   obtain ⟨i,h1,h2,h3⟩:=hget _ g hr
   refine .inr ⟨r - rg.length,i,by omega,hr,h1,h2,h3,?_⟩
   rw [show r = rg.length + (r - rg.length) by omega,e2]
   simp [List.getD,h1]
 have fresh : ∀ (i : Nat) (g : Reg),st'.rg[i]? = some g → g.out = true → ∀ π o B,g.has π o B → (ρ' i π).void = false → w.heap.size ≤ (ρ' i π).b:=by
  intro i g hi ho π o B hh hvd
  obtain rfl:=out_has ho hh
  have:=hr'.rs.own i g π B hi hh hvd
  have : False ∨ w.heap.size ≤ (ρ' i π).b:=by cases B with | box => exact this.own | map => exact this.own | mps => exact this.own | it => exact this.own | lp => exact this.own | arr => exact this.1.own
  exact this.elim False.elim id
 refine ⟨fun r g π o B hr hh => ?_,fun r g π o B hr hh hvd => ?_,fun r g π B hr hh hvd => ?_,fun r r' g g' π π' o' B B' h1 h2 k1 k2 v1 v2 hne => ?_⟩
 ·rcases key r g hr with ⟨hl,hg,he⟩ | ⟨s,i,rfl,_,_,hg,ho,he⟩
  ·exact (hold.blk r g π o B hg hh).later (fun π => by rw [he]) (Nat.le_add_right _ _) (fun r hr π => by rw [e1 r hr]) (fun _ => rfl)
  ·have hb:=hr'.rs.blk i g π o B hg hh
   cases B with
   | arr A => show Ar.lies w' (ρ1 (rg.length + s)) π A;rw [he];exact hb
   | map k c es =>
     obtain ⟨b1,b2,b3⟩:=hb
     exact ⟨b1,by rw [he];exact b2,by rw [he];exact b3⟩
   | mps kk tg es =>
     obtain ⟨b1,b2,b3⟩:=hb
     exact ⟨b1,by rw [he];exact b2,by rw [he];exact b3⟩
   | it =>
     cases g with
     | dead => cases ho
     | iter => cases ho
     | lp => cases ho
     | map => obtain ⟨_,_,hB⟩:=hh;cases hB
     | mps => rcases hh with ⟨_,_,hB⟩ | ⟨_,_,_,_,_,hB⟩ <;> cases hB
     | box => obtain ⟨_,_,hB⟩:=hh;cases hB
     | arr => obtain ⟨_,A,_,hA⟩:=hh;cases hA
   | lp =>
     cases g with
     | dead => cases ho
     | iter => cases ho
     | lp => cases ho
     | map => obtain ⟨_,_,hB⟩:=hh;cases hB
     | mps => rcases hh with ⟨_,_,hB⟩ | ⟨_,_,_,_,_,hB⟩ <;> cases hB
     | box => obtain ⟨_,_,hB⟩:=hh;cases hB
     | arr => obtain ⟨_,A,_,hA⟩:=hh;cases hA
   | box l =>
     obtain ⟨b1,b2,b3,b4⟩:=hb
     refine ⟨b1,by rw [he];exact b2,by rw [he];exact b3,fun j x hxj => ?_⟩
     obtain ⟨y,hy,hc⟩:=b4 j x hxj
     have hpl : allL At.plain l = true:=by
      cases g with
      | dead => cases ho
      | map => obtain ⟨_,_,hB⟩:=hh;cases hB
      | mps => rcases hh with ⟨_,_,hB⟩ | ⟨_,_,_,_,_,hB⟩ <;> cases hB
      | iter => cases ho
      | lp => cases ho
      | arr => obtain ⟨_,A,_,hA⟩:=hh;cases hA
      | box o1 l1 =>
        obtain ⟨_,_,hB⟩:=hh
        injection hB with hB
        subst hB
        cases o1 with
        | false => cases ho
        | true => exact ho
     exact ⟨y,At.plain_ok (allL_forall hpl x (List.mem_of_getElem? hxj)) hy,by rw [he];exact hc⟩
 ·rcases key r g hr with ⟨hl,hg,he⟩ | ⟨s,i,rfl,_,_,hg,ho,he⟩
  ·rw [he] at hvd ⊢;exact hold.lt r g π o B hg hh hvd
  ·rw [he] at hvd ⊢;exact hr'.rs.lt i g π o B hg hh hvd
 ·rcases key r g hr with ⟨hl,hg,he⟩ | ⟨s,i,rfl,_,_,hg,ho,he⟩
  ·rw [he] at hvd ⊢;exact hold.own r g π B hg hh hvd
  ·rw [he] at hvd ⊢
   have hm:=hr'.rs.own i g π B hg hh hvd
   have hfr:=fresh i g hg ho π true B hh hvd
   cases B with
   | box l => exact ⟨.inr (Nat.le_trans hl hfr),hm.fz⟩
   | map => exact ⟨.inr (Nat.le_trans hl hfr),hm.fz⟩
   | mps => exact ⟨.inr (Nat.le_trans hl hfr),hm.fz⟩
   | it => exact ⟨.inr (Nat.le_trans hl hfr),hm.fz⟩
   | lp => exact ⟨.inr (Nat.le_trans hl hfr),hm.fz⟩
   | arr A => exact ⟨⟨.inr (Nat.le_trans hl hfr),hm.1.fz⟩,hm.2⟩
 ·rcases key r g h1 with ⟨_,hg,he⟩ | ⟨s,i,q1,_,q2,hg,ho,he⟩ <;> rcases key r' g' h2 with ⟨_,hg',he'⟩ | ⟨s',i',q1',_,q2',hg',ho',he'⟩
  ·rw [he] at v1 ⊢;rw [he'] at v2 ⊢;exact hrg.dj r r' g g' π π' o' B B' hg hg' k1 k2 v1 v2 hne
  ·rw [he] at v1 ⊢;rw [he'] at v2 ⊢
   have:=hrg.lt r g π true B hg k1 v1
   have:=fresh i' g' hg' ho' π' o' B' k2 v2
   omega
  ·rw [he] at v1 ⊢;rw [he'] at v2 ⊢
   have:=hrg.lt r' g' π' o' B' hg' k2 v2
   have:=fresh i g hg ho π true B k1 v1
   omega
  ·rw [he] at v1 ⊢;rw [he'] at v2 ⊢
   refine hr'.rs.dj i i' g g' π π' o' B B' hg hg' k1 k2 v1 v2 fun hii => hne ⟨?_,hii.2⟩
   rw [← hii.1] at q2'
   rw [q1,q1',resRegs_inj hreg s s' i q2 q2']
theorem Ctr.new_okX (hP : ProgOk P Γ E) {f : FuncId} {b : Body} (hf : BodyOk P f b) {d : Nat} {C : List Tm → List Reg → (Res → Prop) → Prop}
  (H : ∀ args rg K,C args rg K → ∃ is args' rg',Passed args rg is args' rg' ∧ ∃ Kx,evTop E d b args' rg' Kx ∧ ∀ x st,Kx x st → resK K x st) : Ctr.Ok P Γ f (.new C) :=
 Ctr.new_okW hP hf fun args rg K hC => by
  obtain ⟨is,args',rg',hp,Kx,hev,hKx⟩:=H args rg K hC
  exact ⟨is,args',rg',hp,Kx,hev,fun x st h => .base (hKx x st h)⟩
def isT (b : Bool) : Prop:=match b with | true => True | false => False
theorem isT_iff {b : Bool} : isT b ↔ b = true:=by cases b <;> simp [isT]
def atB : At → At → Bool
 | .tt,.tt => true
 | .ff,.ff => true
 | .tt,.v (.bool b) => b
 | .ff,.v (.bool b) => !b
 | .v (.bool b),.v (.bool c) => b == c
 | .v (.int k a),.v (.int k' b) => sameKind k k' && (a == b)
 | .v (.slice none 0 0),.v (.slice none 0 0) => true
 | _,_ => false
theorem atB_sound {x y : At} (h : atB x y = true) : eqA x y:=by
 unfold atB at h
 split at h
 ·trivial
 ·trivial
 ·exact h
 ·rename_i b;cases b;rfl;cases h
 ·exact eq_of_beq h
 ·simp only [Bool.and_eq_true,beq_iff_eq] at h;exact ⟨sameKind_eq h.1,h.2⟩
 ·rfl
 ·cases h
def c1B : C1 → C1 → Bool
 | .a x,.a y => atB x y
 | _,_ => false
def c1sB : List C1 → List C1 → Bool
 | [],[] => true
 | x :: xs,y :: ys => c1B x y && c1sB xs ys
 | _,_ => false
theorem c1B_sound {x y : C1} (h : c1B x y = true) : eqC x y:=by
 cases x <;> cases y <;> first | exact atB_sound h | cases h
theorem c1sB_sound : ∀ {l l' : List C1},c1sB l l' = true → eqCs l l'
 | [],[],_ => trivial
 | _ :: _,_ :: _,h => by simp only [c1sB,Bool.and_eq_true] at h;exact ⟨c1B_sound h.1,c1sB_sound h.2⟩
def tmB : Tm → Tm → Bool
 | .a x,.a y => atB x y
 | .tup l,.tup l' => c1sB l l'
 | _,_ => false
theorem tmB_sound {x y : Tm} (h : tmB x y = true) : eqT x y:=by
 cases x <;> cases y <;> first | exact atB_sound h | exact c1sB_sound h | cases h
def tupsB (tg : List CK) : List (Tup tg) → List (Tup tg) → Bool
 | [],[] => true
 | x :: xs,y :: ys => Tup.beq tg x y && tupsB tg xs ys
 | _,_ => false
def noStr : List CK → Bool
 | [] => true
 | .int _ :: l => noStr l
 | .bool :: l => noStr l
 | _ => false
theorem tup_beq : ∀ {tg : List CK} {x y : Tup tg},noStr tg = true → Tup.beq tg x y = true → x = y:=by
 have one : ∀ {c : CK} {x y : c.ty},noStr [c] = true → c.beq x y = true → x = y:=by
  intro c x y hn h
  cases c with
  | int k => exact eq_of_beq (α:=Int) h
  | bool => exact eq_of_beq (α:=Bool) h
  | str => cases hn
  | sl => cases hn
 intro tg
 induction tg with
 | nil => intro x y _ _;rfl
 | cons c cs ih =>
   intro x y hn h
   have h1 : noStr [c] = true:=by cases c <;> first | rfl | cases hn
   have h2 : noStr cs = true:=by cases c <;> first | exact hn | cases hn
   cases cs with
   | nil => exact one h1 h
   | cons c' cs =>
     simp only [Tup.beq,Bool.and_eq_true] at h
     exact Prod.ext (one h1 h.1) (ih h2 h.2)
theorem tupsB_eq {tg : List CK} (hn : noStr tg = true) : ∀ {xs ys : List (Tup tg)},tupsB tg xs ys = true → xs = ys
 | [],[],_ => rfl
 | x :: xs,y :: ys,h => by
   simp only [tupsB,Bool.and_eq_true] at h
   rw [tup_beq hn h.1,tupsB_eq hn h.2]
def regB (te : TypeId) (tg : List CK) (xs : List (Tup tg)) (g : Reg) : Bool :=
 match g with
 | .arr te' tg' ys true true => (match natEq te' te,tagEq tg' tg with | some _,some h => tupsB tg (castL h.down ys) xs | _,_ => false)
 | _ => false
theorem regB_sound {te : TypeId} {tg : List CK} {xs : List (Tup tg)} {g : Reg} (hn : noStr tg = true) (h : regB te tg xs g = true) : g = .arr te tg xs true true:=by
 unfold regB at h
 split at h
 ·split at h
  ·rename_i h1 h2 _ _
   obtain rfl:=h1.down
   obtain rfl:=h2.down
   have h:=tupsB_eq hn h
   rw [← h];rfl
  ·cases h
 ·cases h
def slB (te : TypeId) (tg : List CK) (xs : List (Tup tg)) (r : List C1) (x : Tm) (st : St) : Bool :=
 match x with
 | .tup (.a (.sl i [] 0 n) :: l) => Nat.beq n xs.length && regB te tg xs (st.rg.getD i .dead) && c1sB l r
 | _ => false
def C1.pl : C1 → Bool
 | .a (.v _) => true
 | .a .tt => true
 | .a .ff => true
 | _ => false
theorem pl_lt {n : Nat} : ∀ {r : List C1},allL C1.pl r = true → allL (C1.lt n) r = true
 | [],_ => rfl
 | x :: r,h => by
   simp only [allL] at h ⊢
   split at h
   ·rename_i hx
    have : x.lt n = true:=by
     unfold C1.pl at hx
     split at hx <;> first | rfl | cases hx
    rw [this];exact pl_lt h
   ·cases h
theorem pl_ren {f : Nat → Nat} : ∀ {r : List C1},allL C1.pl r = true → r.map (C1.mapA (At.ren f)) = r
 | [],_ => rfl
 | x :: r,h => by
   simp only [allL] at h
   split at h
   ·rename_i hx
    have : x.mapA (At.ren f) = x:=by
     unfold C1.pl at hx
     split at hx <;> first | rfl | cases hx
    rw [List.map_cons,this,pl_ren h]
   ·cases h
theorem slB_sound {te : TypeId} {tg : List CK} {xs : List (Tup tg)} {r : List C1} {x : Tm} {st : St} {K : Res → Prop} (hn : noStr tg = true) (hr : allL C1.pl r = true) (hK : K ⟨[.arr te tg xs true true],.tup (.a (.sl 0 [] 0 xs.length) :: r)⟩) (h : slB te tg xs r x st = true) : resK K x st:=by
 unfold slB at h
 split at h
 ·rename_i i n l
  simp only [Bool.and_eq_true] at h
  obtain ⟨⟨h1,h2⟩,h3⟩:=h
  obtain rfl:=Nat.eq_of_beq_eq_true h1
  refine ⟨_,[i],hK,⟨regB_sound hn h2,rfl,(by simp),trivial⟩,?_,?_⟩
  ·exact (pl_lt hr : allL (C1.lt 1) r = true)
  ·show eqCs _ (_ :: r.map _)
   exact ⟨⟨rfl,rfl,rfl,rfl⟩,by rw [pl_ren hr];exact c1sB_sound h3⟩
 ·cases h
end
end Go.Sy
end
section
namespace Go.Sy
open Go Go.RowKit Go.Sort
universe u
section
variable {P : Program} {Γ : Glob} {M : Nat → Prop} {w0 : World} {ρ : Keys} {w : World}
theorem ProgOk.ifcs {E : Env} (h : ProgOk P Γ E) (g : TypeId → Bool) (hg : ∀ t,g t = true → P.underlying t = some (.interface (P.methodsAt t))) : ProgOk P Γ { E with ifc:=g }:=⟨h.mixed,h.fn,h.inl,{ h.env with ifc:=hg }⟩
end
end Go.Sy
end
