/-
  Texts of the claims: Yk2t. No condition: lemmas and contracts.
-/
import Derived.Test.YtcmojakklijgfaaGreatDoorYk1t
import Derived.Test.YtcmojakklijgfaaGreatDoorPl1t
import Derived.Test.YtcmojakklijgfaaGreatDoorSy5t
import Derived.Test.YtcmojakklijgfaaGreatDoorCards
import Derived.Test.YtcmojakklijgfaaGreatDoorTie
import Derived.ProofKit
import Derived.Deep.DeepHandedRow
import Derived.Deep.Slices
import Derived.Lib.LaidTab
import Derived.Lib.SmallJoins
import Derived.Stop.LaidErr
import Derived.Carry
set_option linter.all false
set_option maxRecDepth 100000
set_option maxHeartbeats 4000000
section
namespace Go.Proofs.YtcmojakklijgfaaGreatDoor
open Go Go.Sy Go.Chn
variable {Γ : Glob}
noncomputable def b74 : Body:=⟨Tryz.f45.ntmps,(match Tryz.f45.body with | some c => c | none => .skip),Tryz.f45.results.toList⟩
noncomputable def b89 : Body:=⟨Tryz.f63.ntmps,(match Tryz.f63.body with | some c => c | none => .skip),Tryz.f63.results.toList⟩
noncomputable def b95 : Body:=⟨Tryz.f80.ntmps,(match Tryz.f80.body with | some c => c | none => .skip),Tryz.f80.results.toList⟩
def L3 : List (Nat × Ctr):=[(37,c72)]
theorem L3_ok : CsOk Tryz.prog Γ L3:=CsOk.nil.cons (body_of Tryz.func37 rfl rfl).fn c72_ok
noncomputable def bs74 : List (Nat × Body):=[(63,b89),(80,b95)]
def ord74 (id : Nat) : Option (List Nat):=match Nat.beq id 12 with | true => some [0,1,2,3,5,6,9,10,4,7,8,11] | false => none
noncomputable def e74 : Env:={ tabs.env L3 bs74 false 0 with ord:=ord74 }
theorem _root_.Go.Sy.ProgOk.ords {E : Env} (h : ProgOk Tryz.prog Γ E) (o : Nat → Option (List Nat)) : ProgOk Tryz.prog Γ { E with ord:=o }:=⟨h.mixed,h.fn,h.inl,{ h.env with }⟩
theorem bs74_ok : BsOk Tryz.prog bs74:=(BsOk.nil.cons (body_of Tryz.func80 rfl rfl)).cons (body_of Tryz.func63 rfl rfl)
theorem e74_ok : ProgOk Tryz.prog Γ e74:=(prog_ok L3_ok bs74_ok false 0).ords ord74
noncomputable def rangeOf (c : Code) : Option (Code × Code) :=
 Code.rec (motive:=fun _ => Option (Code × Code)) none (fun _ _ _ => none) (fun _ _ fa fb => match fa with | some x => some x | none => fb) (fun _ _ _ fa fb => match fa with | some x => some x | none => fb)
  (fun _ _ f => f) (fun _ f => f) (fun _ _ a b _ _ => some (a,b)) (fun _ => none) (fun _ f => f) (fun _ => none) (fun _ => none) none (fun _ => none) c
noncomputable def asg74 : Code:=match rangeOf b74.code with | some (a,_) => a | none => .skip
noncomputable def body74 : Code:=match rangeOf b74.code with | some (_,b) => b | none => .skip
def hitP (L : List Lk) (es : List (Int × Bool)) (k i : Nat) : Prop:=(lk L i).2.1 = (lk L k).2.1 ∧ mget es (i : Int) false = false ∧ i ≠ k ∧ (lk L i).1 = (lk L k).1 ∧ (lk L i).2.2 ≤ (lk L k).2.2
theorem get0 {L : List Lk} (i : Nat) : Ar.get ⟨54,kL,L⟩ (0 + (i : Int).toNat) = lk L i:=by rw [Nat.zero_add,Int.toNat_natCast];rfl
section
variable {L : List Lk} {es : List (Int × Bool)} {k i : Nat} {d : Bool} {x y z : Int}
theorem nh1 (e2 : (lk L i).2.1 = y) (h : (y == (lk L k).2.1) = false) : ¬ hitP L es k i:=fun hh => by
 rw [beq_eq_false_iff_ne] at h;exact h (e2.symm.trans hh.1)
theorem nh2 (h : mget es (i : Int) false = d) (h2 : (!d) = false) : ¬ hitP L es k i:=fun hh => by
 rw [hh.2.1] at h;subst h;cases h2
theorem nh3 (h : ((i : Int) != (k : Int)) = false) : ¬ hitP L es k i:=fun hh => by
 have : (i : Int) = k:=by simpa using h
 exact hh.2.2.1 (by omega)
theorem nh4 (e1 : (lk L i).1 = x) (h : (x == (lk L k).1) = false) : ¬ hitP L es k i:=fun hh => by
 rw [beq_eq_false_iff_ne] at h;exact h (e1.symm.trans hh.2.2.2.1)
theorem nh5 (e1 : (lk L i).1 = x) (e2 : (lk L i).2.1 = y) (e3 : (lk L i).2.2 = z) (h : decide (z < (lk L k).2.2) = false) (h2 : (x == (lk L k).1 && (y == (lk L k).2.1 && (z == (lk L k).2.2 && true))) = false) : ¬ hitP L es k i:=fun hh => by
 subst e1 e2 e3
 rw [decide_eq_false_iff_not] at h
 have e3 : (lk L i).2.2 = (lk L k).2.2:=by have:=hh.2.2.2.2;omega
 simp [hh.1,hh.2.2.2.1,e3] at h2
theorem hit_t {r : Bool} (hT : ∀ i,i < L.length → hitP L es k i → r = true) (hi : i < L.length) (e1 : (lk L i).1 = x) (e2 : (lk L i).2.1 = y) (e3 : (lk L i).2.2 = z) (h1 : (y == (lk L k).2.1) = true) (h2 : mget es (i : Int) false = d) (h3 : (!d) = true) (h4 : ((i : Int) != (k : Int)) = true)
  (h5 : (x == (lk L k).1) = true) (h6 : decide (z < (lk L k).2.2) = true ∨ (x == (lk L k).1 && (y == (lk L k).2.1 && (z == (lk L k).2.2 && true))) = true) : r = true:=by
 subst e1 e2 e3
 refine hT i hi ⟨by simpa using h1,by rw [h2];simpa using h3,fun e => by subst e;simp at h4,by simpa using h5,?_⟩
 rcases h6 with h6 | h6
 ·have:=of_decide_eq_true h6;omega
 ·simp only [Bool.and_true,Bool.and_eq_true,beq_iff_eq] at h6;omega
end
theorem bounds_len {N : Nat} {L : List Lk} {es : List (Int × Bool)} {v : Int} (ha : AskL N L) (hv : inN N v) : (boundsF N L es v).length = N:=(relax_found (es:=es) ha.ok (from0_beg hv)).len
theorem bounds_congr {N : Nat} {L : List Lk} {es es' : List (Int × Bool)} (h : ∀ i : Nat,mgb es i = mgb es' i) {v : Int} : boundsF N L es v = boundsF N L es' v:=by unfold boundsF;rw [relax_congr h]
def lessF (es : List (Int × Bool)) (k : Nat) : List (Int × Bool):=((k : Int),true) :: es.map fun p => (p.1,true)
theorem map_mgb (n : Int) : ∀ (es : List (Int × Bool)),mgb (es.map fun p => (p.1,true)) n = es.any (fun p => p.1 == n)
 | [] => rfl
 | (a,b) :: es => by
   rw [List.map_cons,List.any_cons,← map_mgb n es]
   conv => lhs;unfold mgb
   cases h : a == n <;> rfl
theorem less_mgb (es : List (Int × Bool)) (k i : Nat) : mgb (lessF es k) i = (decide (i = k) || es.any (fun p => p.1 == (i : Int))):=by
 unfold lessF
 rw [← map_mgb]
 conv => lhs;unfold mgb
 by_cases h : i = k
 ·subst h;simp
 ·have : ((k : Int) == (i : Int)) = false:=by rw [beq_eq_false_iff_ne];omega
  rw [this];simp [h]
theorem mset_mgb (n : Int) (i : Int) : ∀ (es : List (Int × Bool)),mgb (mset es n true) i = (n == i || mgb es i)
 | [] => by
   show mgb [(n,true)] i = _
   unfold mgb mgb
   cases n == i <;> rfl
 | (a,b) :: es => by
   have ih:=mset_mgb n i es
   unfold mset
   cases h : a == n with
   | true =>
     have h' : a = n:=by simpa using h
     subst h'
     simp only
     unfold mgb
     cases a == i <;> rfl
   | false =>
     simp only
     conv => lhs;unfold mgb
     conv => rhs;unfold mgb
     rw [ih]
     cases h2 : a == i with
     | true =>
       have h3 : a = i:=by simpa using h2
       subst h3
       have : (n == a) = false:=by rw [beq_eq_false_iff_ne] at h ⊢;exact fun e => h e.symm
       rw [this];rfl
     | false => rfl
theorem memN_iff {r : Nat} : ∀ {l : List Nat},memN r l = true ↔ r ∈ l
 | [] => by simp [memN]
 | x :: l => by
   simp only [memN,List.mem_cons]
   split
   ·rename_i h;exact ⟨fun _ => .inl (Nat.eq_of_beq_eq_true h).symm,fun _ => rfl⟩
   ·rename_i h
    rw [memN_iff]
    exact ⟨.inr,fun hh => hh.resolve_left (fun e => by subst e;simp at h)⟩
theorem seen_all {es : List (Int × Bool)} {seen : List Nat} (hall : ∀ j,j < es.length → memN j seen = true) (hs : ∀ j ∈ seen,j < es.length) (i : Int) : seen.any (fun j => (es.getD j (0,false)).1 == i) = es.any (fun p => p.1 == i):=by
 rw [Bool.eq_iff_iff]
 simp only [List.any_eq_true]
 constructor
 ·rintro ⟨j,hj,h⟩
  have hl:=hs j hj
  rw [List.getD_eq_getElem?_getD,List.getElem?_eq_getElem hl] at h
  exact ⟨es[j],List.getElem_mem hl,h⟩
 ·rintro ⟨p,hp,h⟩
  obtain ⟨j,hj,rfl⟩:=List.getElem_of_mem hp
  exact ⟨j,memN_iff.1 (hall j hj),by rw [List.getD_eq_getElem?_getD,List.getElem?_eq_getElem hj];exact h⟩
theorem seen_len {n : Nat} {seen : List Nat} (hd : seen.Nodup) (hs : ∀ j ∈ seen,j < n) : seen.length ≤ n:=by
 have:=nodup_le n (seen.map fun j : Nat => (j : Int)) (by
  rw [List.nodup_iff_pairwise_ne,List.pairwise_map]
  exact hd.imp fun h e => h (by omega)) (fun x hx => by
   obtain ⟨j,hj,rfl⟩:=List.mem_map.1 hx
   have:=hs j hj
   omega)
 simpa using this
structure SeenI (es : List (Int × Bool)) (k : Nat) (p : List Nat × List (Int × Bool)) : Prop where
 nd : p.1.Nodup
 lt : ∀ j ∈ p.1,j < es.length
 get : ∀ i : Nat,mgb p.2 i = (decide (i = k) || p.1.any (fun j => (es.getD j (0,false)).1 == (i : Int)))
theorem SeenI.zero (es : List (Int × Bool)) (k : Nat) : SeenI es k ([],mset [] (k : Int) true):=⟨List.nodup_nil,by simp,fun i => by
 rw [mset_mgb]
 simp only [mgb,Bool.or_false,List.any_nil]
 by_cases h : i = k
 ·subst h;simp
 ·rw [decide_eq_false h,beq_eq_false_iff_ne];omega⟩
theorem SeenI.step {es : List (Int × Bool)} {k : Nat} {p : List Nat × List (Int × Bool)} (h : SeenI es k p) {j : Nat} (hj : j < es.length) (hm : memN j p.1 = false) : SeenI es k (j :: p.1,mset p.2 (es.getD j (0,false)).1 true) :=
 ⟨List.nodup_cons.2 ⟨fun hh => (by rw [memN_iff.2 hh] at hm;cases hm),h.nd⟩,fun i hi => by rcases List.mem_cons.1 hi with rfl | hi;exact hj;exact h.lt i hi,fun i => by
   rw [mset_mgb,h.get,List.any_cons]
   cases (es.getD j (0,false)).1 == (i : Int) <;> simp⟩
theorem SeenI.less {es : List (Int × Bool)} {k : Nat} {p : List Nat × List (Int × Bool)} (h : SeenI es k p) {j : Nat} (hj : j < es.length) (hm : memN j p.1 = false) : es.length - (j :: p.1).length < es.length - p.1.length:=by
 have:=seen_len (h.step hj hm).nd (h.step hj hm).lt
 simp only [List.length_cons] at this ⊢
 omega
theorem SeenI.done {es : List (Int × Bool)} {k : Nat} {p : List Nat × List (Int × Bool)} (h : SeenI es k p) (hall : ∀ j,j < es.length → memN j p.1 = true) : ∀ i : Nat,mgb p.2 i = mgb (lessF es k) i:=fun i => by
 rw [h.get,less_mgb,seen_all hall h.lt]
theorem idle_map {N : Nat} {L : List Lk} {k : Nat} {es : List (Int × Bool)} (ha : AskL N L) (hk : k < L.length) {r : Bool} (hT : ∀ i,i < L.length → hitP L es k i → r = true)
  (hF : (∀ i,i < L.length → ¬ hitP L es k i) → r = decide (gi (boundsF N L (lessF es k) (lk L k).1) (lk L k).2.1 ≤ (lk L k).2.2)) :
  evTop e74 3 b74 [.agg [vI N,.sl 0 [] 0 L.length],.a (.mp 1),.a (vI k)] [.arr 54 kL L false false,.map 90 .i64 .bool es false] (fun x _ => eqT x (.a (.v (.bool r)))):=by
 have hn:=ha.n
 have hl3:=ha.l
 have hlk : ∀ (i : Nat),i < L.length → (inN N (lk L i).1 ∧ inN N (lk L i).2.1) ∧ -4503599627370496 ≤ (lk L i).2.2 ∧ (lk L i).2.2 ≤ 4503599627370496:=fun i hi => by
  have hm : lk L i ∈ L:=by simp [lk,List.getD,hi]
  exact ⟨ha.ok.nd _ hm,ha.ok.ms _ hm⟩
 repeat' ((conv => whnf);(first | apply And.intro | intro _))
 all_goals try (conv => whnf)
 all_goals try exact ⟨leb9 rfl⟩
 all_goals try exact ⟨rfl⟩
 all_goals try (refine Ob.mk ?_;(try simp only [Duty.of_p,inRQ]);subst_vars;(try simp only [getL,getI,getB,castL_rfl] at *);(try dsimp only [kL,kI,Tup,CK.ty] at *);(try simp only [getL,getI,getB,gi_nn,castL_rfl,Nat.zero_add,Nat.add_zero,Nat.sub_zero,Int.toNat_natCast,List.length_set,List.length_replicate,List.length_cons,List.length_nil,decide_eq_true_eq,decide_eq_false_iff_not,cap40,inR] at *);(all_goals first | omega | (split <;> omega)))
 all_goals try trivial
 rename_i l fn T Db _ _
 subst_vars
 simp (config:={ maxSteps:=5000000 }) only [getL,Nat.zero_add,Int.toNat_natCast] at *
 refine ⟨Nat,fun i => i ≤ L.length ∧ ∀ j,j < i → ¬ hitP L es k j,fun i => ⟨slotsT 33 [0,1,2,3,8,9,10] [.a (.yl 9),.a (.p 6 [] 0 0),.a (.p 7 [] 0 0),.a (.p 8 [] 0 0),.a (.sl 0 [] 0 L.length),.a (vI L.length),.a (vI i)],[slotsT 69 [1,3,5,6,7] [.a (.mp 1),.a (.p 2 [] 0 0),.a (.p 3 [] 0 0),.a (.p 4 [] 0 0),.a (.p 5 [] 0 0)]],[.arr 54 kL L false false,.map 90 .i64 .bool es false,.box true [vI N,.sl 0 [] 0 L.length],.box true [vI k],.box true [.ff],.box true [vI (lk L k).1,vI (lk L k).2.1,vI (lk L k).2.2],.box true [vI N,.sl 0 [] 0 L.length],.box true [vI (lk L k).2.1],.box true [.mp 1],.lp l (slotsT 69 [1,3,5,6,7] [.a (.mp 1),.a (.p 2 [] 0 0),.a (.p 3 [] 0 0),.a (.p 4 [] 0 0),.a (.p 5 [] 0 0)]) { state:=.ready,pending:=none,fn:=fn,tmps:=T,params:=#[22,23],assign:=asg74,body:=body74,defers:=Db } .ready none]⟩,fun i => L.length - i,0,[],⟨Nat.zero_le _,fun j hj => absurd hj (Nat.not_lt_zero _)⟩,?_,?_⟩
 ·repeat' ((conv => whnf);(first | apply And.intro | intro _))
  all_goals first | rfl | trivial | exact leb9 rfl | exact ⟨rfl,rfl,rfl⟩ | exact ⟨rfl,rfl,rfl,rfl⟩ | exact ⟨rfl,rfl,rfl,rfl,rfl⟩
 rintro i ⟨hi,hno⟩
 by_cases hi1 : i < L.length
 ·repeat' ((conv => whnf);(first | apply And.intro | intro _))
  all_goals try (conv => whnf)
  all_goals try exact (key_ge (i:=i) (n:=L.length) hi1 (by assumption)).elim
  all_goals try exact ⟨leb9 rfl⟩
  all_goals try exact ⟨rfl⟩
  all_goals try (refine Ob.mk ?_;(try simp only [Duty.of_p,inRQ]);subst_vars;(try simp only [getL,getI,getB,castL_rfl] at *);(try dsimp only [kL,kI,Tup,CK.ty] at *);(try simp only [getL,getI,getB,gi_nn,castL_rfl,Nat.zero_add,Nat.add_zero,Nat.sub_zero,Int.toNat_natCast,List.length_set,List.length_replicate,List.length_cons,List.length_nil,decide_eq_true_eq,decide_eq_false_iff_not,cap40,inR] at *);(all_goals first | omega | (split <;> omega)))
  all_goals try (simp only [get0] at *;first
   | exact hit_t hT hi1 (by assumption) (by assumption) (by assumption) (by assumption) (by assumption) (by assumption) (by assumption) (by assumption) (.inl (by assumption))
   | exact hit_t hT hi1 (by assumption) (by assumption) (by assumption) (by assumption) (by assumption) (by assumption) (by assumption) (by assumption) (.inr (by assumption)))
  all_goals (have hnh : ¬ hitP L es k i:=by
                 simp only [get0] at *
                 first
                 | exact nh1 (by assumption) (by assumption)
                 | exact nh2 (by assumption) (by assumption)
                 | exact nh3 (by assumption)
                 | exact nh4 (by assumption) (by assumption)
                 | exact nh5 (by assumption) (by assumption) (by assumption) (by assumption) (by assumption))
  all_goals refine ⟨i + 1,[],⟨hi1,fun j hj => (Nat.lt_succ_iff_lt_or_eq.1 hj).elim (hno j) (fun e => e ▸ hnh)⟩,?_,by show L.length - (i + 1) < L.length - i;omega⟩
  all_goals repeat' ((conv => whnf);(first | apply And.intro | intro _))
  all_goals first | rfl | trivial | exact leb9 rfl | exact ⟨rfl,rfl,rfl⟩ | exact ⟨rfl,rfl,rfl,rfl⟩ | omega
 obtain rfl : L.length = i:=by omega
 repeat' ((conv => whnf);(first | apply And.intro | intro _))
 all_goals try (conv => whnf)
 all_goals try exact (key_lt (i:=L.length) (n:=L.length) hi1 (by assumption)).elim
 all_goals try exact ⟨leb9 rfl⟩
 all_goals try exact ⟨rfl⟩
 all_goals try (refine Ob.mk ?_;(try simp only [Duty.of_p,inRQ]);subst_vars;(try simp only [getL,getI,getB,castL_rfl] at *);(try dsimp only [kL,kI,Tup,CK.ty] at *);(try simp only [getL,getI,getB,gi_nn,castL_rfl,Nat.zero_add,Nat.add_zero,Nat.sub_zero,Int.toNat_natCast,List.length_set,List.length_replicate,List.length_cons,List.length_nil,decide_eq_true_eq,decide_eq_false_iff_not,cap40,inR] at *);(all_goals first | omega | (split <;> omega)))
 subst_vars
 refine ⟨List Nat × List (Int × Bool),fun p => SeenI es k p,fun p => ⟨slotsT 69 [3,6,7,10,50] [.a (.p 2 [] 0 0),.a (.p 4 [] 0 0),.a (.p 5 [] 0 0),.a (.mp 10),.a (.it 11)],[],[.arr 54 kL L false false,.map 90 .i64 .bool es false,.box true [vI N,.sl 0 [] 0 L.length],.dead,.box true [.ff],.box true [vI (lk L k).1,vI (lk L k).2.1,vI (lk L k).2.2],.dead,.dead,.dead,.dead,.map 90 .i64 .bool p.2 true,.iter (some 1) es.length p.1]⟩,fun p => es.length - p.1.length,([],mset [] (k : Int) true),[],SeenI.zero es k,?_,?_⟩
 ·repeat' ((conv => whnf);(first | apply And.intro | intro _))
  all_goals first | rfl | trivial | exact leb9 rfl | exact ⟨rfl,rfl,rfl⟩ | exact ⟨rfl,rfl,rfl,rfl⟩
 rintro p hp
 repeat' ((conv => whnf);(first | apply And.intro | intro _))
 all_goals try (conv => whnf)
 all_goals try exact Tk.mk (by kernel_rfl)
 all_goals try exact Tk.mk (by kernel_rfl)
 all_goals try exact ⟨leb9 rfl⟩
 all_goals try exact ⟨rfl⟩
 all_goals try (refine Ob.mk ?_;(try simp only [Duty.of_p,inRQ]);subst_vars;(try simp only [getL,getI,getB,castL_rfl] at *);(try dsimp only [kL,kI,Tup,CK.ty] at *);(try simp only [getL,getI,getB,gi_nn,castL_rfl,Nat.zero_add,Nat.add_zero,Nat.sub_zero,Int.toNat_natCast,List.length_set,List.length_replicate,List.length_cons,List.length_nil,decide_eq_true_eq,decide_eq_false_iff_not,cap40,inR] at *);(all_goals first | omega | (split <;> omega)))
 all_goals try first | exact rfl | exact trivial | exact ha | exact (hlk k hk).1.1.1 | exact (hlk k hk).1.1.2
 ·rename_i j hj hm fs hfs
  subst hfs
  refine ⟨(j :: p.1,mset p.2 (es.getD j (0,false)).1 true),[],hp.step hj hm,?_,hp.less hj hm⟩
  repeat' ((conv => whnf);(first | apply And.intro | intro _))
  all_goals first | rfl | trivial | exact leb9 rfl | exact ⟨rfl,rfl,rfl⟩ | exact ⟨rfl,rfl,rfl,rfl⟩
 ·exact ⟨(hlk k hk).1.2⟩
 ·refine ⟨?_⟩
  have e1:=bounds_len (es:=p.2) ha (hlk k hk).1.1
  have e2:=(hlk k hk).1.2
  show 0 + (lk L k).2.1.toNat < (boundsF N L p.2 (lk L k).1).length
  rw [e1]
  unfold inN at e2
  omega
 ·rename_i hall m hm
  subst hm
  rw [Nat.zero_add]
  show decide (gi (boundsF N L p.2 (lk L k).1) (lk L k).2.1 ≤ (lk L k).2.2) = r
  rw [hF fun i hi => hno i hi,bounds_congr (hp.done hall)]
theorem idle_nil {N : Nat} {L : List Lk} {k : Nat} (ha : AskL N L) (hk : k < L.length) {r : Bool} (hT : ∀ i,i < L.length → hitP L ([] : List (Int × Bool)) k i → r = true)
  (hF : (∀ i,i < L.length → ¬ hitP L ([] : List (Int × Bool)) k i) → r = decide (gi (boundsF N L (lessF ([] : List (Int × Bool)) k) (lk L k).1) (lk L k).2.1 ≤ (lk L k).2.2)) :
  evTop e74 3 b74 [.agg [vI N,.sl 0 [] 0 L.length],.a (.v (.map none)),.a (vI k)] [.arr 54 kL L false false] (fun x _ => eqT x (.a (.v (.bool r)))):=by
 have hn:=ha.n
 have hl3:=ha.l
 have hlk : ∀ (i : Nat),i < L.length → (inN N (lk L i).1 ∧ inN N (lk L i).2.1) ∧ -4503599627370496 ≤ (lk L i).2.2 ∧ (lk L i).2.2 ≤ 4503599627370496:=fun i hi => by
  have hm : lk L i ∈ L:=by simp [lk,List.getD,hi]
  exact ⟨ha.ok.nd _ hm,ha.ok.ms _ hm⟩
 repeat' ((conv => whnf);(first | apply And.intro | intro _))
 all_goals try (conv => whnf)
 all_goals try exact ⟨leb9 rfl⟩
 all_goals try exact ⟨rfl⟩
 all_goals try (refine Ob.mk ?_;(try simp only [Duty.of_p,inRQ]);subst_vars;(try simp only [getL,getI,getB,castL_rfl] at *);(try dsimp only [kL,kI,Tup,CK.ty] at *);(try simp only [getL,getI,getB,gi_nn,castL_rfl,Nat.zero_add,Nat.add_zero,Nat.sub_zero,Int.toNat_natCast,List.length_set,List.length_replicate,List.length_cons,List.length_nil,decide_eq_true_eq,decide_eq_false_iff_not,cap40,inR] at *);(all_goals first | omega | (split <;> omega)))
 all_goals try trivial
 rename_i l fn T Db _ _
 subst_vars
 simp (config:={ maxSteps:=5000000 }) only [getL,Nat.zero_add,Int.toNat_natCast] at *
 refine ⟨Nat,fun i => i ≤ L.length ∧ ∀ j,j < i → ¬ hitP L ([] : List (Int × Bool)) k j,fun i => ⟨slotsT 33 [0,1,2,3,8,9,10] [.a (.yl 8),.a (.p 5 [] 0 0),.a (.p 6 [] 0 0),.a (.p 7 [] 0 0),.a (.sl 0 [] 0 L.length),.a (vI L.length),.a (vI i)],[slotsT 69 [1,3,5,6,7] [.a (.v (.map none)),.a (.p 1 [] 0 0),.a (.p 2 [] 0 0),.a (.p 3 [] 0 0),.a (.p 4 [] 0 0)]],[.arr 54 kL L false false,.box true [vI N,.sl 0 [] 0 L.length],.box true [vI k],.box true [.ff],.box true [vI (lk L k).1,vI (lk L k).2.1,vI (lk L k).2.2],.box true [vI N,.sl 0 [] 0 L.length],.box true [vI (lk L k).2.1],.box true [.v (.map none)],.lp l (slotsT 69 [1,3,5,6,7] [.a (.v (.map none)),.a (.p 1 [] 0 0),.a (.p 2 [] 0 0),.a (.p 3 [] 0 0),.a (.p 4 [] 0 0)]) { state:=.ready,pending:=none,fn:=fn,tmps:=T,params:=#[22,23],assign:=asg74,body:=body74,defers:=Db } .ready none]⟩,fun i => L.length - i,0,[],⟨Nat.zero_le _,fun j hj => absurd hj (Nat.not_lt_zero _)⟩,?_,?_⟩
 ·repeat' ((conv => whnf);(first | apply And.intro | intro _))
  all_goals first | rfl | trivial | exact leb9 rfl | exact ⟨rfl,rfl,rfl⟩ | exact ⟨rfl,rfl,rfl,rfl⟩ | exact ⟨rfl,rfl,rfl,rfl,rfl⟩
 rintro i ⟨hi,hno⟩
 by_cases hi1 : i < L.length
 ·repeat' ((conv => whnf);(first | apply And.intro | intro _))
  all_goals try (conv => whnf)
  all_goals try exact (key_ge (i:=i) (n:=L.length) hi1 (by assumption)).elim
  all_goals try exact ⟨leb9 rfl⟩
  all_goals try exact ⟨rfl⟩
  all_goals try (refine Ob.mk ?_;(try simp only [Duty.of_p,inRQ]);subst_vars;(try simp only [getL,getI,getB,castL_rfl] at *);(try dsimp only [kL,kI,Tup,CK.ty] at *);(try simp only [getL,getI,getB,gi_nn,castL_rfl,Nat.zero_add,Nat.add_zero,Nat.sub_zero,Int.toNat_natCast,List.length_set,List.length_replicate,List.length_cons,List.length_nil,decide_eq_true_eq,decide_eq_false_iff_not,cap40,inR] at *);(all_goals first | omega | (split <;> omega)))
  all_goals try (simp only [get0] at *;first
   | exact hit_t hT hi1 (by assumption) (by assumption) (by assumption) (by assumption) (by assumption) (by assumption) (by assumption) (by assumption) (.inl (by assumption))
   | exact hit_t hT hi1 (by assumption) (by assumption) (by assumption) (by assumption) (by assumption) (by assumption) (by assumption) (by assumption) (.inr (by assumption)))
  all_goals (have hnh : ¬ hitP L ([] : List (Int × Bool)) k i:=by
                 simp only [get0] at *
                 first
                 | exact nh1 (by assumption) (by assumption)
                 | exact nh2 (by assumption) (by assumption)
                 | exact nh3 (by assumption)
                 | exact nh4 (by assumption) (by assumption)
                 | exact nh5 (by assumption) (by assumption) (by assumption) (by assumption) (by assumption))
  all_goals refine ⟨i + 1,[],⟨hi1,fun j hj => (Nat.lt_succ_iff_lt_or_eq.1 hj).elim (hno j) (fun e => e ▸ hnh)⟩,?_,by show L.length - (i + 1) < L.length - i;omega⟩
  all_goals repeat' ((conv => whnf);(first | apply And.intro | intro _))
  all_goals first | rfl | trivial | exact leb9 rfl | exact ⟨rfl,rfl,rfl⟩ | exact ⟨rfl,rfl,rfl,rfl⟩ | omega
 obtain rfl : L.length = i:=by omega
 repeat' ((conv => whnf);(first | apply And.intro | intro _))
 all_goals try (conv => whnf)
 all_goals try exact (key_lt (i:=L.length) (n:=L.length) hi1 (by assumption)).elim
 all_goals try exact ⟨leb9 rfl⟩
 all_goals try exact ⟨rfl⟩
 all_goals try (refine Ob.mk ?_;(try simp only [Duty.of_p,inRQ]);subst_vars;(try simp only [getL,getI,getB,castL_rfl] at *);(try dsimp only [kL,kI,Tup,CK.ty] at *);(try simp only [getL,getI,getB,gi_nn,castL_rfl,Nat.zero_add,Nat.add_zero,Nat.sub_zero,Int.toNat_natCast,List.length_set,List.length_replicate,List.length_cons,List.length_nil,decide_eq_true_eq,decide_eq_false_iff_not,cap40,inR] at *);(all_goals first | omega | (split <;> omega)))
 subst_vars
 refine ⟨List Nat × List (Int × Bool),fun p => SeenI ([] : List (Int × Bool)) k p,fun p => ⟨slotsT 69 [3,6,7,10,50] [.a (.p 1 [] 0 0),.a (.p 3 [] 0 0),.a (.p 4 [] 0 0),.a (.mp 9),.a (.it 10)],[],[.arr 54 kL L false false,.box true [vI N,.sl 0 [] 0 L.length],.dead,.box true [.ff],.box true [vI (lk L k).1,vI (lk L k).2.1,vI (lk L k).2.2],.dead,.dead,.dead,.dead,.map 90 .i64 .bool p.2 true,.iter none 0 []]⟩,fun p => ([] : List (Int × Bool)).length - p.1.length,([],mset [] (k : Int) true),[],SeenI.zero ([] : List (Int × Bool)) k,?_,?_⟩
 ·repeat' ((conv => whnf);(first | apply And.intro | intro _))
  all_goals first | rfl | trivial | exact leb9 rfl | exact ⟨rfl,rfl,rfl⟩ | exact ⟨rfl,rfl,rfl,rfl⟩
 rintro p hp
 repeat' ((conv => whnf);(first | apply And.intro | intro _))
 all_goals try (conv => whnf)
 all_goals try exact Tk.mk (by kernel_rfl)
 all_goals try exact Tk.mk (by kernel_rfl)
 all_goals try exact ⟨leb9 rfl⟩
 all_goals try exact ⟨rfl⟩
 all_goals try (refine Ob.mk ?_;(try simp only [Duty.of_p,inRQ]);subst_vars;(try simp only [getL,getI,getB,castL_rfl] at *);(try dsimp only [kL,kI,Tup,CK.ty] at *);(try simp only [getL,getI,getB,gi_nn,castL_rfl,Nat.zero_add,Nat.add_zero,Nat.sub_zero,Int.toNat_natCast,List.length_set,List.length_replicate,List.length_cons,List.length_nil,decide_eq_true_eq,decide_eq_false_iff_not,cap40,inR] at *);(all_goals first | omega | (split <;> omega)))
 all_goals try first | exact rfl | exact trivial | exact ha | exact (hlk k hk).1.1.1 | exact (hlk k hk).1.1.2
 ·exact ⟨(hlk k hk).1.2⟩
 ·refine ⟨?_⟩
  have e1:=bounds_len (es:=p.2) ha (hlk k hk).1.1
  have e2:=(hlk k hk).1.2
  show 0 + (lk L k).2.1.toNat < (boundsF N L p.2 (lk L k).1).length
  rw [e1]
  unfold inN at e2
  omega
 ·rename_i m hm
  subst hm
  rw [Nat.zero_add]
  show decide (gi (boundsF N L p.2 (lk L k).1) (lk L k).2.1 ≤ (lk L k).2.2) = r
  rw [hF fun i hi => hno i hi,bounds_congr (hp.done (fun j hj => absurd hj (Nat.not_lt_zero _)))]
end Go.Proofs.YtcmojakklijgfaaGreatDoor
end
section
namespace Go.Proofs.YtcmojakklijgfaaGreatDoor
open Go Go.Sy Go.Chn
variable {Γ : Glob}
def askB (N : Nat) (L : List Lk) : Bool :=
 decide (1 ≤ N) && decide (N ≤ 60) && decide (L.length ≤ 300) && L.all fun l => decide (0 ≤ l.1) && decide (l.1 < N) && decide (0 ≤ l.2.1) && decide (l.2.1 < N) && !(l.1 == l.2.1) && decide (-4503599627370496 ≤ l.2.2) && decide (l.2.2 ≤ 4503599627370496)
theorem askB_iff {N : Nat} {L : List Lk} : askB N L = true ↔ AskL N L:=by
 simp only [askB,Bool.and_eq_true,decide_eq_true_eq,List.all_eq_true,Bool.not_eq_true',beq_eq_false_iff_ne]
 constructor
 ·rintro ⟨⟨⟨h1,h2⟩,h3⟩,h4⟩
  exact ⟨⟨h1,h2⟩,h3,⟨h2,fun l hl => ⟨⟨(h4 l hl).1.1.1.1.1.1,(h4 l hl).1.1.1.1.1.2⟩,(h4 l hl).1.1.1.1.2,(h4 l hl).1.1.1.2⟩,fun l hl => (h4 l hl).1.1.2,fun l hl => ⟨(h4 l hl).1.2,(h4 l hl).2⟩⟩⟩
 ·intro h
  exact ⟨⟨⟨h.n.1,h.n.2⟩,h.l⟩,fun l hl => ⟨⟨⟨⟨⟨⟨(h.ok.nd l hl).1.1,(h.ok.nd l hl).1.2⟩,(h.ok.nd l hl).2.1⟩,(h.ok.nd l hl).2.2⟩,h.ok.ne l hl⟩,(h.ok.ms l hl).1⟩,(h.ok.ms l hl).2⟩⟩
def askD (N : Nat) (L : List Lk) : Duty:=⟨AskL N L,askB N L,askB_iff⟩
instance (L : List Lk) (es : List (Int × Bool)) (k i : Nat) : Decidable (hitP L es k i):=by unfold hitP;exact inferInstance
def idleF (N : Nat) (L : List Lk) (es : List (Int × Bool)) (k : Nat) : Bool :=
 (List.range L.length).any (fun i => decide (hitP L es k i)) || decide (gi (boundsF N L (lessF es k) (lk L k).1) (lk L k).2.1 ≤ (lk L k).2.2)
def c74 : Ctr:=.fn fun args rg => match args with
 | [.agg [.v (.int .i64 N),xs],.a o,.a (.v (.int .i64 k))] => (match lksOf rg xs,esOf rg o with
    | some (q,L),some es => some (q ++ [(Duty.of (N = N.toNat)),askD N.toNat L,(Duty.of (0 ≤ k)),(Duty.of (k < L.length))],.a (.v (.bool (idleF N.toNat L es k.toNat))))
    | _,_ => none)
 | _ => none
theorem c74_ok : Ctr.Ok Tryz.prog Γ 45 c74:=Ctr.fn_ok (d:=3) e74_ok (b:=b74) (body_of Tryz.func45 rfl rfl) (by
 intro args rg q t hF hq
 split at hF
 next N xs o k =>
  split at hF
  next q0 L es hx ho =>
   obtain ⟨rfl,rfl⟩:=Prod.mk.inj (Option.some.inj hF);clear hF
   obtain ⟨hq0,hN,ha,hk0,hk1,_⟩:=(obl_append _ _).1 hq
   simp only [Duty.of_p] at hN hk0 hk1
   replace ha : AskL N.toNat L:=ha
   obtain ⟨n,hn⟩ : ∃ n : Nat,N = n:=⟨_,hN⟩
   obtain ⟨m,hm⟩ : ∃ m : Nat,k = m:=⟨k.toNat,by omega⟩
   subst hn hm
   simp only [Int.toNat_natCast] at ha ⊢
   have hk : m < L.length:=by omega
   refine ⟨rfl,?_⟩
   have hT : ∀ es : List (Int × Bool),∀ i,i < L.length → hitP L es m i → idleF n L es m = true:=fun es i hi hh => by
    unfold idleF
    rw [List.any_eq_true.2 ⟨i,List.mem_range.2 hi,decide_eq_true hh⟩];rfl
   have hF : ∀ es : List (Int × Bool),(∀ i,i < L.length → ¬ hitP L es m i) → idleF n L es m = decide (gi (boundsF n L (lessF es m) (lk L m).1) (lk L m).2.1 ≤ (lk L m).2.2):=fun es hno => by
    unfold idleF
    rw [show (List.range L.length).any (fun i => decide (hitP L es m i)) = false from List.any_eq_false.2 fun i hi => by simpa using hno i (List.mem_range.1 hi)];rfl
   rcases pas_sys hx hq0 ho with ⟨rfl,rfl,is,p1,p2⟩ | ⟨is,p1,p2,p3⟩
   ·exact ⟨is,[.agg [vI n,.sl 0 [] 0 L.length],.a (.v (.map none)),.a (vI m)],[.arr 54 kL L false false],⟨⟨⟨rfl,p1,trivial⟩,rfl,rfl,trivial⟩,p2⟩,idle_nil ha hk (hT _) (hF _)⟩
   ·exact ⟨is,[.agg [vI n,.sl 0 [] 0 L.length],.a (.mp 1),.a (vI m)],[.arr 54 kL L false false,.map 90 .i64 .bool es false],⟨⟨⟨rfl,p1,trivial⟩,p2,rfl,trivial⟩,p3⟩,idle_map ha hk (hT _) (hF _)⟩
  next => cases hF
 next => cases hF)
/-! ### For runs at fixed numbers: what must hold is looked at,what is reckoned is written out -/
def c72c : Ctr:=.new fun args rg K => match args with
 | [.agg [.v (.int .i64 N),xs],.a o,.a (.v (.int .i64 v))] => (match lksOf rg xs,esOf rg o with
    | some (q,L),some es => oblige true (q ++ [(Duty.of (N = N.toNat)),askD N.toNat L,(Duty.of (0 ≤ v)),(Duty.of (v < N.toNat))]) (eachK intK (boundsF N.toNat L es v) fun ys => natK N.toNat fun n => K ⟨[.arr 3 kI ys true true],.a (.sl 0 [] 0 n)⟩)
    | _,_ => False)
 | _ => False
theorem c72c_ok : Ctr.Ok Tryz.prog Γ 37 c72c:=Ctr.new_mono c72_ok (by
 intro args rg K h
 split at h
 next N xs o v =>
  split at h
  next q L es hx ho =>
   rw [oblige_iff,obl_append,eachK_id intK_eq,natK_eq] at h
   obtain ⟨⟨hq,hN,ha,hv0,hv1,_⟩,hK⟩:=h
   simp only [hx,ho]
   exact ⟨⟨hq,hN,ha,hv0,hv1⟩,hK⟩
  next => exact h.elim
 next => exact h.elim)
def c65c : Ctr:=.new fun args rg K => match args with
 | [.agg [.v (.int .i64 N),xs],.a o] => (match lksOf rg xs,esOf rg o with
    | some (q,L),some es => oblige true (q ++ [(Duty.of (N = N.toNat)),askD N.toNat L]) (boolK (relaxF N.toNat L es (List.replicate N.toNat 0)).1 fun b => match b with
       | true => eachK intK (solF N.toNat L es) fun ys => natK N.toNat fun n => K ⟨[.arr 3 kI ys true true],.tup [.a (.sl 0 [] 0 n),.a .tt]⟩
       | false => K ⟨[],.tup [.a (.v (.slice none 0 0)),.a .ff]⟩)
    | _,_ => False)
 | _ => False
theorem c65c_ok : Ctr.Ok Tryz.prog Γ 44 c65c:=Ctr.new_mono c65_ok (by
 intro args rg K h
 split at h
 next N xs o =>
  split at h
  next q L es hx ho =>
   rw [oblige_iff,obl_append,boolK_eq] at h
   obtain ⟨⟨hq,hN,ha,_⟩,hK⟩:=h
   simp only [hx,ho]
   refine ⟨⟨hq,hN,ha⟩,fun hT => ?_,fun hF => ?_⟩
   ·rw [hT] at hK
    simp only [natK_eq,eachK_id intK_eq] at hK
    exact hK
   ·rw [hF] at hK
    exact hK
  next => exact h.elim
 next => exact h.elim)
end Go.Proofs.YtcmojakklijgfaaGreatDoor
end
section
namespace Go.Proofs.YtcmojakklijgfaaGreatDoor
open Go Go.Sy Go.Chn
variable {Γ : Glob}
def c67 : Ctr:=.fn fun args rg => match args with
 | [.a (.v (.int .i64 n))] => some ([],.a (.v (.bool (decide (n < 0)))))
 | _ => none
theorem c67_ok : Ctr.Ok Tryz.prog Γ 48 c67:=Ctr.fn_ok (d:=0) (prog_ok CsOk.nil BsOk.nil false 0) (body_of Tryz.func48 rfl rfl) (by
 intro args rg q t hF hq
 split at hF
 next n =>
  obtain ⟨rfl,rfl⟩:=Prod.mk.inj (Option.some.inj hF);clear hF
  refine ⟨rfl,[],[.a (vI n)],[],⟨⟨rfl,trivial⟩,fun r g hg => by simp at hg⟩,?_⟩
  repeat' ((conv => whnf);(first | apply And.intro | intro _))
  all_goals try (conv => whnf)
  all_goals try exact Tk.mk (by kernel_rfl)
  all_goals first | rfl | trivial
 next => cases hF)
def boxI (rg : List Reg) (r : Nat) : Option Int:=match rg.getD r .dead with | .box _ [.v (.int .i64 n)] => some n | _ => none
def c78 : Ctr:=.fn fun args rg => match args with
 | [.a (.v (.int .i64 n)),.a (.p r [] 0 0)] => (match boxI rg r with | some m => some ([],.a (.v (.bool (n == m)))) | none => none)
 | _ => none
theorem c78_ok : Ctr.Ok Tryz.prog Γ 42 c78:=Ctr.fn_ok (d:=0) (prog_ok CsOk.nil BsOk.nil false 0) (body_of Tryz.func42 rfl rfl) (by
 intro args rg q t hF hq
 split at hF
 next n r =>
  split at hF
  next m hm =>
   obtain ⟨rfl,rfl⟩:=Prod.mk.inj (Option.some.inj hF);clear hF
   refine ⟨rfl,[some (r,[])],[.a (vI n),.a (.p 0 [] 0 0)],[.box false [vI m]],⟨⟨rfl,⟨r,[],rfl,Nat.zero_lt_one,rfl⟩,trivial⟩,fun r2 g hg => ?_⟩,?_⟩
   ·match r2,hg with
    | 0,hg =>
      obtain rfl:=Option.some.inj hg
      unfold boxI at hm
      split at hm
      ·rename_i o n' hb
       obtain rfl:=Option.some.inj hm
       exact ⟨rfl,r,o,_,rfl,getD_reg (st:=⟨⟨0,.nil⟩,[],rg⟩) hb (by simp),rfl,trivial⟩
      ·cases hm
   ·repeat' ((conv => whnf);(first | apply And.intro | intro _))
    all_goals try (conv => whnf)
    all_goals try exact Tk.mk (by kernel_rfl)
    all_goals first | rfl | trivial
  next => cases hF
 next => cases hF)
end Go.Proofs.YtcmojakklijgfaaGreatDoor
end
section
namespace Go.Proofs.YtcmojakklijgfaaGreatDoor
open Go Go.Sy Go.Chn
variable {Γ : Glob}
noncomputable def bo (fn : Func) : Body:=match fn.body with | some c => ⟨fn.ntmps,c,fn.results.toList⟩ | none => ⟨0,.skip,[]⟩
def t75 : OT:=(.take 0 (.take 1 (.take 2 (.take 3 (.take 4 (.take 5 (.take 6 (.take 8 (.take 9 (.take 10 (.alt 7 (.alt 11 (.take 12 (.alt 13 (.take 14 (.alt 15 .fin .fin)) .fin)) .fin) (.alt 11 (.alt 7 (.take 12 (.alt 13 (.take 14 (.alt 15 .fin .fin)) .fin)) .fin) .fin))))))))))))
noncomputable def e75 : Env:={ tabs.env [] [] false 3 with tree:=fun id => match Nat.beq id 3 with | true => some t75 | false => none }
theorem run75 : evTopW e75 0 (bo Tryz.f46) [.a (.sl 0 [] 0 4)] [.arr 3 kI [(4 : Int),(3 : Int),(1 : Int),(0 : Int)] true true] 0 4 (fun x st => eqT x (.tup []) ∧ backW st 3 kI [(0 : Int),(1 : Int),(3 : Int),(4 : Int)] 4):=by
 repeat' ((conv => whnf);(first | apply And.intro | intro _))
 all_goals try (conv => whnf)
 all_goals try exact Tk.mk (by kernel_rfl)
 all_goals subst_vars
 all_goals try first | rfl | trivial | exact ⟨(Duty.h _).1 (by decide +kernel)⟩ | exact ⟨_,rfl⟩
 all_goals try (exfalso;simp at *;done)
theorem body_bo {f : FuncId} {fn : Func} (h : Tryz.prog.funcs[f]? = some fn) (h2 : (fn.name == "runtime.NumGoroutine") = false) {c : Code} (h3 : fn.body = some c) : BodyOk Tryz.prog f (bo fn) := by
 have : bo fn = ⟨fn.ntmps,c,fn.results.toList⟩:=by unfold bo;rw [h3]
 rw [this];exact body_of h h2 h3
theorem _root_.Go.Sy.ProgOk.trees {E : Env} (h : ProgOk Tryz.prog Γ E) (o : Nat → Option OT) : ProgOk Tryz.prog Γ { E with tree:=o }:=⟨h.mixed,h.fn,h.inl,{ h.env with }⟩
theorem e75_ok : ProgOk Tryz.prog Γ e75:=(prog_ok CsOk.nil BsOk.nil false 3).trees _
def c75p : Ctr:=.rel fun args rg K => match args with
 | [.a (.sl r [] 0 k)] => (match rg.getD r .dead with
    | .arr 3 tg x true i => (match tagEq tg kI,Nat.beq k 4 with
       | some h,true => (match tupsB kI (castL h.down x) [(4 : Int),(3 : Int),(1 : Int),(0 : Int)] with
          | true => K [(r,.arr 3 kI [(0 : Int),(1 : Int),(3 : Int),(4 : Int)] true i)] ⟨[],.tup []⟩
          | false => False)
       | _,_ => False)
    | _ => False)
 | _ => False
theorem c75p_ok : Ctr.Ok Tryz.prog Γ 46 c75p:=Ctr.rel1_ok (d:=0) e75_ok (b:=bo Tryz.f46) (body_bo Tryz.func46 rfl rfl) (by
 intro args rg K hC
 split at hC
 next r k =>
  split at hC
  next tg x i hr =>
   split at hC
   next h _ hk =>
    split at hC
    next hx =>
     obtain rfl:=Nat.eq_of_beq_eq_true hk
     obtain ⟨h⟩:=h
     subst h
     have hx:=tupsB_eq (by decide) hx
     have hx : x = [(4 : Int),(3 : Int),(1 : Int),(0 : Int)]:=hx
     subst hx
     have hr':=getD_reg (st:=⟨⟨0,.nil⟩,[],rg⟩) hr (by simp)
     refine ⟨[some (r,[])],[.a (.sl 0 [] 0 4)],[.arr 3 kI [(4 : Int),(3 : Int),(1 : Int),(0 : Int)] false false],r,0,0,4,3,kI,[(4 : Int),(3 : Int),(1 : Int),(0 : Int)],[(0 : Int),(1 : Int),(3 : Int),(4 : Int)],.tup [],i,
      ⟨⟨.inr ⟨r,[],rfl,by show 0 < 1;omega,rfl⟩,trivial⟩,fun r2 g hg => ?_⟩,rfl,rfl,hr',rfl,by omega,rfl,fun r2 r3 π h1 h2 => ?_,hC,rfl,run75⟩
     ·match r2,hg with
      | 0,hg => obtain rfl:=Option.some.inj hg;exact ⟨rfl,rfl,.inr ⟨r,[],[],rfl,by rw [hr];rfl,trivial⟩⟩
     ·match r2,h1 with
      | 0,_ => rfl
    next => exact hC.elim
   next => exact hC.elim
  next => exact hC.elim
 next => exact hC.elim)
end Go.Proofs.YtcmojakklijgfaaGreatDoor
end
section
namespace Go.Proofs.YtcmojakklijgfaaGreatDoor
open Go Go.Sy Go.Chn
variable {Γ : Glob}
noncomputable def bsA : List (Nat × Body):=[(49,bo Tryz.f49),(22,bo Tryz.f22),(17,bo Tryz.f17),(23,bo Tryz.f23),(18,bo Tryz.f18),(19,bo Tryz.f19),(14,bo Tryz.f14),(15,bo Tryz.f15),(21,bo Tryz.f21),(24,bo Tryz.f24),
 (16,bo Tryz.f16),(13,bo Tryz.f13),(52,bo Tryz.f52),(38,bo Tryz.f38),(36,bo Tryz.f36),(39,bo Tryz.f39),(40,bo Tryz.f40),(47,bo Tryz.f47),
 (64,bo Tryz.f64),(50,bo Tryz.f50),(51,bo Tryz.f51),(43,bo Tryz.f43),(62,bo Tryz.f62),(81,bo Tryz.f81),(65,bo Tryz.f65)]
def exL : List Lk:=[(0,1,5),(1,2,3),(0,2,9),(2,0,-6),(2,1,-2)]
def exL2 : List Lk:=[(0,1,5),(1,2,3),(0,2,9),(2,0,-6),(2,1,-2),(1,0,-6)]
def exT : List (List Int):=[[0,1152921504606846976,1152921504606846976,1152921504606846976],[1152921504606846976,-6,-6,1152921504606846976],[-1,-3,-8,1152921504606846976],[1,-7,-7,1152921504606846976],[-2,-5,-9,1152921504606846976]]
def kT : List CK:=[.sl 3 kI]
def csA : List (Nat × Ctr):=[(25,c22),(44,c65c),(37,c72c),(45,c74),(48,c67),(42,c78),(46,c75p)]
def arrOf (te : TypeId) (tg : List CK) (rg : List Reg) : At → Option (List Duty × List (Tup tg))
 | .sl r π lo n => (match (rg.getD r .dead).dn π with | some (q,⟨te',tg',xs⟩) => (match natEq te' te,tagEq tg' tg with | some _,some h => some (q ++ [(Duty.of (lo = 0)),(Duty.of (n = xs.length))],castL h.down xs) | _,_ => none) | _ => none)
 | .v (.slice none 0 0) => some ([],[])
 | .z => some ([],[])
 | _ => none
theorem pas_arr {te : TypeId} {tg : List CK} (htg : tg ≠ []) {rg : List Reg} {x : At} {q : List Duty} {L : List (Tup tg)} (h : arrOf te tg rg x = some (q,L)) (hq : obl q) :
  ∃ e : Option (Nat × Path),∀ (is : Pas) (k n : Nat),is[k]? = some e → k < n → paA is n x (.sl k [] 0 L.length) ∧ paR rg is n k (.arr te tg L false false):=by
 unfold arrOf at h
 split at h
 ·rename_i r π lo n
  split at h
  ·rename_i q0 te' tg' xs hd
   split at h
   ·rename_i h1 h2 _ _
    obtain ⟨rfl,rfl⟩:=Prod.mk.inj (Option.some.inj h)
    obtain rfl:=h1.down
    obtain ⟨h2⟩:=h2
    subst h2
    obtain ⟨h1,h2,h3,_⟩:=(obl_append _ _).1 hq
    simp only [Duty.of_p] at h2 h3
    subst h2 h3
    exact ⟨some (r,π),fun is k m hi hm => ⟨.inr ⟨r,π,rfl,hm,hi⟩,rfl,rfl,.inr ⟨r,π,q0,hi,hd,h1⟩⟩⟩
   ·cases h
  ·cases h
 ·obtain ⟨rfl,rfl⟩:=Prod.mk.inj (Option.some.inj h)
  exact ⟨none,fun is k m hi hm => ⟨.inl ⟨.inl rfl,rfl,rfl,hm,hi⟩,rfl,rfl,.inl ⟨hi,rfl,htg⟩⟩⟩
 ·obtain ⟨rfl,rfl⟩:=Prod.mk.inj (Option.some.inj h)
  exact ⟨none,fun is k m hi hm => ⟨.inl ⟨.inr rfl,rfl,rfl,hm,hi⟩,rfl,rfl,.inl ⟨hi,rfl,htg⟩⟩⟩
 ·cases h
def eqT2 (T U : List (List Int)) : Duty:=(Duty.of (T = U))
def slB1 (te : TypeId) (tg : List CK) (xs : List (Tup tg)) (x : Tm) (st : St) : Bool :=
 match x with
 | .a (.sl i [] 0 n) => Nat.beq n xs.length && regB te tg xs (st.rg.getD i .dead)
 | _ => false
theorem slB1_sound {te : TypeId} {tg : List CK} {xs : List (Tup tg)} {x : Tm} {st : St} {K : Res → Prop} (hn : noStr tg = true) (hK : K ⟨[.arr te tg xs true true],.a (.sl 0 [] 0 xs.length)⟩) (h : slB1 te tg xs x st = true) : resK K x st:=by
 unfold slB1 at h
 split at h
 ·rename_i i n
  simp only [Bool.and_eq_true] at h
  obtain rfl:=Nat.eq_of_beq_eq_true h.1
  exact ⟨_,[i],hK,⟨regB_sound hn h.2,rfl,(by simp),trivial⟩,rfl,rfl,rfl,rfl,rfl⟩
 ·cases h
def csB : List (Nat × Ctr):=[(48,c67),(42,c78)]
noncomputable def e68 : Env:=tabs.env csB [] true 100
noncomputable def q68 : Prop:=evTop e68 2 (bo Tryz.f41) [.agg [vI 4,.sl 0 [] 0 6],.a (vI 0),.a (vI 2),.a (.sl 1 [] 0 5),.a (.fn 48 [])] [.arr 54 kL exL2 false false,.arr 41 kT exT false false] (fun x st => isT (slB1 3 kI [(0 : Int),(5 : Int)] x st))
theorem run68 : q68:=of_eq_true (by kernel_rfl)
theorem csB_ok : CsOk Tryz.prog Γ csB:=(CsOk.nil.cons (body_of Tryz.func42 rfl rfl).fn c78_ok).cons (body_of Tryz.func48 rfl rfl).fn c67_ok
def c68p : Ctr:=.new fun args rg K => match args with
 | [.agg [.v (.int .i64 N),xs],.a (.v (.int .i64 f)),.a (.v (.int .i64 k)),.a t,.a (.fn 48 [])] => (match lksOf rg xs,arrOf 41 kT rg t with
    | some (q,L),some (q',T) => oblige true (q ++ (q' ++ [(Duty.of (N = 4)),(Duty.of (L = exL2)),(Duty.of (f = 0)),(Duty.of (k = 2)),eqT2 T exT])) (K ⟨[.arr 3 kI [(0 : Int),(5 : Int)] true true],.a (.sl 0 [] 0 2)⟩)
    | _,_ => False)
 | _ => False
theorem c68p_ok : Ctr.Ok Tryz.prog Γ 41 c68p:=Ctr.new_okX (d:=2) (prog_ok csB_ok BsOk.nil true 100) (b:=bo Tryz.f41) (body_bo Tryz.func41 rfl rfl) (by
 intro args rg K hC
 split at hC
 next N xs f k t =>
  split at hC
  next q L q' T hx ht =>
   rw [oblige_iff,obl_append,obl_append] at hC
   obtain ⟨⟨hq,hq',h1,h2,h3,h4,h5,_⟩,hK⟩:=hC
   simp only [Duty.of_p] at h1 h2 h3 h4
   replace h5 : T = exT:=h5
   subst h1 h2 h3 h4 h5
   obtain ⟨e,he,_⟩:=pas_lks' hx hq
   obtain ⟨e',he'⟩:=pas_arr (by simp [kT]) ht hq'
   obtain ⟨p1,p2⟩:=he [e,e'] 2 rfl (by omega)
   obtain ⟨p3,p4⟩:=he' [e,e'] 1 2 rfl (by omega)
   refine ⟨[e,e'],[.agg [vI 4,.sl 0 [] 0 6],.a (vI 0),.a (vI 2),.a (.sl 1 [] 0 5),.a (.fn 48 [])],[.arr 54 kL exL2 false false,.arr 41 kT exT false false],⟨⟨⟨rfl,p1,trivial⟩,rfl,rfl,p3,⟨[],rfl,trivial⟩,trivial⟩,fun r g hg => ?_⟩,
    _,run68,fun x st h => slB1_sound (by decide) hK (isT_iff.1 h)⟩
   match r,hg with
   | 0,hg => obtain rfl:=Option.some.inj hg;exact p2
   | 1,hg => obtain rfl:=Option.some.inj hg;exact p4
  next => exact hC.elim
 next => exact hC.elim)
end Go.Proofs.YtcmojakklijgfaaGreatDoor
end
section
namespace Go.Proofs.YtcmojakklijgfaaGreatDoor
open Go Go.Sy Go.ChangeShapes Go.WideShapes Go.RowKit
theorem own : ownKnob Tryz.prog.godebug = none:=by kernel_rfl
theorem laidOut : laidOutB Tryz.prog = true:=by kernel_rfl
theorem trodAll_below {H : Type} {enc : TypeId × Value → H} {W W' : World} (hb : Below W.heap.size W W') :
  ∀ (ts : List TypeId) (vs : List Value) (ds : List (DataW H)) (ps : List MemPlace),ts.all (fun t => Tryz.prog.readableRec t && decide (t < Tryz.prog.types.size)) = true →
   DataW.TrodAll enc Tryz.prog W 0 (fun _ => true) true ts vs ds ps → (∀ x ∈ ps,x.block < W.heap.size) → DataW.TrodAll enc Tryz.prog W' 0 (fun b => decide (b < W.heap.size)) true ts vs ds ps:=by
 intro ts
 induction ts with
 | nil =>
   intro vs ds ps _ h _
   obtain ⟨rfl,rfl,rfl⟩:=trodAll_nil h
   exact rfl
 | cons t ts ih =>
   intro vs ds ps ht h hlt
   obtain ⟨v,vs,d,ds,p,q,rfl,rfl,rfl,h1,h2⟩:=trodAll_cons h
   rw [List.all_cons,Bool.and_eq_true,Bool.and_eq_true,decide_eq_true_eq] at ht
   exact ⟨p,q,Below.trod laidOut ht.1.1 ht.1.2 h1 hb (fun x hx => hlt x (List.mem_append_left _ hx)),ih vs ds q ht.2 h2 (fun x hx => hlt x (List.mem_append_right _ hx)),rfl⟩
theorem post_true {H : Type} {enc : TypeId × Value → H} {f : Func} {s : ChangeSpec} {W W' : World} {args : Array Value} {ds gs : List (DataW H)} {before : List MemPlace}
  (hrt : f.resultTypes = #[4]) (hvars : s.vars = []) (hps : f.params.toList.all (fun t => Tryz.prog.readableRec t && decide (t < Tryz.prog.types.size)) = true)
  (hW : DataW.Whole enc Tryz.prog f.params.toList s.vars false W args.toList ds gs before) (hfn : (s.fn H (ds ++ [])) = { results:=[.lit (.bool true)],args:=ds })
  (hb : Below W.heap.size W W') : s.post enc Tryz.prog f false true false false W args (.bool true) W':=by
 have hW':=hW
 obtain ⟨p,q,hA,hV,rfl,hfz,hnd⟩:=hW
 rw [hvars] at hV
 obtain ⟨rfl,rfl⟩:=trodVars_none hV
 have hlt:=fun x (hx : x ∈ p ++ []) => hW'.lt x hx
 refine ⟨ds,[],p ++ [],[],p,[],hW',?_,?_,?_,Below.frame hb _,(fun h => by cases h)⟩
 ·rw [hfn,hrt]
  exact trodAll_mk1 (shut_bool Tryz.underlying4 true)
 ·rw [hfn]
  exact trodAll_below hb _ _ _ _ hps hA (fun x hx => hlt x (List.mem_append_left _ hx))
 ·rw [hvars,hfn]
  exact rfl
/-! ### Arguments opened -/
structure SlAt (w : World) (te : TypeId) (tg : List CK) (xs : List (Tup tg)) (I : RI) : Prop where
 ar : Ar.lies w (fun _ => I) [] ⟨te,tg,xs⟩
 lt : I.void = false → I.b < w.heap.size
section
variable {H : Type} {enc : TypeId × Value → H} {w : World} {base : Nat} {spare : Nat → Bool} {held : Bool}
theorem cell_int {fuel : Nat} {c : Value} {y : DataW H × List MemPlace} (h : DataW.trod enc Tryz.prog w base spare held fuel 3 [c] = some y) : ∃ n,c = .int .i64 n:=by
 obtain ⟨n,h1,_,hw⟩:=DataW.trod_int Tryz.underlying3 h
 simp only [List.cons.injEq,and_true] at h1
 exact ⟨n,h1⟩
theorem getD_range {tg : List CK} {te : TypeId} {m : Nat} {X : Nat → Tup tg} {i : Nat} (hi : i < m) : Ar.get ⟨te,tg,(List.range m).map X⟩ i = X i:=by
 simp only [Ar.get,List.getD_eq_getElem?_getD,List.getElem?_map,List.getElem?_range hi,Option.map_some,Option.getD_some]
theorem sl_at {t te : TypeId} {tg : List CK} (htg : tg ≠ []) (ht : Tryz.prog.underlying t = some (.slice te)) (hc : Tryz.prog.cellsOf te = tg.length)
  (hone : ∀ (fuel : Nat) (cs : List Value) (y : DataW H × List MemPlace),cs.length = tg.length → DataW.trod enc Tryz.prog w base spare held fuel te cs = some y → ∃ x : Tup tg,∀ η i,Tup.lies η [] i 0 tg x cs)
  {fuel : Nat} {v : Value} {y : DataW H × List MemPlace} (hlt : ∀ a len cap,v = .slice (some a) len cap → a.spot = none ∧ a.block < w.heap.size) (h : DataW.trod enc Tryz.prog w base spare held fuel t [v] = some y) :
  ∃ (I : RI) (xs : List (Tup tg)),I.head 0 xs.length v ∧ SlAt w te tg xs I:=by
 rcases Go.Deep.open_slice ht h with ⟨hv,_⟩ | ⟨a,len,cap,m,n,D,Pl,hv,_,hl,hm,hmm,_,hx⟩
 ·simp only [List.cons.injEq,and_true] at hv
  subst hv
  exact ⟨⟨0,0,tg.length,0,true⟩,[],⟨fun _ => ⟨rfl,_,rfl⟩,(fun h => by cases h)⟩,⟨htg,rfl,fun _ => rfl,(fun h => by cases h),fun i hi => by simp at hi⟩,(fun h => by cases h)⟩
 ·simp only [List.cons.injEq,and_true] at hv
  subst hv
  obtain ⟨hs,hb⟩:=hlt a len cap rfl
  have hml : len ≤ m:=by rw [hmm];split <;> omega
  rw [hc] at hx
  have hX : ∀ i,i < len → ∃ p : Tup tg × List Value,w.cells? base (a.add (i * tg.length)) tg.length = some p.2 ∧ ∀ η j,Tup.lies η [] j 0 tg p.1 p.2:=fun i hi => by
   obtain ⟨cs,h1,h2⟩:=hx i (by omega)
   obtain ⟨_,h3,_⟩:=World.cells?_some h1
   obtain ⟨x,h4⟩:=hone _ _ _ h3 h2
   exact ⟨(x,cs),h1,h4⟩
  have : Inhabited (Tup tg × List Value):=⟨(Tup.d tg,[])⟩
  obtain ⟨X,hX⟩:=Go.Deep.choose_lt hX
  obtain ⟨blk,off,spot⟩:=a
  obtain rfl : spot = none:=hs
  refine ⟨⟨blk,off,tg.length,cap,false⟩,(List.range len).map fun i => (X i).1,⟨(fun h => by cases h),fun _ => ⟨by simpa using hl,some ⟨blk,off,none⟩,by simp,fun _ => by simp [RI.at]⟩⟩,⟨htg,rfl,(fun h => by cases h),fun _ => by simpa using hl,fun i hi => ?_⟩,fun _ => hb⟩
  have hi' : i < len:=by simpa using hi
  obtain ⟨h1,h2⟩:=hX i hi'
  obtain ⟨_,h3,h4⟩:=World.cells?_some h1
  refine ⟨(X i).2,?_,fun s y hs => ?_⟩
  ·have:=getD_range (te:=te) (X:=fun i => (X i).1) hi'
   rw [this]
   exact h2 _ _
  ·have hsl : s < tg.length:=by rw [← h3];exact (List.getElem?_eq_some_iff.1 hs).1
   have:=h4 s hsl
   rw [hs] at this
   rw [← this]
   congr 1
   show (⟨blk,off + (i * tg.length + s),none⟩ : Addr) = ((Addr.mk blk off none).add (i * tg.length)).add s
   rw [Addr.add_lit,Addr.add_lit,Nat.add_assoc]
theorem kL_one (fuel : Nat) (cs : List Value) (y : DataW H × List MemPlace) (hl : cs.length = kL.length) (h : DataW.trod enc Tryz.prog w base spare held fuel 54 cs = some y) : ∃ x : Tup kL,∀ η i,Tup.lies η [] i 0 kL x cs:=by
 match cs,hl with
 | [c0,c1,c2],_ =>
   obtain ⟨xs,n,_,_,_,hlen,hf⟩:=DataW.trod_struct Tryz.underlying54 h
   match xs,hlen with
   | [y0,y1,y2],_ =>
     have e : Tryz.prog.cellsOf 3 = 1:=by kernel_rfl
     obtain ⟨a,rfl⟩:=cell_int (c:=c0) (by simpa [e] using hf 0 _ rfl)
     obtain ⟨b,rfl⟩:=cell_int (c:=c1) (by simpa [e] using hf 1 _ rfl)
     obtain ⟨c,rfl⟩:=cell_int (c:=c2) (by simpa [e] using hf 2 _ rfl)
     exact ⟨(a,b,c),fun η i => ⟨_,_,rfl,rfl,_,_,rfl,rfl,_,rfl,rfl⟩⟩
theorem slice_lt {r : Reach} {b0 : Nat} {t e : TypeId} (hu : Tryz.prog.underlying t = some (.slice e)) {v : Value} (hv : Cell.okWide Tryz.prog w r b0 t v) : ∀ a len cap,v = .slice (some a) len cap → a.spot = none ∧ a.block < w.heap.size:=by
 rintro a len cap rfl
 simp only [hu,Cell.okWide,Cell.ok] at hv
 obtain ⟨_,_,_,h1,row,cells,h2,_⟩:=hv
 refine ⟨h1,?_⟩
 unfold World.shape? at h2
 rcases Nat.lt_or_ge a.block w.heap.size with h3 | h3
 ·exact h3
 ·rw [Array.getElem?_eq_none h3] at h2;simp at h2
theorem types24 : Tryz.prog.cellTypes Tryz.prog.depth 24 = some [3,22]:=by kernel_rfl
theorem arg_sys {r : Reach} {b0 : Nat} {v : Value} {d : DataW H} {p : List MemPlace} (hv : Value.okWide Tryz.prog w r b0 24 v) (h : DataW.Trod enc Tryz.prog w base spare held 24 v d p) :
  ∃ (N : Int) (c : Value) (I : RI) (xs : List (Tup kL)),v = .agg #[.int .i64 N,c] ∧ I.head 0 xs.length c ∧ SlAt w 54 kL xs I:=by
 have hv':=hv
 simp only [Value.okWide,Tryz.underlying24] at hv'
 obtain ⟨cs,rfl,hsz,ts,hts,-,hrow⟩:=hv'
 obtain rfl : ts = [3,22]:=Option.some.inj (hts.symm.trans types24)
 obtain ⟨l⟩:=cs
 have hl : l.length = 2:=hsz.trans (by kernel_rfl)
 match l,hl with
 | [c0,c1],_ =>
   obtain ⟨fuel,hf⟩:=h
   obtain ⟨xs,n,_,_,_,hlen,hf⟩:=DataW.trod_struct Tryz.underlying24 hf
   match xs,hlen with
   | [y0,y1],_ =>
     have e : Tryz.prog.cellsOf 3 = 1:=by kernel_rfl
     have e' : Tryz.prog.cellsOf 22 = 1:=by kernel_rfl
     obtain ⟨a,rfl⟩:=cell_int (c:=c0) (by simpa [e,Value.cells] using hf 0 _ rfl)
     obtain ⟨u,hu,hc⟩:=hrow 1 c1 rfl
     obtain rfl : (22 : TypeId) = u:=Option.some.inj hu
     obtain ⟨I,ys,h1,h2⟩:=sl_at (t:=22) (te:=54) (tg:=kL) (by simp [kL]) Tryz.underlying22 (by kernel_rfl) kL_one (slice_lt Tryz.underlying22 hc) (v:=c1) (by simpa [e',Value.cells] using hf 1 _ rfl)
     exact ⟨a,c1,I,ys,rfl,h1,h2⟩
end
/-! ### A statement's walk -/
def ky (Is : List RI) : Keys:=fun r _ => Is.getD r ⟨0,0,0,0,true⟩
structure AtR where
 te : TypeId
 tg : List CK
 xs : List (Tup tg)
 I : RI
def AtR.ok (w : World) (A : AtR) : Prop:=flatK A.tg = true ∧ SlAt w A.te A.tg A.xs A.I
def AtR.reg (A : AtR) : Reg:=.arr A.te A.tg A.xs false false
theorem lies_flatAt {w : World} {te : TypeId} {tg : List CK} {xs : List (Tup tg)} (hf : flatK tg = true) {I : RI} (h : Ar.lies w (fun _ => I) [] ⟨te,tg,xs⟩) {η : Path → RI} (hk : η [] = I) : Ar.lies w η [] ⟨te,tg,xs⟩:=by
 subst hk
 exact ⟨h.tg,h.m,h.void,h.len,fun i hi => by obtain ⟨ys,h1,h2⟩:=h.cell i hi;exact ⟨ys,lies_flat hf h1,h2⟩⟩
theorem regs_of {w : World} (As : List AtR) (h : ∀ A ∈ As,A.ok w) : Regs (fun _ => False) w As.length (ky (As.map (·.I))) (As.map AtR.reg) w:=by
 have one : ∀ (r : Nat) (g : Reg) π o B,(As.map AtR.reg)[r]? = some g → g.has π o B → ∃ A,A ∈ As ∧ ky (As.map (·.I)) r [] = A.I ∧ π = [] ∧ o = false ∧ B = .arr ⟨A.te,A.tg,A.xs⟩:=by
  intro r g π o B hg hh
  rw [List.getElem?_map] at hg
  obtain ⟨A,hA,rfl⟩:=Option.map_eq_some_iff.1 hg
  have hm:=List.mem_of_getElem? hA
  obtain ⟨rfl,ho,rfl⟩:=flat_has (h A hm).1 hh
  exact ⟨A,hm,by simp [ky,List.getD_eq_getElem?_getD,List.getElem?_map,hA],rfl,ho,rfl⟩
 constructor
 ·intro r g π o B hg hh
  obtain ⟨A,hm,hk,rfl,rfl,rfl⟩:=one r g π o B hg hh
  exact lies_flatAt (h A hm).1 (h A hm).2.ar hk
 ·intro r g π o B hg hh hv
  obtain ⟨A,hm,hk,rfl,rfl,rfl⟩:=one r g π o B hg hh
  rw [hk] at hv ⊢
  exact (h A hm).2.lt hv
 ·intro r g π B hg hh
  obtain ⟨A,hm,hk,rfl,ho,rfl⟩:=one r g π _ B hg hh
  cases ho
 ·intro r r' g g' π π' o' B B' hg _ hh
  obtain ⟨A,hm,hk,rfl,ho,rfl⟩:=one r g π _ B hg hh
  cases ho
def plainT (t : TypeId) : Bool:=t == 3 || t == 24 || t == 41
theorem ok_sl {N : Nat} {ρ : Keys} {r n : Nat} {v : Value} (hr : r < N) (h : (ρ r []).head 0 n v) : Tm.ok N ρ (.a (.sl r [] 0 n)) v:=⟨hr,h⟩
theorem ok_sys {N : Nat} {ρ : Keys} {r n : Nat} {M : Int} {v : Value} (hr : r < N) (h : (ρ r []).head 0 n v) : Tm.ok N ρ (.agg [.v (.int .i64 M),.sl r [] 0 n]) (.agg #[.int .i64 M,v]):=⟨[_,_],rfl,⟨rfl,rfl⟩,⟨hr,h⟩,trivial⟩
theorem fn_calls {Γ : Glob} {f : FuncId} {F : List Tm → List Reg → Option (List Duty × Tm)} (hc : Ctr.Ok Tryz.prog Γ f (.fn F)) (As : List AtR) {args : List Tm} {q : List Duty} {t : Tm} (hF : F args (As.map AtR.reg) = some (q,t)) (hq : obl q) {W : World} {vs : List Value}
  (hn : ∀ b,b < Γ.n → b < W.heap.size) (hG : Γ.G W) (hA : ∀ A ∈ As,A.ok W) (hargs : okL (Tm.ok As.length (ky (As.map (·.I)))) args vs) : Calls Tryz.prog f vs.toArray W fun e W' => ∃ v,e = .returned v ∧ t.ok As.length (ky (As.map (·.I))) v ∧ Below W.heap.size W W':=by
 have hl : (As.map AtR.reg).length = As.length:=List.length_map _
 exact (hc args _ q _ hF hq (fun _ => False) W (ky (As.map (·.I))) W vs (Nat.le_refl _) hn hG (by rw [hl];exact hargs) (by rw [hl];exact regs_of As hA)).mono fun e w' ⟨v,he,hv,hb⟩ => ⟨v,he,by rw [hl] at hv;exact hv,hb⟩
end Go.Proofs.YtcmojakklijgfaaGreatDoor
end
