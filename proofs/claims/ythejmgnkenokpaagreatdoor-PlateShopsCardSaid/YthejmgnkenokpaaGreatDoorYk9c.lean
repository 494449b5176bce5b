/-
  Texts of the claims on chapter 3: Yk9c. No condition: lemmas and contracts.
-/
import Derived.Test.YthejmgnkenokpaaGreatDoorYk8c
import Derived.Test.YthejmgnkenokpaaGreatDoorYk5c
import Derived.Test.YthejmgnkenokpaaGreatDoorYk3c
set_option linter.all false
set_option maxRecDepth 100000
set_option maxHeartbeats 4000000
section
namespace Go.Proofs.YthejmgnkenokpaaGreatDoor
open Go Go.Sy Go.bK
variable {Γ : bn}
def y8 (D : Int -> Int -> List Wk -> Int -> List Int -> List aa) (R : Int -> Int -> List Wk -> Int -> List Int -> cM) : au:=.new fun args rg K => match args with
 | [.agg [.v (.int .i64 n0),.v (.int .i64 n1),x0],.a (.v (.int .i64 n2)),.a x1] => (match ac1 46 kW rg x0,ac1 3 kI rg x1 with | some (q0,L0),some (q1,L1) => bk false (q0 ++ (q1 ++ (D n0 n1 L0 n2 L1))) (K (R n0 n1 L0 n2 L1)) | _,_ => False)
 | _ => False
theorem Z8 {f : FuncId} {b : Body} {E : Env} {d : Nat} (hP : aL Tryz.prog Γ E) (hb : bQ Tryz.prog f b) {D : Int -> Int -> List Wk -> Int -> List Int -> List aa} {R : Int -> Int -> List Wk -> Int -> List Int -> cM}
  (H : ∀ (n0 : Int) (n1 : Int) (L0 : List Wk) (n2 : Int) (L1 : List Int) (K : cM -> Prop),bW (D n0 n1 L0 n2 L1) -> K (R n0 n1 L0 n2 L1) -> cQ E d b [.agg [vI n0,vI n1,.sl 0 [] 0 L0.length],.a (vI n2),.a (.sl 1 [] 0 L1.length)] [.arr 46 kW L0 false false,.arr 3 kI L1 false false] (bu K)) : au.Ok Tryz.prog Γ f (y8 D R):=au.fM (d:=d) hP hb (by
 intro args rg K hF
 split at hF
 next n0 n1 x0 n2 x1 =>
  split at hF
  next q0 L0 q1 L1 hx0 cO =>
   rw [aV,aH,aH] at hF
   obtain ⟨⟨dm,gk,hD⟩,hK⟩:=hF
   obtain ⟨e0,Vn⟩:=bP (by simp [kW]) hx0 dm
   obtain ⟨e1,iO⟩:=bP (by simp [kI]) cO gk
   obtain ⟨p0,r0⟩:=Vn [e0,e1] 0 2 rfl (by omega)
   obtain ⟨p1,r1⟩:=iO [e0,e1] 1 2 rfl (by omega)
   refine ⟨[e0,e1],[.agg [vI n0,vI n1,.sl 0 [] 0 L0.length],.a (vI n2),.a (.sl 1 [] 0 L1.length)],[.arr 46 kW L0 false false,.arr 3 kI L1 false false],⟨⟨⟨rfl,rfl,p0,trivial⟩,rfl,p1,trivial⟩,fun r g hg => ?_⟩,bu K,H _ _ _ _ _ K hD hK,fun x st h => h⟩
   match r,hg with
   | 0,hg => obtain rfl:=Option.some.inj hg;exact r0
   | 1,hg => obtain rfl:=Option.some.inj hg;exact r1
  next => exact hF.elim
 next => exact hF.elim)
def aB (n : Int) (L : List Wk) (p : Int) : List Int:=eR (aJ n (af L p)) (aU n (af L p)) (aJ n (af L p)).length
def hB (h : Int) : Bool:=aQ h (-1099511627776) 1099511627776
def lF (n P : Int) (L : List Wk) (p : Int) (H : List Int) : cM:=match bf n P L p == 0 with
 | false => ⟨[],.bF [.a (.v (.slice none 0 0)),.a (vI (bf n P L p))]⟩
 | true => match decide (H.length = (aB n L p).length) && H.all hB with
   | false => ⟨[],.bF [.a (.v (.slice none 0 0)),.a (vI 1)]⟩
   | true => ⟨[.arr 49 kT (eI n P L p (hF (aB n L p) H)) true true],.bF [.a (.sl 0 [] 0 P.toNat),.a (vI 0)]⟩
def K6 : au:=y8 (fun _ _ L _ H => [(aa.of (L.length <= 1000000)),(aa.of (H.length <= 1000000))]) lF
def cG (N Pn i : Nat) : List (List Int):=(List.range Pn).map fun q => if q < i then List.replicate N 0 else []
theorem EX {N Pn : Nat} : cG N Pn 0 = List.replicate Pn []:=by
 refine List.ext_getElem (by simp [cG]) fun j h1 h2 => ?_
 simp [cG]
theorem GS {N Pn i : Nat} : (cG N Pn i).length = Pn:=by simp [cG]
theorem GU {N Pn i : Nat} : (cG N Pn i).set i (List.replicate N 0) = cG N Pn (i + 1):=by
 refine List.ext_getElem (by simp [cG]) fun j h1 h2 => ?_
 rw [List.getElem_set]
 simp only [cG,List.getElem_map,List.getElem_range]
 by_cases h : i = j
 ·subst h;rw [if_pos rfl,if_pos (by omega)]
 ·rw [if_neg h]
  by_cases h3 : j < i
  ·rw [if_pos h3,if_pos (by omega)]
  ·rw [if_neg h3,if_neg (by omega)]
theorem GR {N Pn : Nat} : cG N Pn Pn = (List.range Pn).map fun _ => List.replicate N 0:=by
 unfold cG
 refine List.map_congr_left fun q hq => ?_
 rw [if_pos (List.mem_range.1 hq)]
def KH (N : Nat) (seen : List Nat) : Nat:=((List.range N).filter (fun j => !Vq j seen)).length
theorem ru {j x : Nat} {seen : List Nat} : Vq j (x :: seen) = (Nat.beq x j || Vq j seen):=by
 show (match Nat.beq x j with | true => true | false => Vq j seen) = _
 cases Nat.beq x j <;> rfl
theorem Ow {N j : Nat} {seen : List Nat} (hj : j < N) (h : Vq j seen = false) : KH N (j :: seen) < KH N seen:=by
 unfold KH
 have hsub : ∀ l : List Nat,(l.filter (fun i => !Vq i (j :: seen))).length <= (l.filter (fun i => !Vq i seen)).length:=by
  intro l
  induction l with
  | nil => exact Nat.le_refl _
  | cons a l ih =>
    rw [List.filter_cons,List.filter_cons,ru]
    cases h1 : Vq a seen
    ·cases h2 : Nat.beq j a <;> simp <;> omega
    ·simp;exact ih
 have key : ∀ l : List Nat,j ∈ l -> (l.filter (fun i => !Vq i (j :: seen))).length < (l.filter (fun i => !Vq i seen)).length:=by
  intro l
  induction l with
  | nil => intro h;cases h
  | cons a l ih =>
    intro hm
    rw [List.filter_cons,List.filter_cons,ru]
    by_cases e : a = j
    ·subst e
     rw [h,Nat.beq_refl]
     have:=hsub l
     simp;omega
    ·have hm' : j ∈ l:=(List.mem_cons.1 hm).resolve_left (fun e' => e e'.symm)
     have:=ih hm'
     have e2 : Nat.beq j a = false:=by
      cases hb : Nat.beq j a
      ·rfl
      ·exact absurd (Nat.eq_of_beq_eq_true hb).symm e
     rw [e2]
     cases h1 : Vq a seen <;> simp <;> omega
 exact key _ (List.mem_range.2 hj)
theorem ku {j : Nat} : ∀ {l : List Nat},Vq j l = true -> j ∈ l
 | [],h => by cases h
 | x :: l,h => by
   rw [ru,Bool.or_eq_true] at h
   rcases h with h | h
   ·exact List.mem_cons.2 (.inl (Nat.eq_of_beq_eq_true h).symm)
   ·exact List.mem_cons_of_mem _ (ku h)
theorem Jt (F H : List Int) (i : Nat) : bG F H (i + 1) = dF (bG F H i) (gi F i) (gi H i):=rfl
theorem HN {F H : List Int} (hH : ∀ h ∈ H,-1099511627776 <= h /\ h <= 1099511627776) : ∀ k v,-1099511627776 <= aO (bG F H k) v 0 /\ aO (bG F H k) v 0 <= 1099511627776
 | 0,v => by
   show -1099511627776 <= (0 : Int) /\ (0 : Int) <= 1099511627776
   exact ⟨by decide,by decide⟩
 | k + 1,v => by
   rw [bG,lB]
   split
   ·unfold gi
    by_cases h : Int.toNat (k : Int) < H.length
    ·rw [List.getD_eq_getElem?_getD,List.getElem?_eq_getElem h]
     exact hH _ (List.getElem_mem h)
    ·rw [List.getD_eq_getElem?_getD,List.getElem?_eq_none (by omega)]
     exact ⟨by decide,by decide⟩
   ·exact HN hH k v
noncomputable def FP : List (Nat × au):=[(45,jf),(48,mh),(78,nj),(79,wo),(47,r5),(83,ke),(59,gK)]
theorem FQ : aR Tryz.prog Γ FP:=(((((((aR.nil.cons (aj Tryz.func59 rfl rfl).fn fw).cons (aj Tryz.func83 rfl rfl).fn iK).cons (aj Tryz.func47 rfl rfl).fn oU).cons (aj Tryz.func79 rfl rfl).fn uC).cons (aj Tryz.func78 rfl rfl).fn mA).cons (aj Tryz.func48 rfl rfl).fn jy).cons (aj Tryz.func45 rfl rfl).fn fQ)
noncomputable def Db : List (Nat × Body):=[(82,bo Tryz.f82),(117,bo Tryz.f117),(80,bo Tryz.f80),(116,bo Tryz.f116),(81,bo Tryz.f81)]
theorem EC : bq Tryz.prog Db:=(((((bq.nil.cons (cg Tryz.func81 rfl rfl)).cons (cg Tryz.func116 rfl rfl)).cons (cg Tryz.func80 rfl rfl)).cons (cg Tryz.func117 rfl rfl)).cons (cg Tryz.func82 rfl rfl))
def LU (id : Nat) : Option OT:=match Nat.beq id 4 with | true => some (.take 0 (.take 3 (.alt 1 (.alt 2 (.alt 4 (.alt 5 (.take 6 (.take 7 (.take 8 (.alt 9 (.alt 10 (.alt 11 (.alt 12 .fin .fin) .fin) .fin) (.alt 10 (.alt 9 (.alt 11 (.alt 12 .fin .fin) .fin) .fin) .fin))))) (.alt 9 (.alt 5 (.take 6 (.take 7 (.take 8 (.alt 10 (.alt 11 (.alt 12 .fin .fin) .fin) .fin)))) (.alt 10 (.alt 5 (.take 6 (.take 7 (.take 8 (.alt 11 (.alt 12 .fin .fin) .fin)))) .fin) .fin)) (.alt 10 (.alt 5 (.take 6 (.take 7 (.take 8 (.alt 9 (.alt 11 (.alt 12 .fin .fin) .fin) .fin)))) (.alt 9 (.alt 5 (.take 6 (.take 7 (.take 8 (.alt 11 (.alt 12 .fin .fin) .fin)))) .fin) .fin)) .fin))) (.alt 9 (.alt 4 (.alt 5 (.take 6 (.take 7 (.take 8 (.alt 10 (.alt 11 (.alt 12 .fin .fin) .fin) .fin)))) (.alt 10 (.alt 5 (.take 6 (.take 7 (.take 8 (.alt 11 (.alt 12 .fin .fin) .fin)))) .fin) .fin)) (.alt 10 (.alt 4 (.alt 5 (.take 6 (.take 7 (.take 8 (.alt 11 (.alt 12 .fin .fin) .fin)))) .fin) .fin) .fin)) (.alt 10 (.alt 4 (.alt 5 (.take 6 (.take 7 (.take 8 (.alt 9 (.alt 11 (.alt 12 .fin .fin) .fin) .fin)))) (.alt 9 (.alt 5 (.take 6 (.take 7 (.take 8 (.alt 11 (.alt 12 .fin .fin) .fin)))) .fin) .fin)) (.alt 9 (.alt 4 (.alt 5 (.take 6 (.take 7 (.take 8 (.alt 11 (.alt 12 .fin .fin) .fin)))) .fin) .fin) .fin)) .fin))) (.alt 9 (.alt 2 (.alt 4 (.alt 5 (.take 6 (.take 7 (.take 8 (.alt 10 (.alt 11 (.alt 12 .fin .fin) .fin) .fin)))) (.alt 10 (.alt 5 (.take 6 (.take 7 (.take 8 (.alt 11 (.alt 12 .fin .fin) .fin)))) .fin) .fin)) (.alt 10 (.alt 4 (.alt 5 (.take 6 (.take 7 (.take 8 (.alt 11 (.alt 12 .fin .fin) .fin)))) .fin) .fin) .fin)) (.alt 10 (.alt 2 (.alt 4 (.alt 5 (.take 6 (.take 7 (.take 8 (.alt 11 (.alt 12 .fin .fin) .fin)))) .fin) .fin) .fin) .fin)) (.alt 10 (.alt 2 (.alt 4 (.alt 5 (.take 6 (.take 7 (.take 8 (.alt 9 (.alt 11 (.alt 12 .fin .fin) .fin) .fin)))) (.alt 9 (.alt 5 (.take 6 (.take 7 (.take 8 (.alt 11 (.alt 12 .fin .fin) .fin)))) .fin) .fin)) (.alt 9 (.alt 4 (.alt 5 (.take 6 (.take 7 (.take 8 (.alt 11 (.alt 12 .fin .fin) .fin)))) .fin) .fin) .fin)) (.alt 9 (.alt 2 (.alt 4 (.alt 5 (.take 6 (.take 7 (.take 8 (.alt 11 (.alt 12 .fin .fin) .fin)))) .fin) .fin) .fin) .fin)) .fin))) (.alt 2 (.alt 1 (.alt 4 (.alt 5 (.take 6 (.take 7 (.take 8 (.alt 9 (.alt 10 (.alt 11 (.alt 12 .fin .fin) .fin) .fin) (.alt 10 (.alt 9 (.alt 11 (.alt 12 .fin .fin) .fin) .fin) .fin))))) (.alt 9 (.alt 5 (.take 6 (.take 7 (.take 8 (.alt 10 (.alt 11 (.alt 12 .fin .fin) .fin) .fin)))) (.alt 10 (.alt 5 (.take 6 (.take 7 (.take 8 (.alt 11 (.alt 12 .fin .fin) .fin)))) .fin) .fin)) (.alt 10 (.alt 5 (.take 6 (.take 7 (.take 8 (.alt 9 (.alt 11 (.alt 12 .fin .fin) .fin) .fin)))) (.alt 9 (.alt 5 (.take 6 (.take 7 (.take 8 (.alt 11 (.alt 12 .fin .fin) .fin)))) .fin) .fin)) .fin))) (.alt 9 (.alt 4 (.alt 5 (.take 6 (.take 7 (.take 8 (.alt 10 (.alt 11 (.alt 12 .fin .fin) .fin) .fin)))) (.alt 10 (.alt 5 (.take 6 (.take 7 (.take 8 (.alt 11 (.alt 12 .fin .fin) .fin)))) .fin) .fin)) (.alt 10 (.alt 4 (.alt 5 (.take 6 (.take 7 (.take 8 (.alt 11 (.alt 12 .fin .fin) .fin)))) .fin) .fin) .fin)) (.alt 10 (.alt 4 (.alt 5 (.take 6 (.take 7 (.take 8 (.alt 9 (.alt 11 (.alt 12 .fin .fin) .fin) .fin)))) (.alt 9 (.alt 5 (.take 6 (.take 7 (.take 8 (.alt 11 (.alt 12 .fin .fin) .fin)))) .fin) .fin)) (.alt 9 (.alt 4 (.alt 5 (.take 6 (.take 7 (.take 8 (.alt 11 (.alt 12 .fin .fin) .fin)))) .fin) .fin) .fin)) .fin))) (.alt 4 (.alt 1 (.alt 5 (.take 6 (.take 7 (.take 8 (.alt 9 (.alt 10 (.alt 11 (.alt 12 .fin .fin) .fin) .fin) (.alt 10 (.alt 9 (.alt 11 (.alt 12 .fin .fin) .fin) .fin) .fin))))) (.alt 9 (.alt 5 (.take 6 (.take 7 (.take 8 (.alt 10 (.alt 11 (.alt 12 .fin .fin) .fin) .fin)))) (.alt 10 (.alt 5 (.take 6 (.take 7 (.take 8 (.alt 11 (.alt 12 .fin .fin) .fin)))) .fin) .fin)) (.alt 10 (.alt 5 (.take 6 (.take 7 (.take 8 (.alt 9 (.alt 11 (.alt 12 .fin .fin) .fin) .fin)))) (.alt 9 (.alt 5 (.take 6 (.take 7 (.take 8 (.alt 11 (.alt 12 .fin .fin) .fin)))) .fin) .fin)) .fin))) (.alt 9 (.alt 1 (.alt 5 (.take 6 (.take 7 (.take 8 (.alt 10 (.alt 11 (.alt 12 .fin .fin) .fin) .fin)))) (.alt 10 (.alt 5 (.take 6 (.take 7 (.take 8 (.alt 11 (.alt 12 .fin .fin) .fin)))) .fin) .fin)) (.alt 10 (.alt 1 (.alt 5 (.take 6 (.take 7 (.take 8 (.alt 11 (.alt 12 .fin .fin) .fin)))) .fin) .fin) .fin)) (.alt 10 (.alt 1 (.alt 5 (.take 6 (.take 7 (.take 8 (.alt 9 (.alt 11 (.alt 12 .fin .fin) .fin) .fin)))) (.alt 9 (.alt 5 (.take 6 (.take 7 (.take 8 (.alt 11 (.alt 12 .fin .fin) .fin)))) .fin) .fin)) (.alt 9 (.alt 1 (.alt 5 (.take 6 (.take 7 (.take 8 (.alt 11 (.alt 12 .fin .fin) .fin)))) .fin) .fin) .fin)) .fin))) (.alt 9 (.alt 1 (.alt 4 (.alt 5 (.take 6 (.take 7 (.take 8 (.alt 10 (.alt 11 (.alt 12 .fin .fin) .fin) .fin)))) (.alt 10 (.alt 5 (.take 6 (.take 7 (.take 8 (.alt 11 (.alt 12 .fin .fin) .fin)))) .fin) .fin)) (.alt 10 (.alt 4 (.alt 5 (.take 6 (.take 7 (.take 8 (.alt 11 (.alt 12 .fin .fin) .fin)))) .fin) .fin) .fin)) (.alt 4 (.alt 1 (.alt 5 (.take 6 (.take 7 (.take 8 (.alt 10 (.alt 11 (.alt 12 .fin .fin) .fin) .fin)))) (.alt 10 (.alt 5 (.take 6 (.take 7 (.take 8 (.alt 11 (.alt 12 .fin .fin) .fin)))) .fin) .fin)) (.alt 10 (.alt 1 (.alt 5 (.take 6 (.take 7 (.take 8 (.alt 11 (.alt 12 .fin .fin) .fin)))) .fin) .fin) .fin)) (.alt 10 (.alt 1 (.alt 4 (.alt 5 (.take 6 (.take 7 (.take 8 (.alt 11 (.alt 12 .fin .fin) .fin)))) .fin) .fin) (.alt 4 (.alt 1 (.alt 5 (.take 6 (.take 7 (.take 8 (.alt 11 (.alt 12 .fin .fin) .fin)))) .fin) .fin) .fin)) .fin))) (.alt 10 (.alt 1 (.alt 4 (.alt 5 (.take 6 (.take 7 (.take 8 (.alt 9 (.alt 11 (.alt 12 .fin .fin) .fin) .fin)))) (.alt 9 (.alt 5 (.take 6 (.take 7 (.take 8 (.alt 11 (.alt 12 .fin .fin) .fin)))) .fin) .fin)) (.alt 9 (.alt 4 (.alt 5 (.take 6 (.take 7 (.take 8 (.alt 11 (.alt 12 .fin .fin) .fin)))) .fin) .fin) .fin)) (.alt 4 (.alt 1 (.alt 5 (.take 6 (.take 7 (.take 8 (.alt 9 (.alt 11 (.alt 12 .fin .fin) .fin) .fin)))) (.alt 9 (.alt 5 (.take 6 (.take 7 (.take 8 (.alt 11 (.alt 12 .fin .fin) .fin)))) .fin) .fin)) (.alt 9 (.alt 1 (.alt 5 (.take 6 (.take 7 (.take 8 (.alt 11 (.alt 12 .fin .fin) .fin)))) .fin) .fin) .fin)) (.alt 9 (.alt 1 (.alt 4 (.alt 5 (.take 6 (.take 7 (.take 8 (.alt 11 (.alt 12 .fin .fin) .fin)))) .fin) .fin) (.alt 4 (.alt 1 (.alt 5 (.take 6 (.take 7 (.take 8 (.alt 11 (.alt 12 .fin .fin) .fin)))) .fin) .fin) .fin)) .fin))) .fin)))) (.alt 9 (.alt 1 (.alt 2 (.alt 4 (.alt 5 (.take 6 (.take 7 (.take 8 (.alt 10 (.alt 11 (.alt 12 .fin .fin) .fin) .fin)))) (.alt 10 (.alt 5 (.take 6 (.take 7 (.take 8 (.alt 11 (.alt 12 .fin .fin) .fin)))) .fin) .fin)) (.alt 10 (.alt 4 (.alt 5 (.take 6 (.take 7 (.take 8 (.alt 11 (.alt 12 .fin .fin) .fin)))) .fin) .fin) .fin)) (.alt 10 (.alt 2 (.alt 4 (.alt 5 (.take 6 (.take 7 (.take 8 (.alt 11 (.alt 12 .fin .fin) .fin)))) .fin) .fin) .fin) .fin)) (.alt 2 (.alt 1 (.alt 4 (.alt 5 (.take 6 (.take 7 (.take 8 (.alt 10 (.alt 11 (.alt 12 .fin .fin) .fin) .fin)))) (.alt 10 (.alt 5 (.take 6 (.take 7 (.take 8 (.alt 11 (.alt 12 .fin .fin) .fin)))) .fin) .fin)) (.alt 10 (.alt 4 (.alt 5 (.take 6 (.take 7 (.take 8 (.alt 11 (.alt 12 .fin .fin) .fin)))) .fin) .fin) .fin)) (.alt 4 (.alt 1 (.alt 5 (.take 6 (.take 7 (.take 8 (.alt 10 (.alt 11 (.alt 12 .fin .fin) .fin) .fin)))) (.alt 10 (.alt 5 (.take 6 (.take 7 (.take 8 (.alt 11 (.alt 12 .fin .fin) .fin)))) .fin) .fin)) (.alt 10 (.alt 1 (.alt 5 (.take 6 (.take 7 (.take 8 (.alt 11 (.alt 12 .fin .fin) .fin)))) .fin) .fin) .fin)) (.alt 10 (.alt 1 (.alt 4 (.alt 5 (.take 6 (.take 7 (.take 8 (.alt 11 (.alt 12 .fin .fin) .fin)))) .fin) .fin) (.alt 4 (.alt 1 (.alt 5 (.take 6 (.take 7 (.take 8 (.alt 11 (.alt 12 .fin .fin) .fin)))) .fin) .fin) .fin)) .fin))) (.alt 10 (.alt 1 (.alt 2 (.alt 4 (.alt 5 (.take 6 (.take 7 (.take 8 (.alt 11 (.alt 12 .fin .fin) .fin)))) .fin) .fin) .fin) (.alt 2 (.alt 1 (.alt 4 (.alt 5 (.take 6 (.take 7 (.take 8 (.alt 11 (.alt 12 .fin .fin) .fin)))) .fin) .fin) (.alt 4 (.alt 1 (.alt 5 (.take 6 (.take 7 (.take 8 (.alt 11 (.alt 12 .fin .fin) .fin)))) .fin) .fin) .fin)) .fin)) .fin))) (.alt 10 (.alt 1 (.alt 2 (.alt 4 (.alt 5 (.take 6 (.take 7 (.take 8 (.alt 9 (.alt 11 (.alt 12 .fin .fin) .fin) .fin)))) (.alt 9 (.alt 5 (.take 6 (.take 7 (.take 8 (.alt 11 (.alt 12 .fin .fin) .fin)))) .fin) .fin)) (.alt 9 (.alt 4 (.alt 5 (.take 6 (.take 7 (.take 8 (.alt 11 (.alt 12 .fin .fin) .fin)))) .fin) .fin) .fin)) (.alt 9 (.alt 2 (.alt 4 (.alt 5 (.take 6 (.take 7 (.take 8 (.alt 11 (.alt 12 .fin .fin) .fin)))) .fin) .fin) .fin) .fin)) (.alt 2 (.alt 1 (.alt 4 (.alt 5 (.take 6 (.take 7 (.take 8 (.alt 9 (.alt 11 (.alt 12 .fin .fin) .fin) .fin)))) (.alt 9 (.alt 5 (.take 6 (.take 7 (.take 8 (.alt 11 (.alt 12 .fin .fin) .fin)))) .fin) .fin)) (.alt 9 (.alt 4 (.alt 5 (.take 6 (.take 7 (.take 8 (.alt 11 (.alt 12 .fin .fin) .fin)))) .fin) .fin) .fin)) (.alt 4 (.alt 1 (.alt 5 (.take 6 (.take 7 (.take 8 (.alt 9 (.alt 11 (.alt 12 .fin .fin) .fin) .fin)))) (.alt 9 (.alt 5 (.take 6 (.take 7 (.take 8 (.alt 11 (.alt 12 .fin .fin) .fin)))) .fin) .fin)) (.alt 9 (.alt 1 (.alt 5 (.take 6 (.take 7 (.take 8 (.alt 11 (.alt 12 .fin .fin) .fin)))) .fin) .fin) .fin)) (.alt 9 (.alt 1 (.alt 4 (.alt 5 (.take 6 (.take 7 (.take 8 (.alt 11 (.alt 12 .fin .fin) .fin)))) .fin) .fin) (.alt 4 (.alt 1 (.alt 5 (.take 6 (.take 7 (.take 8 (.alt 11 (.alt 12 .fin .fin) .fin)))) .fin) .fin) .fin)) .fin))) (.alt 9 (.alt 1 (.alt 2 (.alt 4 (.alt 5 (.take 6 (.take 7 (.take 8 (.alt 11 (.alt 12 .fin .fin) .fin)))) .fin) .fin) .fin) (.alt 2 (.alt 1 (.alt 4 (.alt 5 (.take 6 (.take 7 (.take 8 (.alt 11 (.alt 12 .fin .fin) .fin)))) .fin) .fin) (.alt 4 (.alt 1 (.alt 5 (.take 6 (.take 7 (.take 8 (.alt 11 (.alt 12 .fin .fin) .fin)))) .fin) .fin) .fin)) .fin)) .fin))) .fin)))))) | false => none
noncomputable def zZ : Env:={ jV.env FP Db false 0 with tree:=LU }
theorem CG : aL Tryz.prog Γ zZ:=(aP FQ EC false 0).vU _
noncomputable def La : Env:={ zZ with cut:=fun t => Nat.beq t 2004 }
theorem EN : aL Tryz.prog Γ La:=CG.wy _
attribute [local irreducible] af ag5 bf eI hF bG fO aX hB
theorem EG : au.Ok Tryz.prog Γ 41 K6:=Z8 (d:=4) EN (aj Tryz.func41 rfl rfl) (by
 intro n P L p H K ⟨hl,hh,_⟩ hK
 simp only [aa.ae] at hl hh
 cases h0 : bf n P L p == 0
 ·have e0 : (bf n P L p != 0) = true:=by unfold bne;rw [h0];rfl
  rw [show lF n P L p H = ⟨[],.bF [.a (.v (.slice none 0 0)),.a (vI (bf n P L p))]⟩ by unfold lF;rw [h0]] at hK
  repeat' ((conv => whnf);first | apply And.intro | (intro h9;try (have h8 : (_ : Bool) = _:=h9;clear h8;revert h9;subst_vars;intro h9;exact aq h9 (by assumption))))
  all_goals try (conv => whnf)
  all_goals try first | (apply Tk.mk <;> kernel_rfl) | exact ⟨ah rfl⟩ | exact ⟨rfl⟩ | exact ⟨trivial⟩
  all_goals subst_vars
  all_goals try first | rfl | contradiction | (apply Ob.mk;first | (simp only [ag,ak,aa.ae];omega) | ((try simp only [aa.ae]);(try dsimp only);omega))
  all_goals first
   | exact ⟨hl⟩
   | (refine bu.base ⟨_,[],hK,trivial,rfl,?_⟩;(repeat' ((conv => whnf);(first | apply And.intro | intro _)));all_goals first | rfl | trivial)
 have e0 : (bf n P L p != 0) = false:=by unfold bne;rw [h0];rfl
 obtain ⟨hw,hP,hp,hn⟩:=gg (eq_of_beq h0)
 have Vo:=nK (cW.1 hw) hP hp
 have dZ:=Nat.le_trans (ag4 L p) (show 16 <= 1000000 by omega)
 have ed : ∀ g ∈ af L p,0 <= g.1 /\ g.1 <= 7:=Vo.ok
 have j4 : 1 <= n * n /\ n * n <= 36:=sJ hn
 have hal : (aJ n (af L p)).length = (n * n).toNat:=c7
 have has : (aU n (af L p)).length = (n * n).toNat:=c7
 repeat' ((conv => whnf);first | apply And.intro | (intro h9;try (have h8 : (_ : Bool) = _:=h9;clear h8;revert h9;subst_vars;intro h9;exact aq h9 (by assumption))))
 all_goals try (conv => whnf)
 all_goals try first | (apply Tk.mk <;> kernel_rfl) | exact ⟨ah rfl⟩ | exact ⟨rfl⟩ | exact ⟨trivial⟩
 all_goals subst_vars
 all_goals try first | rfl | contradiction | (apply Ob.mk;first | (simp only [ag,ak,aa.ae];omega) | ((try simp only [aa.ae]);(try dsimp only);omega))
 all_goals try first
  | exact ⟨hl⟩
 refine ⟨Unit,fun _ => True,fun _ => ⟨aI 123 [1,2,3,9,10] [.a (vI p),.a (.sl 1 [] 0 H.length),.a (.p 2 [] 0 0),.a (.p 5 [] 0 0),.a (.p 6 [] 0 0)],[],[.arr 46 kW L false false,.arr 3 kI H false false,.box true [vI n,vI P,.sl 0 [] 0 L.length],.arr 3 kI (aJ n (af L p)) true true,.arr 3 kI (aU n (af L p)) true true,.box true [.sl 3 [] 0 (n * n).toNat],.box true [.sl 4 [] 0 (n * n).toNat]]⟩,?_,?_⟩
 ·repeat' ((conv => whnf);first | apply And.intro | (intro h9;try (have h8 : (_ : Bool) = _:=h9;clear h8;revert h9;subst_vars;intro h9;exact aq h9 (by assumption))))
  all_goals try (conv => whnf)
  all_goals try first | (apply Tk.mk <;> kernel_rfl) | exact ⟨ah rfl⟩ | exact ⟨rfl⟩ | exact ⟨trivial⟩
  all_goals subst_vars
  all_goals try first | rfl | contradiction | (apply Ob.mk;first | (simp only [ag,ak,aa.ae];omega) | ((try simp only [aa.ae]);(try dsimp only);omega))
  all_goals try first
   | exact True.intro
   | exact ⟨hw⟩
   | exact ⟨hl⟩
   | exact ⟨dZ⟩
   | exact ⟨ed⟩
  refine ⟨(),[0,1,2,4,5,6,7],trivial,?_⟩
  rotate_left
  refine ⟨(),[0,1,2,4,5,7,6],trivial,?_⟩
  rotate_left
  refine ⟨(),[0,1,2,5,6,4,7],trivial,?_⟩
  rotate_left
  refine ⟨(),[0,1,2,6,7,4,5],trivial,?_⟩
  rotate_left
  refine ⟨(),[0,1,2,5,6,7,4],trivial,?_⟩
  rotate_left
  refine ⟨(),[0,1,2,6,7,5,4],trivial,?_⟩
  rotate_left
  refine ⟨(),[0,1,2,5,6,3,7],trivial,?_⟩
  rotate_left
  refine ⟨(),[0,1,2,6,7,3,5],trivial,?_⟩
  rotate_left
  refine ⟨(),[0,1,2,6,7,3,4],trivial,?_⟩
  rotate_left
  refine ⟨(),[0,1,2,5,6,7,3],trivial,?_⟩
  rotate_left
  refine ⟨(),[0,1,2,6,7,5,3],trivial,?_⟩
  rotate_left
  refine ⟨(),[0,1,2,6,7,4,3],trivial,?_⟩
  rotate_left
  refine ⟨(),[0,1,2,5,6,3,7],trivial,?_⟩
  rotate_left
  refine ⟨(),[0,1,2,6,7,3,5],trivial,?_⟩
  rotate_left
  refine ⟨(),[0,1,2,6,7,3,4],trivial,?_⟩
  rotate_left
  refine ⟨(),[0,1,2,6,7,3,4],trivial,?_⟩
  rotate_left
  refine ⟨(),[0,1,2,5,6,7,3],trivial,?_⟩
  rotate_left
  refine ⟨(),[0,1,2,6,7,5,3],trivial,?_⟩
  rotate_left
  refine ⟨(),[0,1,2,6,7,4,3],trivial,?_⟩
  rotate_left
  refine ⟨(),[0,1,2,6,7,4,3],trivial,?_⟩
  rotate_left
  refine ⟨(),[0,1,2,4,5,6,7],trivial,?_⟩
  rotate_left
  refine ⟨(),[0,1,2,4,5,7,6],trivial,?_⟩
  rotate_left
  refine ⟨(),[0,1,2,5,6,4,7],trivial,?_⟩
  rotate_left
  refine ⟨(),[0,1,2,6,7,4,5],trivial,?_⟩
  rotate_left
  refine ⟨(),[0,1,2,5,6,7,4],trivial,?_⟩
  rotate_left
  refine ⟨(),[0,1,2,6,7,5,4],trivial,?_⟩
  rotate_left
  refine ⟨(),[0,1,2,5,6,3,7],trivial,?_⟩
  rotate_left
  refine ⟨(),[0,1,2,6,7,3,5],trivial,?_⟩
  rotate_left
  refine ⟨(),[0,1,2,6,7,3,4],trivial,?_⟩
  rotate_left
  refine ⟨(),[0,1,2,5,6,7,3],trivial,?_⟩
  rotate_left
  refine ⟨(),[0,1,2,6,7,5,3],trivial,?_⟩
  rotate_left
  refine ⟨(),[0,1,2,6,7,4,3],trivial,?_⟩
  rotate_left
  refine ⟨(),[0,1,2,4,5,6,7],trivial,?_⟩
  rotate_left
  refine ⟨(),[0,1,2,4,5,7,6],trivial,?_⟩
  rotate_left
  refine ⟨(),[0,1,2,5,6,4,7],trivial,?_⟩
  rotate_left
  refine ⟨(),[0,1,2,6,7,4,5],trivial,?_⟩
  rotate_left
  refine ⟨(),[0,1,2,5,6,7,4],trivial,?_⟩
  rotate_left
  refine ⟨(),[0,1,2,6,7,5,4],trivial,?_⟩
  rotate_left
  refine ⟨(),[0,1,2,5,6,4,7],trivial,?_⟩
  rotate_left
  refine ⟨(),[0,1,2,6,7,4,5],trivial,?_⟩
  rotate_left
  refine ⟨(),[0,1,2,6,7,4,5],trivial,?_⟩
  rotate_left
  refine ⟨(),[0,1,2,5,6,7,4],trivial,?_⟩
  rotate_left
  refine ⟨(),[0,1,2,6,7,5,4],trivial,?_⟩
  rotate_left
  refine ⟨(),[0,1,2,6,7,5,4],trivial,?_⟩
  rotate_left
  refine ⟨(),[0,1,2,5,6,3,7],trivial,?_⟩
  rotate_left
  refine ⟨(),[0,1,2,6,7,3,5],trivial,?_⟩
  rotate_left
  refine ⟨(),[0,1,2,6,7,3,4],trivial,?_⟩
  rotate_left
  refine ⟨(),[0,1,2,5,6,3,7],trivial,?_⟩
  rotate_left
  refine ⟨(),[0,1,2,6,7,3,5],trivial,?_⟩
  rotate_left
  refine ⟨(),[0,1,2,6,7,3,5],trivial,?_⟩
  rotate_left
  refine ⟨(),[0,1,2,6,7,3,4],trivial,?_⟩
  rotate_left
  refine ⟨(),[0,1,2,6,7,3,4],trivial,?_⟩
  rotate_left
  refine ⟨(),[0,1,2,5,6,7,3],trivial,?_⟩
  rotate_left
  refine ⟨(),[0,1,2,6,7,5,3],trivial,?_⟩
  rotate_left
  refine ⟨(),[0,1,2,6,7,4,3],trivial,?_⟩
  rotate_left
  refine ⟨(),[0,1,2,5,6,7,3],trivial,?_⟩
  rotate_left
  refine ⟨(),[0,1,2,6,7,5,3],trivial,?_⟩
  rotate_left
  refine ⟨(),[0,1,2,6,7,5,3],trivial,?_⟩
  rotate_left
  refine ⟨(),[0,1,2,6,7,4,3],trivial,?_⟩
  rotate_left
  refine ⟨(),[0,1,2,6,7,4,3],trivial,?_⟩
  rotate_left
  refine ⟨(),[0,1,2,5,6,3,7],trivial,?_⟩
  rotate_left
  refine ⟨(),[0,1,2,6,7,3,5],trivial,?_⟩
  rotate_left
  refine ⟨(),[0,1,2,6,7,3,4],trivial,?_⟩
  rotate_left
  refine ⟨(),[0,1,2,6,7,3,4],trivial,?_⟩
  rotate_left
  refine ⟨(),[0,1,2,5,6,3,7],trivial,?_⟩
  rotate_left
  refine ⟨(),[0,1,2,6,7,3,5],trivial,?_⟩
  rotate_left
  refine ⟨(),[0,1,2,6,7,3,4],trivial,?_⟩
  rotate_left
  refine ⟨(),[0,1,2,5,6,3,7],trivial,?_⟩
  rotate_left
  refine ⟨(),[0,1,2,6,7,3,5],trivial,?_⟩
  rotate_left
  refine ⟨(),[0,1,2,6,7,3,5],trivial,?_⟩
  rotate_left
  refine ⟨(),[0,1,2,6,7,3,4],trivial,?_⟩
  rotate_left
  refine ⟨(),[0,1,2,6,7,3,4],trivial,?_⟩
  rotate_left
  refine ⟨(),[0,1,2,6,7,3,4],trivial,?_⟩
  rotate_left
  refine ⟨(),[0,1,2,6,7,3,4],trivial,?_⟩
  rotate_left
  refine ⟨(),[0,1,2,6,7,3,4],trivial,?_⟩
  rotate_left
  refine ⟨(),[0,1,2,5,6,7,3],trivial,?_⟩
  rotate_left
  refine ⟨(),[0,1,2,6,7,5,3],trivial,?_⟩
  rotate_left
  refine ⟨(),[0,1,2,6,7,4,3],trivial,?_⟩
  rotate_left
  refine ⟨(),[0,1,2,6,7,4,3],trivial,?_⟩
  rotate_left
  refine ⟨(),[0,1,2,5,6,7,3],trivial,?_⟩
  rotate_left
  refine ⟨(),[0,1,2,6,7,5,3],trivial,?_⟩
  rotate_left
  refine ⟨(),[0,1,2,6,7,4,3],trivial,?_⟩
  rotate_left
  refine ⟨(),[0,1,2,5,6,7,3],trivial,?_⟩
  rotate_left
  refine ⟨(),[0,1,2,6,7,5,3],trivial,?_⟩
  rotate_left
  refine ⟨(),[0,1,2,6,7,5,3],trivial,?_⟩
  rotate_left
  refine ⟨(),[0,1,2,6,7,4,3],trivial,?_⟩
  rotate_left
  refine ⟨(),[0,1,2,6,7,4,3],trivial,?_⟩
  rotate_left
  refine ⟨(),[0,1,2,6,7,4,3],trivial,?_⟩
  rotate_left
  refine ⟨(),[0,1,2,6,7,4,3],trivial,?_⟩
  rotate_left
  refine ⟨(),[0,1,2,6,7,4,3],trivial,?_⟩
  rotate_right 89
  iterate 90
   ·repeat' ((conv => whnf);(first | apply And.intro | intro _))
    all_goals first | rfl | trivial | exact ah rfl | exact aS ‹_› rfl | exact aT ‹_› rfl | ((repeat' first | rfl | constructor);done) | exact ⟨rfl,rfl,rfl⟩
 rintro _ _
 have Si : (aB n L p).length <= 36:=by
  have:=r9 (aJ n (af L p)) (aU n (af L p)) (aJ n (af L p)).length
  unfold aB;omega
 have m1 : decide ((-1 : Int) >= 0) = false:=rfl
 have Nc : ∀ h : Int,hB h = aQ h (-1099511627776) 1099511627776:=fun h => by unfold hB;rfl
 by_cases hlen : H.length = (aB n L p).length
 rotate_left
 ·have q0 : ((H.length : Int) != ((aB n L p).length : Int)) = true:=by rw [bne_iff_ne];omega
  rw [show lF n P L p H = ⟨[],.bF [.a (.v (.slice none 0 0)),.a (vI 1)]⟩ by unfold lF;rw [h0];dsimp only;rw [decide_eq_false hlen];rfl] at hK
  repeat' ((conv => whnf);first | apply And.intro | (intro h9;try (have h8 : (_ : Bool) = _:=h9;clear h8;revert h9;subst_vars;intro h9;exact aq h9 (by assumption))))
  all_goals try (conv => whnf)
  all_goals try first | (apply Tk.mk <;> kernel_rfl) | exact ⟨ah rfl⟩ | exact ⟨rfl⟩ | exact ⟨trivial⟩
  all_goals subst_vars
  all_goals try first | rfl | contradiction | (apply Ob.mk;first | (simp only [ag,ak,aa.ae];omega) | ((try simp only [aa.ae]);(try dsimp only);omega))
  all_goals first
   | exact ⟨show (aJ n (af L p)).length <= 1000000 by omega⟩
   | exact ⟨show (aU n (af L p)).length = (aJ n (af L p)).length by omega⟩
   | exact ⟨show (n * n).toNat = (aJ n (af L p)).length by omega⟩
   | exact ⟨show (n * n).toNat = (aU n (af L p)).length by omega⟩
   | (refine bu.base ⟨_,[],hK,trivial,rfl,?_⟩;(repeat' ((conv => whnf);(first | apply And.intro | intro _)));all_goals first | rfl | trivial)
 have q0 : ((H.length : Int) != ((aB n L p).length : Int)) = false:=by rw [hlen];exact bne_self_eq_false _
 have hsh : lF n P L p H = match H.all hB with | false => ⟨[],.bF [.a (.v (.slice none 0 0)),.a (vI 1)]⟩ | true => ⟨[.arr 49 kT (eI n P L p (hF (aB n L p) H)) true true],.bF [.a (.sl 0 [] 0 P.toNat),.a (vI 0)]⟩:=by
  unfold lF;rw [h0];dsimp only;rw [decide_eq_true hlen,Bool.true_and]
 rw [hsh] at hK
 clear hsh
 repeat' ((conv => whnf);first | apply And.intro | (intro h9;try (have h8 : (_ : Bool) = _:=h9;clear h8;revert h9;subst_vars;intro h9;exact aq h9 (by assumption))))
 all_goals try (conv => whnf)
 all_goals try first | (apply Tk.mk <;> kernel_rfl) | exact ⟨ah rfl⟩ | exact ⟨rfl⟩ | exact ⟨trivial⟩
 all_goals subst_vars
 all_goals try first | rfl | contradiction | (apply Ob.mk;first | (simp only [ag,ak,aa.ae];omega) | ((try simp only [aa.ae]);(try dsimp only);omega))
 all_goals try first
  | exact ⟨show (aJ n (af L p)).length <= 1000000 by omega⟩
  | exact ⟨show (aU n (af L p)).length = (aJ n (af L p)).length by omega⟩
  | exact ⟨show (n * n).toNat = (aJ n (af L p)).length by omega⟩
  | exact ⟨show (n * n).toNat = (aU n (af L p)).length by omega⟩
 refine ⟨Nat,fun i => i <= H.length /\ H.all hB = (H.drop i).all hB,fun i => ⟨aI 19 [0,1,7,8] [.a (.sl 1 [] 0 H.length),.a (.fn 81 []),.a (vI H.length),.a (vI i)],[aI 9 [] [],aI 123 [1,2,3,9,10,11,43] [.a (vI p),.a (.sl 1 [] 0 H.length),.a (.p 2 [] 0 0),.a (.p 5 [] 0 0),.a (.p 6 [] 0 0),.a (.sl 7 [] 0 (aB n L p).length),.a (.ff)]],[.arr 46 kW L false false,.arr 3 kI H false false,.box true [vI n,vI P,.sl 0 [] 0 L.length],.arr 3 kI (aJ n (af L p)) true true,.arr 3 kI (aU n (af L p)) true true,.box true [.sl 3 [] 0 (n * n).toNat],.box true [.sl 4 [] 0 (n * n).toNat],.arr 3 kI (aB n L p) true true]⟩,fun i => H.length - i,0,[0,1,2,3,4,5,6,7],⟨Nat.zero_le _,rfl⟩,?_,?_⟩
 ·repeat' ((conv => whnf);(first | apply And.intro | intro _))
  all_goals first | rfl | trivial | exact ah rfl | exact aS ‹_› rfl | exact aT ‹_› rfl | ((repeat' first | rfl | constructor);done) | exact ⟨rfl,rfl,rfl⟩
 rintro i ⟨hi,hf⟩
 have m2 : decide ((i : Int) >= 0) = true:=decide_eq_true (by omega)
 by_cases hi1 : i < H.length
 ·have p0 : decide ((i : Int) < (H.length : Int)) = true:=decide_eq_true (by omega)
  have eg : H.getD i 0 = av H i:=(dP H i).symm
  obtain hb | hb : aQ (av H i) (-1099511627776) 1099511627776 = false \/ aQ (av H i) (-1099511627776) 1099511627776 = true:=by cases aQ (av H i) (-1099511627776) 1099511627776 <;> simp
  ·have e1 : (!aQ (av H i) (-1099511627776) 1099511627776) = true:=by rw [hb];rfl
   rw [hf.trans (zw hi1 (d:=0) (by rw [eg,Nc];exact hb))] at hK
   dsimp only at hK
   repeat' ((conv => whnf);first | apply And.intro | (intro h9;try (have h8 : (_ : Bool) = _:=h9;clear h8;revert h9;subst_vars;intro h9;exact aq h9 (by assumption))))
   all_goals try (conv => whnf)
   all_goals try first | (apply Tk.mk <;> kernel_rfl) | exact ⟨ah rfl⟩ | exact ⟨rfl⟩ | exact ⟨trivial⟩
   all_goals subst_vars
   all_goals try first | rfl | contradiction | (apply Ob.mk;first | (simp only [ag,ak,aa.ae];omega) | ((try simp only [aa.ae]);(try dsimp only);omega))
   all_goals first
    | exact ⟨show 0 + Int.toNat (i : Int) < H.length by omega⟩
    | (refine bu.base ⟨_,[],hK,trivial,rfl,?_⟩;(repeat' ((conv => whnf);(first | apply And.intro | intro _)));all_goals first | rfl | trivial)
  have e1 : (!aQ (av H i) (-1099511627776) 1099511627776) = false:=by rw [hb];rfl
  have jH:=hf.trans (C7 hi1 (d:=0) (by rw [eg,Nc];exact hb))
  repeat' ((conv => whnf);first | apply And.intro | (intro h9;try (have h8 : (_ : Bool) = _:=h9;clear h8;revert h9;subst_vars;intro h9;exact aq h9 (by assumption))))
  all_goals try (conv => whnf)
  all_goals try first | (apply Tk.mk <;> kernel_rfl) | exact ⟨ah rfl⟩ | exact ⟨rfl⟩ | exact ⟨trivial⟩
  all_goals subst_vars
  all_goals try first | rfl | contradiction | (apply Ob.mk;first | (simp only [ag,ak,aa.ae];omega) | ((try simp only [aa.ae]);(try dsimp only);omega))
  all_goals try first
   | exact ⟨show 0 + Int.toNat (i : Int) < H.length by omega⟩
  refine ⟨i + 1,[],⟨hi1,jH⟩,?_,by show H.length - (i + 1) < H.length - i;omega⟩
  repeat' ((conv => whnf);(first | apply And.intro | intro _))
  all_goals first | rfl | trivial | exact ah rfl | exact aS ‹_› rfl | exact aT ‹_› rfl | ((repeat' first | rfl | constructor);done) | exact ⟨rfl,rfl,rfl⟩
 have p0 : decide ((i : Int) < (H.length : Int)) = false:=decide_eq_false (by omega)
 have hall:=hf.trans (C6 (by omega))
 rw [hall] at hK
 dsimp only at hK
 have Q8 : ∀ h ∈ H,-1099511627776 <= h /\ h <= 1099511627776:=fun h hh => by
  have:=List.all_eq_true.1 hall h hh
  rw [Nc] at this
  exact akk.1 this
 clear hf hall
 have QD : bG (aB n L p) H 0 = []:=by unfold bG;rfl
 repeat' ((conv => whnf);first | apply And.intro | (intro h9;try (have h8 : (_ : Bool) = _:=h9;clear h8;revert h9;subst_vars;intro h9;exact aq h9 (by assumption))))
 all_goals try (conv => whnf)
 all_goals try first | (apply Tk.mk <;> kernel_rfl) | exact ⟨ah rfl⟩ | exact ⟨rfl⟩ | exact ⟨trivial⟩
 all_goals subst_vars
 all_goals try first | rfl | contradiction | (apply Ob.mk;first | (simp only [ag,ak,aa.ae];omega) | ((try simp only [aa.ae]);(try dsimp only);omega))
 refine ⟨Nat,fun i => i <= (aB n L p).length,fun i => ⟨aI 123 [1,2,3,9,10,12,48,49,50] [.a (vI p),.a (.sl 1 [] 0 H.length),.a (.p 2 [] 0 0),.a (.p 5 [] 0 0),.a (.p 6 [] 0 0),.a (.p 9 [] 0 0),.a (.sl 7 [] 0 (aB n L p).length),.a (vI (aB n L p).length),.a (vI i)],[],[.arr 46 kW L false false,.arr 3 kI H false false,.box true [vI n,vI P,.sl 0 [] 0 L.length],.arr 3 kI (aJ n (af L p)) true true,.arr 3 kI (aU n (af L p)) true true,.box true [.sl 3 [] 0 (n * n).toNat],.box true [.sl 4 [] 0 (n * n).toNat],.arr 3 kI (aB n L p) true true,.map 130 .i64 (.int .i64) (bG (aB n L p) H i) true,.box true [.mp 8]]⟩,fun i => (aB n L p).length - i,0,[],Nat.zero_le _,?_,?_⟩
 ·repeat' ((conv => whnf);(first | apply And.intro | intro _))
  all_goals first | rfl | trivial | exact ah rfl | exact aS ‹_› rfl | exact aT ‹_› rfl | ((repeat' first | rfl | constructor);done) | exact ⟨rfl,rfl,rfl⟩ | exact ⟨rfl,rfl,rfl,QD.symm⟩
 clear hi1 hi p0 m2
 rintro i hi
 by_cases hi1 : i < (aB n L p).length
 ·have p0 : decide ((i : Int) < ((aB n L p).length : Int)) = true:=decide_eq_true (by omega)
  have RE : dF (bG (aB n L p) H i) (av (aB n L p) i) (av H i) = bG (aB n L p) H (i + 1):=by rw [dP,dP];exact (Jt ..).symm
  repeat' ((conv => whnf);first | apply And.intro | (intro h9;try (have h8 : (_ : Bool) = _:=h9;clear h8;revert h9;subst_vars;intro h9;exact aq h9 (by assumption))))
  all_goals try (conv => whnf)
  all_goals try first | (apply Tk.mk <;> kernel_rfl) | exact ⟨ah rfl⟩ | exact ⟨rfl⟩ | exact ⟨trivial⟩
  all_goals subst_vars
  all_goals try first | rfl | contradiction | (apply Ob.mk;first | (simp only [ag,ak,aa.ae];omega) | ((try simp only [aa.ae]);(try dsimp only);omega))
  all_goals try first
   | exact ⟨show 0 + Int.toNat (i : Int) < H.length by omega⟩
   | exact ⟨show 0 + Int.toNat (i : Int) < (aB n L p).length by omega⟩
  refine ⟨i + 1,[],hi1,?_,by show (aB n L p).length - (i + 1) < (aB n L p).length - i;omega⟩
  repeat' ((conv => whnf);(first | apply And.intro | intro _))
  all_goals first | rfl | trivial | exact ah rfl | exact aS ‹_› rfl | exact aT ‹_› rfl | ((repeat' first | rfl | constructor);done) | exact ⟨rfl,rfl,rfl⟩ | exact ⟨rfl,rfl,rfl,RE⟩
 have p0 : decide ((i : Int) < ((aB n L p).length : Int)) = false:=decide_eq_false (by omega)
 obtain rfl : i = (aB n L p).length:=by omega
 clear hi hi1
 repeat' ((conv => whnf);first | apply And.intro | (intro h9;try (have h8 : (_ : Bool) = _:=h9;clear h8;revert h9;subst_vars;intro h9;exact aq h9 (by assumption))))
 all_goals try (conv => whnf)
 all_goals try first | (apply Tk.mk <;> kernel_rfl) | exact ⟨ah rfl⟩ | exact ⟨rfl⟩ | exact ⟨trivial⟩
 all_goals subst_vars
 all_goals try first | rfl | contradiction | (apply Ob.mk;first | (simp only [ag,ak,aa.ae];omega) | ((try simp only [aa.ae]);(try dsimp only);omega))
 all_goals try first
  | exact ⟨show P * ((1 : Nat) : Int) <= 16777216 by omega⟩
 refine ⟨Nat,fun i => i <= P.toNat,fun i => ⟨aI 123 [1,3,9,10,12,15,66,67] [.a (vI p),.a (.p 2 [] 0 0),.a (.p 5 [] 0 0),.a (.p 6 [] 0 0),.a (.p 9 [] 0 0),.a (.p 11 [] 0 0),.a (vI (P.toNat : Nat)),.a (vI i)],[],[.arr 46 kW L false false,.arr 3 kI H false false,.box true [vI n,vI P,.sl 0 [] 0 L.length],.arr 3 kI (aJ n (af L p)) true true,.arr 3 kI (aU n (af L p)) true true,.box true [.sl 3 [] 0 (n * n).toNat],.box true [.sl 4 [] 0 (n * n).toNat],.arr 3 kI (aB n L p) true true,.map 130 .i64 (.int .i64) ((bG (aB n L p) H ((aB n L p)).length)) true,.box true [.mp 8],.arr 49 kT (cG (n * n).toNat P.toNat i) true true,.box true [.sl 10 [] 0 P.toNat]]⟩,fun i => P.toNat - i,0,[],Nat.zero_le _,?_,?_⟩
 ·repeat' ((conv => whnf);(first | apply And.intro | intro _))
  all_goals first | rfl | trivial | exact ah rfl | exact aS ‹_› rfl | exact aT ‹_› rfl | ((repeat' first | rfl | constructor);done) | exact ⟨rfl,rfl,rfl⟩ | exact ⟨rfl,rfl,EX.symm⟩
 clear p0
 rintro i hi
 by_cases hi1 : i < P.toNat
 ·have p0 : decide ((i : Int) < ((P.toNat : Nat) : Int)) = true:=decide_eq_true (by omega)
  have hfs:=GU (N:=(n * n).toNat) (Pn:=P.toNat) (i:=i)
  have hfl : (cG (n * n).toNat P.toNat i).length = P.toNat:=GS
  have Qx : (cG (n * n).toNat P.toNat i).set (0 + Int.toNat (i : Int)) (List.replicate (n * n).toNat 0) = cG (n * n).toNat P.toNat (i + 1):=by rw [Nat.zero_add,Int.toNat_natCast];exact hfs
  have jl : (n * n).toNat = (List.replicate (n * n).toNat (0 : Int)).length:=List.length_replicate.symm
  repeat' ((conv => whnf);first | apply And.intro | (intro h9;try (have h8 : (_ : Bool) = _:=h9;clear h8;revert h9;subst_vars;intro h9;exact aq h9 (by assumption))))
  all_goals try (conv => whnf)
  all_goals try first | (apply Tk.mk <;> kernel_rfl) | exact ⟨ah rfl⟩ | exact ⟨rfl⟩ | exact ⟨trivial⟩
  all_goals subst_vars
  all_goals try first | rfl | contradiction | (apply Ob.mk;first | (simp only [ag,ak,aa.ae];omega) | ((try simp only [aa.ae]);(try dsimp only);omega))
  all_goals try first
   | exact ⟨show n * n * ((1 : Nat) : Int) <= 16777216 by omega⟩
   | exact ⟨show 0 + Int.toNat (i : Int) < (cG (n * n).toNat P.toNat i).length by omega⟩
   | exact ⟨jl⟩
  refine ⟨i + 1,[],hi1,?_,by show P.toNat - (i + 1) < P.toNat - i;omega⟩
  repeat' ((conv => whnf);(first | apply And.intro | intro _))
  all_goals first | rfl | trivial | exact ah rfl | exact aS ‹_› rfl | exact aT ‹_› rfl | ((repeat' first | rfl | constructor);done) | exact ⟨rfl,rfl,rfl⟩ | exact ⟨rfl,rfl,Qx⟩
 have p0 : decide ((i : Int) < ((P.toNat : Nat) : Int)) = false:=decide_eq_false (by omega)
 obtain rfl : i = P.toNat:=by omega
 clear hi hi1
 have hE:=xh (cW.1 hw) hP hp
 have hst:=JJ (n:=n) (P:=P) (L:=L) (p:=p) (Hf:=hF (aB n L p) H)
 rw [<- GR] at hst
 repeat' ((conv => whnf);first | apply And.intro | (intro h9;try (have h8 : (_ : Bool) = _:=h9;clear h8;revert h9;subst_vars;intro h9;exact aq h9 (by assumption))))
 all_goals try (conv => whnf)
 all_goals try first | (apply Tk.mk <;> kernel_rfl) | exact ⟨ah rfl⟩ | exact ⟨rfl⟩ | exact ⟨trivial⟩
 all_goals subst_vars
 all_goals try first | rfl | contradiction | (apply Ob.mk;first | (simp only [ag,ak,aa.ae];omega) | ((try simp only [aa.ae]);(try dsimp only);omega))
 all_goals try first
  | exact ⟨hw⟩
  | exact ⟨hl⟩
 refine ⟨List Nat × List (List Int),fun s => um n P L p (hF (aB n L p) H) (fun q _ => l8 (ag5 L p) s.1 q) s.2,fun s => ⟨aI 123 [1,3,9,10,12,15,83] [.a (vI p),.a (.p 2 [] 0 0),.a (.p 5 [] 0 0),.a (.p 6 [] 0 0),.a (.p 9 [] 0 0),.a (.p 11 [] 0 0),.a (.it 13)],[],[.arr 46 kW L false false,.arr 3 kI H false false,.box true [vI n,vI P,.sl 0 [] 0 L.length],.arr 3 kI (aJ n (af L p)) true true,.arr 3 kI (aU n (af L p)) true true,.box true [.sl 3 [] 0 (n * n).toNat],.box true [.sl 4 [] 0 (n * n).toNat],.arr 3 kI (aB n L p) true true,.map 130 .i64 (.int .i64) ((bG (aB n L p) H ((aB n L p)).length)) true,.box true [.mp 8],.arr 49 kT (s.2) true true,.box true [.sl 10 [] 0 P.toNat],.bH 82 kX 3 kI (ag5 L p) true true,.iter (some 12) (ag5 L p).length (s.1)]⟩,fun s => KH (ag5 L p).length s.1,([],cG (n * n).toNat P.toNat P.toNat),[],hst,?_,?_⟩
 ·repeat' ((conv => whnf);(first | apply And.intro | intro _))
  all_goals first | rfl | trivial | exact ah rfl | exact aS ‹_› rfl | exact aT ‹_› rfl | ((repeat' first | rfl | constructor);done) | exact ⟨rfl,rfl,rfl⟩
 clear hst
 rintro ⟨seen,X⟩ hX
 dsimp only at hX
 repeat' ((conv => whnf);first | apply And.intro | (intro h9;try (have h8 : (_ : Bool) = _:=h9;clear h8;revert h9;subst_vars;intro h9;exact aq h9 (by assumption))))
 all_goals try (conv => whnf)
 all_goals try first | (apply Tk.mk <;> kernel_rfl) | exact ⟨ah rfl⟩ | exact ⟨rfl⟩ | exact ⟨trivial⟩
 all_goals subst_vars
 all_goals try first | rfl | contradiction | (apply Ob.mk;first | (simp only [ag,ak,aa.ae];omega) | ((try simp only [aa.ae]);(try dsimp only);omega))
 all_goals try first
  | exact True.intro
 ·rename_i j hj hm l fn T
  rename Nat => dd
  have Rp:=hE.at hj
  have hte : 0 <= ((ag5 L p).getD j aG).1.2.1 /\ ((ag5 L p).getD j aG).1.2.1 <= 7:=Rp.2
  refine ⟨Nat × List (List Int),fun s => s.1 <= (n * n).toNat /\ um n P L p (hF (aB n L p) H) (cX (ag5 L p) n seen j s.1) s.2,fun s => ⟨aI 15 [0,1,6,7] [.a (.yl 16),.a (.p 15 [] 0 0),.a (vI (n * n)),.a (vI s.1)],[aI 123 [1,3,9,10,12,15,17,83] [.a (vI p),.a (.p 2 [] 0 0),.a (.p 5 [] 0 0),.a (.p 6 [] 0 0),.a (.p 9 [] 0 0),.a (.p 11 [] 0 0),.a (.p 14 [] 0 0),.a (.it 13)]],[.arr 46 kW L false false,.arr 3 kI H false false,.box true [vI n,vI P,.sl 0 [] 0 L.length],.arr 3 kI (aJ n (af L p)) true true,.arr 3 kI (aU n (af L p)) true true,.box true [.sl 3 [] 0 (n * n).toNat],.box true [.sl 4 [] 0 (n * n).toNat],.arr 3 kI (aB n L p) true true,.map 130 .i64 (.int .i64) ((bG (aB n L p) H ((aB n L p)).length)) true,.box true [.mp 8],.arr 49 kT (s.2) true true,.box true [.sl 10 [] 0 P.toNat],.bH 82 kX 3 kI (ag5 L p) true true,.iter (some 12) (ag5 L p).length (j :: seen),.box true [vI ((ag5 L p).getD j aG).1.1,vI ((ag5 L p).getD j aG).1.2.1,.v (.bool ((ag5 L p).getD j aG).1.2.2)],.box true [vI n],.lp l (aI 123 [1,3,9,10,12,15,17,83] [.a (vI p),.a (.p 2 [] 0 0),.a (.p 5 [] 0 0),.a (.p 6 [] 0 0),.a (.p 9 [] 0 0),.a (.p 11 [] 0 0),.a (.p 14 [] 0 0),.a (.it 13)]) (ac5 Tryz.f41 0 fn T dd) .ready none]⟩,fun s => (n * n).toNat - s.1,(0,X),[],⟨Nat.zero_le _,hX.congr (fun q z _ => K5)⟩,?_,?_⟩
  ·repeat' ((conv => whnf);(first | apply And.intro | intro _))
   all_goals first | rfl | trivial | exact ah rfl | exact aS ‹_› rfl | exact aT ‹_› rfl | ((repeat' first | rfl | constructor);done) | exact ⟨rfl,rfl,rfl⟩ | (rename_i bx;simp only [List.mem_cons,List.not_mem_nil,or_false] at bx;rcases bx with rfl | rfl | rfl | rfl <;> exact ah rfl)
  clear hX
  rintro ⟨x,X⟩ ⟨hx,hX⟩
  dsimp only at hx hX
  by_cases cO : x < (n * n).toNat
  ·have p1 : decide ((x : Int) < n * n) = true:=decide_eq_true (by omega)
   have gR : aM n (x : Int):=⟨by omega,by omega⟩
   have cq : 0 <= (x : Int) /\ (x : Int) < n * n:=gR
   have Nz:=ng hn hte gR
   have eS : av (aU n (af L p)) x = fO n (af L p) x:=by rw [dP];exact G4 Vo hn gR
   have eA : av (aJ n (af L p)) x = aK n (af L p) x:=by rw [dP];exact G2 hn gR
   have hown : av (aU n (af L p)) x * aO (bG (aB n L p) H ((aB n L p)).length) (av (aJ n (af L p)) x) 0 = tS n (af L p) (hF (aB n L p) H) x:=by rw [eS,eA];unfold tS hF;rfl
   have hb:=HN Q8 (F:=aB n L p) (aB n L p).length (av (aJ n (af L p)) x)
   have agP : -1099511627776 <= av (aU n (af L p)) x * aO (bG (aB n L p) H ((aB n L p)).length) (av (aJ n (af L p)) x) 0 /\ av (aU n (af L p)) x * aO (bG (aB n L p) H ((aB n L p)).length) (av (aJ n (af L p)) x) 0 <= 1099511627776:=by
    rw [eS]
    rcases JQ n (af L p) x with h | h | h <;> rw [h] <;> omega
   have Sn : x < (aJ n (af L p)).length:=by omega
   have jm : x < (aU n (af L p)).length:=by omega
   have hq : Int.toNat ((ag5 L p).getD j aG).1.1 < P.toNat:=by omega
   have Sj:=hX.len
   have hrow:=hX.row _ hq
   have Nv : bh X ((ag5 L p).getD j aG).1.1 = je X (Int.toNat ((ag5 L p).getD j aG).1.1):=by unfold bh je;rw [Nat.zero_add];rfl
   have jl : (bh X ((ag5 L p).getD j aG).1.1).length = (n * n).toNat:=by rw [Nv];exact hrow
   have lR : 0 <= aX n ((ag5 L p).getD j aG).1.2.1 x /\ aX n ((ag5 L p).getD j aG).1.2.1 x < ((bh X ((ag5 L p).getD j aG).1.1).length : Int):=by rw [jl];unfold aM at Nz;omega
   have hem : ((ag5 L p).getD j aG) ∈ ag5 L p:=pc hj
   have hsv:=Oj (cW.1 hw) hP hp hn (hF (aB n L p) H) hem gR
   have hcast : ((Int.toNat ((ag5 L p).getD j aG).1.1 : Nat) : Int) = ((ag5 L p).getD j aG).1.1:=by omega
   have PX : ∀ v : Int,X.set (0 + Int.toNat ((ag5 L p).getD j aG).1.1) ((bh X ((ag5 L p).getD j aG).1.1).set (0 + Int.toNat (aX n ((ag5 L p).getD j aG).1.2.1 x)) v) = X.set (Int.toNat ((ag5 L p).getD j aG).1.1) ((bh X ((ag5 L p).getD j aG).1.1).set (Int.toNat (aX n ((ag5 L p).getD j aG).1.2.1 x)) v):=fun v => by rw [Nat.zero_add,Nat.zero_add]
   obtain Kp | Kp : ((ag5 L p).getD j aG).1.2.2 = false \/ ((ag5 L p).getD j aG).1.2.2 = true:=by cases ((ag5 L p).getD j aG).1.2.2 <;> simp
   ·have jK:=Ea hX hq Nz (v:=av (aU n (af L p)) x * aO (bG (aB n L p) H ((aB n L p)).length) (av (aJ n (af L p)) x) 0) (by rw [hcast,hsv,Kp,hown];rfl)
    have vg:=jK.congr (C':=cX (ag5 L p) n seen j (x + 1)) (fun q z _ => by rw [hcast];exact Dc)
    rw [<- Nv] at vg
    repeat' ((conv => whnf);first | apply And.intro | (intro h9;try (have h8 : (_ : Bool) = _:=h9;clear h8;revert h9;subst_vars;intro h9;exact aq h9 (by assumption))))
    all_goals try (conv => whnf)
    all_goals try first | (apply Tk.mk <;> kernel_rfl) | exact ⟨ah rfl⟩ | exact ⟨rfl⟩ | exact ⟨trivial⟩
    all_goals subst_vars
    all_goals try first | rfl | contradiction | (apply Ob.mk;first | (simp only [ag,ak,aa.ae];omega) | ((try simp only [aa.ae]);(try dsimp only);omega))
    all_goals try first
     | exact ⟨show 0 + Int.toNat (x : Int) < (aJ n (af L p)).length by omega⟩
     | exact ⟨show 0 + Int.toNat (x : Int) < (aU n (af L p)).length by omega⟩
     | exact ⟨show -9223372036854775808 <= av (aU n (af L p)) x * aO (bG (aB n L p) H ((aB n L p)).length) (av (aJ n (af L p)) x) 0 /\ av (aU n (af L p)) x * aO (bG (aB n L p) H ((aB n L p)).length) (av (aJ n (af L p)) x) 0 <= 9223372036854775807 by omega⟩
     | exact ⟨show 0 + Int.toNat ((ag5 L p).getD j aG).1.1 < X.length by omega⟩
     | exact ⟨lR⟩
     | exact ⟨show 0 + Int.toNat (aX n ((ag5 L p).getD j aG).1.2.1 x) < (bh X ((ag5 L p).getD j aG).1.1).length by omega⟩
    refine ⟨(x + 1,_),[],⟨cO,vg⟩,?_,by show (n * n).toNat - (x + 1) < (n * n).toNat - x;omega⟩
    repeat' ((conv => whnf);(first | apply And.intro | intro _))
    all_goals first | rfl | trivial | exact ah rfl | exact aS ‹_› rfl | exact aT ‹_› rfl | ((repeat' first | rfl | constructor);done) | exact ⟨rfl,rfl,rfl⟩ | exact ⟨rfl,rfl,PX _⟩ | (rename_i bx;simp only [List.mem_cons,List.not_mem_nil,or_false] at bx;rcases bx with rfl | rfl | rfl | rfl <;> exact ah rfl)
   have jK:=Ea hX hq Nz (v:=0 - av (aU n (af L p)) x * aO (bG (aB n L p) H ((aB n L p)).length) (av (aJ n (af L p)) x) 0) (by rw [hcast,hsv,Kp,hown];show 0 - _ = - _;omega)
   have vg:=jK.congr (C':=cX (ag5 L p) n seen j (x + 1)) (fun q z _ => by rw [hcast];exact Dc)
   rw [<- Nv] at vg
   repeat' ((conv => whnf);first | apply And.intro | (intro h9;try (have h8 : (_ : Bool) = _:=h9;clear h8;revert h9;subst_vars;intro h9;exact aq h9 (by assumption))))
   all_goals try (conv => whnf)
   all_goals try first | (apply Tk.mk <;> kernel_rfl) | exact ⟨ah rfl⟩ | exact ⟨rfl⟩ | exact ⟨trivial⟩
   all_goals subst_vars
   all_goals try first | rfl | contradiction | (apply Ob.mk;first | (simp only [ag,ak,aa.ae];omega) | ((try simp only [aa.ae]);(try dsimp only);omega))
   all_goals try first
    | exact ⟨show 0 + Int.toNat (x : Int) < (aJ n (af L p)).length by omega⟩
    | exact ⟨show 0 + Int.toNat (x : Int) < (aU n (af L p)).length by omega⟩
    | exact ⟨show -9223372036854775808 <= av (aU n (af L p)) x * aO (bG (aB n L p) H ((aB n L p)).length) (av (aJ n (af L p)) x) 0 /\ av (aU n (af L p)) x * aO (bG (aB n L p) H ((aB n L p)).length) (av (aJ n (af L p)) x) 0 <= 9223372036854775807 by omega⟩
    | exact ⟨show -9223372036854775808 <= 0 - av (aU n (af L p)) x * aO (bG (aB n L p) H ((aB n L p)).length) (av (aJ n (af L p)) x) 0 /\ 0 - av (aU n (af L p)) x * aO (bG (aB n L p) H ((aB n L p)).length) (av (aJ n (af L p)) x) 0 <= 9223372036854775807 by omega⟩
    | exact ⟨show 0 + Int.toNat ((ag5 L p).getD j aG).1.1 < X.length by omega⟩
    | exact ⟨lR⟩
    | exact ⟨show 0 + Int.toNat (aX n ((ag5 L p).getD j aG).1.2.1 x) < (bh X ((ag5 L p).getD j aG).1.1).length by omega⟩
   refine ⟨(x + 1,_),[],⟨cO,vg⟩,?_,by show (n * n).toNat - (x + 1) < (n * n).toNat - x;omega⟩
   repeat' ((conv => whnf);(first | apply And.intro | intro _))
   all_goals first | rfl | trivial | exact ah rfl | exact aS ‹_› rfl | exact aT ‹_› rfl | ((repeat' first | rfl | constructor);done) | exact ⟨rfl,rfl,rfl⟩ | exact ⟨rfl,rfl,PX _⟩ | (rename_i bx;simp only [List.mem_cons,List.not_mem_nil,or_false] at bx;rcases bx with rfl | rfl | rfl | rfl <;> exact ah rfl)
  have p1 : decide ((x : Int) < n * n) = false:=decide_eq_false (by omega)
  obtain rfl : x = (n * n).toNat:=by omega
  have Rh:=hX.congr (C':=fun q _ => l8 (ag5 L p) (j :: seen) q) (fun q z hz => Mo hn hte hz)
  clear hX
  repeat' ((conv => whnf);first | apply And.intro | (intro h9;try (have h8 : (_ : Bool) = _:=h9;clear h8;revert h9;subst_vars;intro h9;exact aq h9 (by assumption))))
  all_goals try (conv => whnf)
  all_goals try first | (apply Tk.mk <;> kernel_rfl) | exact ⟨ah rfl⟩ | exact ⟨rfl⟩ | exact ⟨trivial⟩
  all_goals subst_vars
  all_goals try first | rfl | contradiction | (apply Ob.mk;first | (simp only [ag,ak,aa.ae];omega) | ((try simp only [aa.ae]);(try dsimp only);omega))
  refine ⟨(j :: seen,X),[0,1,2,3,4,5,6,7,8,9,10,11,12,13],Rh,?_,Ow hj hm⟩
  repeat' ((conv => whnf);(first | apply And.intro | intro _))
  all_goals first | rfl | trivial | exact ah rfl | exact aS ‹_› rfl | exact aT ‹_› rfl | ((repeat' first | rfl | constructor);done) | exact ⟨rfl,rfl,rfl⟩ | (rename_i bx;simp only [List.mem_cons,List.not_mem_nil,or_false] at bx;rcases bx with rfl | rfl | rfl | rfl <;> exact ah rfl)
 have hall : ∀ j,j < (ag5 L p).length -> Vq j seen = true:=by assumption
 rw [<- Oi hX (fun j hj => ku (hall j hj))] at hK
 refine bu.base ⟨_,[10],hK,⟨rfl,rfl,by simp,trivial⟩,rfl,?_⟩
 repeat' ((conv => whnf);(first | apply And.intro | intro _))
 all_goals first | rfl | trivial)
end Go.Proofs.YthejmgnkenokpaaGreatDoor
end
section
namespace Go.Proofs.YthejmgnkenokpaaGreatDoor
open Go Go.Sy Go.bK
variable {Γ : bn}
def zg (D : Int -> Int -> List Wk -> Int -> List aa) (Rk : Int -> Int -> List Wk -> Int -> (cM -> Prop) -> Prop) : au:=.new fun args rg K => match args with
 | [.agg [.v (.int .i64 n0),.v (.int .i64 n1),x0],.a (.v (.int .i64 n2))] => (match ac1 46 kW rg x0 with | some (q0,L0) => bk false (q0 ++ (D n0 n1 L0 n2)) (Rk n0 n1 L0 n2 K) | _ => False)
 | _ => False
theorem A1 {f : FuncId} {D : Int -> Int -> List Wk -> Int -> List aa} {R : Int -> Int -> List Wk -> Int -> cM} {Rk : Int -> Int -> List Wk -> Int -> (cM -> Prop) -> Prop} (h : au.Ok Tryz.prog Γ f (tG D R)) (hk : ∀ (n0 : Int) (n1 : Int) (L0 : List Wk) (n2 : Int) K,Rk n0 n1 L0 n2 K -> K (R n0 n1 L0 n2)) : au.Ok Tryz.prog Γ f (zg D Rk):=by
 intro args rg K hC
 refine h args rg K ?_
 (try unfold zg at hC)
 (try unfold tG)
 (try dsimp only at hC ⊢)
 split at hC
 next n0 n1 x0 n2 =>
  split at hC
  next q0 L0 hx0 =>
   (try dsimp only)
   (try simp only [hx0])
   rw [aV] at hC ⊢
   exact ⟨hC.1,hk _ _ _ _ K hC.2⟩
  next => exact hC.elim
 next => exact hC.elim
def A0 (D : Int -> Int -> List Wk -> Int -> List Int -> List aa) (Rk : Int -> Int -> List Wk -> Int -> List Int -> (cM -> Prop) -> Prop) : au:=.new fun args rg K => match args with
 | [.agg [.v (.int .i64 n0),.v (.int .i64 n1),x0],.a (.v (.int .i64 n2)),.a x1] => (match ac1 46 kW rg x0,ac1 3 kI rg x1 with | some (q0,L0),some (q1,L1) => bk false (q0 ++ (q1 ++ (D n0 n1 L0 n2 L1))) (Rk n0 n1 L0 n2 L1 K) | _,_ => False)
 | _ => False
theorem HB {f : FuncId} {D : Int -> Int -> List Wk -> Int -> List Int -> List aa} {R : Int -> Int -> List Wk -> Int -> List Int -> cM} {Rk : Int -> Int -> List Wk -> Int -> List Int -> (cM -> Prop) -> Prop} (h : au.Ok Tryz.prog Γ f (y8 D R)) (hk : ∀ (n0 : Int) (n1 : Int) (L0 : List Wk) (n2 : Int) (L1 : List Int) K,Rk n0 n1 L0 n2 L1 K -> K (R n0 n1 L0 n2 L1)) : au.Ok Tryz.prog Γ f (A0 D Rk):=by
 intro args rg K hC
 refine h args rg K ?_
 (try unfold A0 at hC)
 (try unfold y8)
 (try dsimp only at hC ⊢)
 split at hC
 next n0 n1 x0 n2 x1 =>
  split at hC
  next q0 L0 q1 L1 hx0 cO =>
   (try dsimp only)
   (try simp only [hx0,cO])
   rw [aV] at hC ⊢
   exact ⟨hC.1,hk _ _ _ _ _ K hC.2⟩
  next => exact hC.elim
 next => exact hC.elim
def Fe (D : Int -> Int -> List Wk -> Wk -> List aa) (Rk : Int -> Int -> List Wk -> Wk -> (cM -> Prop) -> Prop) : au:=.new fun args rg K => match args with
 | [.agg [.v (.int .i64 n0),.v (.int .i64 n1),x0],.agg l0] => (match ac1 46 kW rg x0,eu kW l0 with | some (q0,L0),some v0 => bk false (q0 ++ (D n0 n1 L0 v0)) (Rk n0 n1 L0 v0 K) | _,_ => False)
 | _ => False
theorem Jg {f : FuncId} {D : Int -> Int -> List Wk -> Wk -> List aa} {R : Int -> Int -> List Wk -> Wk -> cM} {Rk : Int -> Int -> List Wk -> Wk -> (cM -> Prop) -> Prop} (h : au.Ok Tryz.prog Γ f (Am D R)) (hk : ∀ (n0 : Int) (n1 : Int) (L0 : List Wk) (v0 : Wk) K,Rk n0 n1 L0 v0 K -> K (R n0 n1 L0 v0)) : au.Ok Tryz.prog Γ f (Fe D Rk):=by
 intro args rg K hC
 refine h args rg K ?_
 (try unfold Fe at hC)
 (try unfold Am)
 (try dsimp only at hC ⊢)
 split at hC
 next n0 n1 x0 l0 =>
  split at hC
  next q0 L0 v0 hx0 hc0 =>
   (try dsimp only)
   (try simp only [hx0,hc0])
   rw [aV] at hC ⊢
   exact ⟨hC.1,hk _ _ _ _ K hC.2⟩
  next => exact hC.elim
 next => exact hC.elim
def DL : au:=zg (fun _ _ L _ => [(aa.of (L.length <= 1000000))]) (fun n P L p K => ((bf n P L p == 0) = true -> K ⟨[.arr 48 kG (af L p) true true],.bF [.a (.sl 0 [] 0 (af L p).length),.a (vI 0)]⟩) /\ ((bf n P L p == 0) = false -> K ⟨[],.bF [.a (.v (.slice none 0 0)),.a (vI (bf n P L p))]⟩))
theorem Fc : au.Ok Tryz.prog Γ 24 DL:=A1 EH (by
 intro n P L p K ⟨h1,h2⟩
 unfold oL
 cases hb : bf n P L p == 0
 ·exact h2 hb
 ·exact h1 hb)
def yc : au:=zg (fun _ _ L _ => [(aa.of (L.length <= 1000000))]) (fun n P L p K => ((bf n P L p == 0) = true -> K ⟨[.arr 3 kI (aJ n (af L p)) true true,.arr 3 kI (aU n (af L p)) true true],.bF [.a (.sl 0 [] 0 (n * n).toNat),.a (.sl 1 [] 0 (n * n).toNat),.a (vI 0)]⟩) /\ ((bf n P L p == 0) = false -> K ⟨[],.bF [.a (.v (.slice none 0 0)),.a (.v (.slice none 0 0)),.a (vI (bf n P L p))]⟩))
theorem AX : au.Ok Tryz.prog Γ 39 yc:=A1 zG (by
 intro n P L p K ⟨h1,h2⟩
 unfold ki
 cases hb : bf n P L p == 0
 ·exact h2 hb
 ·exact h1 hb)
def AP (n : Int) (L : List Wk) (p : Int) (H : List Int) : Bool:=decide (H.length = (aB n L p).length) && H.all hB
def DK : au:=A0 (fun _ _ L _ H => [(aa.of (L.length <= 1000000)),(aa.of (H.length <= 1000000))]) (fun n P L p H K => ((bf n P L p == 0) = true -> (AP n L p H = true -> K ⟨[.arr 49 kT (eI n P L p (hF (aB n L p) H)) true true],.bF [.a (.sl 0 [] 0 P.toNat),.a (vI 0)]⟩) /\ (AP n L p H = false -> K ⟨[],.bF [.a (.v (.slice none 0 0)),.a (vI 1)]⟩)) /\ ((bf n P L p == 0) = false -> K ⟨[],.bF [.a (.v (.slice none 0 0)),.a (vI (bf n P L p))]⟩))
theorem Fb : au.Ok Tryz.prog Γ 41 DK:=HB EG (by
 intro n P L p H K ⟨h1,h2⟩
 unfold lF
 cases hb : bf n P L p == 0
 ·exact h2 hb
 ·cases hc : AP n L p H
  ·have:=(h1 hb).2 hc
   unfold AP at hc
   dsimp only
   rw [hc];exact this
  ·have:=(h1 hb).1 hc
   unfold AP at hc
   dsimp only
   rw [hc];exact this)
def Hz : au:=Fe (fun _ _ L _ => [(aa.of (L.length <= 900000))]) (fun n P L w K => ((bD n P L == 0) = true -> ((bD n P (L ++ [w]) == 0) = true -> K ⟨[.arr 46 kW (L ++ [w]) true true],.bF [.agg [vI n,vI P,.sl 0 [] 0 (L.length + 1)],.a (vI 0)]⟩) /\ ((bD n P (L ++ [w]) == 0) = false -> K (wC (bD n P (L ++ [w]))))) /\ ((bD n P L == 0) = false -> K (wC (bD n P L))))
theorem HA : au.Ok Tryz.prog Γ 31 Hz:=Jg Gf (by
 intro n P L w K ⟨h1,h2⟩
 unfold nO
 cases hb : bD n P L == 0
 ·exact h2 hb
 ·cases hc : bD n P (L ++ [w]) == 0
  ·exact (h1 hb).2 hc
  ·exact (h1 hb).1 hc)
end Go.Proofs.YthejmgnkenokpaaGreatDoor
end
