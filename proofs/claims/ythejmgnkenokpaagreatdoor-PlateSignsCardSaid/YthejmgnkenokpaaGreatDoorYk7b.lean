/-
  Texts of the claims on chapter 3: Yk7b. No condition: lemmas and contracts.
-/
import Derived.Test.YthejmgnkenokpaaGreatDoorYk6b
import Derived.Test.YthejmgnkenokpaaGreatDoorSy5b
import Derived.Test.YthejmgnkenokpaaGreatDoorQ24b
import Derived.Test.YthejmgnkenokpaaGreatDoorYk4b
import Derived.Test.YthejmgnkenokpaaGreatDoorYk2b
import Derived.Test.YthejmgnkenokpaaGreatDoorYk5b
import Derived.Test.YthejmgnkenokpaaGreatDoorQ18b
import Derived.Test.YthejmgnkenokpaaGreatDoorYk1b
import Derived.Test.YthejmgnkenokpaaGreatDoorPl1b
import Derived.Test.YthejmgnkenokpaaGreatDoorYk3b
set_option linter.all false
set_option maxRecDepth 100000
set_option maxHeartbeats 4000000
section
namespace Go.Proofs.YthejmgnkenokpaaGreatDoor
open Go Go.Sy Go.bK
variable {Γ : bn}
def aa3 (D : Int -> Int -> List Wk -> Int -> List aa) (R : Int -> Int -> List Wk -> Int -> cM) : au:=.new fun args rg K => match args with
 | [.agg [.v (.int .i64 n0),.v (.int .i64 n1),x0],.a (.v (.int .i64 n2))] => (match ac1 46 kW rg x0 with | some (q0,L0) => bk false (q0 ++ (D n0 n1 L0 n2)) (K (R n0 n1 L0 n2)) | _ => False)
 | _ => False
theorem aaU {f : FuncId} {b : Body} {E : Env} {d : Nat} (hP : aL Tryz.prog Γ E) (hb : bQ Tryz.prog f b) {D : Int -> Int -> List Wk -> Int -> List aa} {R : Int -> Int -> List Wk -> Int -> cM}
  (H : ∀ (n0 : Int) (n1 : Int) (L0 : List Wk) (n2 : Int) (K : cM -> Prop),bW (D n0 n1 L0 n2) -> K (R n0 n1 L0 n2) -> cQ E d b [.agg [vI n0,vI n1,.sl 0 [] 0 L0.length],.a (vI n2)] [.arr 46 kW L0 false false] (bu K)) : au.Ok Tryz.prog Γ f (aa3 D R):=au.fM (d:=d) hP hb (by
 intro args rg K hF
 split at hF
 next n0 n1 x0 n2 =>
  split at hF
  next q0 L0 hx0 =>
   rw [aV,aH] at hF
   obtain ⟨⟨dm,hD⟩,hK⟩:=hF
   obtain ⟨e0,Vn⟩:=bP (by simp [kW]) hx0 dm
   obtain ⟨p0,r0⟩:=Vn [e0] 0 1 rfl (by omega)
   refine ⟨[e0],[.agg [vI n0,vI n1,.sl 0 [] 0 L0.length],.a (vI n2)],[.arr 46 kW L0 false false],⟨⟨⟨rfl,rfl,p0,trivial⟩,rfl,trivial⟩,fun r g hg => ?_⟩,bu K,H _ _ _ _ K hD hK,fun x st h => h⟩
   match r,hg with
   | 0,hg => obtain rfl:=Option.some.inj hg;exact r0
  next => exact hF.elim
 next => exact hF.elim)
def aeb (D : Int -> Int -> List Wk -> Int -> List aa) (Rk : Int -> Int -> List Wk -> Int -> (cM -> Prop) -> Prop) : au:=.new fun args rg K => match args with
 | [.agg [.v (.int .i64 n0),.v (.int .i64 n1),x0],.a (.v (.int .i64 n2))] => (match ac1 46 kW rg x0 with | some (q0,L0) => bk false (q0 ++ (D n0 n1 L0 n2)) (Rk n0 n1 L0 n2 K) | _ => False)
 | _ => False
theorem aeH {f : FuncId} {D : Int -> Int -> List Wk -> Int -> List aa} {R : Int -> Int -> List Wk -> Int -> cM} {Rk : Int -> Int -> List Wk -> Int -> (cM -> Prop) -> Prop} (h : au.Ok Tryz.prog Γ f (aa3 D R)) (hk : ∀ (n0 : Int) (n1 : Int) (L0 : List Wk) (n2 : Int) K,Rk n0 n1 L0 n2 K -> K (R n0 n1 L0 n2)) : au.Ok Tryz.prog Γ f (aeb D Rk):=by
 intro args rg K hC
 refine h args rg K ?_
 (try unfold aeb at hC)
 (try unfold aa3)
 (try dsimp only at hC ⊢)
 split at hC
 next n0 n1 x0 n2 =>
  split at hC
  next q0 L0 hx0 =>
   (try dsimp only)
   (try simp only [hx0])
   rw [aV] at hC ⊢
   exact ⟨hC.1,hk _ _ _ _ K hC.2⟩
  next => exact hC.elim
 next => exact hC.elim
def aey : au:=agi 1000000 adp
theorem aez : au.Ok Tryz.prog Γ 64 aey:=afO adO (fun p cap w => Tryz.slices_Sort_int_none p cap w) (fun blk off cap zs w hH hb _ hB => Tryz.slices_Sort_int blk off cap zs w hH hb (by omega))
def adP : au:=afD 1000000 Lib.compact
theorem ad0 : au.Ok Tryz.prog Γ 65 adP:=afn afl (fun p cap w => Tryz.slices_Compact_int_empty p cap w) (fun blk off cap zs w hH _ hc hB => Tryz.slices_Compact_int blk off cap zs w hH (by omega) hc)
def adj (E : List bR) (seen : List Nat) : List Int:=(seen.map fun j => (E.getD j aG).1.1).reverse
theorem afw (E : List bR) (seen : List Nat) : (adj E seen).length = seen.length:=by unfold adj;simp
theorem ae4 (E : List bR) (j : Nat) (seen : List Nat) : adj E (j :: seen) = adj E seen ++ [(E.getD j aG).1.1]:=by unfold adj;simp
theorem afy (N : Nat) : KH N [] <= N:=by unfold KH;exact Nat.le_trans (List.length_filter_le _ _) (by simp)
theorem afv {E : List bR} {seen : List Nat} (h1 : ∀ j ∈ seen,j < E.length) (h2 : ∀ j,j < E.length -> Vq j seen = true) (v : Int) : v ∈ adj E seen <-> ∃ e ∈ E,e.1.1 = v:=by
 unfold adj
 rw [List.mem_reverse,List.mem_map]
 constructor
 ·rintro ⟨j,hj,rfl⟩
  exact ⟨_,pc (h1 j hj),rfl⟩
 ·rintro ⟨e,he,rfl⟩
  obtain ⟨j,hj,rfl⟩:=List.mem_iff_getElem.1 he
  exact ⟨j,ku (h2 j hj),by rw [List.getD_eq_getElem?_getD,List.getElem?_eq_getElem hj];rfl⟩
def adi (L : List Wk) (p P : Int) : List Int:=ada (ag5 L p) P.toNat
def aee (n P : Int) (L : List Wk) (p : Int) : cM:=match bf n P L p == 0 with
 | false => ⟨[],.bF [.a (.v (.slice none 0 0)),.a (vI (bf n P L p))]⟩
 | true => ⟨[.arr 3 kI (adi L p P) true true],.bF [.a (.sl 0 [] 0 (adi L p P).length),.a (vI 0)]⟩
def afk : au:=aa3 (fun _ _ L _ => [(aa.of (L.length <= 1000000))]) aee
noncomputable def afB : List (Nat × au):=[(45,jf),(47,r5),(64,aey),(65,adP)]
theorem aex : aR Tryz.prog Γ afB:=((((aR.nil.cons (aj Tryz.func65 rfl rfl).fn ad0).cons (aj Tryz.func64 rfl rfl).fn aez).cons (aj Tryz.func47 rfl rfl).fn oU).cons (aj Tryz.func45 rfl rfl).fn fQ)
attribute [local irreducible] ag5 bf adj adp Lib.compact adi
theorem aes : au.Ok Tryz.prog Γ 23 afk:=aaU (d:=0) (aP aex bq.nil false 0) (aj Tryz.func23 rfl rfl) (by
 intro n P L p K ⟨hl,_⟩ hK
 simp only [aa.ae] at hl
 unfold aee at hK
 obtain h0 | h0 : (bf n P L p == 0) = false \/ (bf n P L p == 0) = true:=by cases bf n P L p == 0 <;> simp
 ·have e0 : (bf n P L p != 0) = true:=by unfold bne;rw [h0];rfl
  rw [h0] at hK
  dsimp only at hK
  repeat' ((conv => whnf);first | apply And.intro | (intro h9;try (have h8 : (_ : Bool) = _:=h9;clear h8;revert h9;subst_vars;intro h9;exact aq h9 (by assumption))))
  all_goals try (conv => whnf)
  all_goals try first | (apply Tk.mk <;> kernel_rfl) | exact ⟨ah rfl⟩ | exact ⟨rfl⟩ | exact ⟨trivial⟩
  all_goals subst_vars
  all_goals try first | rfl | contradiction | (apply Ob.mk;first | (simp only [ag,ak,aa.ae];omega) | ((try simp only [aa.ae]);(try dsimp only);omega))
  all_goals first
   | exact ⟨hl⟩
   | (refine bu.base ⟨_,[],hK,trivial,rfl,?_⟩;(repeat' ((conv => whnf);(first | apply And.intro | intro _)));all_goals first | rfl | trivial)
 have e0 : (bf n P L p != 0) = false:=by unfold bne;rw [h0];rfl
 rw [h0] at hK
 dsimp only at hK
 obtain ⟨hw,hP,hp,hn⟩:=gg (eq_of_beq h0)
 have hE:=xh (cW.1 hw) hP hp
 have Sa:=hE.Kg hP
 have VJ : 0 <= P:=by omega
 have afe:=afy (ag5 L p).length
 have jk : adj (ag5 L p) [] = []:=by unfold adj;rfl
 repeat' ((conv => whnf);first | apply And.intro | (intro h9;try (have h8 : (_ : Bool) = _:=h9;clear h8;revert h9;subst_vars;intro h9;exact aq h9 (by assumption))))
 all_goals try (conv => whnf)
 all_goals try first | (apply Tk.mk <;> kernel_rfl) | exact ⟨ah rfl⟩ | exact ⟨rfl⟩ | exact ⟨trivial⟩
 all_goals subst_vars
 all_goals try first | rfl | contradiction | (apply Ob.mk;first | (simp only [ag,ak,aa.ae];omega) | ((try simp only [aa.ae]);(try dsimp only);omega))
 all_goals try first
  | exact ⟨hw⟩
  | exact ⟨hl⟩
 refine ⟨List Nat,fun s => s.length + KH (ag5 L p).length s <= (ag5 L p).length /\ ∀ j ∈ s,j < (ag5 L p).length,fun s => ⟨aI 32 [7,18] [.a (.sl 4 [] 0 (adj (ag5 L p) s).length),.a (.it 3)],[],[.arr 46 kW L false false,.box true [vI n,vI P,.sl 0 [] 0 L.length],.bH 82 kX 3 kI (ag5 L p) false false,.iter (some 2) (ag5 L p).length (s),.arr 3 kI (adj (ag5 L p) s) true true]⟩,fun s => KH (ag5 L p).length s,[],[0,1,2,3,1000],⟨by simpa using afe,fun j h => by cases h⟩,?_,?_⟩
 ·repeat' ((conv => whnf);(first | apply And.intro | intro _))
  all_goals first | rfl | trivial | exact ah rfl | exact aS ‹_› rfl | exact aT ‹_› rfl | ((repeat' first | rfl | constructor);done) | exact jk | (rw [jk];rfl)
 rintro seen ⟨hu,hs⟩
 have hlen:=afw (ag5 L p) seen
 repeat' ((conv => whnf);first | apply And.intro | (intro h9;try (have h8 : (_ : Bool) = _:=h9;clear h8;revert h9;subst_vars;intro h9;exact aq h9 (by assumption))))
 all_goals try (conv => whnf)
 all_goals try first | (apply Tk.mk <;> kernel_rfl) | exact ⟨ah rfl⟩ | exact ⟨rfl⟩ | exact ⟨trivial⟩
 all_goals subst_vars
 all_goals try first | rfl | contradiction | (apply Ob.mk;first | (simp only [ag,ak,aa.ae];omega) | ((try simp only [aa.ae]);(try dsimp only);omega))
 all_goals try first
  | exact ⟨Nat.zero_add _⟩
  | exact ⟨⟨rfl,show (adj (ag5 L p) seen).length <= 1000000 by omega⟩⟩
  | exact ⟨⟨(adO _).symm,show (adp (adj (ag5 L p) seen)).length <= 1000000 by rw [adO];omega⟩⟩
  | exact ⟨show ((adj (ag5 L p) seen).length + 1) * 1 <= 1099511627776 by omega⟩
 ·rename Nat => j
  have hj : j < (ag5 L p).length:=by assumption
  have hm : Vq j seen = false:=by assumption
  have hlt:=Ow hj hm
  have hc:=ae4 (ag5 L p) j seen
  have AF:=congrArg List.length hc
  rw [List.length_append,List.length_singleton] at AF
  refine ⟨j :: seen,[0,1,2,3,4],⟨by simp only [List.length_cons];omega,fun i hi => by rcases List.mem_cons.1 hi with rfl | h;exact hj;exact hs i h⟩,?_,hlt⟩
  repeat' ((conv => whnf);(first | apply And.intro | intro _))
  all_goals first | rfl | trivial | exact ah rfl | exact aS ‹_› rfl | exact aT ‹_› rfl | ((repeat' first | rfl | constructor);done) | exact AF.symm | exact ⟨rfl,rfl,hc.symm⟩
 ·have hall : ∀ j,j < (ag5 L p).length -> Vq j seen = true:=by assumption
  have agp : Lib.compact (adp (adj (ag5 L p) seen)) = adi L p P:=by
   unfold adi
   exact afM VJ (fun e he => (hE.ok e he).1) (afv hs hall)
  rw [<- agp] at hK
  refine bu.base ⟨_,[5],hK,⟨rfl,rfl,by simp,trivial⟩,rfl,?_⟩
  repeat' ((conv => whnf);(first | apply And.intro | intro _))
  all_goals first | rfl | trivial)
def aen : au:=aeb (fun _ _ L _ => [(aa.of (L.length <= 1000000))]) (fun n P L p K => ((bf n P L p == 0) = true -> K ⟨[.arr 3 kI (adi L p P) true true],.bF [.a (.sl 0 [] 0 (adi L p P).length),.a (vI 0)]⟩) /\ ((bf n P L p == 0) = false -> K ⟨[],.bF [.a (.v (.slice none 0 0)),.a (vI (bf n P L p))]⟩))
theorem aet : au.Ok Tryz.prog Γ 23 aen:=aeH aes (by
 intro n P L p K ⟨h1,h2⟩
 unfold aee
 cases hb : bf n P L p == 0
 ·exact h2 hb
 ·exact h1 hb)
end Go.Proofs.YthejmgnkenokpaaGreatDoor
end
section
namespace Go.Proofs.YthejmgnkenokpaaGreatDoor
open Go Go.Sy Go.bK
variable {Γ : bn}
def ae8 (D : Int -> Int -> List Wk -> Int -> List aa) (R : Int -> Int -> List Wk -> Int -> cM) : au:=.new fun args rg K => match args with
 | [.agg [.v (.int .i64 n0),.v (.int .i64 n1),x0],.a (.v (.int .i64 n2))] => (match ac1 46 kW rg x0 with | some (q0,L0) => bk false (q0 ++ (D n0 n1 L0 n2)) (K (R n0 n1 L0 n2)) | _ => False)
 | _ => False
theorem aeU {f : FuncId} {b : Body} {E : Env} {d : Nat} (hP : aL Tryz.prog Γ E) (hb : bQ Tryz.prog f b) {D : Int -> Int -> List Wk -> Int -> List aa} {R : Int -> Int -> List Wk -> Int -> cM}
  (H : ∀ (n0 : Int) (n1 : Int) (L0 : List Wk) (n2 : Int) (K : cM -> Prop),bW (D n0 n1 L0 n2) -> K (R n0 n1 L0 n2) -> cQ E d b [.agg [vI n0,vI n1,.sl 0 [] 0 L0.length],.a (vI n2)] [.arr 46 kW L0 false false] (bu K)) : au.Ok Tryz.prog Γ f (ae8 D R):=au.fM (d:=d) hP hb (by
 intro args rg K hF
 split at hF
 next n0 n1 x0 n2 =>
  split at hF
  next q0 L0 hx0 =>
   rw [aV,aH] at hF
   obtain ⟨⟨dm,hD⟩,hK⟩:=hF
   obtain ⟨e0,Vn⟩:=bP (by simp [kW]) hx0 dm
   obtain ⟨p0,r0⟩:=Vn [e0] 0 1 rfl (by omega)
   refine ⟨[e0],[.agg [vI n0,vI n1,.sl 0 [] 0 L0.length],.a (vI n2)],[.arr 46 kW L0 false false],⟨⟨⟨rfl,rfl,p0,trivial⟩,rfl,trivial⟩,fun r g hg => ?_⟩,bu K,H _ _ _ _ K hD hK,fun x st h => h⟩
   match r,hg with
   | 0,hg => obtain rfl:=Option.some.inj hg;exact r0
  next => exact hF.elim
 next => exact hF.elim)
def adg (E : List bR) (q : Int) : Nat -> Bool
 | 0 => false
 | i + 1 => adg E q i || ((cf E i).1 == q)
theorem adR (E : List bR) (q : Int) (i : Nat) : adg E q (i + 1) = (adg E q i || ((cf E i).1 == q)):=rfl
theorem ad9 {E : List bR} {q : Int} : ∀ i,i <= E.length -> (adg E q i = true <-> ∃ j,j < i /\ (E.getD j aG).1.1 = q)
 | 0,_ => ⟨fun h => (by cases h),fun ⟨j,h,_⟩ => absurd h (Nat.not_lt_zero j)⟩
 | i + 1,hi => by
   rw [adR,Bool.or_eq_true,ad9 i (by omega)]
   have e : ((cf E i).1 == q) = true <-> (E.getD i aG).1.1 = q:=by rw [vz (by omega),beq_iff_eq];exact Iff.rfl
   rw [e]
   constructor
   ·rintro (⟨j,h1,h2⟩ | h)
    ·exact ⟨j,by omega,h2⟩
    ·exact ⟨i,by omega,h⟩
   ·rintro ⟨j,h1,h2⟩
    rcases Nat.lt_or_ge j i with h | h
    ·exact .inl ⟨j,h,h2⟩
    ·obtain rfl : j = i:=by omega
     exact .inr h2
theorem aeZ {E : List bR} {q : Int} : adg E q E.length = adz E q:=by
 rw [Bool.eq_iff_iff,ad9 _ (Nat.le_refl _)]
 unfold adz
 rw [List.any_eq_true]
 constructor
 ·rintro ⟨j,h1,h2⟩;exact ⟨_,pc h1,by rw [h2];exact beq_self_eq_true _⟩
 ·rintro ⟨e,he,h⟩
  obtain ⟨j,hj,rfl⟩:=List.mem_iff_getElem.1 he
  exact ⟨j,hj,by rw [List.getD_eq_getElem?_getD,List.getElem?_eq_getElem hj];exact eq_of_beq h⟩
def adE : au:=ae8 (fun _ P L p => [(aa.of (dY P L = true)),(aa.of (P <= 6)),(aa.of (L.length <= 1000000)),(aa.of (0 <= p /\ p <= P - 1))]) (fun _ P L p => ⟨[.arr 3 kI (adi L p P) true true],.a (.sl 0 [] 0 (adi L p P).length)⟩)
noncomputable def afj : List (Nat × au):=[(67,aaH)]
theorem aer : aR Tryz.prog Γ afj:=(aR.nil.cons (aj Tryz.func67 rfl rfl).fn aaI)
attribute [local irreducible] ag5 cy ada adg
theorem adV : au.Ok Tryz.prog Γ 27 adE:=aeU (d:=0) (aP aer bq.nil false 0) (aj Tryz.func27 rfl rfl) (by
 intro n P L p K ⟨hw,hP,hl,hp,_⟩ hK
 simp only [aa.ae] at hw hP hl hp
 have hE:=xh (cW.1 hw) hP hp
 have Sa:=hE.Kg hP
 have el:=I3 (ag5 L p)
 have jk : ada (ag5 L p) 0 = []:=by unfold ada;rfl
 repeat' ((conv => whnf);first | apply And.intro | (intro h9;try (have h8 : (_ : Bool) = _:=h9;clear h8;revert h9;subst_vars;intro h9;exact aq h9 (by assumption))))
 all_goals try (conv => whnf)
 all_goals try first | (apply Tk.mk <;> kernel_rfl) | exact ⟨ah rfl⟩ | exact ⟨rfl⟩ | exact ⟨trivial⟩
 all_goals subst_vars
 all_goals try first | rfl | contradiction | (apply Ob.mk;first | (simp only [ag,ak,aa.ae];omega) | ((try simp only [aa.ae]);(try dsimp only);omega))
 all_goals try first
  | exact ⟨hw⟩
  | exact ⟨hl⟩
 refine ⟨Nat,fun k => k <= P.toNat,fun k => ⟨aI 42 [2,5,6,7] [.a (.p 1 [] 0 0),.a (.sl 2 [] 0 (ag5 L p).length),.a (.sl 3 [] 0 (ada (ag5 L p) k).length),.a (vI k)],[],[.arr 46 kW L false false,.box true [vI n,vI P,.sl 0 [] 0 L.length],.arr 109 kV (cy (ag5 L p)) true true,.arr 3 kI (ada (ag5 L p) k) true true]⟩,fun k => P.toNat - k,0,[0,1,2,1000],Nat.zero_le _,?_,?_⟩
 ·repeat' ((conv => whnf);(first | apply And.intro | intro _))
  all_goals first | rfl | trivial | exact ah rfl | exact aS ‹_› rfl | exact aT ‹_› rfl | ((repeat' first | rfl | constructor);done) | exact jk | (rw [jk];rfl)
 rintro k hk
 by_cases cB : k < P.toNat
 ·have p0 : decide ((k : Int) < P) = true:=decide_eq_true (by omega)
  have afe : adg (ag5 L p) (k : Int) 0 = false:=by unfold adg;rfl
  repeat' ((conv => whnf);first | apply And.intro | (intro h9;try (have h8 : (_ : Bool) = _:=h9;clear h8;revert h9;subst_vars;intro h9;exact aq h9 (by assumption))))
  all_goals try (conv => whnf)
  all_goals try first | (apply Tk.mk <;> kernel_rfl) | exact ⟨ah rfl⟩ | exact ⟨rfl⟩ | exact ⟨trivial⟩
  all_goals subst_vars
  all_goals try first | rfl | contradiction | (apply Ob.mk;first | (simp only [ag,ak,aa.ae];omega) | ((try simp only [aa.ae]);(try dsimp only);omega))
  refine ⟨Nat,fun i => i <= (ag5 L p).length,fun i => ⟨aI 42 [2,5,6,7,8,9] [.a (.p 1 [] 0 0),.a (.sl 2 [] 0 (ag5 L p).length),.a (.sl 3 [] 0 (ada (ag5 L p) k).length),.a (vI k),.a (.v (.bool (adg (ag5 L p) (k : Int) i))),.a (vI i)],[],[.arr 46 kW L false false,.box true [vI n,vI P,.sl 0 [] 0 L.length],.arr 109 kV (cy (ag5 L p)) true true,.arr 3 kI (ada (ag5 L p) k) true true]⟩,fun i => (ag5 L p).length - i,0,[],Nat.zero_le _,?_,?_⟩
  ·repeat' ((conv => whnf);(first | apply And.intro | intro _))
   all_goals first | rfl | trivial | exact ah rfl | exact aS ‹_› rfl | exact aT ‹_› rfl | ((repeat' first | rfl | constructor);done) | exact afe.symm | exact afe
  rintro i hi
  by_cases hi1 : i < (ag5 L p).length
  ·have p1 : decide ((i : Int) < ((ag5 L p).length : Int)) = true:=decide_eq_true (by omega)
   have hs:=adR (ag5 L p) (k : Int) i
   obtain a1 | a1 : adg (ag5 L p) (k : Int) i = true \/ adg (ag5 L p) (k : Int) i = false:=by cases adg (ag5 L p) (k : Int) i <;> simp
   ·have v1 : true = adg (ag5 L p) (k : Int) (i + 1):=by rw [hs,a1];rfl
    repeat' ((conv => whnf);first | apply And.intro | (intro h9;try (have h8 : (_ : Bool) = _:=h9;clear h8;revert h9;subst_vars;intro h9;exact aq h9 (by assumption))))
    all_goals try (conv => whnf)
    all_goals try first | (apply Tk.mk <;> kernel_rfl) | exact ⟨ah rfl⟩ | exact ⟨rfl⟩ | exact ⟨trivial⟩
    all_goals subst_vars
    all_goals try first | rfl | contradiction | (apply Ob.mk;first | (simp only [ag,ak,aa.ae];omega) | ((try simp only [aa.ae]);(try dsimp only);omega))
    refine ⟨i + 1,[],hi1,?_,by show (ag5 L p).length - (i + 1) < (ag5 L p).length - i;omega⟩
    repeat' ((conv => whnf);(first | apply And.intro | intro _))
    all_goals first | rfl | trivial | exact ah rfl | exact aS ‹_› rfl | exact aT ‹_› rfl | ((repeat' first | rfl | constructor);done) | exact v1 | exact v1.symm
   have v1 : ((cf (ag5 L p) i).1 == (k : Int)) = adg (ag5 L p) (k : Int) (i + 1):=by rw [hs,a1];rfl
   repeat' ((conv => whnf);first | apply And.intro | (intro h9;try (have h8 : (_ : Bool) = _:=h9;clear h8;revert h9;subst_vars;intro h9;exact aq h9 (by assumption))))
   all_goals try (conv => whnf)
   all_goals try first | (apply Tk.mk <;> kernel_rfl) | exact ⟨ah rfl⟩ | exact ⟨rfl⟩ | exact ⟨trivial⟩
   all_goals subst_vars
   all_goals try first | rfl | contradiction | (apply Ob.mk;first | (simp only [ag,ak,aa.ae];omega) | ((try simp only [aa.ae]);(try dsimp only);omega))
   all_goals try first
    | exact ⟨show 0 + Int.toNat (i : Int) < (cy (ag5 L p)).length by omega⟩
   refine ⟨i + 1,[],hi1,?_,by show (ag5 L p).length - (i + 1) < (ag5 L p).length - i;omega⟩
   repeat' ((conv => whnf);(first | apply And.intro | intro _))
   all_goals first | rfl | trivial | exact ah rfl | exact aS ‹_› rfl | exact aT ‹_› rfl | ((repeat' first | rfl | constructor);done) | exact v1 | exact v1.symm
  have p1 : decide ((i : Int) < ((ag5 L p).length : Int)) = false:=decide_eq_false (by omega)
  obtain rfl : i = (ag5 L p).length:=by omega
  have agb:=aeZ (E:=(ag5 L p)) (q:=(k : Int))
  have Np:=adA (ag5 L p) k
  obtain a1 | a1 : adg (ag5 L p) (k : Int) (ag5 L p).length = true \/ adg (ag5 L p) (k : Int) (ag5 L p).length = false:=by cases adg (ag5 L p) (k : Int) (ag5 L p).length <;> simp
  ·have e1:=ae3 (E:=(ag5 L p)) (k:=k) (by rw [<- agb];exact a1)
   have e2:=congrArg List.length e1
   rw [List.length_append,List.length_singleton] at e2
   repeat' ((conv => whnf);first | apply And.intro | (intro h9;try (have h8 : (_ : Bool) = _:=h9;clear h8;revert h9;subst_vars;intro h9;exact aq h9 (by assumption))))
   all_goals try (conv => whnf)
   all_goals try first | (apply Tk.mk <;> kernel_rfl) | exact ⟨ah rfl⟩ | exact ⟨rfl⟩ | exact ⟨trivial⟩
   all_goals subst_vars
   all_goals try first | rfl | contradiction | (apply Ob.mk;first | (simp only [ag,ak,aa.ae];omega) | ((try simp only [aa.ae]);(try dsimp only);omega))
   all_goals try first
    | exact ⟨Nat.zero_add _⟩
    | exact ⟨show ((ada (ag5 L p) k).length + 1) * 1 <= 1099511627776 by omega⟩
   refine ⟨k + 1,[],cB,?_,by show P.toNat - (k + 1) < P.toNat - k;omega⟩
   repeat' ((conv => whnf);(first | apply And.intro | intro _))
   all_goals first | rfl | trivial | exact ah rfl | exact aS ‹_› rfl | exact aT ‹_› rfl | ((repeat' first | rfl | constructor);done) | exact e2.symm | exact ⟨rfl,rfl,e1.symm⟩
  have e1:=afu (E:=(ag5 L p)) (k:=k) (by rw [<- agb];exact a1)
  have e2:=congrArg List.length e1
  repeat' ((conv => whnf);first | apply And.intro | (intro h9;try (have h8 : (_ : Bool) = _:=h9;clear h8;revert h9;subst_vars;intro h9;exact aq h9 (by assumption))))
  all_goals try (conv => whnf)
  all_goals try first | (apply Tk.mk <;> kernel_rfl) | exact ⟨ah rfl⟩ | exact ⟨rfl⟩ | exact ⟨trivial⟩
  all_goals subst_vars
  all_goals try first | rfl | contradiction | (apply Ob.mk;first | (simp only [ag,ak,aa.ae];omega) | ((try simp only [aa.ae]);(try dsimp only);omega))
  refine ⟨k + 1,[],cB,?_,by show P.toNat - (k + 1) < P.toNat - k;omega⟩
  repeat' ((conv => whnf);(first | apply And.intro | intro _))
  all_goals first | rfl | trivial | exact ah rfl | exact aS ‹_› rfl | exact aT ‹_› rfl | ((repeat' first | rfl | constructor);done) | exact e2.symm | exact ⟨rfl,rfl,e1.symm⟩
 have p0 : decide ((k : Int) < P) = false:=decide_eq_false (by omega)
 obtain rfl : k = P.toNat:=by omega
 repeat' ((conv => whnf);first | apply And.intro | (intro h9;try (have h8 : (_ : Bool) = _:=h9;clear h8;revert h9;subst_vars;intro h9;exact aq h9 (by assumption))))
 all_goals try (conv => whnf)
 all_goals try first | (apply Tk.mk <;> kernel_rfl) | exact ⟨ah rfl⟩ | exact ⟨rfl⟩ | exact ⟨trivial⟩
 all_goals subst_vars
 all_goals try first | rfl | contradiction | (apply Ob.mk;first | (simp only [ag,ak,aa.ae];omega) | ((try simp only [aa.ae]);(try dsimp only);omega))
 have afI : K ⟨[.arr 3 kI (ada (ag5 L p) P.toNat) true true],.a (.sl 0 [] 0 (ada (ag5 L p) P.toNat).length)⟩:=hK
 refine bu.base ⟨_,[3],afI,⟨rfl,rfl,by simp,trivial⟩,rfl,?_⟩
 repeat' ((conv => whnf);(first | apply And.intro | intro _))
 all_goals first | rfl | trivial)
end Go.Proofs.YthejmgnkenokpaaGreatDoor
end
section
namespace Go.Proofs.YthejmgnkenokpaaGreatDoor
open Go Go.Sy Go.bK
variable {Γ : bn}
def zg (D : Int -> Int -> List Wk -> Int -> List aa) (Rk : Int -> Int -> List Wk -> Int -> (cM -> Prop) -> Prop) : au:=.new fun args rg K => match args with
 | [.agg [.v (.int .i64 n0),.v (.int .i64 n1),x0],.a (.v (.int .i64 n2))] => (match ac1 46 kW rg x0 with | some (q0,L0) => bk false (q0 ++ (D n0 n1 L0 n2)) (Rk n0 n1 L0 n2 K) | _ => False)
 | _ => False
theorem A1 {f : FuncId} {D : Int -> Int -> List Wk -> Int -> List aa} {R : Int -> Int -> List Wk -> Int -> cM} {Rk : Int -> Int -> List Wk -> Int -> (cM -> Prop) -> Prop} (h : au.Ok Tryz.prog Γ f (tG D R)) (hk : ∀ (n0 : Int) (n1 : Int) (L0 : List Wk) (n2 : Int) K,Rk n0 n1 L0 n2 K -> K (R n0 n1 L0 n2)) : au.Ok Tryz.prog Γ f (zg D Rk):=by
 intro args rg K hC
 refine h args rg K ?_
 (try unfold zg at hC)
 (try unfold tG)
 (try dsimp only at hC ⊢)
 split at hC
 next n0 n1 x0 n2 =>
  split at hC
  next q0 L0 hx0 =>
   (try dsimp only)
   (try simp only [hx0])
   rw [aV] at hC ⊢
   exact ⟨hC.1,hk _ _ _ _ K hC.2⟩
  next => exact hC.elim
 next => exact hC.elim
def A0 (D : Int -> Int -> List Wk -> Int -> List Int -> List aa) (Rk : Int -> Int -> List Wk -> Int -> List Int -> (cM -> Prop) -> Prop) : au:=.new fun args rg K => match args with
 | [.agg [.v (.int .i64 n0),.v (.int .i64 n1),x0],.a (.v (.int .i64 n2)),.a x1] => (match ac1 46 kW rg x0,ac1 3 kI rg x1 with | some (q0,L0),some (q1,L1) => bk false (q0 ++ (q1 ++ (D n0 n1 L0 n2 L1))) (Rk n0 n1 L0 n2 L1 K) | _,_ => False)
 | _ => False
theorem HB {f : FuncId} {D : Int -> Int -> List Wk -> Int -> List Int -> List aa} {R : Int -> Int -> List Wk -> Int -> List Int -> cM} {Rk : Int -> Int -> List Wk -> Int -> List Int -> (cM -> Prop) -> Prop} (h : au.Ok Tryz.prog Γ f (y8 D R)) (hk : ∀ (n0 : Int) (n1 : Int) (L0 : List Wk) (n2 : Int) (L1 : List Int) K,Rk n0 n1 L0 n2 L1 K -> K (R n0 n1 L0 n2 L1)) : au.Ok Tryz.prog Γ f (A0 D Rk):=by
 intro args rg K hC
 refine h args rg K ?_
 (try unfold A0 at hC)
 (try unfold y8)
 (try dsimp only at hC ⊢)
 split at hC
 next n0 n1 x0 n2 x1 =>
  split at hC
  next q0 L0 q1 L1 hx0 cO =>
   (try dsimp only)
   (try simp only [hx0,cO])
   rw [aV] at hC ⊢
   exact ⟨hC.1,hk _ _ _ _ _ K hC.2⟩
  next => exact hC.elim
 next => exact hC.elim
def Fe (D : Int -> Int -> List Wk -> Wk -> List aa) (Rk : Int -> Int -> List Wk -> Wk -> (cM -> Prop) -> Prop) : au:=.new fun args rg K => match args with
 | [.agg [.v (.int .i64 n0),.v (.int .i64 n1),x0],.agg l0] => (match ac1 46 kW rg x0,eu kW l0 with | some (q0,L0),some v0 => bk false (q0 ++ (D n0 n1 L0 v0)) (Rk n0 n1 L0 v0 K) | _,_ => False)
 | _ => False
theorem Jg {f : FuncId} {D : Int -> Int -> List Wk -> Wk -> List aa} {R : Int -> Int -> List Wk -> Wk -> cM} {Rk : Int -> Int -> List Wk -> Wk -> (cM -> Prop) -> Prop} (h : au.Ok Tryz.prog Γ f (Am D R)) (hk : ∀ (n0 : Int) (n1 : Int) (L0 : List Wk) (v0 : Wk) K,Rk n0 n1 L0 v0 K -> K (R n0 n1 L0 v0)) : au.Ok Tryz.prog Γ f (Fe D Rk):=by
 intro args rg K hC
 refine h args rg K ?_
 (try unfold Fe at hC)
 (try unfold Am)
 (try dsimp only at hC ⊢)
 split at hC
 next n0 n1 x0 l0 =>
  split at hC
  next q0 L0 v0 hx0 hc0 =>
   (try dsimp only)
   (try simp only [hx0,hc0])
   rw [aV] at hC ⊢
   exact ⟨hC.1,hk _ _ _ _ K hC.2⟩
  next => exact hC.elim
 next => exact hC.elim
def DL : au:=zg (fun _ _ L _ => [(aa.of (L.length <= 1000000))]) (fun n P L p K => ((bf n P L p == 0) = true -> K ⟨[.arr 48 kG (af L p) true true],.bF [.a (.sl 0 [] 0 (af L p).length),.a (vI 0)]⟩) /\ ((bf n P L p == 0) = false -> K ⟨[],.bF [.a (.v (.slice none 0 0)),.a (vI (bf n P L p))]⟩))
theorem Fc : au.Ok Tryz.prog Γ 24 DL:=A1 EH (by
 intro n P L p K ⟨h1,h2⟩
 unfold oL
 cases hb : bf n P L p == 0
 ·exact h2 hb
 ·exact h1 hb)
def yc : au:=zg (fun _ _ L _ => [(aa.of (L.length <= 1000000))]) (fun n P L p K => ((bf n P L p == 0) = true -> K ⟨[.arr 3 kI (aJ n (af L p)) true true,.arr 3 kI (aU n (af L p)) true true],.bF [.a (.sl 0 [] 0 (n * n).toNat),.a (.sl 1 [] 0 (n * n).toNat),.a (vI 0)]⟩) /\ ((bf n P L p == 0) = false -> K ⟨[],.bF [.a (.v (.slice none 0 0)),.a (.v (.slice none 0 0)),.a (vI (bf n P L p))]⟩))
theorem AX : au.Ok Tryz.prog Γ 39 yc:=A1 zG (by
 intro n P L p K ⟨h1,h2⟩
 unfold ki
 cases hb : bf n P L p == 0
 ·exact h2 hb
 ·exact h1 hb)
def AP (n : Int) (L : List Wk) (p : Int) (H : List Int) : Bool:=decide (H.length = (aB n L p).length) && H.all hB
def DK : au:=A0 (fun _ _ L _ H => [(aa.of (L.length <= 1000000)),(aa.of (H.length <= 1000000))]) (fun n P L p H K => ((bf n P L p == 0) = true -> (AP n L p H = true -> K ⟨[.arr 49 kT (eI n P L p (hF (aB n L p) H)) true true],.bF [.a (.sl 0 [] 0 P.toNat),.a (vI 0)]⟩) /\ (AP n L p H = false -> K ⟨[],.bF [.a (.v (.slice none 0 0)),.a (vI 1)]⟩)) /\ ((bf n P L p == 0) = false -> K ⟨[],.bF [.a (.v (.slice none 0 0)),.a (vI (bf n P L p))]⟩))
theorem Fb : au.Ok Tryz.prog Γ 41 DK:=HB EG (by
 intro n P L p H K ⟨h1,h2⟩
 unfold lF
 cases hb : bf n P L p == 0
 ·exact h2 hb
 ·cases hc : AP n L p H
  ·have:=(h1 hb).2 hc
   unfold AP at hc
   dsimp only
   rw [hc];exact this
  ·have:=(h1 hb).1 hc
   unfold AP at hc
   dsimp only
   rw [hc];exact this)
def Hz : au:=Fe (fun _ _ L _ => [(aa.of (L.length <= 900000))]) (fun n P L w K => ((bD n P L == 0) = true -> ((bD n P (L ++ [w]) == 0) = true -> K ⟨[.arr 46 kW (L ++ [w]) true true],.bF [.agg [vI n,vI P,.sl 0 [] 0 (L.length + 1)],.a (vI 0)]⟩) /\ ((bD n P (L ++ [w]) == 0) = false -> K (wC (bD n P (L ++ [w]))))) /\ ((bD n P L == 0) = false -> K (wC (bD n P L))))
theorem HA : au.Ok Tryz.prog Γ 31 Hz:=Jg Gf (by
 intro n P L w K ⟨h1,h2⟩
 unfold nO
 cases hb : bD n P L == 0
 ·exact h2 hb
 ·cases hc : bD n P (L ++ [w]) == 0
  ·exact (h1 hb).2 hc
  ·exact (h1 hb).1 hc)
end Go.Proofs.YthejmgnkenokpaaGreatDoor
end
section
namespace Go.Proofs.YthejmgnkenokpaaGreatDoor
open Go Go.Sy Go.bK
variable {Γ : bn}
attribute [local irreducible] bf lP af
end Go.Proofs.YthejmgnkenokpaaGreatDoor
end
section
namespace Go.Proofs.YthejmgnkenokpaaGreatDoor
open Go Go.Sy Go.bK
variable {Γ : bn}
attribute [local irreducible] aQ
end Go.Proofs.YthejmgnkenokpaaGreatDoor
end
section
namespace Go.Proofs.YthejmgnkenokpaaGreatDoor
open Go Go.Sy Go.bK
variable {Γ : bn}
attribute [local irreducible] aQ aX
end Go.Proofs.YthejmgnkenokpaaGreatDoor
end
section
namespace Go.Proofs.YthejmgnkenokpaaGreatDoor
open Go Go.Sy Go.bK
variable {Γ : bn}
attribute [local irreducible] aQ
end Go.Proofs.YthejmgnkenokpaaGreatDoor
end
section
namespace Go.Proofs.YthejmgnkenokpaaGreatDoor
open Go Go.Sy Go.bK
variable {Γ : bn}
end Go.Proofs.YthejmgnkenokpaaGreatDoor
end
