/-
  Texts of the claims on chapter 3: Q24b. No condition: lemmas and contracts.
-/
import Derived.Test.YthejmgnkenokpaaGreatDoorQ18b
import Derived.Lib.SlicesCompact
set_option linter.all false
set_option maxRecDepth 100000
set_option maxHeartbeats 4000000
section
namespace Go.bK
open Go.Lib
theorem aeL : ∀ {l m : List Int},l.Pairwise (· < ·) -> m.Pairwise (· < ·) -> (∀ v,v ∈ l <-> v ∈ m) -> l = m
 | [],[],_,_,_ => rfl
 | [],b :: m,_,_,h => by have:=(h b).2 (List.mem_cons_self ..);cases this
 | a :: l,[],_,_,h => by have:=(h a).1 (List.mem_cons_self ..);cases this
 | a :: l,b :: m,hl,hm,h => by
   obtain ⟨l1,l2⟩:=List.pairwise_cons.1 hl
   obtain ⟨m1,m2⟩:=List.pairwise_cons.1 hm
   have e : a = b:=by
    rcases List.mem_cons.1 ((h a).1 (List.mem_cons_self ..)) with e | e
    ·exact e
    ·rcases List.mem_cons.1 ((h b).2 (List.mem_cons_self ..)) with e2 | e2
     ·exact e2.symm
     ·have:=m1 a e;have:=l1 b e2;omega
   subst e
   rw [aeL l2 m2 fun v => ⟨fun hv => ?_,fun hv => ?_⟩]
   ·rcases List.mem_cons.1 ((h v).1 (List.mem_cons_of_mem _ hv)) with e | e
    ·have:=l1 v hv;omega
    ·exact e
   ·rcases List.mem_cons.1 ((h v).2 (List.mem_cons_of_mem _ hv)) with e | e
    ·have:=m1 v hv;omega
    ·exact e
theorem aeC {d : Array Int} (hs : ∀ i j,i <= j -> j < d.size -> d[i]! <= d[j]!) : ∀ m,m <= d.size -> (compactUpTo d m).Pairwise (· < ·) /\ ∀ v,v ∈ compactUpTo d m <-> ∃ j,j < m /\ d[j]! = v
 | 0,_ => ⟨by simp [compactUpTo],fun v => ⟨fun h => by simp [compactUpTo] at h,fun ⟨j,h,_⟩ => absurd h (Nat.not_lt_zero j)⟩⟩
 | m + 1,hm => by
   obtain ⟨h1,h2⟩:=aeC hs m (by omega)
   rw [compactUpTo_succ]
   by_cases hk : keeps d m = true
   ·rw [if_pos hk]
    have hlt : ∀ j,j < m -> d[j]! < d[m]!:=fun j hj => by
     have e1:=hs j (m - 1) (by omega) (by omega)
     have e2:=hs (m - 1) m (by omega) (by omega)
     unfold keeps at hk
     have:=of_decide_eq_true hk
     omega
    refine ⟨List.pairwise_append.2 ⟨h1,List.pairwise_singleton ..,fun a ha b hb => ?_⟩,fun v => ?_⟩
    ·rw [List.mem_singleton.1 hb]
     obtain ⟨j,hj,rfl⟩:=(h2 a).1 ha
     exact hlt j hj
    ·rw [List.mem_append,List.mem_singleton,h2]
     constructor
     ·rintro (⟨j,hj,e⟩ | rfl)
      ·exact ⟨j,by omega,e⟩
      ·exact ⟨m,by omega,rfl⟩
     ·rintro ⟨j,hj,e⟩
      rcases Nat.lt_or_ge j m with h | h
      ·exact .inl ⟨j,h,e⟩
      ·obtain rfl : j = m:=by omega
       exact .inr e.symm
   ·rw [if_neg hk,List.append_nil]
    refine ⟨h1,fun v => ?_⟩
    rw [h2]
    unfold keeps at hk
    have hk : ¬ (m = 0 \/ d[m]! ≠ d[m - 1]!):=fun h => hk (decide_eq_true h)
    constructor
    ·rintro ⟨j,hj,e⟩;exact ⟨j,by omega,e⟩
    ·rintro ⟨j,hj,e⟩
     rcases Nat.lt_or_ge j m with h | h
     ·exact ⟨j,h,e⟩
     ·obtain rfl : j = m:=by omega
      refine ⟨j - 1,by omega,?_⟩
      rw [<- e]
      by_cases e2 : d[j]! = d[j - 1]!
      ·exact e2.symm
      ·exact absurd (.inr e2) hk
def adp (l : List Int) : List Int:=l.mergeSort fun x y => decide (x <= y)
theorem adO (l : List Int) : (adp l).length = l.length:=List.length_mergeSort l
theorem afx {l : List Int} {v : Int} : v ∈ adp l <-> v ∈ l:=List.mem_mergeSort
theorem afN (l : List Int) : (adp l).Pairwise (· <= ·):=by
 have h:=List.pairwise_mergeSort (le:=fun x y : Int => decide (x <= y)) (fun a b c h1 h2 => by simp at h1 h2 ⊢;omega) (fun a b => by simp;omega) l
 exact h.imp (fun h => by simpa using h)
theorem afl (l : List Int) : (compact l).length <= l.length:=by
 unfold compact compactUpTo
 rw [List.length_map]
 exact Nat.le_trans (List.length_filter_le _ _) (by simp)
theorem afm (l : List Int) : (compact (adp l)).Pairwise (· < ·) /\ ∀ v,v ∈ compact (adp l) <-> v ∈ l:=by
 have hu:=afN l
 obtain ⟨h1,h2⟩:=aeC (d:=(adp l).toArray) (fun i j hij hj => by
  have hj : j < (adp l).length:=by simpa using hj
  have hi : i < (adp l).length:=by omega
  rcases Nat.lt_or_ge i j with h | h
  ·have:=List.pairwise_iff_getElem.1 hu i j hi hj h
   simpa [hi,hj] using this
  ·obtain rfl : i = j:=by omega
   exact Int.le_refl _) (adp l).length (by simp)
 refine ⟨h1,fun v => ?_⟩
 unfold compact
 rw [h2,<- afx]
 constructor
 ·rintro ⟨j,hj,rfl⟩
  simp [hj]
 ·intro h
  obtain ⟨j,hj,rfl⟩:=List.mem_iff_getElem.1 h
  exact ⟨j,hj,by simp [hj]⟩
def adz (E : List bR) (q : Int) : Bool:=E.any fun e => e.1.1 == q
def ada (E : List bR) : Nat -> List Int
 | 0 => []
 | k + 1 => match adz E k with | true => ada E k ++ [(k : Int)] | false => ada E k
theorem ae3 {E : List bR} {k : Nat} (h : adz E k = true) : ada E (k + 1) = ada E k ++ [(k : Int)]:=by rw [ada,h]
theorem afu {E : List bR} {k : Nat} (h : adz E k = false) : ada E (k + 1) = ada E k:=by rw [ada,h]
theorem adA (E : List bR) : ∀ k,(ada E k).length <= k
 | 0 => Nat.le_refl _
 | k + 1 => by
   have:=adA E k
   rw [ada];split
   ·simp;omega
   ·omega
theorem adB {E : List bR} : ∀ k v,v ∈ ada E k <-> 0 <= v /\ v < (k : Int) /\ adz E v = true
 | 0,v => ⟨fun h => (by cases h),fun h => (by omega)⟩
 | k + 1,v => by
   have ih:=adB (E:=E) k v
   rw [ada]
   split
   ·rename_i h
    rw [List.mem_append,List.mem_singleton,ih]
    constructor
    ·rintro (h1 | rfl)
     ·exact ⟨h1.1,by omega,h1.2.2⟩
     ·exact ⟨by omega,by omega,h⟩
    ·rintro ⟨h1,h2,h3⟩
     by_cases e : v = (k : Int)
     ·exact .inr e
     ·exact .inl ⟨h1,by omega,h3⟩
   ·rename_i h
    rw [ih]
    constructor
    ·rintro ⟨h1,h2,h3⟩;exact ⟨h1,by omega,h3⟩
    ·rintro ⟨h1,h2,h3⟩
     by_cases e : v = (k : Int)
     ·subst e;rw [h3] at h;cases h
     ·exact ⟨h1,by omega,h3⟩
theorem adN (E : List bR) : ∀ k,(ada E k).Pairwise (· < ·)
 | 0 => List.Pairwise.nil
 | k + 1 => by
   rw [ada]
   split
   ·refine List.pairwise_append.2 ⟨adN E k,List.pairwise_singleton ..,fun a ha b hb => ?_⟩
    rw [List.mem_singleton.1 hb]
    exact ((adB k a).1 ha).2.1
   ·exact adN E k
theorem afM {E : List bR} {P : Int} {l : List Int} (hP : 0 <= P) (hE : ∀ e ∈ E,0 <= e.1.1 /\ e.1.1 <= P - 1) (hl : ∀ v,v ∈ l <-> ∃ e ∈ E,e.1.1 = v) : compact (adp l) = ada E P.toNat:=by
 obtain ⟨h1,h2⟩:=afm l
 refine aeL h1 (adN E _) fun v => ?_
 rw [h2,hl,adB]
 unfold adz
 rw [List.any_eq_true]
 constructor
 ·rintro ⟨e,he,rfl⟩
  have:=hE e he
  exact ⟨this.1,by omega,e,he,beq_self_eq_true _⟩
 ·rintro ⟨_,_,e,he,h⟩
  exact ⟨e,he,eq_of_beq h⟩
end Go.bK
end
