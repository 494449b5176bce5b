/-
  Texts of the claims: Sy2t. No condition: lemmas and contracts.
-/
import Derived.Test.YtcmojakklijgfaaGreatDoorSy1t
import Derived.Laws.Slices
import Derived.Laws.MakeOwn
set_option linter.all false
set_option maxRecDepth 100000
set_option maxHeartbeats 4000000
section
namespace Go.Sy
open Go Go.MapKept
universe u
section
variable {P : Program} {w : World}
theorem kinds_each {d : Nat} : ∀ (fs : List Field) (off : Nat) (ks : List Nat),eqFieldsK (eqKinds P d) P fs off = some ks → ∀ xs : List Value,vsKind ks (xs.drop off) → off ≤ xs.length →
  ∀ f ∈ fs, f.name ≠ "_" ∧ ∃ ks1 ys1, eqKinds P d f.type = some ks1 ∧ vsKind ks1 ys1 ∧ (part f.type xs.toArray f.offset).run P w = .ok (valOf P f.type ys1) w
 | [],_,_,_,_,_,_,f,hf => by simp at hf
 | g :: fs,off,ks,hk,xs,hv,hl,f,hf => by
   unfold eqFieldsK at hk
   split at hk
   ·rename_i ks1 i hn ho hr hi
    split at hk
    ·rename_i r hsz hfs
     obtain rfl:=Option.some.inj hk
     have ho' : g.offset = off:=Nat.eq_of_beq_eq_true ho
     have hsz' : i.size = ks1.length:=Nat.eq_of_beq_eq_true hsz
     obtain ⟨v1,v2⟩:=vsKind_split hv
     have hlen:=hv.length
     rw [List.length_append,List.length_drop] at hlen
     rw [List.drop_drop] at v2
     have ih:=kinds_each fs (off + ks1.length) r hfs xs v2 (by omega)
     have hne : g.name ≠ "_" := by simpa using hn
     rcases List.mem_cons.1 hf with rfl | hf
     ·exact ⟨hne,ks1,_,hr,v1,by rw [ho'];exact run_part hr hi hsz' xs off (by omega) w⟩
     ·exact ih f hf
    ·cases hk
   ·cases hk
theorem run_checkKinds (em : Bool) : ∀ (d D : Nat),d ≤ D → ∀ (t : TypeId) (ks : List Nat),eqKinds P d t = some ks → ∀ ys : List Value,vsKind ks ys → (Instr.checkKey em D t (valOf P t ys)).run P w = .ok () w
 | 0,_,_,_,_,hk,_,_ => by cases hk
 | d + 1,0,hD,_,_,_,_,_ => by omega
 | d + 1,D + 1,hD,t,ks,hk,ys,hv => by
   unfold eqKinds at hk
   split at hk
   ·rename_i c hc
    obtain rfl:=Option.some.inj hk
    match ys,hv with
    | [y],hv =>
      obtain ⟨hy,_⟩:=hv
      simp only [valOf,hc,List.headD_cons]
      unfold leafKind at hc
      split at hc
      ·rename_i hu;cases y <;> simp [Instr.checkKey,run_underlying hu]
      ·rename_i hu;cases y <;> simp [Instr.checkKey,run_underlying hu]
      ·rename_i hu;cases y <;> simp [Instr.checkKey,run_underlying hu]
      ·cases hc
   ·rename_i hc
    split at hk
    ·rename_i fs hu hp
     simp only [valOf,hc]
     rw [Instr.checkKey]
     simp only [Sem.run_bind,run_underlying hu,Result.andThen_ok]
     rw [← Array.forIn_toList]
     have each:=kinds_each (w:=w) fs.toList 0 ks hk ys (by simpa using hv) (Nat.zero_le _)
     generalize fs.toList = L at each
     induction L with
     | nil => simp
     | cons f L ih =>
       obtain ⟨hn,ks1,ys1,k1,k2,k3⟩:=each f (by simp)
       have p2:=run_checkKinds em d D (by omega) f.type ks1 k1 ys1 k2
       simp only [List.forIn_cons,Sem.run_bind,hn,ne_eq,not_false_eq_true,if_true,Result.andThen_ok,k3,p2,Sem.run_pure]
       exact ih (fun y hy => each y (by simp [hy]))
    ·cases hk
end
/-! ### Keys' values -/
section
variable {ρ : Keys}
theorem ofAt_val {N : Nat} {c : CK} {x : At} {v : c.ty} {y : Value} (h : c.ofAt x = some v) (hy : x.ok N ρ y) : y = c.val v:=by
 have key : ∀ u,c.of u = some v → u = c.val v:=by
  intro u hu
  cases c with
  | int k =>
    cases u <;> simp only [CK.of] at hu <;> try (cases hu;done)
    split at hu
    ·rename_i hk;obtain rfl:=sameKind_eq hk;obtain rfl:=Option.some.inj hu;rfl
    ·cases hu
  | bool => cases u <;> simp only [CK.of] at hu <;> try (cases hu;done)
            obtain rfl:=Option.some.inj hu;rfl
  | str => cases u <;> simp only [CK.of] at hu <;> try (cases hu;done)
           obtain rfl:=Option.some.inj hu;rfl
  | sl => cases u <;> cases hu
 cases x <;> simp only [CK.ofAt] at h <;> try (cases h;done)
 ·obtain ⟨rfl,_⟩:=hy;exact key _ h
 ·obtain rfl : y = .bool true:=hy;exact key _ h
 ·obtain rfl : y = .bool false:=hy;exact key _ h
theorem ofCells_vals {N : Nat} : ∀ {kk : List CK} {l : List At} {k : Tup kk} {ys : List Value},ofCells kk l = some k → okL (At.ok N ρ) l ys → ys = Tup.vals kk k:=by
 intro kk
 induction kk with
 | nil =>
   intro l k ys h hl
   cases l with
   | nil => cases ys with | nil => rfl | cons => exact hl.elim
   | cons => cases h
 | cons c cs ih =>
   intro l k ys h hl
   cases cs with
   | nil =>
     match l,h,ys,hl with
     | [x],h,[y],hl =>
       have h : c.ofAt x = some k:=h
       show [y] = [c.val k]
       rw [ofAt_val h hl.1]
     | x :: _ :: _,h,_,_ => cases h
   | cons c' cs =>
     cases l with
     | nil => cases h
     | cons x xs =>
       cases ys with
       | nil => exact hl.elim
       | cons y ys =>
         have h : (match c.ofAt x,ofCells (c' :: cs) xs with | some y,some z => some ((y,z) : c.ty × Tup (c' :: cs)) | _,_ => none) = some k:=h
         split at h
         ·rename_i u v h1 h2
          obtain rfl:=Option.some.inj h
          show y :: ys = c.val u :: Tup.vals (c' :: cs) v
          rw [ofAt_val h1 hl.1,ih h2 hl.2]
         ·cases h
end
theorem vals_spec : ∀ {kk : List CK} {ns : List Nat},kkOk kk ns = true → ∀ x y : Tup kk,vsKind ns (Tup.vals kk x) ∧ vsEq (Tup.vals kk x) (Tup.vals kk y) = some (Tup.beq kk x y) ∧ (Tup.beq kk x y = true → x = y):=by
 have one : ∀ {c : CK} {n : Nat},kkOk [c] [n] = true → ∀ x y : c.ty,vKind (c.val x) = some n ∧ vEq (c.val x) (c.val y) = some (c.beq x y) ∧ (c.beq x y = true → x = y):=by
  intro c n h x y
  cases c with
  | int k =>
    obtain rfl : n = 0:=by
     match n,h with
     | 0,_ => rfl
    exact ⟨rfl,by simp [CK.val,vEq,CK.beq],fun hh => eq_of_beq (α:=Int) hh⟩
  | bool =>
    obtain rfl : n = 1:=by
     match n,h with
     | 1,_ => rfl
    exact ⟨rfl,by simp [CK.val,vEq,CK.beq],fun hh => eq_of_beq (α:=Bool) hh⟩
  | str =>
    obtain rfl : n = 2:=by
     match n,h with
     | 2,_ => rfl
    refine ⟨rfl,by simp [CK.val,vEq,CK.beq],fun hh => ?_⟩
    have e : ∀ a b : ByteArray,a.toList = b.toList → a = b:=by
     intro a b h
     rw [ByteArray.toList_eq,ByteArray.toList_eq] at h
     cases a;cases b
     congr 1
     exact Array.ext' h
    exact e x y (eq_of_beq hh)
  | sl => cases h
 intro kk
 induction kk with
 | nil =>
   intro ns h x y
   cases ns with
   | nil => exact ⟨trivial,rfl,fun _ => rfl⟩
   | cons => cases h
 | cons c cs ih =>
   intro ns h x y
   cases ns with
   | nil => cases c <;> cases h
   | cons n ns =>
     have h1 : kkOk [c] [n] = true ∧ kkOk cs ns = true:=by
      cases c <;> (first | (cases h;done) | skip)
      all_goals
       match n,h with
       | 0,h => first | exact ⟨rfl,h⟩ | cases h
       | 1,h => first | exact ⟨rfl,h⟩ | cases h
       | 2,h => first | exact ⟨rfl,h⟩ | cases h
       | n + 3,h => cases h
     cases cs with
     | nil =>
       cases ns with
       | cons => cases h1.2
       | nil =>
         obtain ⟨a1,a2,a3⟩:=one h1.1 x y
         refine ⟨⟨a1,trivial⟩,?_,a3⟩
         show vsEq [c.val x] [c.val y] = _
         simp only [vsEq,a2,Bool.and_true];rfl
     | cons c' cs =>
       obtain ⟨a1,a2,a3⟩:=one h1.1 x.1 y.1
       obtain ⟨b1,b2,b3⟩:=ih h1.2 x.2 y.2
       refine ⟨⟨a1,b1⟩,?_,fun hh => ?_⟩
       ·show vsEq (c.val x.1 :: Tup.vals (c' :: cs) x.2) (c.val y.1 :: Tup.vals (c' :: cs) y.2) = _
        simp only [vsEq,a2,b2];rfl
       ·have hh : (c.beq x.1 y.1 && Tup.beq (c' :: cs) x.2 y.2) = true:=hh
        rw [Bool.and_eq_true] at hh
        exact Prod.ext (a3 hh.1) (b3 hh.2)
section
variable {α : Type} {kk : List CK} {k : Tup kk}
theorem kix_cons (p : Tup kk × α) (es : List (Tup kk × α)) : kix kk k (p :: es) = match Tup.beq kk k p.1 with | true => 0 | false => kix kk k es + 1:=rfl
theorem kix_le (es : List (Tup kk × α)) : kix kk k es ≤ es.length:=by
 induction es with
 | nil => exact Nat.le_refl _
 | cons p es ih =>
   rw [kix_cons]
   split
   ·exact Nat.zero_le _
   ·simp;exact ih
theorem kix_hit : ∀ (es : List (Tup kk × α)) (p : Tup kk × α),es[kix kk k es]? = some p → Tup.beq kk k p.1 = true
 | [],p,h => by simp at h
 | q :: es,p,h => by
   rw [kix_cons] at h
   split at h
   ·rename_i hq;simp at h;subst h;exact hq
   ·exact kix_hit es p (by simpa using h)
theorem kput_get (v : α) : ∀ (es : List (Tup kk × α)) (j : Nat),(kput kk k v es)[j]? = if j = kix kk k es then some ((match es[j]? with | some p => p.1 | none => k),v) else es[j]?
 | [],j => by
   cases j with
   | zero => rfl
   | succ j => simp [kput,kix,keyIx]
 | p :: es,j => by
   rw [kix_cons]
   unfold kput
   cases hb : Tup.beq kk k p.1 with
   | true =>
     cases j with
     | zero => rfl
     | succ j => simp
   | false =>
     cases j with
     | zero => simp
     | succ j =>
       have:=kput_get v es j
       simp only [List.getElem?_cons_succ,this,Nat.add_right_cancel_iff]
theorem kput_length (v : α) (es : List (Tup kk × α)) : (kput kk k v es).length = if kix kk k es < es.length then es.length else es.length + 1:=by
 induction es with
 | nil => rfl
 | cons p es ih =>
   rw [kix_cons]
   unfold kput
   cases hb : Tup.beq kk k p.1 with
   | true => simp
   | false =>
     simp only [List.length_cons,ih,Nat.add_lt_add_iff_right]
     split <;> rfl
end
section
variable {P : Program} {w : World}
structure KeyOk (P : Program) (kt : TypeId) (kk : List CK) (ns : List Nat) : Prop where
 kk : kkOk kk ns = true
 eq : eqKinds P 8 kt = some ns
 lf : leafKind P kt = none
theorem keyTy_struct {kt : TypeId} {kk : List CK} {ns : List Nat} (h : KeyOk P kt kk ns) : ∃ fs,P.underlying kt = some (.struct fs):=by
 have:=h.eq
 unfold eqKinds at this
 rw [h.lf] at this
 simp only at this
 split at this
 ·exact ⟨_,‹_›⟩
 ·cases this
theorem run_findAsking_vals {α : Type} {kt : TypeId} {kk : List CK} {ns : List Nat} (h : KeyOk P kt kk ns) (k : Tup kk) : ∀ (es : List (Tup kk × α)) (ents : List MapEntry) (i : Nat),okL (fun p (e : MapEntry) => e.key = .agg (Tup.vals kk p.1).toArray) es ents →
  (Instr.findAsking kt (.agg (Tup.vals kk k).toArray) ents i).run P w = .ok (match ents[kix kk k es]? with | some e => some (i + kix kk k es,e.val) | none => none) w
 | [],[],_,_ => rfl
 | p :: es,e :: ents,i,hl => by
   obtain ⟨h1,h2⟩:=hl
   obtain ⟨v1,v2,_⟩:=vals_spec h.kk k p.1
   have heq:=eqKinds_sound 8 10000 (by decide) kt ns h.eq _ _ _ v1 v2 w
   simp only [valOf,h.lf] at heq
   have ih:=run_findAsking_vals h k es ents (i + 1) h2
   rw [kix_cons]
   simp only [Instr.findAsking,Sem.run_bind,h1,Op.equal,Op.maxDepth,heq,Result.andThen_ok]
   split
   ·rename_i hb
    simp [hb]
   ·rename_i hb
    simp only [hb,Bool.false_eq_true,if_false,List.getElem?_cons_succ]
    rw [ih]
    cases ents[kix kk k es]? with
    | none => rfl
    | some e => simp only;rw [Nat.add_assoc,Nat.add_comm 1]
theorem run_findKey_vals {α : Type} {kt : TypeId} {kk : List CK} {ns : List Nat} (h : KeyOk P kt kk ns) (k : Tup kk) (es : List (Tup kk × α)) (ents : List MapEntry) (hl : okL (fun p (e : MapEntry) => e.key = .agg (Tup.vals kk p.1).toArray) es ents) :
  (Instr.findKey kt (.agg (Tup.vals kk k).toArray) ents).run P w = .ok (match ents[kix kk k es]? with | some e => some (kix kk k es,e.val) | none => none) w:=by
 obtain ⟨fs,hu⟩:=keyTy_struct h
 have h1:=run_findAsking_vals (w:=w) h k es ents 0 hl
 have : (Instr.findKey kt (.agg (Tup.vals kk k).toArray) ents).run P w = (Instr.findAsking kt (.agg (Tup.vals kk k).toArray) ents).run P w:=by
  cases ents with
  | nil => simp [Instr.findKey,run_underlying hu,Instr.findNow,Instr.findAsking]
  | cons e es => simp [Instr.findKey,run_underlying hu,Instr.findNow,Instr.sameNow]
 rw [this,h1]
 simp
theorem mapsAt_keys {b : Nat} {η : Path → RI} {kk tg : List CK} {es : List (Tup kk × List (Tup tg))} (h : MapsAt w b η kk tg es) : ∃ ents : Array MapEntry,w.heap[b]? = some (.map ents ents.size) ∧ ents.size = es.length ∧ ents.toList.map (·.born) = List.range ents.size ∧
  okL (fun p (e : MapEntry) => e.key = .agg (Tup.vals kk p.1).toArray) es ents.toList ∧ ∀ (j : Nat) (x : MapEntry),ents[j]? = some x → (η [(j,0)]).head 0 (es.getD j (Tup.d kk,[])).2.length x.val:=by
 obtain ⟨ents,h1,h2,h3,h4⟩:=h
 refine ⟨ents,h1,h2,h3,?_,fun j x hx => (h4 j x hx).2⟩
 have gen : ∀ (es : List (Tup kk × List (Tup tg))) (l : List MapEntry),l.length = es.length → (∀ (j : Nat) (x : MapEntry),l[j]? = some x → x.key = .agg (Tup.vals kk (es.getD j (Tup.d kk,[])).1).toArray) → okL (fun p (e : MapEntry) => e.key = .agg (Tup.vals kk p.1).toArray) es l:=by
  intro es
  induction es with
  | nil => intro l hl _;cases l with | nil => trivial | cons => simp at hl
  | cons p es ih =>
    intro l hl hk
    cases l with
    | nil => simp at hl
    | cons e l =>
      refine ⟨by simpa using hk 0 e rfl,ih l (by simpa using hl) fun j x hx => ?_⟩
      have:=hk (j + 1) x (by simpa using hx)
      simpa [List.getD] using this
 exact gen es ents.toList (by simpa using h2) (fun j x hx => (h4 j x (by simpa using hx)).1)
theorem run_lookup_maps {t kt et : TypeId} {kk tg : List CK} {ns : List Nat} (hu : P.underlying t = some (.map kt et)) (hk : KeyOk P kt kk ns) (hz : ∃ i,P.info? et = some i ∧ i.zero = some (.slice none 0 0)) {b : Nat} {η : Path → RI} {es : List (Tup kk × List (Tup tg))}
  (h : MapsAt w b η kk tg es) (k : Tup kk) (ok : Bool) :
  ∃ v,(∀ w' : World,w'.heap[b]? = w.heap[b]? → (Instr.lookup t (.map (some b)) (.agg (Tup.vals kk k).toArray) ok).run P w' = .ok (if ok then .tuple #[v,.bool (decide (kix kk k es < es.length))] else v) w') ∧
   (kix kk k es < es.length → (η [(kix kk k es,0)]).head 0 (es.getD (kix kk k es) (Tup.d kk,[])).2.length v) ∧ (kix kk k es = es.length → v = .slice none 0 0):=by
 obtain ⟨ents,h1,h2,_,h4,h5⟩:=mapsAt_keys h
 obtain ⟨i,hi,hiz⟩:=hz
 have hz' : ∀ w' : World,(zeroValue et).run P w' = .ok (.slice none 0 0) w':=fun w' => by simp [zeroValue,typeInfo,hi,hiz]
 have hf:=fun w' : World => run_findKey_vals (w:=w') hk k es ents.toList h4
 have hc : ∀ (w' : World) em,(Instr.checkKey em 10000 kt (.agg (Tup.vals kk k).toArray)).run P w' = .ok () w':=fun w' em => by
  have:=run_checkKinds (P:=P) (w:=w') em 8 10000 (by decide) kt ns hk.eq _ (vals_spec hk.kk k k).1
  simpa only [valOf,hk.lf] using this
 unfold Instr.lookup
 cases he : ents.toList[kix kk k es]? with
 | none =>
   have hl : es.length ≤ kix kk k es:=by
    have:=List.getElem?_eq_none_iff.1 he
    simpa [h2] using this
   refine ⟨.slice none 0 0,fun w' hw' => ?_,fun hh => by omega,fun _ => rfl⟩
   simp only [Sem.run_bind,run_underlying hu,Result.andThen_ok,Go.MapKept.run_getObj_map (hw'.trans h1),Sem.run_pure,hc,hf,he,hz',show decide (kix kk k es < es.length) = false from decide_eq_false (by omega)]
 | some e =>
   have hl : kix kk k es < es.length:=by
    have:=(List.getElem?_eq_some_iff.1 he).1
    simpa [h2] using this
   refine ⟨e.val,fun w' hw' => ?_,fun _ => h5 _ e (by simpa using he),fun hh => by omega⟩
   simp only [Sem.run_bind,run_underlying hu,Result.andThen_ok,Go.MapKept.run_getObj_map (hw'.trans h1),Sem.run_pure,hc,hf,he,show decide (kix kk k es < es.length) = true from decide_eq_true hl]
theorem sameBits_int {n : Nat} (k : IntKind) (x : Int) : Instr.sameBits n (.int k x) (.int k x) = true:=by cases n <;> simp [Instr.sameBits]
theorem sameBits_bool {n : Nat} (x : Bool) : Instr.sameBits n (.bool x) (.bool x) = true:=by cases n <;> simp [Instr.sameBits]
theorem sameBits_str {n : Nat} (x : ByteArray) : Instr.sameBits n (.string x) (.string x) = true:=by
 have : (x == x) = true:=(bytes_beq _ _).2 rfl
 cases n <;> simpa [Instr.sameBits] using this
theorem sameBits_vals {n : Nat} : ∀ {kk : List CK} {ns : List Nat},kkOk kk ns = true → ∀ x : Tup kk,((Tup.vals kk x).zip (Tup.vals kk x)).all (fun (a,b) => Instr.sameBits n a b) = true:=by
 have one : ∀ {c : CK} {m : Nat},kkOk [c] [m] = true → ∀ x : c.ty,Instr.sameBits n (c.val x) (c.val x) = true:=by
  intro c m h x
  cases c with
  | sl => cases h
  | int k => exact sameBits_int (n:=n) k x
  | bool => exact sameBits_bool (n:=n) x
  | str => exact sameBits_str (n:=n) x
 intro kk
 induction kk with
 | nil => intro ns _ x;rfl
 | cons c cs ih =>
   intro ns h x
   cases ns with
   | nil => cases c <;> cases h
   | cons m ns =>
     have h1 : kkOk [c] [m] = true ∧ kkOk cs ns = true:=by
      cases c <;> (first | (cases h;done) | skip)
      all_goals
       match m,h with
       | 0,h => first | exact ⟨rfl,h⟩ | cases h
       | 1,h => first | exact ⟨rfl,h⟩ | cases h
       | 2,h => first | exact ⟨rfl,h⟩ | cases h
       | n + 3,h => cases h
     cases cs with
     | nil =>
       show ([(c.val x,c.val x)] : List (Value × Value)).all _ = true
       simp [one h1.1 x]
     | cons c' cs =>
       show ((c.val x.1,c.val x.1) :: (Tup.vals (c' :: cs) x.2).zip (Tup.vals (c' :: cs) x.2)).all _ = true
       rw [List.all_cons]
       have h2:=ih h1.2 x.2
       rw [Bool.and_eq_true]
       exact ⟨one h1.1 x.1,h2⟩
theorem run_put_maps {t kt et : TypeId} {kk tg : List CK} {ns : List Nat} (hu : P.underlying t = some (.map kt et)) (hk : KeyOk P kt kk ns) {b : Nat} {η : Path → RI} {es : List (Tup kk × List (Tup tg))} (h : MapsAt w b η kk tg es) (k : Tup kk) (xs : List (Tup tg)) (v : Value) :
  ∃ ents' : Array MapEntry,(Instr.mapUpdate t (.map (some b)) (.agg (Tup.vals kk k).toArray) v).run P w = .ok () { w with heap:=w.heap.setIfInBounds b (.map ents' ents'.size) } ∧
   ∀ η' : Path → RI,(∀ j,j ≠ kix kk k es → η' [(j,0)] = η [(j,0)]) → (η' [(kix kk k es,0)]).head 0 xs.length v → ∀ w' : World,w'.heap[b]? = some (.map ents' ents'.size) → MapsAt w' b η' kk tg (kput kk k xs es):=by
 obtain ⟨ents,h1,h2,h3,h4⟩:=h
 obtain ⟨ents0,p1,_,_,p4,_⟩:=mapsAt_keys (w:=w) (η:=η) ⟨ents,h1,h2,h3,h4⟩
 obtain rfl : ents0 = ents:=by rw [h1] at p1;injection p1 with p1;injection p1 with p1;exact p1.symm
 have hf:=run_findKey_vals (w:=w) hk k es ents0.toList p4
 have hc : (Instr.checkKey false 10000 kt (.agg (Tup.vals kk k).toArray)).run P w = .ok () w:=by
  have:=run_checkKinds (P:=P) (w:=w) false 8 10000 (by decide) kt ns hk.eq _ (vals_spec hk.kk k k).1
  simpa only [valOf,hk.lf] using this
 have hlk:=kix_le (k:=k) es
 unfold Instr.mapUpdate
 simp only [Sem.run_bind,run_underlying hu,Result.andThen_ok,Go.MapKept.run_getObj_map h1,hc,hf]
 cases he : ents0.toList[kix kk k es]? with
 | none =>
   have hl : kix kk k es = es.length:=by
    have:=List.getElem?_eq_none_iff.1 he
    simp [h2] at this
    omega
   refine ⟨ents0.push { key:=.agg (Tup.vals kk k).toArray,val:=v,born:=ents0.size },?_,?_⟩
   ·simp only [Result.andThen_ok,Go.MapKept.run_setObj_map _ h1,Array.size_push]
   ·intro η' e1 e2 w' hw'
    refine ⟨_,hw',?_,?_,fun j x hx => ?_⟩
    ·rw [kput_length,if_neg (by omega),Array.size_push,h2]
    ·simp [h3,List.range_succ]
    ·rw [List.getD_eq_getElem?_getD,kput_get]
     rw [Array.getElem?_push] at hx
     by_cases hj : j = kix kk k es
     ·rw [if_pos hj]
      rw [if_pos (by omega)] at hx
      obtain rfl:=Option.some.inj hx
      have hn : es[j]? = none:=List.getElem?_eq_none (by omega)
      rw [hn]
      exact ⟨rfl,by rw [hj];exact e2⟩
     ·rw [if_neg hj]
      rw [if_neg (by omega)] at hx
      have:=h4 j x hx
      rw [← List.getD_eq_getElem?_getD,e1 j hj]
      exact this
 | some e =>
   have hl : kix kk k es < es.length:=by
    have:=(List.getElem?_eq_some_iff.1 he).1
    simpa [h2] using this
   have hes : es[kix kk k es]? = some es[kix kk k es]:=List.getElem?_eq_getElem hl
   have hkey : es[kix kk k es].1 = k:=((vals_spec hk.kk _ _).2.2 (kix_hit es _ hes)).symm
   have hek : e.key = .agg (Tup.vals kk k).toArray:=by
    have:=(h4 _ e (by simpa using he)).1
    rw [List.getD_eq_getElem?_getD,hes] at this
    simp only [Option.getD_some,hkey] at this
    exact this
   refine ⟨ents0.modify (kix kk k es) fun e => { e with key:=.agg (Tup.vals kk k).toArray,val:=v },?_,?_⟩
   ·have hks : (Instr.keyThatStays (.agg (Tup.vals kk k).toArray) (.agg (Tup.vals kk k).toArray)).run P w = .ok (.agg (Tup.vals kk k).toArray) w:=by
     have : Instr.sameBits 10000 (.agg (Tup.vals kk k).toArray) (.agg (Tup.vals kk k).toArray) = true:=by
      have:=sameBits_vals (n:=9999) hk.kk k
      simp only [Instr.sameBits,beq_self_eq_true,Bool.true_and]
      exact this
     simp [Instr.keyThatStays,this]
    simp only [Result.andThen_ok,Sem.run_bind]
    have : ((ents0[kix kk k es]?).map (·.key)).getD (.agg (Tup.vals kk k).toArray) = .agg (Tup.vals kk k).toArray:=by
     rw [show ents0[kix kk k es]? = some e by simpa using he];simp [hek]
    rw [this,hks]
    simp only [Result.andThen_ok,Go.MapKept.run_setObj_map _ h1,Array.size_modify]
   ·intro η' e1 e2 w' hw'
    refine ⟨_,hw',?_,?_,fun j x hx => ?_⟩
    ·rw [kput_length,if_pos hl,Array.size_modify,h2]
    ·rw [Array.size_modify,← h3]
     apply List.ext_getElem?
     intro i
     simp only [List.getElem?_map,Array.getElem?_toList,Array.getElem?_modify]
     by_cases hi : kix kk k es = i
     ·subst hi;cases ents0[kix kk k es]? <;> simp
     ·simp [hi]
    ·rw [List.getD_eq_getElem?_getD,kput_get]
     rw [Array.getElem?_modify] at hx
     by_cases hj : j = kix kk k es
     ·subst hj
      rw [if_pos rfl] at hx ⊢
      rw [show ents0[kix kk k es]? = some e by simpa using he] at hx
      obtain rfl:=Option.some.inj hx
      rw [hes]
      simp only [Option.getD_some,hkey]
      exact ⟨trivial,e2⟩
     ·rw [if_neg hj]
      rw [if_neg (fun e => hj e.symm)] at hx
      have:=h4 j x hx
      rw [← List.getD_eq_getElem?_getD,e1 j hj]
      exact this
theorem pls_ok {N : Nat} {ρ : Keys} : ∀ (kk : List CK) (x : Tup kk),okL (At.ok N ρ) (Tup.pls kk x) (Tup.vals kk x)
 | [],_ => trivial
 | [_],_ => ⟨pl_ok,trivial⟩
 | _ :: c' :: cs,x => ⟨pl_ok,pls_ok (c' :: cs) x.2⟩
theorem run_next_mapsAt {r bm : Nat} {η : Path → RI} {kk tg : List CK} {es : List (Tup kk × List (Tup tg))} {n : Nat} {seen : List Nat} {ty : TypeId} (hm : MapsAt w bm η kk tg es) (hr : w.heap[r]? = some (.mapIter (some bm) n seen.reverse.toArray n)) (hn : es.length = n) :
  ((∀ j,j < n → j ∈ seen) ∧ (Instr.next (.pointer (some ⟨r,0,none⟩)) false ty).run P w = .ok (.tuple #[.bool false]) w) ∨
  ∃ j,j < n ∧ j ∉ seen ∧ ∃ v,∃ w1 : World,(w1 = w ∨ w1 = w.drew) ∧ (Instr.next (.pointer (some ⟨r,0,none⟩)) false ty).run P w =
   .ok (.tuple #[.bool true,.agg (Tup.vals kk (es.getD j (Tup.d kk,[])).1).toArray,v]) (Go.ChangeMaps.setBlock w1 r (.mapIter (some bm) n (j :: seen).reverse.toArray n)):=by
 obtain ⟨ents,h1,h2,h3,h4⟩:=hm
 have born : ∀ j (hj : j < ents.size),ents[j].born = j:=fun j hj => by
  have e1 : (ents.toList.map (·.born))[j]? = some ents[j].born:=by simp [hj]
  rw [h3,List.getElem?_range hj] at e1
  exact (Option.some.inj e1).symm
 have hold : ∀ x ∈ ents.toList,x.born < n:=fun x hx => by
  obtain ⟨j,hj,rfl⟩:=mem_ents hx
  rw [born j hj];omega
 rcases run_next_at (P:=P) w ty r bm n n seen.reverse.toArray ents ents.size hr h1 hold (Nat.le_refl _) with ⟨hz,hrun⟩ | ⟨e,he,w1,hw1,hrun⟩
 ·refine .inl ⟨fun j hj => ?_,hrun⟩
  have hj' : j < ents.size:=by omega
  have hz' : leftOf ents seen.reverse.toArray = #[]:=Array.eq_empty_of_size_eq_zero hz
  unfold leftOf at hz'
  rw [Array.filter_eq_empty_iff] at hz'
  have:=hz' ents[j] (by simp)
  rw [born j hj'] at this
  simpa using this
 ·unfold leftOf at he
  simp only [Array.toList_filter,List.mem_filter] at he
  obtain ⟨he1,he2⟩:=he
  obtain ⟨j,hj,rfl⟩:=mem_ents he1
  have b1:=born j hj
  have b2:=(h4 j ents[j] (by simp [hj])).1
  rw [b1] at he2 hrun
  rw [b2] at hrun
  refine .inr ⟨j,by omega,by simpa using he2,ents[j].val,w1,hw1,?_⟩
  rw [hrun,h2,hn]
  simp
theorem run_entry_mapsAt {r bm : Nat} {η : Path → RI} {kk tg : List CK} {es : List (Tup kk × List (Tup tg))} {n j : Nat} {seen : List Nat} (hm : MapsAt w bm η kk tg es) (hr : w.heap[r]? = some (.mapIter (some bm) n (j :: seen).reverse.toArray n)) (hn : es.length = n) (hj : j < n) :
  ∃ v,(Instr.entry (.pointer (some ⟨r,0,none⟩))).run P w = .ok (.tuple #[.agg (Tup.vals kk (es.getD j (Tup.d kk,[])).1).toArray,v]) w:=by
 obtain ⟨ents,h1,h2,h3,h4⟩:=hm
 have born : ∀ j (hj : j < ents.size),ents[j].born = j:=fun j hj => by
  have e1 : (ents.toList.map (·.born))[j]? = some ents[j].born:=by simp [hj]
  rw [h3,List.getElem?_range hj] at e1
  exact (Option.some.inj e1).symm
 have hj' : j < ents.size:=by omega
 have b1:=born j hj'
 have b2:=(h4 j ents[j] (by simp [hj'])).1
 have:=run_entry_at (P:=P) w r bm n seen.reverse.toArray ents ents.size ents[j] (by rw [hr,b1,h2,hn];simp) h1 (by simp) (by rw [h3];exact List.nodup_range)
 rw [b2] at this
 exact ⟨_,this⟩
end
end Go.Sy
end
section
namespace Go.Sy
open Go Go.RowKit
universe u
section
variable {P : Program} {Γ : Glob} {E : Env} {M : Nat → Prop} {w0 : World} {ρ : Keys} {st : St} {vs : Fv} {a : Act} {w : World}
theorem allL_forall {α : Type u} {f : α → Bool} : ∀ {l : List α},allL f l = true → ∀ x ∈ l,f x = true
 | x :: l,h,y,hy => by
   simp only [allL] at h
   split at h
   ·rename_i hx
    rcases List.mem_cons.1 hy with rfl | hy
    ·exact hx
    ·exact allL_forall h y hy
   ·cases h
theorem At.one_cell {N : Nat} {x : At} {y : Value} (h : x.ok N ρ y) (h1 : x.one = true) : y.oneCell' = true:=by
 cases x <;> first | (simp [At.one] at h1;done) | skip
 case v x => obtain ⟨rfl,h⟩:=h;exact h
 case tt => obtain rfl : y = .bool true:=h;rfl
 case ff => obtain rfl : y = .bool false:=h;rfl
 case p r π i j => obtain ⟨_,rfl⟩:=h;rfl
 case sl r π lo n =>
  obtain ⟨_,h1,h2⟩:=h
  cases hv : (ρ r π).void with
  | true => obtain ⟨_,a,rfl⟩:=h1 hv;rfl
  | false => obtain ⟨_,a,rfl,_⟩:=h2 hv;rfl
 case z => obtain ⟨a,rfl⟩:=h;rfl
 case fn f caps => obtain ⟨_,rfl⟩:=h;rfl
 case mp r => obtain ⟨_,rfl⟩:=h;rfl
 case it r => obtain ⟨_,rfl⟩:=h;rfl
 case yl r => obtain ⟨_,rfl⟩:=h;rfl
 case err => obtain ⟨t,v,rfl⟩:=h;rfl
theorem oneCell_cells {y : Value} (h : y.oneCell' = true) : y.cells = #[y]:=by
 cases y <;> first | rfl | simp [Value.oneCell'] at h
theorem ones_of {N : Nat} : ∀ {l : List At} {ys : List Value},okL (At.ok N ρ) l ys → allL At.one l = true → ∀ y ∈ ys,y.oneCell' = true
 | [],[],_,_ => by simp
 | x :: l,y :: ys,h,h1 => by
   simp only [allL] at h1
   split at h1
   ·rename_i hx
    intro z hz
    rcases List.mem_cons.1 hz with rfl | hz
    ·exact At.one_cell h.1 hx
    ·exact ones_of h.2 h1 z hz
   ·cases h1
theorem tmCells_sound {N : Nat} {x : Tm} {l : List At} {y : Value} (hx : x.ok N ρ y) (he : tmCells x = some l) : okL (At.ok N ρ) l y.cells.toList ∧ allL At.one l = true ∧ ∀ z ∈ y.cells.toList,z.oneCell' = true:=by
 unfold tmCells at he
 split at he
 ·rename_i x
  split at he
  ·rename_i h1
   simp only [Option.some.injEq] at he
   subst he
   have h2:=At.one_cell hx h1
   rw [oneCell_cells h2]
   exact ⟨⟨hx,trivial⟩,by simp [allL,h1],by simp [h2]⟩
  ·cases he
 ·split at he
  ·rename_i l' h1
   simp only [Option.some.injEq] at he
   subst he
   obtain ⟨ys,rfl,h2⟩:=hx
   exact ⟨by simpa [Value.cells] using h2,h1,by simpa [Value.cells] using ones_of h2 h1⟩
  ·cases he
 ·cases he
theorem okL_fill {N : Nat} : ∀ {l : List At} {ys : List Value} {cells : List At} {zs : List Value} (off : Nat),okL (At.ok N ρ) l ys → okL (At.ok N ρ) cells zs →
  okL (At.ok N ρ) (fillL cells off l) ((ys.zipIdx.foldl (fun cs cj => cs.set (off + cj.2) cj.1) zs)):=by
 intro l
 have gen : ∀ (l : List At) (ys : List Value) (cells : List At) (zs : List Value) (off k : Nat),okL (At.ok N ρ) l ys → okL (At.ok N ρ) cells zs →
   okL (At.ok N ρ) (fillL cells (off + k) l) ((ys.zipIdx k).foldl (fun cs cj => cs.set (off + cj.2) cj.1) zs):=by
  intro l
  induction l with
  | nil => intro ys cells zs off k h h';cases ys with | nil => exact h' | cons => exact h.elim
  | cons x l ih =>
    intro ys cells zs off k h h'
    cases ys with
    | nil => exact h.elim
    | cons y ys =>
      simp only [fillL,List.zipIdx_cons,List.foldl_cons]
      have:=ih ys (cells.set (off + k) x) (zs.set (off + k) y) off (k + 1) h.2 (h'.set _ _ _ h.1)
      rw [show off + (k + 1) = off + k + 1 by omega] at this
      exact this
 intro ys cells zs off h h'
 exact gen l ys cells zs off 0 h h'
theorem EnvOk.tySt (hE : EnvOk P Γ E) {t : TypeId} {fs : List (Nat × Nat)} {n : Nat} (h : E.ty t = .st fs n) : TyOk P t (.st fs n):=h ▸ hE.ty t
theorem EnvOk.tySl (hE : EnvOk P Γ E) {t e : TypeId} {n : Nat} (h : E.ty t = .sl e n) : TyOk P t (.sl e n):=h ▸ hE.ty t
theorem EnvOk.tyAr (hE : EnvOk P Γ E) {t e : TypeId} {m n : Nat} (h : E.ty t = .ar e m n) : TyOk P t (.ar e m n):=h ▸ hE.ty t
theorem EnvOk.tyStr (hE : EnvOk P Γ E) {t : TypeId} (h : E.ty t = .str) : TyOk P t .str:=h ▸ hE.ty t
theorem evParts_sound (h : Rel Γ M w0 ρ st vs a w) {fs : List (Nat × Nat)} : ∀ (parts : List (Nat × Operand)) (cells l : List At) (zs : List Value),evParts fs st parts cells = some l → okL (At.ok st.rg.length ρ) cells zs →
  ∃ ys : List Value,Instr.fill (fs.toArray[·]?) zs.toArray (parts.map fun p => (p.1,a.eval p.2)) = some ys.toArray ∧ okL (At.ok st.rg.length ρ) l ys
 | [],cells,l,zs,he,hz => by simp only [evParts,Option.some.injEq] at he;subst he;exact ⟨zs,rfl,hz⟩
 | (i,o) :: rest,cells,l,zs,he,hz => by
   simp only [evParts] at he
   split at he
   ·rename_i off size x hf hx
    split at he
    ·rename_i lc hc
     split at he
     ·rename_i h1 h2
      have hv:=ev_sound h hx
      obtain ⟨c1,c2,c3⟩:=tmCells_sound hv hc
      have hlen : (a.eval o).cells.size = size:=by
       have:=c1.length
       rw [lenIs_length h1] at this
       simpa using this.symm
      have hfit : off + size ≤ zs.length:=by
       have:=Nat.le_of_ble_eq_true h2
       rw [hz.length] at this
       exact this
      have hfill:=okL_fill (ρ:=ρ) off c1 hz
      obtain ⟨ys,h3,h4⟩:=evParts_sound h rest _ l _ he hfill
      refine ⟨ys,?_,h4⟩
      simp only [List.map_cons,Instr.fill]
      have e1 : (fs.toArray[i]? : Option (Nat × Nat)) = some (off,size):=by simpa using hf
      rw [e1]
      simp only []
      rw [if_neg (by rw [hlen];simp;omega)]
      rw [← h3]
      congr 1
      have gen : ∀ (cs : List (Value × Nat)) (zs : List Value),cs.foldl (fun (cs : Array Value) (x : Value × Nat) => cs.setIfInBounds (off + x.2) x.1) zs.toArray =
        (cs.foldl (fun cs cj => cs.set (off + cj.2) cj.1) zs).toArray:=by
       intro cs
       induction cs with
       | nil => intro zs;rfl
       | cons c cs ih => intro zs;simp only [List.foldl_cons,List.setIfInBounds_toArray];exact ih _
      have e2 : (a.eval o).cells.zipIdx = ((a.eval o).cells.toList.zipIdx).toArray:=by
       rw [← Array.toList_zipIdx]
      rw [e2]
      simp only [List.foldl_toArray']
      exact gen _ zs
     ·cases he
    ·cases he
   ·cases he
theorem evPartsA_sound (h : Rel Γ M w0 ρ st vs a w) {m : Nat} : ∀ (parts : List (Nat × Operand)) (cells l : List At) (zs : List Value),evPartsA m st parts cells = some l → okL (At.ok st.rg.length ρ) cells zs →
  ∃ ys : List Value,Instr.fill (fun i => some (i * m,m)) zs.toArray (parts.map fun p => (p.1,a.eval p.2)) = some ys.toArray ∧ okL (At.ok st.rg.length ρ) l ys
 | [],cells,l,zs,he,hz => by simp only [evPartsA,Option.some.injEq] at he;subst he;exact ⟨zs,rfl,hz⟩
 | (i,o) :: rest,cells,l,zs,he,hz => by
   simp only [evPartsA] at he
   split at he
   ·rename_i x hx
    split at he
    ·rename_i lc hc
     split at he
     ·rename_i h1 h2
      have hv:=ev_sound h hx
      obtain ⟨c1,c2,c3⟩:=tmCells_sound hv hc
      have hlen : (a.eval o).cells.size = m:=by
       have:=c1.length
       rw [lenIs_length h1] at this
       simpa using this.symm
      have hfit : i * m + m ≤ zs.length:=by
       have:=Nat.le_of_ble_eq_true h2
       rw [hz.length] at this
       exact this
      have hfill:=okL_fill (ρ:=ρ) (i * m) c1 hz
      obtain ⟨ys,h3,h4⟩:=evPartsA_sound h rest _ l _ he hfill
      refine ⟨ys,?_,h4⟩
      simp only [List.map_cons,Instr.fill]
      rw [if_neg (by rw [hlen];simp;omega)]
      rw [← h3]
      congr 1
      have gen : ∀ (cs : List (Value × Nat)) (zs : List Value),cs.foldl (fun (cs : Array Value) (x : Value × Nat) => cs.setIfInBounds (i * m + x.2) x.1) zs.toArray =
        (cs.foldl (fun cs cj => cs.set (i * m + cj.2) cj.1) zs).toArray:=by
       intro cs
       induction cs with
       | nil => intro zs;rfl
       | cons c cs ih => intro zs;simp only [List.foldl_cons,List.setIfInBounds_toArray];exact ih _
      have e2 : (a.eval o).cells.zipIdx = ((a.eval o).cells.toList.zipIdx).toArray:=by
       rw [← Array.toList_zipIdx]
      rw [e2]
      simp only [List.foldl_toArray']
      exact gen _ zs
     ·cases he
    ·cases he
   ·cases he
theorem run_build_ar {t e : TypeId} {m n : Nat} (hu : P.underlying t = some (.array n e)) (hs : (P.info? e).map (·.size) = some m) {i : TypeInfo} {z : Value} (hi : P.info? t = some i) (hz : i.zero = some z)
  (parts : Array (Nat × Value)) (ys : List Value) (hf : Instr.fill (fun i => some (i * m,m)) z.cells parts.toList = some ys.toArray) : (Instr.build t parts).run P w = .ok (.agg ys.toArray) w:=by
 apply run_build
 obtain ⟨ie,hie,rfl⟩:=Option.map_eq_some_iff.1 hs
 simp only [Program.built,hi,hu,hz,hie]
 exact hf
theorem okL_dropU {α β : Type} {R : α → β → Prop} : ∀ {xs : List α} {ys : List β},okL R xs ys → ∀ k,okL R (xs.drop k) (ys.drop k)
 | _,_,h,0 => h
 | [],[],_,_ + 1 => trivial
 | _ :: _,_ :: _,h,k + 1 => okL_dropU (xs:=_) (ys:=_) h.2 k
theorem okL_takeU {α β : Type} {R : α → β → Prop} : ∀ {xs : List α} {ys : List β},okL R xs ys → ∀ k,okL R (xs.take k) (ys.take k)
 | _,_,_,0 => trivial
 | [],[],_,_ + 1 => trivial
 | _ :: _,_ :: _,h,k + 1 => ⟨h.1,okL_takeU h.2 k⟩
theorem run_build_st {t : TypeId} {fields : Array Field} {fs : List (Nat × Nat)} (hu : P.underlying t = some (.struct fields))
  (hp : fields.toList.mapM (fun f => (P.info? f.type).map fun i => (f.offset,i.size)) = some fs) {i : TypeInfo} {z : Value} (hi : P.info? t = some i) (hz : i.zero = some z)
  (parts : Array (Nat × Value)) (ys : List Value) (hf : Instr.fill (fs.toArray[·]?) z.cells parts.toList = some ys.toArray) : (Instr.build t parts).run P w = .ok (.agg ys.toArray) w:=by
 apply run_build
 simp only [Program.built,hi,hu,hz,hp]
 exact hf
theorem evBound_sound (h : Rel Γ M w0 ρ st vs a w) {d y : Nat} {b : Option Operand} {q : List Duty} {n : Nat} (code : BoundsCode) (he : evBound st d b = some (q,n)) (hq : obl q) (hy : n ≤ y) :
  ∀ w1,(match b.map a.eval with | some v => Instr.sliceBound v y code | none => pure d).run P w1 = .ok n w1:=by
 intro w1
 cases b with
 | none => simp only [evBound,Option.some.injEq,Prod.mk.injEq] at he;obtain ⟨_,rfl⟩:=he;rfl
 | some o =>
   simp only [evBound] at he
   split at he
   ·rename_i k i hx
    simp only [Option.some.injEq,Prod.mk.injEq] at he
    obtain ⟨rfl,rfl⟩:=he
    obtain ⟨hv,_⟩:=ev_sound h hx
    have h0 : 0 ≤ i:=hq.1
    simp only [Option.map_some,hv]
    exact run_sliceBound (P:=P) w1 k i y code h0 (by omega)
   ·cases he
theorem run_slice_sl {t e : TypeId} {m : Nat} (hu : P.underlying t = some (.slice e)) (hm : (P.info? e).map (·.size) = some m) {ad : Option Addr} {len cap : Nat} {lo hi : Option Value} {i j : Nat}
  (hh : (match hi with | some v => Instr.sliceBound v cap .sliceAcap | none => pure len).run P w = .ok j w) (hl : (match lo with | some v => Instr.sliceBound v j .sliceB | none => pure 0).run P w = .ok i w) :
  (Instr.slice t (.slice ad len cap) lo hi none).run P w = .ok (.slice (if cap = i then ad else ad.map (·.add (i * m))) (j - i) (cap - i)) w:=by
 have hb : (Instr.sliceBounds true len cap lo hi none).run P w = .ok (i,j,cap) w:=by
  cases hi with
  | none =>
    obtain rfl : len = j:=by simpa using hh
    cases lo with
    | none => obtain rfl : 0 = i:=by simpa using hl
              simp [Instr.sliceBounds]
    | some v => simp only [Instr.sliceBounds,Sem.run_bind,Sem.run_pure,Result.andThen_ok,Option.isSome_none,Bool.false_eq_true,if_false]
                rw [show (Instr.sliceBound v len .sliceB).run P w = _ from hl];rfl
  | some v =>
    have hh' : (Instr.sliceBound v cap .sliceAcap).run P w = .ok j w:=hh
    cases lo with
    | none => obtain rfl : 0 = i:=by simpa using hl
              simp [Instr.sliceBounds,hh']
    | some u => have hl' : (Instr.sliceBound u j .sliceB).run P w = .ok i w:=hl
                simp [Instr.sliceBounds,hh',hl']
 simp only [Instr.slice,Sem.run_bind,run_underlying hu,Result.andThen_ok,hb,run_size hm,Sem.run_pure]
theorem run_slice_str {t : TypeId} (hu : P.underlying t = some .string) {s : ByteArray} {lo hi : Option Value} {i j : Nat}
  (hh : (match hi with | some v => Instr.sliceBound v s.size .sliceAlen | none => pure s.size).run P w = .ok j w) (hl : (match lo with | some v => Instr.sliceBound v j .sliceB | none => pure 0).run P w = .ok i w) :
  (Instr.slice t (.string s) lo hi none).run P w = .ok (.string (s.extract i j)) w:=by
 have hb : (Instr.sliceBounds false s.size s.size lo hi none).run P w = .ok (i,j,s.size) w:=by
  cases hi with
  | none =>
    obtain rfl : s.size = j:=by simpa using hh
    cases lo with
    | none => obtain rfl : 0 = i:=by simpa using hl
              simp [Instr.sliceBounds]
    | some v => simp only [Instr.sliceBounds,Sem.run_bind,Sem.run_pure,Result.andThen_ok,Option.isSome_none,Bool.false_eq_true,if_false]
                rw [show (Instr.sliceBound v s.size .sliceB).run P w = _ from hl];rfl
  | some v =>
    have hh' : (Instr.sliceBound v s.size .sliceAlen).run P w = .ok j w:=hh
    cases lo with
    | none => obtain rfl : 0 = i:=by simpa using hl
              simp [Instr.sliceBounds,hh']
    | some u => have hl' : (Instr.sliceBound u j .sliceB).run P w = .ok i w:=hl
                simp [Instr.sliceBounds,hh',hl']
 simp [Instr.slice,run_underlying hu,hb]
theorem RI.at_addr (I : RI) (l i m : Nat) : (I.at (l * m)).add (i * m) = I.at ((l + i) * m):=by
 rw [RI.at_add,Nat.add_mul]
theorem RI.head.sub {I : RI} {l n i j : Nat} {y : Value} (h : I.head l n y) (hij : i ≤ j) (hjn : j ≤ n) {ad : Option Addr} {len cap : Nat} (hy : y = .slice ad len cap) :
  I.head (l + i) (j - i) (.slice (if cap = i then ad else ad.map (·.add (i * I.m))) (j - i) (cap - i)):=by
 refine ⟨fun hv => ?_,fun hv => ?_⟩
 ·obtain ⟨h1,b,h2⟩:=h.1 hv
  rw [hy] at h2
  simp only [Value.slice.injEq] at h2
  obtain ⟨rfl,rfl,rfl⟩:=h2
  have hi : i = 0:=by omega
  have hj : j = 0:=by omega
  subst hi hj
  exact ⟨rfl,_,rfl⟩
 ·obtain ⟨h1,b,h2,h3⟩:=h.2 hv
  rw [hy] at h2
  simp only [Value.slice.injEq] at h2
  obtain ⟨rfl,rfl,rfl⟩:=h2
  refine ⟨by omega,_,by rw [Nat.sub_sub],fun hlt => ?_⟩
  rw [if_neg (by omega),h3 (by omega)]
  simp only [Option.map_some]
  rw [RI.at_addr]
theorem EnvOk.tyMap (hE : EnvOk P Γ E) {t k e : TypeId} (h : E.ty t = .map k e) : TyOk P t (.map k e):=by have:=hE.ty t;rwa [h] at this
theorem run_sliceAt_sl {t e : TypeId} (hu : P.underlying t = some (.slice e)) (x : Value) (lo hi mx : Option Value) : (Instr.sliceAt t x lo hi mx).run P w = (Instr.slice t x lo hi mx).run P w:=by simp [Instr.sliceAt,run_underlying hu]
theorem run_sliceAt_str {t : TypeId} (hu : P.underlying t = some .string) (x : Value) (lo hi mx : Option Value) : (Instr.sliceAt t x lo hi mx).run P w = (Instr.slice t x lo hi mx).run P w:=by simp [Instr.sliceAt,run_underlying hu]
theorem evSlice_sound (hE : EnvOk P Γ E) (h : Rel Γ M w0 ρ st vs a w) {t : TypeId} {x z : Tm} {lo hi : Option Operand} {q : List Duty} {vx : Value} (hx : x.ok st.rg.length ρ vx) (he : evSlice E st t x lo hi = some (q,z)) (hq : obl q) :
  ∃ y,(∀ w1,(Instr.sliceAt t vx (lo.map a.eval) (hi.map a.eval) none).run P w1 = .ok y w1) ∧ z.ok st.rg.length ρ y:=by
 unfold evSlice at he
 split at he
 ·rename_i e m r π l n ht
  obtain ⟨hu,hm,_⟩:=hE.tySl ht
  split at he
  ·rename_i q1 i q2 j h1 h2
   split at he
   ·rename_i te tg xs o inn hg
    split at he
    ·rename_i q3 B hd
     split at he
     ·rename_i hm'
      simp only [Option.some.injEq,Prod.mk.injEq] at he
      obtain ⟨rfl,rfl⟩:=he
      rw [obl_append,obl_append,obl_append] at hq
      simp only [obl,Duty.of_p] at hq
      obtain ⟨hq3,⟨hq1,hq2⟩,hij,hjn,_⟩:=hq
      obtain ⟨hr,hv⟩:=hx
      have hB:=(dn_sound (r:=r) h (by rw [hg];exact hd) hq3).2
      have hmm : (ρ r π).m = m:=hB.m.trans (Nat.eq_of_beq_eq_true hm')
      have hsl : ∃ ad cap,vx = .slice ad n cap ∧ n ≤ cap:=by
       cases hvd : (ρ r π).void with
       | true => obtain ⟨rfl,ad,e1⟩:=hv.1 hvd;exact ⟨ad,0,e1,Nat.le_refl _⟩
       | false => obtain ⟨e0,ad,e1,_⟩:=hv.2 hvd;exact ⟨ad,_,e1,by omega⟩
      obtain ⟨ad,cap,rfl,hnc⟩:=hsl
      refine ⟨_,fun w1 => (run_sliceAt_sl hu _ _ _ _).trans (run_slice_sl hu hm (evBound_sound h .sliceAcap h2 hq2 (by omega) w1) (evBound_sound h .sliceB h1 hq1 hij w1)),hr,?_⟩
      rw [← hmm]
      exact hv.sub hij hjn rfl
     ·cases he
    ·cases he
   ·cases he
  ·cases he
 ·rename_i ht
  obtain ⟨hu,hm,_⟩:=hE.tySl ht
  split at he
  ·rename_i q1 i q2 j h1 h2
   simp only [Option.some.injEq,Prod.mk.injEq] at he
   obtain ⟨rfl,rfl⟩:=he
   rw [obl_append,obl_append] at hq
   simp only [obl,Duty.of_p] at hq
   obtain ⟨⟨hq1,hq2⟩,rfl,rfl,_⟩:=hq
   obtain ⟨rfl,_⟩:=hx
   refine ⟨_,fun w1 => (run_sliceAt_sl hu _ _ _ _).trans (run_slice_sl hu hm (evBound_sound (y:=0) h .sliceAcap h2 hq2 (Nat.le_refl _) w1) (evBound_sound (y:=0) h .sliceB h1 hq1 (Nat.le_refl _) w1)),rfl,rfl⟩
  ·cases he
 ·rename_i ht
  obtain ⟨hu,hm,_⟩:=hE.tySl ht
  split at he
  ·rename_i q1 i q2 j h1 h2
   simp only [Option.some.injEq,Prod.mk.injEq] at he
   obtain ⟨rfl,rfl⟩:=he
   rw [obl_append,obl_append] at hq
   simp only [obl,Duty.of_p] at hq
   obtain ⟨⟨hq1,hq2⟩,rfl,rfl,_⟩:=hq
   obtain ⟨ad,rfl⟩:=hx
   exact ⟨_,fun w1 => (run_sliceAt_sl hu _ _ _ _).trans (run_slice_sl hu hm (evBound_sound (y:=0) h .sliceAcap h2 hq2 (Nat.le_refl _) w1) (evBound_sound (y:=0) h .sliceB h1 hq1 (Nat.le_refl _) w1)),ad,rfl⟩
  ·cases he
 ·rename_i s ht
  obtain ⟨hu,_⟩:=hE.tyStr ht
  split at he
  ·rename_i q1 i q2 j h1 h2
   simp only [Option.some.injEq,Prod.mk.injEq] at he
   obtain ⟨rfl,rfl⟩:=he
   rw [obl_append,obl_append] at hq
   simp only [obl,Duty.of_p] at hq
   obtain ⟨⟨hq1,hq2⟩,hij,hjn,_⟩:=hq
   obtain ⟨rfl,_⟩:=hx
   exact ⟨_,fun w1 => (run_sliceAt_str hu _ _ _ _).trans (run_slice_str hu (evBound_sound h .sliceAlen h2 hq2 hjn w1) (evBound_sound h .sliceB h1 hq1 hij w1)),rfl,rfl⟩
  ·cases he
 ·cases he
theorem CK.pl_ok {N : Nat} {ρ : Keys} (c : CK) (x : c.ty) : (c.pl x).ok N ρ (c.val x):=by
 cases c with
 | int k => exact ⟨rfl,rfl⟩
 | bool => exact ⟨rfl,rfl⟩
 | str => exact ⟨rfl,rfl⟩
 | sl e tg => trivial
theorem lookTm_ok {N : Nat} {ρ : Keys} (c : CK) (es : List (Int × c.ty)) (n : Int) (ok : Bool) : (lookTm c es n ok).ok N ρ (if ok then .tuple #[c.val (mget es n c.d),.bool (mhas es n)] else c.val (mget es n c.d)):=by
 cases ok with
 | true => exact ⟨[_,_],rfl,CK.pl_ok c _,⟨rfl,rfl⟩,trivial⟩
 | false => exact CK.pl_ok c _
theorem keyTy_sound (hE : EnvOk P Γ E) {kt : TypeId} {kk : List CK} (h : keyTy E kt = some kk) : ∃ ns,KeyOk P kt kk ns:=by
 unfold keyTy at h
 split at h
 ·rename_i kk' ns h1 h2 h3
  split at h
  ·rename_i h4
   obtain rfl:=Option.some.inj h
   obtain ⟨e1,e2,_⟩:=hE.eqs _ _ h3
   exact ⟨ns,h4,e1,e2⟩
  ·cases h
 ·cases h
theorem valTy_sound (hE : EnvOk P Γ E) {et e : TypeId} {tg : List CK} (h : valTy E et = some (e,tg)) : tg ≠ [] ∧ flatK tg = true ∧ ∃ i,P.info? et = some i ∧ i.zero = some (.slice none 0 0):=by
 unfold valTy at h
 split at h
 ·rename_i e' tg' h1
  split at h
  ·rename_i tg2 h2
   split at h
   ·rename_i h3 _ h4
    simp only [Option.some.injEq,Prod.mk.injEq] at h
    obtain ⟨rfl,rfl⟩:=h
    obtain ⟨h5,_⟩:=hE.kd _ _ h2
    exact ⟨h3.down ▸ h5,h4,hE.sc _ _ h1⟩
   ·cases h
  ·cases h
 ·cases h
theorem lookup_there (hE : EnvOk P Γ E) (h : Rel Γ M w0 ρ st vs a w) {t kt et : TypeId} (ht : E.ty t = .map kt et) {r : Nat} {t' : TypeId} {kk : List CK} {e : TypeId} {tg : List CK} {es : List (Tup kk × List (Tup tg))} {o i : Bool} (hg : st.rg.getD r .dead = .mps t' kk e tg es o i)
  {kk' : List CK} (hk : keyTy E kt = some kk') {e' : TypeId} {tg' : List CK} (hv : valTy E et = some (e',tg')) (hkk : kk' = kk) {l : List At} {k : Tup kk} (hc : ofCells kk l = some k) (hin : kix kk k es < es.length) {vx vi : Value} (hx : (At.mp r).ok st.rg.length ρ vx) (hi : (Tm.agg l).ok st.rg.length ρ vi) :
  ∃ y,(∀ w1,Below w.heap.size w w1 → (Instr.lookup t vx vi false).run P w1 = .ok y w1) ∧ (At.sl r [(kix kk k es,0)] 0 ((es.getD (kix kk k es) (Tup.d kk,[])).2).length).ok st.rg.length ρ y:=by
 subst hkk
 obtain ⟨ns,hko⟩:=keyTy_sound hE hk
 obtain ⟨_,_,hz⟩:=valTy_sound hE hv
 obtain ⟨hu,_⟩:=hE.tyMap ht
 obtain ⟨hr',rfl⟩:=hx
 obtain ⟨ys,rfl,hys⟩:=hi
 obtain rfl:=ofCells_vals hc hys
 have hgr:=getD_reg hg (by simp)
 have hB : (Reg.mps t' kk' e tg es o i).has [] o (.mps kk' tg es):=.inl ⟨rfl,rfl,rfl⟩
 obtain ⟨_,hvd,hat⟩:=h.rs.blk r _ [] o (.mps kk' tg es) hgr hB
 obtain ⟨v,hrun,f1,_⟩:=run_lookup_maps (P:=P) hu hko hz hat k false
 exact ⟨v,fun w1 hw1 => by have:=hrun w1 (hw1.block _ (h.rs.lt r _ [] o _ hgr hB hvd));simpa using this,hr',f1 hin⟩
theorem lookup_sound (h : Rel Γ M w0 ρ st vs a w) {t kt et : TypeId} {k : IntKind} {c : CK} (hu : P.underlying t = some (.map kt et)) (hk : P.underlying kt = some (.int k)) (hz : ∃ i,P.info? et = some i ∧ i.zero = some (c.val c.d)) {x : At} {es : List (Int × c.ty)} (hm : mapOf st k c x = some es) {vx : Value} (hx : x.ok st.rg.length ρ vx) (n : Int) (ok : Bool) :
  ∃ y,(Instr.lookup t vx (.int k n) ok).run P w = .ok y w ∧ (lookTm c es n ok).ok st.rg.length ρ y:=by
 obtain ⟨i,hi,hiz⟩:=hz
 have hz' : (zeroValue et).run P w = .ok (c.val c.d) w:=by simp [zeroValue,typeInfo,hi,hiz]
 unfold mapOf at hm
 split at hm
 ·obtain rfl:=Option.some.inj hm
  obtain ⟨rfl,_⟩:=hx
  refine ⟨_,run_lookup_nil hu hk hz' n ok,?_⟩
  exact lookTm_ok c [] n ok
 ·rename_i r
  split at hm
  ·rename_i t2 k2 c2 es2 o hg
   split at hm
   ·rename_i hh hs hc
    obtain rfl:=sameKind_eq hs
    obtain ⟨rfl⟩:=hh
    obtain rfl:=Option.some.inj hm
    obtain ⟨hr,rfl⟩:=hx
    have hgr:=getD_reg hg (by simp)
    obtain ⟨_,_,ents,h1,h2,_⟩:=h.rs.blk r _ [] o (.map k2 c2 es2) hgr ⟨rfl,rfl,rfl⟩
    exact ⟨_,run_lookup_map hu hk hz' h1 h2 n ok,lookTm_ok c2 es2 n ok⟩
   ·cases hm
  ·cases hm
 ·cases hm
theorem lookup_later (h : Rel Γ M w0 ρ st vs a w) {t kt et : TypeId} {k : IntKind} {c : CK} (hu : P.underlying t = some (.map kt et)) (hk : P.underlying kt = some (.int k)) (hz : ∃ i,P.info? et = some i ∧ i.zero = some (c.val c.d)) {x : At} {es : List (Int × c.ty)} (hm : mapOf st k c x = some es) {vx : Value} (hx : x.ok st.rg.length ρ vx) (n : Int) :
  ∃ y,(∀ w1,Below w.heap.size w w1 → (Instr.lookup t vx (.int k n) false).run P w1 = .ok y w1) ∧ (lookTm c es n false).ok st.rg.length ρ y:=by
 obtain ⟨i,hi,hiz⟩:=hz
 have hz' : ∀ w : World,(zeroValue et).run P w = .ok (c.val c.d) w:=fun w => by simp [zeroValue,typeInfo,hi,hiz]
 unfold mapOf at hm
 split at hm
 ·obtain rfl:=Option.some.inj hm
  obtain ⟨rfl,_⟩:=hx
  refine ⟨_,fun w1 _ => run_lookup_nil hu hk (hz' w1) n false,?_⟩
  exact lookTm_ok c [] n false
 ·rename_i r
  split at hm
  ·rename_i t2 k2 c2 es2 o hg
   split at hm
   ·rename_i hh hs hc
    obtain rfl:=sameKind_eq hs
    obtain ⟨rfl⟩:=hh
    obtain rfl:=Option.some.inj hm
    obtain ⟨hr,rfl⟩:=hx
    have hgr:=getD_reg hg (by simp)
    obtain ⟨_,hvd,ents,h1,h2,_⟩:=h.rs.blk r _ [] o (.map k2 c2 es2) hgr ⟨rfl,rfl,rfl⟩
    exact ⟨_,fun w1 hw1 => run_lookup_map hu hk (hz' w1) ((hw1.block _ (h.rs.lt r _ [] o _ hgr ⟨rfl,rfl,rfl⟩ hvd)).trans h1) h2 n false,lookTm_ok c2 es2 n false⟩
   ·cases hm
  ·cases hm
 ·cases hm
theorem evNil_sound (hE : EnvOk P Γ E) {op : BinOp} {t : TypeId} {x z : Tm} {q : List Duty} {y : Operand} (hn : isNilOp y = true) (he : evNil E op t x = some (q,z)) (u : Operand) {N : Nat} {vx : Value} (hx : x.ok N ρ vx) :
  ∃ b : Bool,(∀ w : World,(do eqGuard op t u y vx (a.eval y);binOp op t vx (a.eval y) : Sem Value).run P w = .ok (.bool b) w) ∧ z.ok N ρ (.bool b):=by
 have hy : y = .const .nilIface:=by
  cases y with
  | const v => cases v <;> first | rfl | cases hn
  | _ => cases hn
 subst hy
 have ev : a.eval (.const .nilIface) = .nilIface:=rfl
 rw [ev]
 unfold evNil at he
 split at he
 ·rename_i x hi
  have n1 : ∀ w : World,_:=fun w => run_equal_nil_nil (P:=P) w t (hE.ifc t hi)
  have n2 : ∀ (w : World) ti vi,_:=fun w ti vi => run_equal_held_nil (P:=P) w t ti vi (hE.ifc t hi)
  have key : ∀ b,nilA x = some b → (b = true ∧ vx = .nilIface) ∨ (b = false ∧ ∃ ti vi,vx = .iface ti vi):=by
   intro b hb
   unfold nilA at hb
   split at hb <;> simp only [Option.some.injEq,reduceCtorEq] at hb <;> subst hb
   ·exact .inl ⟨rfl,hx.1⟩
   ·exact .inr ⟨rfl,hx⟩
  split at he <;> simp only [Option.some.injEq,Prod.mk.injEq,reduceCtorEq] at he <;> rename_i hb <;> obtain ⟨rfl,rfl⟩:=he <;> rcases key _ hb with ⟨h1,rfl⟩ | ⟨h1,ti,vi,rfl⟩ <;> first | cases h1 | skip
  ·exact ⟨true,fun w => by simp [eqGuard,binOp,n1 w],rfl⟩
  ·exact ⟨false,fun w => by simp [eqGuard,binOp,n1 w],rfl⟩
  ·exact ⟨false,fun w => by simp [eqGuard,binOp,n2 w ti vi],rfl⟩
  ·exact ⟨true,fun w => by simp [eqGuard,binOp,n2 w ti vi],rfl⟩
 ·cases he
theorem evBytes_sound (hE : EnvOk P Γ E) (h : Rel Γ M w0 ρ st vs a w) {src dst e : TypeId} {m : Nat} (hs : E.ty src = .sl e m) {r : Nat} {π : Path} {lo n : Nat} {x : Tm} {q : List Duty} {va : Value}
  (ha : Tm.ok st.rg.length ρ (.a (.sl r π lo n)) va) (he : evBytes E st e dst r π lo n = some (q,x)) (hq : obl q) : ∃ y,(convert src dst va).run P w = .ok y w ∧ x.ok st.rg.length ρ y:=by
 unfold evBytes at he
 split at he
 ·rename_i q0 te xs0 h1 h2 hd
  obtain ⟨xs,hxs⟩ : ∃ xs : List Int,xs = xs0:=⟨xs0,rfl⟩
  subst hxs
  simp only [Option.some.injEq,Prod.mk.injEq] at he
  obtain ⟨rfl,rfl⟩:=he
  rw [obl_append] at hq
  have hin:=hq.2.1
  simp only [Duty.of_p] at hin
  have hin : lo + n ≤ xs.length:=hin
  obtain ⟨_,hB⟩:=dn_sound h hd hq.1
  obtain ⟨hu,_⟩:=hE.tySl hs
  have hue : P.underlying e = some (.int .u8):=by have:=hE.ty e;rw [h1] at this;exact this.1
  have hud : P.underlying dst = some .string:=by have:=hE.ty dst;rw [h2] at this;exact this.1
  have ha : r < st.rg.length ∧ (ρ r π).head lo n va:=ha
  have hm : (ρ r π).m = 1:=hB.m
  refine ⟨_,?_,rfl,rfl⟩
  have empty : ∀ ad cap,n = 0 → (convert src dst (.slice ad n cap)).run P w = .ok (.string (strOfNums ((xs.drop lo).take n))) w:=by
   rintro ad cap rfl
   cases ad with
   | none => exact run_convert_bytes_nil w src e hu hue 0 cap dst hud
   | some ad =>
     rw [run_convert_bytes_string w src dst e (some ad) 0 cap hu hue hud,run_bytesToString w ad 0 cap [] (by simpa using run_loadCells_list (P:=P) w ad [] (fun j v hj => by simp at hj))]
     rfl
  cases hvd : (ρ r π).void with
  | true =>
    obtain ⟨hz,ad,rfl⟩:=ha.2.1 hvd
    have:=empty ad 0 hz
    rw [hz] at this ⊢
    exact this
  | false =>
    obtain ⟨hcap,ad,rfl,had⟩:=ha.2.2 hvd
    by_cases hn : n = 0
    ·exact empty ad _ hn
    have e1:=had (by omega)
    rw [e1]
    unfold RI.at
    rw [hm,Nat.mul_one]
    refine run_convert_bytes_arg w src e hu hue _ _ _ _ ((xs.drop lo).take n) (by rw [List.length_take,List.length_drop];omega) (fun i hi => ?_) dst hud
    obtain ⟨ys,k1,k2⟩:=hB.cell (lo + i) (by show lo + i < xs.length;omega)
    obtain ⟨y,rfl,hy⟩:=k1
    have hy : y = .int .u8 (xs.getD (lo + i) 0):=hy
    have:=k2 0 y rfl
    rw [hm,Nat.mul_one,Nat.add_zero] at this
    unfold RI.at at this
    rw [Nat.add_assoc,this,hy]
    congr 2
    rw [List.getD_eq_getElem?_getD,List.getD_eq_getElem?_getD,List.getElem?_take_of_lt hi,List.getElem?_drop]
 ·cases he
theorem evP_sound (hE : EnvOk P Γ E) (h : Rel Γ M w0 ρ st vs a w) {o : Oper} {q : List Duty} {x : Tm} (he : evP E st o = some (q,x)) (hq : obl q) :
  ∃ y,(execOp a.eval o).run P w = .ok (.value y) w ∧ x.ok st.rg.length ρ y:=by
 unfold evP at he
 unfold execOp
 split at he <;> rename_i hop <;> simp only [hop]
 ·-- move
  split at he
  ·rename_i hx;simp only [Option.some.injEq,Prod.mk.injEq] at he;obtain ⟨rfl,rfl⟩:=he
   exact ⟨_,rfl,ev_sound h hx⟩
  ·cases he
 ·split at he
  ·rename_i hx;simp only [Option.some.injEq,Prod.mk.injEq] at he;obtain ⟨rfl,rfl⟩:=he
   exact ⟨_,rfl,ev_sound h hx⟩
  ·cases he
 ·-- pick
  split at he
  ·rename_i hc ha;simp only [Option.some.injEq,Prod.mk.injEq] at he;obtain ⟨rfl,rfl⟩:=he
   have h1 : a.eval _ = .bool true:=ev_sound h hc
   exact ⟨_,by simp [h1,asBool],ev_sound h ha⟩
  ·rename_i hc ha;simp only [Option.some.injEq,Prod.mk.injEq] at he;obtain ⟨rfl,rfl⟩:=he
   have h1 : a.eval _ = .bool false:=ev_sound h hc
   exact ⟨_,by simp [h1,asBool],ev_sound h ha⟩
  ·rename_i c x y hc ha hb
   split at he
   ·rename_i hx hy;simp only [Option.some.injEq,Prod.mk.injEq] at he;obtain ⟨rfl,rfl⟩:=he
    have h1 : a.eval _ = .bool c:=(ev_sound h hc).1
    have h2:=boolOf_sound (ev_sound h ha) hx
    have h3:=boolOf_sound (ev_sound h hb) hy
    refine ⟨_,by simp [h1,asBool];rfl,?_,?_⟩
    ·rw [h2,h3];cases c <;> rfl
    ·rfl
   ·cases he
  ·cases he
 ·-- load
  split at he
  ·rename_i hx
   obtain ⟨y,h1,h2⟩:=evLoad_sound hE h (ev_sound h hx) he hq
   exact ⟨y,by simp [h1 w (Below.refl _ _)],h2⟩
  ·cases he
 ·-- binOp
  split at he
  ·rename_i hnil
   split at he
   ·rename_i hx
    obtain ⟨y,h1,h2⟩:=evNil_sound (a:=a) hE hnil he _ (ev_sound h hx)
    refine ⟨.bool y,?_,h2⟩
    change Sem.run P (do let x ← (do eqGuard _ _ _ _ _ _;binOp _ _ _ _ : Sem Value);pure (Next.value x)) w = _
    rw [Sem.run_bind,h1];rfl
   ·cases he
  split at he
  ·rename_i hx hy
   obtain ⟨y,h1,h2⟩:=evBin_sound (ρ:=ρ) (P:=P) (w:=w) hE he hq _ _ (ev_sound h hx) (ev_sound h hy)
   refine ⟨y,?_,h2⟩
   change Sem.run P (do let x ← (do eqGuard _ _ _ _ _ _;binOp _ _ _ _ : Sem Value);pure (Next.value x)) w = _
   rw [Sem.run_bind,h1];rfl
  ·cases he
 ·-- unOp
  split at he
  ·rename_i hx
   obtain ⟨y,h1,h2⟩:=evUn_sound (ρ:=ρ) (P:=P) (w:=w) he hq (ev_sound h hx)
   exact ⟨y,by simp [h1],h2⟩
  ·cases he
 ·-- convert
  split at he
  ·rename_i hs hx
   obtain ⟨y,h1,h2⟩:=evConv_sound (ρ:=ρ) (P:=P) (w:=w) hE hs he hq (ev_sound h hx)
   exact ⟨y,by simp [h1],h2⟩
  ·rename_i hs hx
   obtain ⟨y,h1,h2⟩:=evBytes_sound hE h hs (ev_sound h hx) he hq
   exact ⟨y,by simp [h1],h2⟩
  ·cases he
 ·-- fieldAddr
  split at he
  ·rename_i fs n r π i j hs hx
   split at he
   ·rename_i off size hf;simp only [Option.some.injEq,Prod.mk.injEq] at he;obtain ⟨rfl,rfl⟩:=he
    have hty:=hE.tySt hs
    obtain ⟨⟨fields,hu,hp⟩,_⟩:=hty
    obtain ⟨fd,h1,h2,h3⟩:=places_get fields.toList fs hp _ off (size + 1) hf
    obtain ⟨hr,hv⟩:=ev_sound h hx
    rw [hv]
    refine ⟨_,by simp [run_fieldAt_st hu (by simpa using h1) h3];rfl,hr,?_⟩
    rw [RI.at_add,h2,Nat.add_assoc]
   ·cases he
  ·cases he
 ·-- field
  split at he
  ·rename_i fs n l hs hx hlf
   split at he
   ·rename_i off hf
    split at he
    ·rename_i y hy
     simp only [Option.some.injEq,Prod.mk.injEq] at he;obtain ⟨rfl,rfl⟩:=he
     obtain ⟨⟨fields,hu,hp⟩,_⟩:=hE.tySt hs
     obtain ⟨fd,h1,h2,_⟩:=places_get fields.toList fs hp _ _ _ hf
     have h1':=h1
     rw [Array.getElem?_toList] at h1'
     obtain ⟨ys,hv,hl⟩:=ev_sound h hx
     obtain ⟨v,k1,k2⟩:=hl.get _ _ hy
     refine ⟨v,?_,k2⟩
     rw [hv]
     simp [Instr.field,run_underlying hu,h1',part,hE.lf _ _ hlf fields fd hu h1' w,h2,k1,asAgg]
    ·cases he
   ·cases he
  ·cases he
 ·-- indexAddr
  split at he
  ·rename_i e m r π lo n k i hs hx hi
   split at he
   ·rename_i q1 B hd
    split at he
    ·rename_i hm'
     simp only [Option.some.injEq,Prod.mk.injEq] at he;obtain ⟨rfl,rfl⟩:=he
     rw [obl_append] at hq
     obtain ⟨hu,hm,_⟩:=hE.tySl hs
     obtain ⟨hr,hv⟩:=ev_sound h hx
     have hvi : a.eval _ = .int k i:=(ev_sound h hi).1
     have hin:=hq.2.1
     simp only [Duty.of_p] at hin
     obtain ⟨_,hB⟩:=dn_sound h hd hq.1
     have hKm : (ρ r π).m = m:=hB.m.trans (Nat.eq_of_beq_eq_true hm')
     have hnn : (ρ r π).void = false:=by
      cases hh : (ρ r π).void with
      | false => rfl
      | true => have:=(hv.1 hh).1;omega
     obtain ⟨hlc,ad,e1,e2⟩:=hv.2 hnn
     rw [e1,hvi,e2 (by omega)]
     refine ⟨_,by simp [Instr.indexAt,run_underlying hu,asIntOf,run_size hm,hin];rfl,hr,?_⟩
     rw [RI.at_add,hKm,Nat.add_mul,Nat.add_zero]
    ·cases he
   ·cases he
  ·rename_i e m n r π a' j k i hs hx hi
   simp only [Option.some.injEq,Prod.mk.injEq] at he;obtain ⟨rfl,rfl⟩:=he
   obtain ⟨hu,hm,_⟩:=hE.tyAr hs
   obtain ⟨hr,hv⟩:=ev_sound h hx
   have hvi : a.eval _ = .int k i:=(ev_sound h hi).1
   have hin:=hq.1
   simp only [Duty.of_p] at hin
   rw [hv,hvi]
   refine ⟨_,by simp [Instr.indexAt,Instr.sureAddr,run_underlying hu,asIntOf,run_size hm,hin];rfl,hr,?_⟩
   rw [RI.at_add,Nat.add_assoc]
  ·cases he
 ·-- index
  split at he
  ·rename_i e m n l k i hs hx hi
   split at he
   ·rename_i fs en hse
    simp only [Option.some.injEq,Prod.mk.injEq] at he;obtain ⟨rfl,rfl⟩:=he
    obtain ⟨hu,hm,_⟩:=hE.tyAr hs
    obtain ⟨⟨fields,hue,_⟩,_⟩:=hE.tySt hse
    obtain ⟨ys,hv,hl⟩:=ev_sound h hx
    have hvi : a.eval _ = .int k i:=(ev_sound h hi).1
    have hin:=hq.1
    simp only [Duty.of_p] at hin
    refine ⟨.agg ((ys.drop (i.toNat * m)).take m).toArray,?_,_,rfl,okL_takeU (okL_dropU hl _) _⟩
    rw [hv,hvi]
    simp [Instr.index,run_underlying hu,asIntOf,run_size hm,hin,part,isAgg,run_underlying hue]
   ·cases he
  ·rename_i s k i hs hx hi
   simp only [Option.some.injEq,Prod.mk.injEq] at he;obtain ⟨rfl,rfl⟩:=he
   obtain ⟨hu,_⟩:=hE.tyStr hs
   obtain ⟨hv,_⟩:=ev_sound h hx
   have hvi : a.eval _ = .int k i:=(ev_sound h hi).1
   have hin:=hq.1
   simp only [Duty.of_p] at hin
   rw [hv,hvi]
   have hget : s[i.toNat]? = some (s.data.getD i.toNat 0):=by
    have hlt : i.toNat < s.data.size:=by have:=hin;simp only [ByteArray.size] at this;omega
    show (if h : i.toNat < s.data.size then some s.data[i.toNat] else none) = _
    rw [dif_pos hlt]
    unfold Array.getD
    rw [dif_pos hlt]
    rfl
   generalize s.data.getD i.toNat 0 = b at hget
   have hc : ∀ t',P.underlying t' = some .string → (Instr.index t' (.string s) (.int k i)).run P w = .ok (.int .u8 b.toNat) w:=by
    intro t' hu'
    simp only [Instr.index,run_underlying hu',Sem.run_bind,Result.andThen_ok,asIntOf,Sem.run_pure]
    rw [if_pos hin.1,hget]
    rfl
   exact ⟨_,by simp only [Sem.run_bind,hc _ hu,Result.andThen_ok];rfl,rfl,rfl⟩
  ·cases he
 ·-- slice
  split at he
  ·rename_i hx
   obtain ⟨y,h1,h2⟩:=evSlice_sound hE h (ev_sound h hx) he hq
   exact ⟨y,by simp [h1],h2⟩
  ·cases he
 ·-- slice to nothing
  rename_i ty xo k1 k2
  have key : ∀ {e : TypeId} {m : Nat},P.underlying ty = some (.slice e) → (P.info? e).map (·.size) = some m → (∃ ad len cap,a.eval xo = .slice ad len cap) →
    ∃ y,(execOp a.eval { o with op:=.slice ty xo none (some (.const (.int k1 0))) (some (.const (.int k2 0))) }).run P w = .ok (.value y) w ∧ (At.z).ok st.rg.length ρ y:=by
   rintro e m hu hm ⟨ad,len,cap,e1⟩
   refine ⟨.slice ad 0 0,?_,ad,rfl⟩
   have hb : (Instr.sliceBounds true len cap none (some (.int k1 0)) (some (.int k2 0))).run P w = .ok (0,0,0) w:=by
    simp [Instr.sliceBounds,run_sliceBound (P:=P) w _ 0 _ _ (by omega) (by omega)]
   have e2 : a.eval (.const (.int k1 0)) = .int k1 0:=rfl
   have e3 : a.eval (.const (.int k2 0)) = .int k2 0:=rfl
   simp only [execOp,Option.map_some,Option.map_none,Sem.run_bind]
   rw [e1,e2,e3,run_sliceAt_sl hu]
   simp [Instr.slice,run_underlying hu,hb,run_size hm]
  split at he
  ·rename_i e m r π lo n ht hx
   simp only [Option.some.injEq,Prod.mk.injEq] at he;obtain ⟨rfl,rfl⟩:=he
   obtain ⟨hu,hm,_⟩:=hE.tySl ht
   obtain ⟨_,hv⟩:=ev_sound h hx
   obtain ⟨y,h1,h2⟩:=key hu hm (by
    cases hvd : (ρ r π).void with
    | true => obtain ⟨_,ad,e1⟩:=hv.1 hvd;exact ⟨ad,0,0,e1⟩
    | false => obtain ⟨_,ad,e1,_⟩:=hv.2 hvd;exact ⟨ad,_,_,e1⟩)
   exact ⟨y,by simpa [execOp] using h1,h2⟩
  ·rename_i ht hx
   simp only [Option.some.injEq,Prod.mk.injEq] at he;obtain ⟨rfl,rfl⟩:=he
   obtain ⟨hu,hm,_⟩:=hE.tySl ht
   obtain ⟨y,h1,h2⟩:=key hu hm ⟨none,0,0,(ev_sound h hx).1⟩
   exact ⟨y,by simpa [execOp] using h1,h2⟩
  ·rename_i ht hx
   simp only [Option.some.injEq,Prod.mk.injEq] at he;obtain ⟨rfl,rfl⟩:=he
   obtain ⟨hu,hm,_⟩:=hE.tySl ht
   obtain ⟨ad,e1⟩:=ev_sound h hx
   obtain ⟨y,h1,h2⟩:=key hu hm ⟨ad,0,0,e1⟩
   exact ⟨y,by simpa [execOp] using h1,h2⟩
  ·cases he
 ·-- lookup
  split at he
  ·rename_i kt et ht
   split at he
   ·rename_i k c x k' n hk hc hx hi
    split at he
    ·rename_i es hs hm
     simp only [Option.some.injEq,Prod.mk.injEq] at he;obtain ⟨rfl,rfl⟩:=he
     obtain ⟨hu,_⟩:=hE.tyMap ht
     have hku : P.underlying kt = some (.int k):=by have:=hE.ty kt;rw [hk] at this;exact this.1
     obtain rfl:=sameKind_eq hs
     have hvi : a.eval _ = .int k' n:=(ev_sound h hi).1
     obtain ⟨y,h1,h2⟩:=lookup_sound h hu hku (hE.sc et c hc) hm (ev_sound h hx) n _
     rw [hvi]
     exact ⟨y,by simp [h1],h2⟩
    ·cases he
   ·rename_i r l hx hi
    split at he
    ·rename_i t' kk e tg es o i kk' e' tg' hg hk hv
     split at he
     ·rename_i q1 q2 q3 k _ _ _ hc
      simp only [Option.some.injEq,Prod.mk.injEq] at he;obtain ⟨rfl,rfl⟩:=he
      have hin:=hq.1
      simp only [Duty.of_p] at hin
      obtain ⟨y,h1,h2⟩:=lookup_there hE h ht hg hk hv q1.down hc hin (ev_sound h hx) (ev_sound h hi)
      exact ⟨y,by simp [h1 w (Below.refl _ _)],h2⟩
     ·cases he
    ·cases he
   ·cases he
  ·cases he
 ·-- entry
  split at he
  ·rename_i r hx
   split at he
   ·rename_i m n j seen hg
    split at he
    ·rename_i t k c es own hgm
     simp only [Option.some.injEq,Prod.mk.injEq] at he;obtain ⟨rfl,rfl⟩:=he
     obtain ⟨hn,hj,_⟩:=hq
     simp only [Duty.of_p] at hn hj
     obtain ⟨hlt,hv⟩:=ev_sound h hx
     obtain ⟨_,_,i3,i4⟩:=h.rs.blk r _ [] true (.it (some m) n (j :: seen)) (getD_reg hg (by simp)) ⟨rfl,rfl,rfl⟩
     obtain ⟨_,_,i6⟩:=h.rs.blk m _ [] own (.map k c es) (getD_reg hgm (by simp)) ⟨rfl,rfl,rfl⟩
     have:=run_entry_mapAt (P:=P) i6 i4 hn hj
     exact ⟨.tuple #[.int k (es.getD j (0,c.d)).1,c.val (es.getD j (0,c.d)).2],by simp [hv,this],[.int k (es.getD j (0,c.d)).1,c.val (es.getD j (0,c.d)).2],rfl,⟨rfl,rfl⟩,pl_ok,trivial⟩
    ·rename_i t kk e tg es own inn hgm
     simp only [Option.some.injEq,Prod.mk.injEq] at he;obtain ⟨rfl,rfl⟩:=he
     obtain ⟨hn,hj,_⟩:=hq
     simp only [Duty.of_p] at hn hj
     obtain ⟨hlt,hv⟩:=ev_sound h hx
     obtain ⟨_,_,i3,i4⟩:=h.rs.blk r _ [] true (.it (some m) n (j :: seen)) (getD_reg hg (by simp)) ⟨rfl,rfl,rfl⟩
     obtain ⟨_,_,i6⟩:=h.rs.blk m _ [] own (.mps kk tg es) (getD_reg hgm (by simp)) (.inl ⟨rfl,rfl,rfl⟩)
     obtain ⟨v,this⟩:=run_entry_mapsAt (P:=P) i6 i4 hn hj
     exact ⟨.tuple #[.agg (Tup.vals kk (es.getD j (Tup.d kk,[])).1).toArray,v],by simp [hv,this],[.agg (Tup.vals kk (es.getD j (Tup.d kk,[])).1).toArray,v],rfl,⟨_,rfl,pls_ok _ _⟩,trivial,trivial⟩
    ·cases he
   ·cases he
  ·cases he
 ·-- nilCheck
  split at he
  ·rename_i hx;simp only [Option.some.injEq,Prod.mk.injEq] at he;obtain ⟨rfl,rfl⟩:=he
   obtain ⟨h1,h2⟩:=ev_sound h hx
   exact ⟨_,by simp [h2],h1,rfl⟩
  ·rename_i hx;simp only [Option.some.injEq,Prod.mk.injEq] at he;obtain ⟨rfl,rfl⟩:=he
   obtain ⟨h1,h2⟩:=ev_sound h hx
   exact ⟨_,by simp [h2],h1,rfl⟩
  ·cases he
 ·-- extract
  split at he
  ·rename_i l hx
   split at he
   ·rename_i c hc;simp only [Option.some.injEq,Prod.mk.injEq] at he;obtain ⟨rfl,rfl⟩:=he
    obtain ⟨ys,hv,hl⟩:=ev_sound h hx
    obtain ⟨y,hy,hcy⟩:=hl.get _ _ hc
    refine ⟨y,by simp [hv,Instr.extract,hy],?_⟩
    cases c <;> exact hcy
   ·cases he
  ·cases he
 ·-- build
  split at he
  ·rename_i fs n z hs hz
   split at he
   ·rename_i l hlen hl;simp only [Option.some.injEq,Prod.mk.injEq] at he;obtain ⟨rfl,rfl⟩:=he
    have hty:=hE.tySt hs
    obtain ⟨⟨fields,hu,hp⟩,_⟩:=hty
    obtain ⟨_,i,zv,h1,h2,h3⟩:=hE.zero _ _ hz
    obtain ⟨ys,h4,h5⟩:=evParts_sound h _ _ _ _ hl (h3 _ ρ)
    refine ⟨.agg ys.toArray,?_,ys,rfl,h5⟩
    have:=run_build_st (w:=w) hu hp h1 h2 ((_ : Array (Nat × Operand)).map fun x => (x.1,a.eval x.2)) ys (by simpa using h4)
    simp [this]
   ·cases he
  ·rename_i e m n z hs hz
   split at he
   ·rename_i l hlen hl;simp only [Option.some.injEq,Prod.mk.injEq] at he;obtain ⟨rfl,rfl⟩:=he
    obtain ⟨hu,hm,_⟩:=hE.tyAr hs
    obtain ⟨_,i,zv,h1,h2,h3⟩:=hE.zero _ _ hz
    obtain ⟨ys,h4,h5⟩:=evPartsA_sound h _ _ _ _ hl (h3 _ ρ)
    refine ⟨.agg ys.toArray,?_,ys,rfl,h5⟩
    have:=run_build_ar (w:=w) hu hm h1 h2 ((_ : Array (Nat × Operand)).map fun x => (x.1,a.eval x.2)) ys (by simpa using h4)
    simp [this]
   ·cases he
  ·cases he
 ·-- makeFunc
  split at he
  ·rename_i f l hfirst hc;simp only [Option.some.injEq,Prod.mk.injEq] at he;obtain ⟨rfl,rfl⟩:=he
   obtain ⟨h1,h2⟩:=okL_caps h hc
   refine ⟨_,by simp [Instr.makeFunc];rfl,h1,?_⟩
   have e1 : ∀ (first : Array Operand),first.toList = [] → first = #[]:=fun first hh => by simpa using hh
   rename_i first caps _ _ _
   rw [e1 _ hfirst]
   have e2 : caps.map a.eval = (l.map fun r => Value.pointer (some ((ρ r []).at 0))).toArray:=Array.ext' (by simpa using h2)
   rw [e2]
   simp
  ·cases he
 ·-- len
  rename_i c
  split at he
  ·rename_i hcal
   split at he
   ·rename_i x t harg hty
    have e1 : c = { callee:=.builtin .len,args:=#[x],argTypes:=#[t] }:=by
     cases c
     simp only at hcal harg hty
     subst hcal
     congr 1
     ·exact Array.ext' (by simpa using harg)
     ·exact Array.ext' (by simpa using hty)
    subst e1
    have hrun : ∀ (d : TypeDesc) (v y : Value),P.underlying t = some d → a.eval x = v → (Builtin.len_ #[t] o.type #[v]).run P w = .ok y w →
      (do let d ← resolve a.eval { callee:=.builtin .len,args:=#[x],argTypes:=#[t] } o.type;invoke d.target d.args : Sem Next).run P w = .ok (.value y) w:=by
     intro d v y hu hv hr
     subst hv
     simp [resolve,invoke,builtin,hr]
    split at he
    case h_2 => cases he
    rename_i xv hxx
    unfold evLen at he
    have hx:=ev_sound h hxx
    split at he
    ·rename_i e m r π lo n hs
     simp only [Option.some.injEq,Prod.mk.injEq] at he;obtain ⟨rfl,rfl⟩:=he
     obtain ⟨hu,_,_⟩:=hE.tySl hs
     obtain ⟨hr,hv⟩:=hx
     have hsl : ∃ ad cap,a.eval x = .slice ad n cap:=by
      cases hvd : (ρ r π).void with
      | true => obtain ⟨rfl,ad,e1⟩:=hv.1 hvd;exact ⟨ad,0,e1⟩
      | false => obtain ⟨_,ad,e1,_⟩:=hv.2 hvd;exact ⟨ad,_,e1⟩
     obtain ⟨ad,cap,hv⟩:=hsl
     exact ⟨_,hrun _ _ _ hu hv (by simp [Builtin.len_,run_underlying hu];rfl),rfl,rfl⟩
    ·rename_i e m n cap hs
     simp only [Option.some.injEq,Prod.mk.injEq] at he;obtain ⟨rfl,rfl⟩:=he
     obtain ⟨hu,_,_⟩:=hE.tySl hs
     obtain ⟨hv,_⟩:=hx
     exact ⟨_,hrun _ _ _ hu hv (by simp [Builtin.len_,run_underlying hu];rfl),rfl,rfl⟩
    ·rename_i hs
     simp only [Option.some.injEq,Prod.mk.injEq] at he;obtain ⟨rfl,rfl⟩:=he
     obtain ⟨hu,_,_⟩:=hE.tySl hs
     obtain ⟨ad,hv⟩:=hx
     exact ⟨_,hrun _ _ _ hu hv (by simp [Builtin.len_,run_underlying hu];rfl),rfl,rfl⟩
    ·rename_i s hs
     simp only [Option.some.injEq,Prod.mk.injEq] at he;obtain ⟨rfl,rfl⟩:=he
     obtain ⟨hu,_⟩:=hE.tyStr hs
     obtain ⟨hv,_⟩:=hx
     exact ⟨_,hrun _ _ _ hu hv (by simp [Builtin.len_,run_underlying hu];rfl),rfl,rfl⟩
    ·rename_i hs
     simp only [Option.some.injEq,Prod.mk.injEq] at he;obtain ⟨rfl,rfl⟩:=he
     obtain ⟨hu,_⟩:=hE.tyMap hs
     obtain ⟨hv,_⟩:=hx
     exact ⟨_,hrun _ _ _ hu hv (by simp [Builtin.len_,run_underlying hu];rfl),rfl,rfl⟩
    ·cases he
   ·cases he
  ·rename_i hcal
   split at he
   ·rename_i x t harg hty
    split at he
    ·rename_i e m n k ht hx
     simp only [Option.some.injEq,Prod.mk.injEq] at he;obtain ⟨rfl,rfl⟩:=he
     obtain ⟨hu,_,_⟩:=hE.tySl ht
     obtain ⟨hv,_⟩:=ev_sound h hx
     have e1 : c.args = #[x]:=Array.ext' (by simpa using harg)
     have e2 : c.argTypes = #[t]:=Array.ext' (by simpa using hty)
     exact ⟨_,by simp [resolve,invoke,builtin,hcal,e1,e2,hv,Builtin.cap_,run_underlying hu];rfl,rfl,rfl⟩
    ·cases he
   ·cases he
  ·rename_i hcal
   split at he
   ·rename_i x y hargs
    split at he
    ·rename_i k m k' n hx hy
     simp only [Option.some.injEq,Prod.mk.injEq] at he;obtain ⟨rfl,rfl⟩:=he
     obtain ⟨hvx,_⟩:=ev_sound h hx
     obtain ⟨hvy,_⟩:=ev_sound h hy
     have e1 : c.args = #[x,y]:=Array.ext' (by simpa using hargs)
     exact ⟨_,by simp [resolve,invoke,builtin,hcal,e1,hvx,hvy,run_min_int2],rfl,rfl⟩
    ·cases he
   ·cases he
  ·rename_i hcal
   split at he
   ·rename_i x y hargs
    split at he
    ·rename_i k m k' n hx hy
     simp only [Option.some.injEq,Prod.mk.injEq] at he;obtain ⟨rfl,rfl⟩:=he
     obtain ⟨hvx,_⟩:=ev_sound h hx
     obtain ⟨hvy,_⟩:=ev_sound h hy
     have e1 : c.args = #[x,y]:=Array.ext' (by simpa using hargs)
     exact ⟨_,by simp [resolve,invoke,builtin,hcal,e1,hvx,hvy,run_max_int2],rfl,rfl⟩
    ·cases he
   ·cases he
  ·cases he
 ·cases he
theorem wrapped_val {E : Env} {pre q : List Duty} {k : IntKind} {n : Int} {z : Tm} (h : wrapped E pre k n = some (q,z)) : ∃ v,z = .a (.v v):=by
 unfold wrapped at h
 split at h <;> simp only [Option.some.injEq,Prod.mk.injEq] at h <;> exact ⟨_,h.2.symm⟩
theorem evSh_val {E : Env} {op : BinOp} {k : IntKind} {a b : Int} {q : List Duty} {z : Tm} (h : evSh E op k a b = some (q,z)) : ∃ v,z = .a (.v v):=by
 unfold evSh at h
 split at h
 ·exact wrapped_val h
 ·simp only [Option.some.injEq,Prod.mk.injEq] at h;exact ⟨_,h.2.symm⟩
 ·cases h
theorem evInt_val {E : Env} {op : BinOp} {k : IntKind} {a b : Int} {q : List Duty} {z : Tm} (h : evInt E op k a b = some (q,z)) : ∃ v,z = .a (.v v):=by
 unfold evInt at h
 split at h
 ·exact wrapped_val h
 ·exact wrapped_val h
 ·exact wrapped_val h
 ·exact wrapped_val h
 all_goals first | exact evSh_val h | (simp only [Option.some.injEq,Prod.mk.injEq] at h;exact ⟨_,h.2.symm⟩) | cases h
theorem evBin_val {E : Env} {op : BinOp} {t : TypeId} {x y z : Tm} {q : List Duty} (h : evBin E op t x y = some (q,z)) : ∃ v,z = .a (.v v):=by
 unfold evBin at h
 split at h
 ·split at h
  ·exact evInt_val h
  ·exact evSh_val h
 ·split at h <;> first | (simp only [Option.some.injEq,Prod.mk.injEq] at h;exact ⟨_,h.2.symm⟩) | cases h
 ·split at h
  ·split at h <;> first | (simp only [Option.some.injEq,Prod.mk.injEq] at h;exact ⟨_,h.2.symm⟩) | cases h
  ·cases h
 ·split at h
  ·split at h <;> first | (simp only [Option.some.injEq,Prod.mk.injEq] at h;exact ⟨_,h.2.symm⟩) | cases h
  ·cases h
theorem evP_pure (hE : EnvOk P Γ E) (h : Rel Γ M w0 ρ st vs a w) {o : Oper} {q : List Duty} {x : Tm} (hp : pureOp o = true) (he : evP E st o = some (q,x)) (hq : obl q) :
  ∃ y,(∀ w' : World,(execOp a.eval o).run P w' = .ok (.value y) w') ∧ x.ok st.rg.length ρ y:=by
 unfold evP at he
 unfold execOp
 unfold pureOp at hp
 split at he <;> rename_i hop <;> simp only [hop] at hp ⊢ <;> try (cases hp;done)
 ·-- move
  split at he
  ·rename_i hx;simp only [Option.some.injEq,Prod.mk.injEq] at he;obtain ⟨rfl,rfl⟩:=he
   exact ⟨_,fun _ => rfl,ev_sound h hx⟩
  ·cases he
 ·split at he
  ·rename_i hx;simp only [Option.some.injEq,Prod.mk.injEq] at he;obtain ⟨rfl,rfl⟩:=he
   exact ⟨_,fun _ => rfl,ev_sound h hx⟩
  ·cases he
 ·-- binOp
  split at he
  ·rename_i hnil
   split at he
   ·rename_i hx
    obtain ⟨y,h1,h2⟩:=evNil_sound (a:=a) hE hnil he _ (ev_sound h hx)
    refine ⟨.bool y,fun w' => ?_,h2⟩
    change Sem.run P (do let x ← (do eqGuard _ _ _ _ _ _;binOp _ _ _ _ : Sem Value);pure (Next.value x)) w' = _
    rw [Sem.run_bind,h1];rfl
   ·cases he
  split at he
  ·rename_i hx hy
   obtain ⟨v,rfl⟩:=evBin_val he
   obtain ⟨_,_,h3⟩:=evBin_sound (ρ:=ρ) (P:=P) (w:=w) hE he hq (.tmp 0) (.tmp 0) (ev_sound h hx) (ev_sound h hy)
   refine ⟨v,fun w' => ?_,⟨rfl,h3.2⟩⟩
   obtain ⟨y,h1,h2⟩:=evBin_sound (ρ:=ρ) (P:=P) (w:=w') hE he hq _ _ (ev_sound h hx) (ev_sound h hy)
   obtain rfl : y = v:=h2.1
   change Sem.run P (do let x ← (do eqGuard _ _ _ _ _ _;binOp _ _ _ _ : Sem Value);pure (Next.value x)) w' = _
   rw [Sem.run_bind,h1];rfl
  ·cases he
 ·-- unOp
  split at he
  ·rename_i hx
   obtain ⟨y,h1,h2⟩:=evUn_pure (ρ:=ρ) (P:=P) he hq (ev_sound h hx)
   exact ⟨y,fun w' => by simp [h1 w'],h2⟩
  ·cases he
 ·-- fieldAddr
  split at he
  ·rename_i fs n r π i j hs hx
   split at he
   ·rename_i off size hf;simp only [Option.some.injEq,Prod.mk.injEq] at he;obtain ⟨rfl,rfl⟩:=he
    have hty:=hE.tySt hs
    obtain ⟨⟨fields,hu,hp⟩,_⟩:=hty
    obtain ⟨fd,h1,h2,h3⟩:=places_get fields.toList fs hp _ off (size + 1) hf
    obtain ⟨hr,hv⟩:=ev_sound h hx
    rw [hv]
    refine ⟨_,fun w' => by simp [run_fieldAt_st hu (by simpa using h1) h3];rfl,hr,?_⟩
    rw [RI.at_add,h2,Nat.add_assoc]
   ·cases he
  ·cases he
 ·-- indexAddr
  split at he
  ·rename_i e m r π lo n k i hs hx hi
   split at he
   ·rename_i q1 B hd
    split at he
    ·rename_i hm'
     simp only [Option.some.injEq,Prod.mk.injEq] at he;obtain ⟨rfl,rfl⟩:=he
     rw [obl_append] at hq
     obtain ⟨hu,hm,_⟩:=hE.tySl hs
     obtain ⟨hr,hv⟩:=ev_sound h hx
     have hvi : a.eval _ = .int k i:=(ev_sound h hi).1
     have hin:=hq.2.1
     simp only [Duty.of_p] at hin
     obtain ⟨_,hB⟩:=dn_sound h hd hq.1
     have hKm : (ρ r π).m = m:=hB.m.trans (Nat.eq_of_beq_eq_true hm')
     have hnn : (ρ r π).void = false:=by
      cases hh : (ρ r π).void with
      | false => rfl
      | true => have:=(hv.1 hh).1;omega
     obtain ⟨hlc,ad,e1,e2⟩:=hv.2 hnn
     rw [e1,hvi,e2 (by omega)]
     refine ⟨_,fun w' => by simp [Instr.indexAt,run_underlying hu,asIntOf,run_size hm,hin];rfl,hr,?_⟩
     rw [RI.at_add,hKm,Nat.add_mul,Nat.add_zero]
    ·cases he
   ·cases he
  ·rename_i e m n r π a' j k i hs hx hi
   simp only [Option.some.injEq,Prod.mk.injEq] at he;obtain ⟨rfl,rfl⟩:=he
   obtain ⟨hu,hm,_⟩:=hE.tyAr hs
   obtain ⟨hr,hv⟩:=ev_sound h hx
   have hvi : a.eval _ = .int k i:=(ev_sound h hi).1
   have hin:=hq.1
   simp only [Duty.of_p] at hin
   rw [hv,hvi]
   refine ⟨_,fun w' => by simp [Instr.indexAt,Instr.sureAddr,run_underlying hu,asIntOf,run_size hm,hin];rfl,hr,?_⟩
   rw [RI.at_add,Nat.add_assoc]
  ·cases he
 ·-- nilCheck
  split at he
  ·rename_i hx;simp only [Option.some.injEq,Prod.mk.injEq] at he;obtain ⟨rfl,rfl⟩:=he
   obtain ⟨h1,h2⟩:=ev_sound h hx
   exact ⟨_,fun w' => by simp [h2],h1,rfl⟩
  ·rename_i hx;simp only [Option.some.injEq,Prod.mk.injEq] at he;obtain ⟨rfl,rfl⟩:=he
   obtain ⟨h1,h2⟩:=ev_sound h hx
   exact ⟨_,fun w' => by simp [h2],h1,rfl⟩
  ·cases he
 ·-- extract
  split at he
  ·rename_i l hx
   split at he
   ·rename_i c hc;simp only [Option.some.injEq,Prod.mk.injEq] at he;obtain ⟨rfl,rfl⟩:=he
    obtain ⟨ys,hv,hl⟩:=ev_sound h hx
    obtain ⟨y,hy,hcy⟩:=hl.get _ _ hc
    refine ⟨y,fun w' => by simp [hv,Instr.extract,hy],?_⟩
    cases c <;> exact hcy
   ·cases he
  ·cases he
 ·-- build
  split at he
  ·rename_i fs n z hs hz
   split at he
   ·rename_i l hlen hl;simp only [Option.some.injEq,Prod.mk.injEq] at he;obtain ⟨rfl,rfl⟩:=he
    have hty:=hE.tySt hs
    obtain ⟨⟨fields,hu,hp⟩,_⟩:=hty
    obtain ⟨_,i,zv,h1,h2,h3⟩:=hE.zero _ _ hz
    obtain ⟨ys,h4,h5⟩:=evParts_sound h _ _ _ _ hl (h3 _ ρ)
    refine ⟨.agg ys.toArray,fun w' => ?_,ys,rfl,h5⟩
    have:=run_build_st (w:=w') hu hp h1 h2 ((_ : Array (Nat × Operand)).map fun x => (x.1,a.eval x.2)) ys (by simpa using h4)
    simp [this]
   ·cases he
  ·rename_i e m n z hs hz
   split at he
   ·rename_i l hlen hl;simp only [Option.some.injEq,Prod.mk.injEq] at he;obtain ⟨rfl,rfl⟩:=he
    obtain ⟨hu,hm,_⟩:=hE.tyAr hs
    obtain ⟨_,i,zv,h1,h2,h3⟩:=hE.zero _ _ hz
    obtain ⟨ys,h4,h5⟩:=evPartsA_sound h _ _ _ _ hl (h3 _ ρ)
    refine ⟨.agg ys.toArray,fun w' => ?_,ys,rfl,h5⟩
    have:=run_build_ar (w:=w') hu hm h1 h2 ((_ : Array (Nat × Operand)).map fun x => (x.1,a.eval x.2)) ys (by simpa using h4)
    simp [this]
   ·cases he
  ·cases he
end
end Go.Sy
end
section
namespace Go.Sy
open Go Go.RowKit
universe u
def setρ (ρ : Keys) (n : Nat) (η : Path → RI) : Keys:=fun r => if r = n then η else ρ r
section
variable {P : Program} {Γ : Glob} {E : Env} {M : Nat → Prop} {w0 : World} {ρ : Keys} {st : St} {vs : Fv} {a : Act} {w : World}
theorem setρ_lt {n r : Nat} {η : Path → RI} (h : r < n) : setρ ρ n η r = ρ r:=by simp [setρ,Nat.ne_of_lt h]
theorem setρ_at {n : Nat} {η : Path → RI} : setρ ρ n η n = η:=by simp [setρ]
def Weaker (M : Nat → Prop) (w0 w : World) (N : Nat) (ρ : Keys) (r : Nat) (g g' : Reg) : Prop :=
 ∀ π o B',g'.has π o B' → ∃ o2 B,g.has π o2 B ∧ (o = true → o2 = true) ∧ (B.lies N ρ r π w → B'.lies N ρ r π w) ∧ (B.mine M w0 w (ρ r π) → B'.mine M w0 w (ρ r π))
theorem Weaker.refl {N r : Nat} {g : Reg} : Weaker M w0 w N ρ r g g:=fun _ o B h => ⟨o,B,h,id,id,id⟩
theorem weaker_dead {N r : Nat} {g : Reg} : Weaker M w0 w N ρ r g .dead:=fun _ _ _ h => h.elim
theorem Ar.has_flag {te : TypeId} {tg : List CK} {xs : List (Tup tg)} {o i : Bool} {π : Path} {f : Bool} {B : Blk} (h : (Reg.arr te tg xs o i).has π f B) : ∃ A,B = .arr A ∧ Ar.has ⟨te,tg,xs⟩ π A ∧ f = flagAt π o i:=by
 obtain ⟨h1,A,h2,h3⟩:=h;exact ⟨A,h3,h2,h1⟩
theorem weaker_flags {N r : Nat} {te : TypeId} {tg : List CK} {xs : List (Tup tg)} {o i o' i' : Bool} (ho : o' = true → o = true) (hi : i' = true → i = true) :
  Weaker M w0 w N ρ r (.arr te tg xs o i) (.arr te tg xs o' i'):=by
 rintro π f B ⟨rfl,A,hA,rfl⟩
 refine ⟨flagAt π o i,.arr A,⟨rfl,A,hA,rfl⟩,?_,id,id⟩
 cases π with
 | nil => exact ho
 | cons => exact hi
theorem weaker_frozen {N r : Nat} {g : Reg} : Weaker M w0 w N ρ r g g.frozen:=by
 cases g with
 | dead => exact Weaker.refl
 | box o l => rintro π f B ⟨rfl,rfl,rfl⟩;exact ⟨o,.box l,⟨rfl,rfl,rfl⟩,by simp,id,id⟩
 | arr te tg xs o i => exact weaker_flags (by simp) (by simp)
 | map t k c es o => rintro π f B ⟨rfl,rfl,rfl⟩;exact ⟨o,.map k c es,⟨rfl,rfl,rfl⟩,by simp,id,id⟩
 | mps t kk e tg es o i =>
   rintro π f B (⟨rfl,rfl,rfl⟩ | ⟨j,rfl,rfl,hj,hf,rfl⟩)
   ·exact ⟨o,_,.inl ⟨rfl,rfl,rfl⟩,by simp,id,id⟩
   ·exact ⟨i,_,.inr ⟨j,rfl,rfl,hj,hf,rfl⟩,by simp,id,id⟩
 | iter => exact Weaker.refl
 | lp => exact Weaker.refl
theorem set_get {l : List Reg} {r r' : Nat} {g g' : Reg} (h : (l.set r g)[r']? = some g') : (r' = r ∧ g' = g ∧ r < l.length) ∨ (r' ≠ r ∧ l[r']? = some g'):=by
 by_cases he : r' = r
 ·subst he
  have hlt : r' < l.length:=by have:=(List.getElem?_eq_some_iff.1 h).1;simpa using this
  rw [List.getElem?_set_self hlt] at h
  exact .inl ⟨rfl,(Option.some.inj h).symm,hlt⟩
 ·rw [List.getElem?_set_ne (Ne.symm he)] at h
  exact .inr ⟨he,h⟩
theorem Regs.weaken {N : Nat} {rg : List Reg} (h : Regs M w0 N ρ rg w) {r : Nat} {g g' : Reg} (hr : rg[r]? = some g) (hw : Weaker M w0 w N ρ r g g') : Regs M w0 N ρ (rg.set r g') w where
 blk:=fun r1 g1 π o B h1 h2 => by
  rcases set_get h1 with ⟨rfl,rfl,_⟩ | ⟨_,h1⟩
  ·obtain ⟨o2,B2,k1,_,k3,_⟩:=hw π o B h2
   exact k3 (h.blk _ g π o2 B2 hr k1)
  ·exact h.blk r1 g1 π o B h1 h2
 lt:=fun r1 g1 π o B h1 h2 hv => by
  rcases set_get h1 with ⟨rfl,rfl,_⟩ | ⟨_,h1⟩
  ·obtain ⟨o2,B2,k1,_,_,_⟩:=hw π o B h2
   exact h.lt _ g π o2 B2 hr k1 hv
  ·exact h.lt r1 g1 π o B h1 h2 hv
 own:=fun r1 g1 π B h1 h2 hv => by
  rcases set_get h1 with ⟨rfl,rfl,_⟩ | ⟨_,h1⟩
  ·obtain ⟨o2,B2,k1,k2,_,k4⟩:=hw π true B h2
   obtain rfl:=k2 rfl
   exact k4 (h.own _ g π B2 hr k1 hv)
  ·exact h.own r1 g1 π B h1 h2 hv
 dj:=fun r1 r2 g1 g2 π π' o' B B' h1 h2 k1 k2 v1 v2 hne => by
  rcases set_get h1 with ⟨e1,f1,_⟩ | ⟨_,p1⟩ <;> rcases set_get h2 with ⟨e2,f2,_⟩ | ⟨_,p2⟩
  ·subst e1 f1 e2 f2
   obtain ⟨oa,Ba,a1,a2,_,_⟩:=hw π true B k1
   obtain rfl:=a2 rfl
   obtain ⟨ob,Bb,b1,_,_,_⟩:=hw π' o' B' k2
   exact h.dj _ _ g g π π' ob Ba Bb hr hr a1 b1 v1 v2 hne
  ·subst e1 f1
   obtain ⟨oa,Ba,a1,a2,_,_⟩:=hw π true B k1
   obtain rfl:=a2 rfl
   exact h.dj _ _ g g2 π π' o' Ba B' hr p2 a1 k2 v1 v2 hne
  ·subst e2 f2
   obtain ⟨ob,Bb,b1,_,_,_⟩:=hw π' o' B' k2
   exact h.dj _ _ g1 g π π' ob B Bb p1 hr k1 b1 v1 v2 hne
  ·exact h.dj _ _ g1 g2 π π' o' B B' p1 p2 k1 k2 v1 v2 hne
theorem Regs.snoc {N N' : Nat} {rg : List Reg} (h : Regs M w0 N ρ rg w) (hN : N ≤ N') (hN' : N ≤ rg.length) {g : Reg} {η : Path → RI}
  (blk : ∀ π o B,g.has π o B → B.lies N' (setρ ρ rg.length η) rg.length π w) (lt : ∀ π o B,g.has π o B → (η π).void = false → (η π).b < w.heap.size)
  (own : ∀ π B,g.has π true B → (η π).void = false → B.mine M w0 w (η π))
  (djo : ∀ π B,g.has π true B → (η π).void = false → ∀ (r' : Nat) (g' : Reg) π' o' B',rg[r']? = some g' → g'.has π' o' B' → (ρ r' π').void = false → (η π).b ≠ (ρ r' π').b)
  (djn : ∀ π o B,g.has π o B → (η π).void = false → ∀ (r' : Nat) (g' : Reg) π' B',rg[r']? = some g' → g'.has π' true B' → (ρ r' π').void = false → (ρ r' π').b ≠ (η π).b)
  (djs : ∀ π π' o' B B',g.has π true B → g.has π' o' B' → (η π).void = false → (η π').void = false → π ≠ π' → (η π).b ≠ (η π').b) :
  Regs M w0 N' (setρ ρ rg.length η) (rg ++ [g]) w:=by
 have key : ∀ (r : Nat) (g1 : Reg),(rg ++ [g])[r]? = some g1 → (r < rg.length ∧ rg[r]? = some g1) ∨ (r = rg.length ∧ g1 = g):=by
  intro r g1 hr
  rcases Nat.lt_or_ge r rg.length with hl | hl
  ·rw [List.getElem?_append_left hl] at hr;exact .inl ⟨hl,hr⟩
  ·rw [List.getElem?_append_right hl] at hr
   rcases Nat.eq_or_lt_of_le hl with he | he
   ·rw [← he] at hr;simp at hr;exact .inr ⟨he.symm,hr.symm⟩
   ·rw [List.getElem?_eq_none (by simp;omega)] at hr;cases hr
 refine ⟨fun r g1 π o B h1 h2 => ?_,fun r g1 π o B h1 h2 hv => ?_,fun r g1 π B h1 h2 hv => ?_,fun r r' g1 g2 π π' o' B B' h1 h2 k1 k2 v1 v2 hne => ?_⟩
 ·rcases key r g1 h1 with ⟨hl,h1⟩ | ⟨rfl,rfl⟩
  ·exact (h.blk r g1 π o B h1 h2).later (fun _ => by rw [setρ_lt hl]) hN (fun r hr _ => by rw [setρ_lt (Nat.lt_of_lt_of_le hr hN')]) (fun _ => rfl)
  ·exact blk π o B h2
 ·rcases key r g1 h1 with ⟨hl,h1⟩ | ⟨rfl,rfl⟩
  ·rw [setρ_lt hl] at hv ⊢;exact h.lt r g1 π o B h1 h2 hv
  ·rw [setρ_at] at hv ⊢;exact lt π o B h2 hv
 ·rcases key r g1 h1 with ⟨hl,h1⟩ | ⟨rfl,rfl⟩
  ·rw [setρ_lt hl] at hv ⊢;exact h.own r g1 π B h1 h2 hv
  ·rw [setρ_at] at hv ⊢;exact own π B h2 hv
 ·rcases key r g1 h1 with ⟨hl1,p1⟩ | ⟨e1,f1⟩ <;> rcases key r' g2 h2 with ⟨hl2,p2⟩ | ⟨e2,f2⟩
  ·rw [setρ_lt hl1] at v1 ⊢;rw [setρ_lt hl2] at v2 ⊢;exact h.dj r r' g1 g2 π π' o' B B' p1 p2 k1 k2 v1 v2 hne
  ·subst e2 f2;rw [setρ_lt hl1] at v1 ⊢;rw [setρ_at] at v2 ⊢;exact djn π' o' B' k2 v2 r g1 π B p1 k1 v1
  ·subst e1 f1;rw [setρ_at] at v1 ⊢;rw [setρ_lt hl2] at v2 ⊢;exact djo π B k1 v1 r' g2 π' o' B' p2 k2 v2
  ·subst e1 f1 e2 f2;rw [setρ_at] at v1 v2 ⊢;exact djs π π' o' B B' k1 k2 v1 v2 fun e => hne ⟨rfl,e⟩
theorem Regs.fresh {rg : List Reg} (h : Regs M w0 rg.length ρ rg w) {w' : World} (hb : Below w.heap.size w w') {g : Reg} {η : Path → RI}
  (blk : ∀ π o B,g.has π o B → B.lies (rg.length + 1) (setρ ρ rg.length η) rg.length π w') (lt : ∀ π o B,g.has π o B → (η π).void = false → w.heap.size ≤ (η π).b ∧ (η π).b < w'.heap.size)
  (own : ∀ π B,g.has π true B → (η π).void = false → B.mine M w0 w' (η π))
  (one : ∀ π π' o o' B B',g.has π o B → g.has π' o' B' → (η π).void = false → (η π').void = false → π = π') :
  Regs M w0 (rg.length + 1) (setρ ρ rg.length η) (rg ++ [g]) w':=by
 have h':=h.later hb.size hb.block
 refine h'.snoc (Nat.le_succ _) (Nat.le_refl _) blk (fun π o B k v => (lt π o B k v).2) own (fun π B k v r' g' π' o' B' h1 h2 v' => ?_) (fun π o B k v r' g' π' B' h1 h2 v' => ?_) (fun π π' o' B B' k k' v v' hne => absurd (one π π' true o' B B' k k' v v') hne)
 ·have:=(lt π true B k v).1;have:=h.lt r' g' π' o' B' h1 h2 v';omega
 ·have:=(lt π o B k v).1;have:=h.lt r' g' π' true B' h1 h2 v';omega
theorem below_alloc (o : Obj) : Below w.heap.size w (w.alloc o):=(Below.refl _ _).alloc (Nat.le_refl _) o
theorem cell_alloc_at (cs : List Value) (t : TypeId) (o : Nat) : (w.alloc (.cells cs.toArray t)).cell? ⟨w.heap.size,o,none⟩ = cs[o]?:=by
 simp [World.cell?_alloc_new]
theorem Regs.front {N : Nat} {rg ex : List Reg} (h : Regs M w0 N ρ (rg ++ ex) w) : Regs M w0 N ρ rg w:=by
 have key : ∀ (r : Nat) (g : Reg),rg[r]? = some g → (rg ++ ex)[r]? = some g:=fun r g hr => by
  rw [List.getElem?_append_left (List.getElem?_eq_some_iff.1 hr).1];exact hr
 exact ⟨fun r g π o B h1 => h.blk r g π o B (key r g h1),fun r g π o B h1 => h.lt r g π o B (key r g h1),fun r g π B h1 => h.own r g π B (key r g h1),
  fun r r' g g' π π' o' B B' h1 h2 => h.dj r r' g g' π π' o' B B' (key r g h1) (key r' g' h2)⟩
theorem Rel.grow (h : Rel Γ M w0 ρ st vs a w) {w' : World} (hb : Below w.heap.size w w') {gs : List Reg} {ρ' : Keys} (hρ : ∀ r,r < st.rg.length → ∀ π,ρ' r π = ρ r π)
  (hr : Regs M w0 (st.rg.length + gs.length) ρ' (st.rg ++ gs) w') : Rel Γ M w0 ρ' (st.push gs) vs a w' where
 tm:=by
  have:=h.tm.mono (ρ':=ρ') (Nat.le_add_right st.rg.length gs.length) hρ
  simpa [St.push] using this
 fr:=by
  have:=h.fr.mono (R':=Sl.ok (st.rg.length + gs.length) ρ') fun s v hs => hs.mono (Nat.le_add_right _ _) hρ
  simpa [St.push] using this
 df:=h.df
 rs:=by simpa [St.push] using hr
 bl:=h.bl.below hb
 gl:=Γ.st _ _ h.gl fun b hlt => hb.block b (Nat.lt_of_lt_of_le (h.gn b hlt).2 h.bl.size)
 gn:=h.gn
def boxRI (w : World) : Path → RI:=fun _ => ⟨w.heap.size,0,0,0,false⟩
theorem Rel.box (h : Rel Γ M w0 ρ st vs a w) {l : List At} {ys : List Value} (hl : okL (At.ok st.rg.length ρ) l ys) (t : TypeId) :
  Rel Γ M w0 (setρ ρ st.rg.length (boxRI w)) (st.push [.box true l]) vs a (w.alloc (.cells ys.toArray t)):=by
 refine h.grow (below_alloc _) (fun r hr π => by rw [setρ_lt hr]) (h.rs.fresh (below_alloc _) ?_ ?_ ?_ ?_)
 ·rintro π o B ⟨rfl,rfl,rfl⟩
  refine ⟨rfl,by rw [setρ_at];rfl,by rw [setρ_at];rfl,fun j x hx => ?_⟩
  obtain ⟨y,hy,hr⟩:=hl.get j x hx
  refine ⟨y,hr.mono (Nat.le_succ _) fun r hr π => by rw [setρ_lt hr],?_⟩
  rw [setρ_at]
  simp only [RI.at,boxRI,Nat.zero_add]
  rw [cell_alloc_at];exact hy
 ·rintro π o B ⟨rfl,rfl,rfl⟩ _
  exact ⟨Nat.le_refl _,by simp [boxRI]⟩
 ·rintro π B ⟨rfl,_,rfl⟩ _
  exact ⟨.inr h.bl.size,fun j => by simp [boxRI]⟩
 ·rintro π π' o o' B B' ⟨rfl,_⟩ ⟨rfl,_⟩ _ _
  rfl
end
end Go.Sy
end
section
namespace Go.Sy
open Go Go.RowKit
universe u
section
variable {cc : Bool} {P : Program} {Γ : Glob} {E : Env} {M : Nat → Prop} {w0 : World} {ρ : Keys} {st : St} {vs : Fv} {a : Act} {w : World}
theorem castL_rfl {tg : List CK} (h : tg = tg) (xs : List (Tup tg)) : castL h xs = xs:=rfl
structure Side (M : Nat → Prop) (w0 w : World) (ρ : Keys) (st : St) (held : List Reg) : Prop where
 rs : Regs M w0 st.rg.length ρ (st.rg ++ held) w
structure Less (st st' : St) : Prop where
 tm : st'.tm = st.tm
 fr : st'.fr = st.fr
 len : st'.rg.length = st.rg.length
theorem Less.refl (st : St) : Less st st:=⟨rfl,rfl,rfl⟩
theorem Less.trans {a b c : St} (h : Less a b) (k : Less b c) : Less a c:=⟨k.tm.trans h.tm,k.fr.trans h.fr,k.len.trans h.len⟩
theorem Less.setR (st : St) (r : Nat) (g : Reg) : Less st (st.setR r g):=⟨rfl,rfl,by simp [St.setR]⟩
def noRI : RI:=⟨0,0,0,0,true⟩
theorem has_nil {te : TypeId} {tg : List CK} {o i : Bool} {π : Path} {f : Bool} {B : Blk} (h : (Reg.arr te tg [] o i).has π f B) : π = [] ∧ B = .arr ⟨te,tg,[]⟩:=by
 obtain ⟨_,A,hA,rfl⟩:=h
 have gen : ∀ (π : Path) (A : Ar),Ar.has ⟨te,tg,[]⟩ π A → π = [] ∧ A = ⟨te,tg,[]⟩:=by
  intro π
  induction π with
  | nil => intro A h;exact ⟨rfl,h⟩
  | cons ij π ih =>
    intro A h
    obtain ⟨B,h1,h2,_⟩:=h
    obtain ⟨_,rfl⟩:=ih B h1
    simp at h2
 obtain ⟨h1,rfl⟩:=gen π A hA
 exact ⟨h1,rfl⟩
theorem Side.void {held : List Reg} (h : Side M w0 w ρ st held) (e : TypeId) {tg : List CK} (htg : tg ≠ []) :
  Side M w0 w (setρ ρ (st.rg.length + held.length) fun _ => { noRI with m:=tg.length }) st (held ++ [.arr e tg [] true true]):=by
 have hl : (st.rg ++ held).length = st.rg.length + held.length:=by simp
 constructor
 rw [← List.append_assoc,← hl]
 refine h.rs.snoc (Nat.le_refl _) (by simp) ?_ ?_ ?_ ?_ ?_ ?_
 ·intro π o B hB
  obtain ⟨rfl,rfl⟩:=has_nil hB
  refine ⟨htg,by rw [setρ_at],fun _ => rfl,fun hv => by rw [setρ_at] at hv;simp [noRI] at hv,fun i hi => by simp at hi⟩
 all_goals (intros;rename_i hv _;first | (simp [noRI] at hv;done) | skip)
 all_goals simp_all [noRI]
theorem reg_side {held : List Reg} {r : Nat} {g : Reg} (h : st.rg[r]? = some g) : (st.rg ++ held)[r]? = some g:=by
 rw [List.getElem?_append_left (List.getElem?_eq_some_iff.1 h).1];exact h
theorem Side.weaken {held : List Reg} (h : Side M w0 w ρ st held) {r : Nat} {g g' : Reg} (hr : st.rg[r]? = some g) (hw : Weaker M w0 w st.rg.length ρ r g g') : Side M w0 w ρ (st.setR r g') held:=by
 constructor
 have:=h.rs.weaken (reg_side (held:=held) hr) hw
 have e : (st.rg ++ held).set r g' = st.rg.set r g' ++ held:=by rw [List.set_append_left _ _ (List.getElem?_eq_some_iff.1 hr).1]
 rw [e] at this
 simpa [St.setR] using this
theorem Side.move {held : List Reg} (h : Side M w0 w ρ st held) {r : Nat} {g : Reg} (hr : st.rg[r]? = some g) (hb : ∀ π o B,g.has π o B → ∃ A,B = .arr A) :
  Side M w0 w (setρ ρ (st.rg.length + held.length) (ρ r)) (st.setR r .dead) (held ++ [g]):=by
 have h1:=h.weaken hr (weaker_dead (M:=M) (w0:=w0) (w:=w) (N:=st.rg.length) (ρ:=ρ) (r:=r) (g:=g))
 have hl : ((st.setR r .dead).rg ++ held).length = st.rg.length + held.length:=by simp [St.setR]
 have hN : (st.setR r .dead).rg.length = st.rg.length:=by simp [St.setR]
 have hs:=reg_side (held:=held) hr
 constructor
 rw [← List.append_assoc,← hl,hN]
 have hrr:=h1.rs
 rw [hN] at hrr
 have old : ∀ (r' : Nat) (g' : Reg) π o B,((st.setR r .dead).rg ++ held)[r']? = some g' → g'.has π o B → r' ≠ r ∧ (st.rg ++ held)[r']? = some g':=by
  intro r' g' π o B h1 h2
  have e : (st.setR r .dead).rg ++ held = (st.rg ++ held).set r .dead:=by simp only [St.setR];rw [List.set_append_left _ _ (List.getElem?_eq_some_iff.1 hr).1]
  rw [e] at h1
  rcases set_get h1 with ⟨_,rfl,_⟩ | h1
  ·exact h2.elim
  ·exact h1
 refine hrr.snoc (Nat.le_refl _) (by rw [hl];omega) ?_ ?_ ?_ ?_ ?_ ?_
 ·intro π o B hB
  have:=h.rs.blk r g π o B hs hB
  obtain ⟨A,rfl⟩:=hb π o B hB
  exact Ar.lies.later (w:=w) (η:=ρ r) (fun σ => by rw [setρ_at]) (fun _ => rfl) this
 ·intro π o B hB hv;exact h.rs.lt r g π o B hs hB hv
 ·intro π B hB hv;exact h.rs.own r g π B hs hB hv
 ·intro π B hB hv r' g' π' o' B' k1 k2 v'
  obtain ⟨hne,k1⟩:=old r' g' π' o' B' k1 k2
  exact h.rs.dj r r' g g' π π' o' B B' hs k1 hB k2 hv v' (fun e => hne e.1.symm)
 ·intro π o B hB hv r' g' π' B' k1 k2 v'
  obtain ⟨hne,k1⟩:=old r' g' π' true B' k1 k2
  exact h.rs.dj r' r g' g π' π o B' B k1 hs k2 hB v' hv (fun e => hne e.1)
 ·intro π π' o' B B' k k' v v' hne
  exact h.rs.dj r r g g π π' o' B B' hs hs k k' v v' (fun e => hne e.2)
theorem flat_sub {tg : List CK} (hf : flatK tg = true) : ∀ (x : Tup tg) (j : Nat),Tup.sub tg x j = none:=by
 have one : ∀ (c : CK) (x : c.ty),c.flat = true → c.sub x = none:=fun c x h => by cases c <;> first | rfl | cases h
 intro x j
 induction tg generalizing j with
 | nil => rfl
 | cons c cs ih =>
   simp only [flatK] at hf
   split at hf
   ·rename_i hc
    cases cs with
    | nil => cases j with
      | zero => exact one c x hc
      | succ j => rfl
    | cons c' cs =>
      cases j with
      | zero => exact one c x.1 hc
      | succ j => exact ih hf x.2 j
   ·cases hf
theorem has_flat {te : TypeId} {tg : List CK} {xs : List (Tup tg)} (hf : flatK tg = true) : ∀ {π : Path} {A : Ar},Ar.has ⟨te,tg,xs⟩ π A → π = [] ∧ A = ⟨te,tg,xs⟩
 | [],_,h => ⟨rfl,h⟩
 | (i,j) :: π,A,h => by
   obtain ⟨B,h1,_,h3⟩:=h
   obtain ⟨rfl,rfl⟩:=has_flat hf h1
   rw [flat_sub hf] at h3;cases h3
theorem lies_flat {η η' : Path → RI} {π π' : Path} {i i' : Nat} : ∀ {tg : List CK} {j j' : Nat} {x : Tup tg} {ys : List Value},flatK tg = true → Tup.lies η π i j tg x ys → Tup.lies η' π' i' j' tg x ys:=by
 have one : ∀ {c : CK} {j j' : Nat} {x : c.ty} {y : Value},c.flat = true → c.lies η π i j x y → c.lies η' π' i' j' x y:=fun {c} _ _ _ _ hf h => by
  cases c <;> first | exact h | cases hf
 intro tg
 induction tg with
 | nil => intro j j' x ys _ h;exact h
 | cons c cs ih =>
   intro j j' x ys hf h
   simp only [flatK] at hf
   split at hf
   ·rename_i hc
    cases cs with
    | nil => obtain ⟨y,h1,h2⟩:=h;exact ⟨y,h1,one hc h2⟩
    | cons c' cs => obtain ⟨y,ys',h1,h2,h3⟩:=h;exact ⟨y,ys',h1,one hc h2,ih hf h3⟩
   ·cases hf
theorem take_drop_get {te : TypeId} {tg : List CK} {xs : List (Tup tg)} {lo n i : Nat} (hi : i < ((xs.drop lo).take n).length) : Ar.get ⟨te,tg,(xs.drop lo).take n⟩ i = Ar.get ⟨te,tg,xs⟩ (lo + i):=by
 simp only [List.length_take,List.length_drop] at hi
 simp only [Ar.get,List.getD_eq_getElem?_getD]
 rw [List.getElem?_take_of_lt (by omega),List.getElem?_drop]
def RI.shift (I : RI) (lo : Nat) : RI:=⟨I.b,I.off + lo * I.m,I.m,I.cap - lo,I.void⟩
theorem RI.shift_at (I : RI) (lo o : Nat) : (I.shift lo).at o = I.at (lo * I.m + o):=by simp [RI.shift,RI.at,Nat.add_assoc]
theorem lies_part {te : TypeId} {tg : List CK} {xs : List (Tup tg)} (hf : flatK tg = true) {η : Path → RI} {π : Path} {lo n : Nat} (h : Ar.lies w η π ⟨te,tg,xs⟩) (hln : lo + n ≤ xs.length) {η' : Path → RI} {π' : Path} (he : η' π' = (η π).shift lo) (te' : TypeId) :
  Ar.lies w η' π' ⟨te',tg,(xs.drop lo).take n⟩ where
 tg:=h.tg
 m:=by rw [he];exact h.m
 void:=fun hv => by rw [he] at hv;have:=h.void hv;simp only at this ⊢;rw [this];simp
 len:=fun hv => by rw [he] at hv ⊢;have:=h.len hv;simp only [RI.shift,List.length_take,List.length_drop] at this ⊢;omega
 cell:=fun i hi => by
  have hi' : i < ((xs.drop lo).take n).length:=hi
  rw [take_drop_get (te:=te') hi']
  obtain ⟨ys,h1,h2⟩:=h.cell (lo + i) (by simp only [List.length_take,List.length_drop] at hi' ⊢;omega)
  refine ⟨ys,lies_flat hf h1,fun s y hy => ?_⟩
  rw [he,RI.shift_at]
  have:=h2 s y hy
  simp only [RI.shift]
  rw [show lo * (η π).m + (i * (η π).m + s) = (lo + i) * (η π).m + s by rw [Nat.add_mul];omega]
  exact this
theorem head_shift {I : RI} {lo n : Nat} {y : Value} (h : I.head lo n y) : (I.shift lo).head 0 n y:=by
 refine ⟨fun hv => h.1 hv,fun hv => ?_⟩
 obtain ⟨h1,a,h2,h3⟩:=h.2 hv
 refine ⟨by simp only [RI.shift];omega,a,by simpa [RI.shift] using h2,fun hlt => ?_⟩
 rw [h3 (by simp only [RI.shift] at hlt;omega)]
 simp [RI.shift,RI.at]
theorem has_flag1 {g : Reg} {π : Path} {o o' : Bool} {B B' : Blk} (h : g.has π o B) (h' : g.has π o' B') : o = o':=by
 cases g with
 | dead => exact h.elim
 | box ow l => exact h.2.1.trans h'.2.1.symm
 | arr te tg xs ow i => exact h.1.trans h'.1.symm
 | map => exact h.2.1.trans h'.2.1.symm
 | mps =>
   rcases h with ⟨h1,h2,_⟩ | ⟨j,h1,h2,_⟩ <;> rcases h' with ⟨k1,k2,_⟩ | ⟨k,k1,k2,_⟩
   ·exact h2.trans k2.symm
   ·rw [h1] at k1;cases k1
   ·rw [h1] at k1;cases k1
   ·exact h2.trans k2.symm
 | iter => exact h.2.1.trans h'.2.1.symm
 | lp => exact h.2.1.trans h'.2.1.symm
theorem Side.share {held : List Reg} (h : Side M w0 w ρ st held) {r : Nat} {g : Reg} {π : Path} {B : Ar} (hr : st.rg[r]? = some g) (hB : g.has π false (.arr B)) (hf : flatK B.tg = true) {lo n : Nat} (hln : lo + n ≤ B.xs.length) (te : TypeId) :
  Side M w0 w (setρ ρ (st.rg.length + held.length) fun _ => (ρ r π).shift lo) st (held ++ [.arr te B.tg ((B.xs.drop lo).take n) false false]):=by
 have hl : (st.rg ++ held).length = st.rg.length + held.length:=by simp
 have hs:=reg_side (held:=held) hr
 have hL : B.lies w (ρ r) π:=h.rs.blk r g π false (.arr B) hs hB
 have noown : ∀ {π' : Path} {C : Blk},¬ (Reg.arr te B.tg ((B.xs.drop lo).take n) false false).has π' true C:=by
  rintro π' C ⟨h1,_⟩
  cases π' <;> simp [flagAt] at h1
 constructor
 rw [← List.append_assoc,← hl]
 refine h.rs.snoc (Nat.le_refl _) (by simp) ?_ ?_ ?_ ?_ ?_ ?_
 ·rintro π' o C ⟨_,A,hA,rfl⟩
  obtain ⟨rfl,rfl⟩:=has_flat hf hA
  exact lies_part (te:=B.te) (η:=ρ r) hf hL hln (by rw [setρ_at]) te
 ·rintro π' o C hC hv;exact h.rs.lt r g π false (.arr B) hs hB hv
 ·intro π' C hC;exact absurd hC noown
 ·intro π' C hC;exact absurd hC noown
 ·intro π' o C hC hv r' g' π2 C' k1 k2 v'
  exact h.rs.dj r' r g' g π2 π false C' (.arr B) k1 hs k2 hB v' hv (fun e => by
   obtain ⟨rfl,rfl⟩:=e
   obtain rfl:=Option.some.inj (k1.symm.trans hs)
   exact absurd (has_flag1 k2 hB) (by simp))
 ·intro π' π2 o' C C' hC;exact absurd hC noown
theorem grabK_sound {held : List Reg} (h : Side M w0 w ρ st held) {e : TypeId} {tg : List CK} {x : At} {y : Value} {K : St → List (Tup tg) → Bool → Prop} (hx : x.ok st.rg.length ρ y) (htg : tg ≠ []) (hK : grabK cc st e tg x K) :
  ∃ (st' : St) (ys : List (Tup tg)) (b : Bool) (η : Path → RI),K st' ys b ∧ Less st st' ∧ Side M w0 w (setρ ρ (st.rg.length + held.length) η) st' (held ++ [.arr e tg ys b b]) ∧ (η []).head 0 ys.length y:=by
 unfold grabK at hK
 split at hK
 ·obtain ⟨rfl,_⟩:=hx
  exact ⟨st,[],true,_,hK,Less.refl _,h.void e htg,fun _ => ⟨rfl,none,rfl⟩,fun hv => by simp [noRI] at hv⟩
 ·obtain ⟨ad,rfl⟩:=hx
  exact ⟨st,[],true,_,hK,Less.refl _,h.void e htg,fun _ => ⟨rfl,ad,rfl⟩,fun hv => by simp [noRI] at hv⟩
 ·rename_i r π lo n
  obtain ⟨hr,hh⟩:=hx
  split at hK
  ·rename_i ys hm
   split at hm
   ·rename_i e' tg' xs hg
    split at hm
    ·rename_i ht he htt
     obtain rfl:=Nat.eq_of_beq_eq_true he
     obtain rfl:=ht.down
     obtain rfl:=Option.some.inj hm
     rw [oblige_iff,St.setRK_eq] at hK
     obtain ⟨⟨hn,_⟩,hK⟩:=hK
     simp only [Duty.of_p] at hn
     have hgr:=getD_reg hg (by simp)
     exact ⟨_,_,true,ρ r,hK,Less.setR _ _ _,h.move hgr (fun π o B hB => ⟨_,(Ar.has_flag hB).choose_spec.1⟩),by rw [← hn];exact hh⟩
    ·cases hm
   ·cases hm
  ·split at hK
   ·rename_i q B hd
    split at hK
    ·rename_i ht he htt hf
     rw [oblige_iff,obl_append,St.setRK_eq] at hK
     obtain ⟨⟨hq,hln,_⟩,hK⟩:=hK
     simp only [Duty.of_p] at hln
     obtain rfl:=Nat.eq_of_beq_eq_true he
     obtain ⟨_,hnd,h1,_⟩:=Reg.dn_has hd hq
     generalize hg : st.rg.getD r .dead = g at *
     have hgr:=getD_reg hg hnd
     obtain ⟨te,tg1,xs⟩:=B
     obtain rfl:=ht.down
     have hw:=h.weaken hgr weaker_frozen
     have hgr' : (st.setR r g.frozen).rg[r]? = some g.frozen:=by
      simp only [St.setR]
      rw [List.getElem?_set_self hr]
     have hlen : (st.setR r g.frozen).rg.length = st.rg.length:=by simp [St.setR]
     have hs:=hw.share (π:=π) (B:=⟨te,tg1,xs⟩) hgr' h1 hf hln te
     rw [hlen] at hs
     refine ⟨_,_,false,_,hK,Less.setR _ _ _,hs,?_⟩
     have : ((xs.drop lo).take n).length = n:=by simp only [List.length_take,List.length_drop] at hln ⊢;omega
     show (RI.shift (ρ r π) lo).head 0 ((xs.drop lo).take n).length y
     rw [this]
     exact head_shift hh
    ·exact hK.elim
   ·exact hK.elim
 ·exact hK.elim
end
end Go.Sy
end
section
namespace Go.Sy
open Go Go.RowKit
universe u
section
variable {cc : Bool} {P : Program} {Γ : Glob} {E : Env} {M : Nat → Prop} {w0 : World} {ρ : Keys} {st : St} {vs : Fv} {a : Act} {w : World}
/-! ### Ways,from the outside -/
def gl (I : RI) (cfg : Nat → Nat → Path → RI) (π : Path) : RI:=match π.reverse with | [] => I | (i,j) :: τ => cfg i j τ.reverse
theorem gl_nil {I : RI} {cfg : Nat → Nat → Path → RI} : gl I cfg [] = I:=rfl
theorem gl_snoc {I : RI} {cfg : Nat → Nat → Path → RI} {σ : Path} {i j : Nat} : gl I cfg (σ ++ [(i,j)]) = cfg i j σ:=by simp [gl]
theorem path_last : ∀ (π : Path),π = [] ∨ ∃ σ i j,π = σ ++ [(i,j)]
 | [] => .inl rfl
 | (i,j) :: π => by
   rcases path_last π with rfl | ⟨σ,k,l,rfl⟩
   ·exact .inr ⟨[],i,j,rfl⟩
   ·exact .inr ⟨(i,j) :: σ,k,l,rfl⟩
theorem has_snoc {A : Ar} {i j : Nat} : ∀ {σ : Path} {C : Ar},A.has (σ ++ [(i,j)]) C ↔ ∃ B,i < A.xs.length ∧ Tup.sub A.tg (A.get i) j = some B ∧ B.has σ C
 | [],C => by
   constructor
   ·rintro ⟨B,rfl,h1,h2⟩;exact ⟨C,h1,h2,rfl⟩
   ·rintro ⟨B,h1,h2,rfl⟩;exact ⟨A,rfl,h1,h2⟩
 | (k,l) :: σ,C => by
   constructor
   ·rintro ⟨D,h1,h2,h3⟩
    obtain ⟨B,b1,b2,b3⟩:=has_snoc.1 h1
    exact ⟨B,b1,b2,D,b3,h2,h3⟩
   ·rintro ⟨B,b1,b2,D,d1,d2,d3⟩
    exact ⟨D,has_snoc.2 ⟨B,b1,b2,d1⟩,d2,d3⟩
theorem consT_sub0 {c : CK} : ∀ {cs : List CK} {y : c.ty} {z : Tup cs},Tup.sub (c :: cs) (consT c cs y z) 0 = c.sub y
 | [],_,_ => rfl
 | _ :: _,_,_ => rfl
theorem consT_sub1 {c : CK} {j : Nat} : ∀ {cs : List CK} {y : c.ty} {z : Tup cs},Tup.sub (c :: cs) (consT c cs y z) (j + 1) = Tup.sub cs z j
 | [],_,_ => rfl
 | _ :: _,_,_ => rfl
theorem consT_lies {c : CK} {η : Path → RI} {π : Path} {i j : Nat} {v : Value} : ∀ {cs : List CK} {y : c.ty} {z : Tup cs} {ys : List Value},c.lies η π i j y v → Tup.lies η π i (j + 1) cs z ys → Tup.lies η π i j (c :: cs) (consT c cs y z) (v :: ys)
 | [],_,_,_,h,h' => by have h'' : _ = []:=h';subst h'';exact ⟨v,rfl,h⟩
 | _ :: _,_,_,_,h,h' => ⟨v,_,rfl,h,h'⟩
theorem ofAt_lies {c : CK} (hc : c.flat = true) {N : Nat} {x : At} {b : c.ty} {y : Value} (h : c.ofAt x = some b) (hy : x.ok N ρ y) (η : Path → RI) (π : Path) (i j : Nat) : c.lies η π i j b y:=by
 have key : ∀ v,c.of v = some b → c.lies η π i j b v:=by
  intro v hv
  cases c with
  | int k =>
    cases v <;> simp only [CK.of] at hv <;> try (cases hv;done)
    split at hv
    ·rename_i hk;obtain rfl:=sameKind_eq hk;obtain rfl:=Option.some.inj hv;exact rfl
    ·cases hv
  | bool => cases v <;> simp only [CK.of] at hv <;> try (cases hv;done)
            obtain rfl:=Option.some.inj hv;exact rfl
  | str => cases v <;> simp only [CK.of] at hv <;> try (cases hv;done)
           obtain rfl:=Option.some.inj hv;exact rfl
  | sl => cases hc
 cases x <;> simp only [CK.ofAt] at h <;> try (cases h;done)
 ·obtain ⟨rfl,_⟩:=hy;exact key _ h
 ·obtain rfl : y = .bool true:=hy;exact key _ h
 ·obtain rfl : y = .bool false:=hy;exact key _ h
theorem flat_subC {c : CK} (hc : c.flat = true) (x : c.ty) : c.sub x = none:=by cases c <;> first | rfl | cases hc
theorem bAnd_l {a b : Bool} (h : bAnd a b = true) : a = true:=by cases a;exact h;rfl
theorem bAnd_r {a b : Bool} (h : bAnd a b = true) : b = true:=by cases a;cases h;exact h
structure Filled (N : Nat) (ρ : Keys) (held : List Reg) (lo : Nat) (b : Bool) (tg : List CK) (x : Tup tg) (j0 : Nat) (ys : List Value) (cfg : Nat → Path → RI) (ix : Nat → Nat) : Prop where
 lies : ∀ (η : Path → RI) (π : Path) (i : Nat),(∀ j,η ((i,j0 + j) :: π) = cfg j []) → Tup.lies η π i j0 tg x ys
 sub : ∀ j C,Tup.sub tg x j = some C → lo ≤ ix j ∧ ∃ b',(b = true → b' = true) ∧ held[ix j]? = some (.arr C.te C.tg C.xs b' b') ∧ ρ (N + ix j) = cfg j
 inj : ∀ j j' C C',Tup.sub tg x j = some C → Tup.sub tg x j' = some C' → ix j = ix j' → j = j'
theorem cellK_flat {st : St} {c : CK} {x : At} {K : St → c.ty → Bool → Prop} (hf : c.flat = true) (hK : cellK cc st c x K) : ∃ v,c.ofAt x = some v ∧ K st v true:=by
 cases c with
 | sl => cases hf
 | int k =>
   unfold cellK at hK
   dsimp only at hK
   split at hK
   ·exact ⟨_,by assumption,hK⟩
   ·exact hK.elim
 | bool =>
   unfold cellK at hK
   dsimp only at hK
   split at hK
   ·exact ⟨_,by assumption,hK⟩
   ·exact hK.elim
 | str =>
   unfold cellK at hK
   dsimp only at hK
   split at hK
   ·exact ⟨_,by assumption,hK⟩
   ·exact hK.elim
theorem cellK_sl {st : St} {e : TypeId} {tg : List CK} {x : At} {K : St → List (Tup tg) → Bool → Prop} (hK : cellK cc st (.sl e tg) x K) : grabK cc st e tg x K:=by
 unfold cellK at hK;exact hK
theorem cellK_sl_sound {held : List Reg} (h : Side M w0 w ρ st held) {e : TypeId} {tg : List CK} {x : At} {y : Value} {K : St → (CK.sl e tg).ty → Bool → Prop} (hx : x.ok st.rg.length ρ y) (htg : tg ≠ []) (hK : cellK cc st (.sl e tg) x K) :
  ∃ (st' : St) (v : (CK.sl e tg).ty) (b : Bool) (η : Path → RI),K st' v b ∧ Less st st' ∧ (∀ C,CK.sub (.sl e tg) v = some C → Side M w0 w (setρ ρ (st.rg.length + held.length) η) st' (held ++ [.arr C.te C.tg C.xs b b])) ∧
   ∀ (η' : Path → RI) (π : Path) (i j : Nat),η' ((i,j) :: π) = η [] → CK.lies η' π i j (.sl e tg) v y:=by
 obtain ⟨st',ys,b,η,h1,h2,h3,h4⟩:=grabK_sound h hx htg (cellK_sl hK)
 refine ⟨st',ys,b,η,h1,h2,fun C hC => ?_,fun η' π i j he => ?_⟩
 ·obtain rfl:=Option.some.inj hC;exact h3
 ·show RI.head (η' ((i,j) :: π)) 0 _ y
  rw [he];exact h4
theorem sub_sl {e : TypeId} {tg : List CK} (v : (CK.sl e tg).ty) : ∃ C,CK.sub (.sl e tg) v = some C:=⟨_,rfl⟩
theorem cellsK_sound : ∀ {tg : List CK} {st : St} {ρ : Keys} {held : List Reg} {l : List At} {ys : List Value} {K : St → Tup tg → Bool → Prop} (j0 : Nat),allL CK.ne tg = true → Side M w0 w ρ st held → okL (At.ok st.rg.length ρ) l ys → cellsK cc tg st l K →
  ∃ (st' : St) (x : Tup tg) (b : Bool) (items : List Reg) (ρ' : Keys) (cfg : Nat → Path → RI) (ix : Nat → Nat),K st' x b ∧ Less st st' ∧ Side M w0 w ρ' st' (held ++ items) ∧ (∀ r,r < st.rg.length + held.length → ρ' r = ρ r) ∧
   Filled st.rg.length ρ' (held ++ items) held.length b tg x j0 ys cfg ix:=by
 intro tg
 induction tg with
 | nil =>
   intro st ρ held l ys K j0 _ h hl hK
   cases l with
   | cons => exact hK.elim
   | nil =>
     cases ys with
     | cons => exact hl.elim
     | nil =>
       exact ⟨st,(),true,[],ρ,fun _ _ => noRI,fun _ => 0,hK,Less.refl _,by simpa using h,fun _ _ => rfl,⟨fun _ _ _ _ => rfl,fun j C hC => (by cases hC),fun j j' C C' hC => (by cases hC)⟩⟩
 | cons c cs ih =>
   intro st ρ held l ys K j0 hne h hl hK
   cases l with
   | nil => exact hK.elim
   | cons x xs =>
     cases ys with
     | nil => exact hl.elim
     | cons y ys =>
       simp only [allL] at hne
       split at hne
       case h_2 => cases hne
       rename_i hcne
       change cellK cc st c x (fun st y b => cellsK cc cs st xs (fun st z b' => K st (consT c cs y z) (bAnd b b'))) at hK
       -- the first cell
       have plain : c.flat = true →
         ∃ (st' : St) (x : Tup (c :: cs)) (b : Bool) (items : List Reg) (ρ' : Keys) (cfg : Nat → Path → RI) (ix : Nat → Nat),K st' x b ∧ Less st st' ∧ Side M w0 w ρ' st' (held ++ items) ∧ (∀ r,r < st.rg.length + held.length → ρ' r = ρ r) ∧
          Filled st.rg.length ρ' (held ++ items) held.length b (c :: cs) x j0 (y :: ys) cfg ix:=by
        intro hf
        obtain ⟨v,hv,hK⟩:=cellK_flat hf hK
        ·obtain ⟨st',z,b,items,ρ',cfg,ix,k1,k2,k3,k4,k5⟩:=ih (j0 + 1) hne h hl.2 hK
         refine ⟨st',consT c cs v z,bAnd true b,items,ρ',fun j => match j with | 0 => fun _ => noRI | j + 1 => cfg j,fun j => match j with | 0 => 0 | j + 1 => ix j,k1,k2,k3,k4,⟨fun η π i hη => ?_,fun j C hC => ?_,fun j j' C C' hC hC' he => ?_⟩⟩
         ·exact consT_lies (ofAt_lies hf hv hl.1 _ _ _ _) (k5.lies η π i fun j => by have:=hη (j + 1);rw [show j0 + 1 + j = j0 + (j + 1) by omega];exact this)
         ·cases j with
          | zero => rw [consT_sub0,flat_subC hf] at hC;cases hC
          | succ j => rw [consT_sub1] at hC;exact k5.sub j C hC
         ·cases j with
          | zero => rw [consT_sub0,flat_subC hf] at hC;cases hC
          | succ j =>
            cases j' with
            | zero => rw [consT_sub0,flat_subC hf] at hC';cases hC'
            | succ j' => rw [consT_sub1] at hC hC';rw [k5.inj j j' C C' hC hC' he]
       cases c with
       | int k => exact plain rfl
       | bool => exact plain rfl
       | str => exact plain rfl
       | sl e tg' =>
         have htg : tg' ≠ []:=by rintro rfl;cases hcne
         obtain ⟨st1,v,b1,η1,k1,k2,k3,k4⟩:=cellK_sl_sound h hl.1 htg hK
         obtain ⟨C0,hC0⟩:=sub_sl v
         have k3:=k3 C0 hC0
         have hl1 : okL (At.ok st1.rg.length (setρ ρ (st.rg.length + held.length) η1)) xs ys:=okAt_mono (by rw [k2.len];exact Nat.le_refl _) (fun r hr π => by rw [setρ_lt (by omega)]) hl.2
         obtain ⟨st',z,b,items,ρ',cfg,ix,m1,m2,m3,m4,m5⟩:=ih (j0 + 1) hne k3 hl1 k1
         rw [k2.len] at m4 m5
         have hN : (held ++ [Reg.arr C0.te C0.tg C0.xs b1 b1]).length = held.length + 1:=by simp
         have hη : ρ' (st.rg.length + held.length) = η1:=by rw [m4 _ (by rw [hN];omega),setρ_at]
         refine ⟨st',consT (.sl e tg') cs v z,bAnd b1 b,.arr C0.te C0.tg C0.xs b1 b1 :: items,ρ',fun j => match j with | 0 => η1 | j + 1 => cfg j,fun j => match j with | 0 => held.length | j + 1 => ix j,m1,k2.trans m2,by simpa using m3,
          fun r hr => by rw [m4 r (by rw [hN];omega),setρ_lt hr],⟨fun η π i hη => ?_,fun j C hC => ?_,fun j j' C C' hC hC' he => ?_⟩⟩
         ·refine consT_lies (c:=.sl e tg') ?_ (m5.lies η π i fun j => by have:=hη (j + 1);rw [show j0 + 1 + j = j0 + (j + 1) by omega];exact this)
          exact k4 η π i j0 (hη 0)
         ·cases j with
          | zero =>
            rw [consT_sub0,hC0] at hC
            obtain rfl:=Option.some.inj hC
            exact ⟨Nat.le_refl _,b1,bAnd_l,by simp,hη⟩
          | succ j =>
            rw [consT_sub1] at hC
            obtain ⟨h1,b',h2,h3,h4⟩:=m5.sub j C hC
            exact ⟨by rw [hN] at h1;exact Nat.le_of_succ_le h1,b',fun hb => h2 (bAnd_r hb),by simpa using h3,h4⟩
         ·cases j with
          | zero =>
            cases j' with
            | zero => rfl
            | succ j' =>
              rw [consT_sub1] at hC'
              have:=(m5.sub j' C' hC').1
              rw [hN] at this
              have he' : held.length = ix j':=he
              omega
          | succ j =>
            cases j' with
            | zero =>
              rw [consT_sub1] at hC
              have:=(m5.sub j C hC).1
              rw [hN] at this
              have he' : ix j = held.length:=he
              omega
            | succ j' => rw [consT_sub1] at hC hC';rw [m5.inj j j' C C' hC hC' he]
structure FilledL (N : Nat) (ρ : Keys) (held : List Reg) (lo : Nat) (b : Bool) (tg : List CK) (xs : List (Tup tg)) (i0 : Nat) (vals : List (List Value)) (cfg : Nat → Nat → Path → RI) (ix : Nat → Nat → Nat) : Prop where
 len : vals.length = xs.length
 lies : ∀ (η : Path → RI) (π : Path),(∀ i j,η ((i0 + i,j) :: π) = cfg i j []) → ∀ i,i < xs.length → ∃ ys,vals[i]? = some ys ∧ Tup.lies η π (i0 + i) 0 tg (xs.getD i (Tup.d tg)) ys
 sub : ∀ i j C,i < xs.length → Tup.sub tg (xs.getD i (Tup.d tg)) j = some C → lo ≤ ix i j ∧ ∃ b',(b = true → b' = true) ∧ held[ix i j]? = some (.arr C.te C.tg C.xs b' b') ∧ ρ (N + ix i j) = cfg i j
 inj : ∀ i j i' j' C C',i < xs.length → i' < xs.length → Tup.sub tg (xs.getD i (Tup.d tg)) j = some C → Tup.sub tg (xs.getD i' (Tup.d tg)) j' = some C' → ix i j = ix i' j' → i = i' ∧ j = j'
theorem ev_less {st st' : St} (h : Less st st') (o : Operand) : ev st' o = ev st o:=by
 cases o <;> simp only [ev,h.tm]
theorem litK_sound {tg : List CK} (hne : allL CK.ne tg = true) : ∀ {parts : List (Nat × Operand)} {pos : Nat} {st : St} {ρ : Keys} {held : List Reg} {K : St → List (Tup tg) → Bool → Prop},Side M w0 w ρ st held →
  (∀ o x,ev st o = some x → x.ok st.rg.length ρ (a.eval o)) → litK cc tg pos parts st K →
  ∃ (st' : St) (xs : List (Tup tg)) (b : Bool) (items : List Reg) (ρ' : Keys) (cfg : Nat → Nat → Path → RI) (ix : Nat → Nat → Nat),K st' xs b ∧ Less st st' ∧ Side M w0 w ρ' st' (held ++ items) ∧ (∀ r,r < st.rg.length + held.length → ρ' r = ρ r) ∧
   FilledL st.rg.length ρ' (held ++ items) held.length b tg xs pos (parts.map fun p => (a.eval p.2).cells.toList) cfg ix ∧ (parts.map Prod.fst) = List.range' pos xs.length:=by
 intro parts
 induction parts with
 | nil =>
   intro pos st ρ held K h _ hK
   exact ⟨st,[],true,[],ρ,fun _ _ _ => noRI,fun _ _ => 0,hK,Less.refl _,by simpa using h,fun _ _ => rfl,⟨rfl,fun _ _ _ i hi => (by simp at hi),fun i j C hi => (by simp at hi),fun i j i' j' C C' hi => (by simp at hi)⟩,rfl⟩
 | cons io rest ih =>
   intro pos st ρ held K h hev hK
   obtain ⟨i,o⟩:=io
   change (match Nat.beq i pos,ev st o with
      | true,some x =>
        (match tmCells x with
         | some l => cellsK cc tg st l (fun st a b => litK cc tg (pos + 1) rest st (fun st xs b' => K st (a :: xs) (bAnd b b')))
         | none => False)
      | _,_ => False) at hK
   split at hK
   ·rename_i x hi hx
    obtain rfl:=Nat.eq_of_beq_eq_true hi
    split at hK
    ·rename_i l hl
     obtain ⟨c1,_,_⟩:=tmCells_sound (hev o x hx) hl
     obtain ⟨st1,y,b1,items1,ρ1,cfg1,ix1,k1,k2,k3,k4,k5⟩:=cellsK_sound 0 hne h c1 hK
     have hev1 : ∀ o x,ev st1 o = some x → x.ok st1.rg.length ρ1 (a.eval o):=fun o x hx => by
      rw [ev_less k2] at hx
      exact (hev o x hx).mono (by rw [k2.len];exact Nat.le_refl _) (fun r hr π => by rw [k4 r (by omega)])
     obtain ⟨st',xs,b,items,ρ',cfg,ix,m1,m2,m3,m4,m5,m6⟩:=ih k3 hev1 k1
     rw [k2.len] at m4 m5
     have hN : (held ++ items1).length = held.length + items1.length:=by simp
     have hold : ∀ q,q < (held ++ items1).length → ρ' (st.rg.length + q) = ρ1 (st.rg.length + q):=fun q hq => m4 _ (by omega)
     have hget : ∀ q g,(held ++ items1)[q]? = some g → (held ++ (items1 ++ items))[q]? = some g:=fun q g hq => by
      rw [← List.append_assoc,List.getElem?_append_left (List.getElem?_eq_some_iff.1 hq).1];exact hq
     refine ⟨st',y :: xs,bAnd b1 b,items1 ++ items,ρ',fun i => match i with | 0 => cfg1 | i + 1 => cfg i,fun i => match i with | 0 => ix1 | i + 1 => ix i,m1,k2.trans m2,by simpa using m3,
      fun r hr => by rw [m4 r (by rw [hN];omega),k4 r hr],⟨by simp [m5.len],fun η π hη k hk => ?_,fun k j C hk hC => ?_,fun k j k' j' C C' hk hk' hC hC' he => ?_⟩,?_⟩
     ·cases k with
      | zero => exact ⟨_,rfl,k5.lies η π i fun j => by have:=hη 0 j;simpa using this⟩
      | succ k =>
        obtain ⟨ys,h1,h2⟩:=m5.lies η π (fun k j => by have:=hη (k + 1) j;rw [show i + 1 + k = i + (k + 1) by omega];exact this) k (by simpa using hk)
        exact ⟨ys,by simpa using h1,by rw [show i + (k + 1) = i + 1 + k by omega];simpa using h2⟩
     ·cases k with
      | zero =>
        obtain ⟨h1,b',h2,h3,h4⟩:=k5.sub j C (by simpa using hC)
        exact ⟨h1,b',fun hb => h2 (bAnd_l hb),hget _ _ h3,(hold _ (List.getElem?_eq_some_iff.1 h3).1).trans h4⟩
      | succ k =>
        obtain ⟨h1,b',h2,h3,h4⟩:=m5.sub k j C (by simpa using hk) (by simpa using hC)
        exact ⟨by rw [hN] at h1;exact Nat.le_trans (Nat.le_add_right _ _) h1,b',fun hb => h2 (bAnd_r hb),by simpa using h3,h4⟩
     ·cases k with
      | zero =>
        cases k' with
        | zero => exact ⟨rfl,k5.inj j j' C C' (by simpa using hC) (by simpa using hC') he⟩
        | succ k' =>
          obtain ⟨_,_,_,h3,_⟩:=k5.sub j C (by simpa using hC)
          have h4:=(List.getElem?_eq_some_iff.1 h3).1
          have:=(m5.sub k' j' C' (by simpa using hk') (by simpa using hC')).1
          have he' : ix1 j = ix k' j':=he
          omega
      | succ k =>
        cases k' with
        | zero =>
          obtain ⟨_,_,_,h3,_⟩:=k5.sub j' C' (by simpa using hC')
          have h4:=(List.getElem?_eq_some_iff.1 h3).1
          have:=(m5.sub k j C (by simpa using hk) (by simpa using hC)).1
          have he' : ix k j = ix1 j':=he
          omega
        | succ k' =>
          obtain ⟨e1,e2⟩:=m5.inj k j k' j' C C' (by simpa using hk) (by simpa using hk') (by simpa using hC) (by simpa using hC') he
          exact ⟨by rw [e1],e2⟩
     ·simp only [List.map_cons,List.length_cons,List.range'_succ,m6]
    ·exact hK.elim
   ·exact hK.elim
theorem Side.install {held items : List Reg} {N : Nat} {te : TypeId} {tg : List CK} (htg : tg ≠ []) {xs : List (Tup tg)} {b : Bool} {vals : List (List Value)} {cfg : Nat → Nat → Path → RI} {ix : Nat → Nat → Nat}
  (h : Side M w0 w ρ st (held ++ items)) (hN : st.rg.length = N) (hf : FilledL N ρ (held ++ items) held.length b tg xs 0 vals cfg ix) {w' : World} (hb : Below w.heap.size w w') {I : RI}
  (hm : I.m = tg.length) (hv : I.void = false) (hcap : xs.length ≤ I.cap) (hblk : w.heap.size ≤ I.b) (hsz : I.b < w'.heap.size) (hmine : Mine M w0 w' I) (hwhole : Whole w' I te)
  (hc : ∀ i,i < xs.length → ∀ ys,vals[i]? = some ys → ∀ s y,ys[s]? = some y → w'.cell? (I.at (i * I.m + s)) = some y) :
  Regs M w0 N (setρ ρ (N + held.length) (gl I cfg)) (st.rg ++ held ++ [.arr te tg xs true b]) w':=by
 have hr:=h.rs.later hb.size hb.block
 rw [hN] at hr
 have hr0 : Regs M w0 N ρ (st.rg ++ held) w':=by rw [← List.append_assoc] at hr;exact hr.front
 have hl : (st.rg ++ held).length = N + held.length:=by simp [hN]
 -- what lies deeper
 have deep : ∀ (σ : Path) (i j : Nat) (C : Ar),Ar.has ⟨te,tg,xs⟩ (σ ++ [(i,j)]) C → ∃ D b',i < xs.length ∧ Tup.sub tg (xs.getD i (Tup.d tg)) j = some D ∧ D.has σ C ∧ (b = true → b' = true) ∧ held.length ≤ ix i j ∧
   (st.rg ++ (held ++ items))[N + ix i j]? = some (.arr D.te D.tg D.xs b' b') ∧ (∀ τ,ρ (N + ix i j) τ = gl I cfg (τ ++ [(i,j)])):=by
  intro σ i j C hC
  obtain ⟨D,h1,h2,h3⟩:=has_snoc.1 hC
  obtain ⟨h4,b',h5,h6,h7⟩:=hf.sub i j D h1 h2
  refine ⟨D,b',h1,h2,h3,h5,h4,?_,fun τ => by rw [gl_snoc,h7]⟩
  rw [List.getElem?_append_right (by omega),hN,Nat.add_sub_cancel_left];exact h6
 have deepHas : ∀ {D : Ar} {b' : Bool} {σ : Path} {C : Ar},D.has σ C → (Reg.arr D.te D.tg D.xs b' b').has σ b' (.arr C):=fun {D b' σ C} hD => ⟨by cases σ <;> rfl,C,hD,rfl⟩
 rw [← hl]
 refine hr0.snoc (Nat.le_refl _) (by simp [hN]) ?_ ?_ ?_ ?_ ?_ ?_
 ·rintro π o B ⟨_,A,hA,rfl⟩
  show A.lies w' (setρ ρ (st.rg ++ held).length (gl I cfg) (st.rg ++ held).length) π
  rw [setρ_at]
  rcases path_last π with rfl | ⟨σ,i,j,rfl⟩
  ·obtain rfl : A = ⟨te,tg,xs⟩:=hA
   refine ⟨htg,by rw [gl_nil];exact hm,(fun hh => by rw [gl_nil,hv] at hh;cases hh),(fun _ => by rw [gl_nil];exact hcap),fun i hi => ?_⟩
   obtain ⟨ys,h1,h2⟩:=hf.lies (gl I cfg) [] (fun i j => by rw [Nat.zero_add];exact gl_snoc (σ:=[])) i hi
   rw [Nat.zero_add] at h2
   exact ⟨ys,h2,fun s y hy => by rw [gl_nil];exact hc i hi ys h1 s y hy⟩
  ·obtain ⟨D,b',h1,h2,h3,_,_,h6,h7⟩:=deep σ i j A hA
   have:=hr.blk _ _ σ b' (.arr A) h6 (deepHas h3)
   have this : A.lies w' (ρ (N + ix i j)) σ:=this
   exact ⟨this.tg,by rw [← h7];exact this.m,by rw [← h7];exact this.void,by rw [← h7];exact this.len,fun k hk => by
    obtain ⟨ys,k1,k2⟩:=this.cell k hk
    refine ⟨ys,?_,by rw [← h7];exact k2⟩
    have gen : ∀ (tg : List CK) (j' : Nat) (x : Tup tg) (ys : List Value),Tup.lies (ρ (N + ix i j)) σ k j' tg x ys → Tup.lies (gl I cfg) (σ ++ [(i,j)]) k j' tg x ys:=by
     have one : ∀ (c : CK) (j' : Nat) (x : c.ty) (y : Value),c.lies (ρ (N + ix i j)) σ k j' x y → c.lies (gl I cfg) (σ ++ [(i,j)]) k j' x y:=by
      intro c j' x y hx
      cases c with
      | sl e t =>
        show RI.head (gl I cfg ((k,j') :: (σ ++ [(i,j)]))) 0 _ _
        rw [← List.cons_append,← h7];exact hx
      | _ => exact hx
     intro tg
     induction tg with
     | nil => intro j' x ys h;exact h
     | cons c cs ih =>
       intro j' x ys h
       cases cs with
       | nil => obtain ⟨y,e1,e2⟩:=h;exact ⟨y,e1,one c _ _ _ e2⟩
       | cons c' cs => obtain ⟨y,ys',e1,e2,e3⟩:=h;exact ⟨y,ys',e1,one c _ _ _ e2,ih _ _ _ e3⟩
    exact gen _ _ _ _ k1⟩
 ·rintro π o B ⟨_,A,hA,rfl⟩ hvd
  rcases path_last π with rfl | ⟨σ,i,j,rfl⟩
  ·rw [gl_nil];exact hsz
  ·obtain ⟨D,b',h1,h2,h3,_,_,h6,h7⟩:=deep σ i j A hA
   rw [← h7] at hvd ⊢
   exact hr.lt _ _ σ b' (.arr A) h6 (deepHas h3) hvd
 ·rintro π B ⟨ho,A,hA,rfl⟩ hvd
  rcases path_last π with rfl | ⟨σ,i,j,rfl⟩
  ·obtain rfl : A = ⟨te,tg,xs⟩:=hA
   rw [gl_nil];exact ⟨hmine,hwhole⟩
  ·obtain ⟨D,b',h1,h2,h3,h4,_,h6,h7⟩:=deep σ i j A hA
   have hb' : b = true:=by cases σ <;> exact ho.symm
   obtain rfl:=h4 hb'
   rw [← h7] at hvd ⊢
   exact hr.own _ _ σ (.arr A) h6 (deepHas h3) hvd
 ·rintro π B ⟨ho,A,hA,rfl⟩ hvd r' g' π' o' B' k1 k2 v'
  rcases path_last π with rfl | ⟨σ,i,j,rfl⟩
  ·rw [gl_nil]
   have hlt:=h.rs.lt r' g' π' o' B' (by rw [← List.append_assoc,List.getElem?_append_left (List.getElem?_eq_some_iff.1 k1).1];exact k1) k2 v'
   omega
  ·obtain ⟨D,b',h1,h2,h3,h4,h5,h6,h7⟩:=deep σ i j A hA
   have hb' : b = true:=by cases σ <;> exact ho.symm
   obtain rfl:=h4 hb'
   rw [← h7] at hvd ⊢
   have hlt:=(List.getElem?_eq_some_iff.1 k1).1
   exact hr.dj _ r' _ g' σ π' o' (.arr A) B' h6 (by rw [← List.append_assoc,List.getElem?_append_left hlt];exact k1) (deepHas h3) k2 hvd v' (fun e => by rw [hl] at hlt;omega)
 ·rintro π o B ⟨_,A,hA,rfl⟩ hvd r' g' π' B' k1 k2 v'
  rcases path_last π with rfl | ⟨σ,i,j,rfl⟩
  ·rw [gl_nil]
   have hlt:=h.rs.lt r' g' π' true B' (by rw [← List.append_assoc,List.getElem?_append_left (List.getElem?_eq_some_iff.1 k1).1];exact k1) k2 v'
   omega
  ·obtain ⟨D,b',h1,h2,h3,h4,h5,h6,h7⟩:=deep σ i j A hA
   rw [← h7] at hvd ⊢
   have hlt:=(List.getElem?_eq_some_iff.1 k1).1
   exact hr.dj r' _ g' _ π' σ b' B' (.arr A) (by rw [← List.append_assoc,List.getElem?_append_left hlt];exact k1) h6 k2 (deepHas h3) v' hvd (fun e => by rw [hl] at hlt;omega)
 ·rintro π π' o' B B' ⟨ho,A,hA,rfl⟩ ⟨_,A',hA',rfl⟩ v v' hne
  rcases path_last π with rfl | ⟨σ,i,j,rfl⟩ <;> rcases path_last π' with rfl | ⟨σ',i',j',rfl⟩
  ·exact absurd rfl hne
  ·obtain ⟨D,b',h1,h2,h3,h4,h5,h6,h7⟩:=deep σ' i' j' A' hA'
   rw [gl_nil]
   rw [← h7] at v' ⊢
   have:=h.rs.lt _ _ σ' b' (.arr A') h6 (deepHas h3) v'
   omega
  ·obtain ⟨D,b',h1,h2,h3,h4,h5,h6,h7⟩:=deep σ i j A hA
   rw [gl_nil]
   rw [← h7] at v ⊢
   have:=h.rs.lt _ _ σ b' (.arr A) h6 (deepHas h3) v
   omega
  ·obtain ⟨D,b1,h1,h2,h3,h4,h5,h6,h7⟩:=deep σ i j A hA
   obtain ⟨D',b2,k1,k2,k3,k4,k5,k6,k7⟩:=deep σ' i' j' A' hA'
   have hb' : b = true:=by cases σ <;> exact ho.symm
   obtain rfl:=h4 hb'
   rw [← h7] at v ⊢;rw [← k7] at v' ⊢
   refine hr.dj _ _ _ _ σ σ' b2 (.arr A) (.arr A') h6 k6 (deepHas h3) (deepHas k3) v v' (fun e => hne ?_)
   obtain ⟨e1,e2⟩:=hf.inj i j i' j' D D' h1 k1 h2 k2 (by omega)
   rw [e.2,e1,e2]
end
end Go.Sy
end
section
namespace Go.Sy
open Go Go.RowKit
universe u
section
variable {cc : Bool} {P : Program} {Γ : Glob} {E : Env} {M : Nat → Prop} {w0 : World} {ρ : Keys} {st : St} {vs : Fv} {a : Act} {w : World}
theorem fold_set (m0 : Nat) : ∀ (ys pre mid post : List Value) (k : Nat),pre.length = m0 + k → mid.length = ys.length →
  (ys.zipIdx k).foldl (fun (cs : List Value) cj => cs.set (m0 + cj.2) cj.1) (pre ++ (mid ++ post)) = pre ++ (ys ++ post)
 | [],pre,mid,post,k,_,hm => by
   obtain rfl:=List.eq_nil_of_length_eq_zero hm
   rfl
 | y :: ys,pre,mid,post,k,hp,hm => by
   match mid,hm with
   | x :: mid,hm =>
     simp only [List.zipIdx_cons,List.foldl_cons]
     have e : (pre ++ (x :: mid ++ post)).set (m0 + k) y = (pre ++ [y]) ++ (mid ++ post):=by
      rw [List.set_append_right _ _ (by omega),hp]
      simp
     rw [e,fold_set m0 ys (pre ++ [y]) mid post (k + 1) (by simp;omega) (by simpa using hm)]
     simp
theorem fold_arr (off : Nat) (v : Value) (zs : List Value) : v.cells.zipIdx.foldl (fun (cs : Array Value) (x : Value × Nat) => cs.setIfInBounds (off + x.2) x.1) zs.toArray = (v.cells.toList.zipIdx.foldl (fun (cs : List Value) cj => cs.set (off + cj.2) cj.1) zs).toArray:=by
 have gen : ∀ (cs : List (Value × Nat)) (zs : List Value),cs.foldl (fun (cs : Array Value) (x : Value × Nat) => cs.setIfInBounds (off + x.2) x.1) zs.toArray =
   (cs.foldl (fun cs cj => cs.set (off + cj.2) cj.1) zs).toArray:=by
  intro cs
  induction cs with
  | nil => intro zs;rfl
  | cons c cs ih => intro zs;simp only [List.foldl_cons,List.setIfInBounds_toArray];exact ih _
 have e2 : v.cells.zipIdx = (v.cells.toList.zipIdx).toArray:=by
  rw [← Array.toList_zipIdx]
 rw [e2]
 simp only [List.foldl_toArray']
 exact gen _ _
theorem fill_all (m : Nat) : ∀ (parts : List (Nat × Value)) (pos : Nat) (pre rest : List Value),parts.map Prod.fst = List.range' pos parts.length → (∀ p ∈ parts,p.2.cells.toList.length = m) → pre.length = pos * m → rest.length = parts.length * m →
  Instr.fill (fun i => some (i * m,m)) (pre ++ rest).toArray parts = some (pre ++ parts.flatMap fun p => p.2.cells.toList).toArray
 | [],pos,pre,rest,_,_,_,hr => by
   obtain rfl : rest = []:=List.eq_nil_of_length_eq_zero (by simpa using hr)
   simp [Instr.fill]
 | (i,v) :: parts,pos,pre,rest,hi,hm,hp,hr => by
   simp only [List.map_cons,List.length_cons,List.range'_succ,List.cons.injEq] at hi
   obtain ⟨rfl,hi⟩:=hi
   have hv : v.cells.toList.length = m:=hm (i,v) (by simp)
   have hv' : v.cells.size = m:=by simpa using hv
   simp only [List.length_cons,Nat.add_mul,Nat.one_mul] at hr
   simp only [Instr.fill]
   rw [if_neg (by rw [hv'];simp;omega)]
   rw [fold_arr]
   have e : rest = rest.take m ++ rest.drop m:=(List.take_append_drop m rest).symm
   have hf:=fold_set (i * m) v.cells.toList pre (rest.take m) (rest.drop m) 0 (by rw [hp,Nat.add_zero]) (by rw [hv,List.length_take];omega)
   rw [← e] at hf
   rw [hf,← List.append_assoc]
   rw [fill_all m parts (i + 1) (pre ++ v.cells.toList) (rest.drop m) hi (fun p hp => hm p (by simp [hp])) (by rw [List.length_append,hp,hv,Nat.add_mul,Nat.one_mul]) (by rw [List.length_drop];omega)]
   simp
theorem run_buildSlice (hE : EnvOk P Γ E) {t e : TypeId} {m : Nat} (ht : E.ty t = .sl e m) {tg : List CK} (hD : E.kd e = some tg) {n : Nat} {parts : Array (Nat × Value)}
  (hi : parts.toList.map Prod.fst = List.range' 0 n) (hm : ∀ p ∈ parts.toList,p.2.cells.toList.length = tg.length) (hn : 0 < n) (hsz : n * tg.length ≤ 16777216) :
  (Instr.buildSlice t n parts).run P w = .ok (.slice (some ⟨w.heap.size,0,none⟩) n n) (w.alloc (.cells (parts.toList.flatMap fun p => p.2.cells.toList).toArray e)):=by
 obtain ⟨hu,_,_⟩:=hE.tySl ht
 obtain ⟨hne,⟨i,z,h1,h2,h3,h4,_⟩⟩:=hE.kd e tg hD
 have hpos : ¬ (n * tg.length = 0):=by
  have:=Nat.mul_pos hn (List.length_pos_iff.2 hne)
  omega
 have hlen : parts.toList.length = n:=by
  have:=congrArg List.length hi
  simpa using this
 have hfill:=fill_all tg.length parts.toList 0 [] ((Array.range (n * tg.length)).map (fun k => z.cells[k % z.cells.size]!)).toList (by rw [hlen];exact hi) hm (by simp) (by simp [hlen])
 simp only [List.nil_append,Array.toArray_toList] at hfill
 simp only [Instr.buildSlice,run_underlying hu,Sem.run_bind,Result.andThen_ok]
 simp only [sizeOf,typeInfo,h1,Sem.run_bind,run_program,Result.andThen_ok,Sem.run_pure,h2]
 rw [if_neg (by omega),if_neg hpos]
 simp only [Sem.run_bind,Sem.run_pure,Result.andThen_ok,zeroValue,typeInfo,run_program,h1,h3,hfill]
 simp [newRow]
/-! ### A slice literal -/
theorem flat_get (m : Nat) : ∀ (vals : List (List Value)),(∀ v ∈ vals,v.length = m) → ∀ (i : Nat) ys,vals[i]? = some ys → ∀ s,s < m → vals.flatten[i * m + s]? = ys[s]?
 | [],_,i,ys,h,_,_ => by simp at h
 | x :: vals,hm,0,ys,h,s,hs => by
   simp at h;subst h
   rw [List.flatten_cons,Nat.zero_mul,Nat.zero_add,List.getElem?_append_left (by rw [hm x (by simp)];exact hs)]
 | x :: vals,hm,i + 1,ys,h,s,hs => by
   have hx:=hm x (by simp)
   rw [List.flatten_cons,List.getElem?_append_right (by rw [hx,Nat.add_mul];omega),hx]
   rw [show (i + 1) * m + s - m = i * m + s by rw [Nat.add_mul];omega]
   exact flat_get m vals (fun v hv => hm v (by simp [hv])) i ys (by simpa using h) s hs
theorem lies_length {η : Path → RI} {π : Path} {i : Nat} : ∀ {tg : List CK} {j : Nat} {x : Tup tg} {ys : List Value},Tup.lies η π i j tg x ys → ys.length = tg.length
 | [],_,_,_,h => by have h' : _ = []:=h;subst h';rfl
 | [_],_,_,_,h => by obtain ⟨y,rfl,_⟩:=h;rfl
 | c :: c' :: cs,_,_,_,h => by obtain ⟨y,ys',rfl,_,h3⟩:=h;simp [lies_length (tg:=c' :: cs) h3]
theorem Regs.monoN {N N' : Nat} {rg : List Reg} (h : Regs M w0 N ρ rg w) (hN : N ≤ N') : Regs M w0 N' ρ rg w :=
 ⟨fun r g π o B h1 h2 => (h.blk r g π o B h1 h2).later (fun _ => rfl) hN (fun _ _ _ => rfl) (fun _ => rfl),h.lt,h.own,h.dj⟩
theorem Less.rel (h : Rel Γ M w0 ρ st vs a w) {st' : St} {ρ' : Keys} (hl : Less st st') (hρ : ∀ r,r < st.rg.length → ρ' r = ρ r) (hr : Regs M w0 st'.rg.length ρ' st'.rg w) : Rel Γ M w0 ρ' st' vs a w where
 tm:=by rw [hl.tm,hl.len];exact h.tm.mono (Nat.le_refl _) fun r hr π => by rw [hρ r hr]
 fr:=by rw [hl.fr,hl.len];exact h.fr.mono fun s v hs => hs.mono (Nat.le_refl _) fun r hr π => by rw [hρ r hr]
 df:=h.df
 rs:=hr
 bl:=h.bl
 gl:=h.gl
 gn:=h.gn
theorem litK_new (hE : EnvOk P Γ E) (h : Rel Γ M w0 ρ st vs a w) {t e : TypeId} {m n : Nat} (ht : E.ty t = .sl e m) {tg : List CK} (hD : E.kd e = some tg) (hne : allL CK.ne tg = true) {parts : Array (Nat × Operand)} {K : St → List (Tup tg) → Bool → Prop}
  (hK : litK cc tg 0 parts.toList st K) (hn : 0 < n) (hsz : n * tg.length ≤ 16777216) (hKn : ∀ st xs b,K st xs b → lenIs xs n = true) :
  ∃ (st' : St) (xs : List (Tup tg)) (b : Bool) (ρ' : Keys),K st' xs b ∧ (Instr.buildSlice t n (parts.map fun (i,x) => (i,a.eval x))).run P w = .ok (.slice (some ⟨w.heap.size,0,none⟩) n n) (w.alloc (.cells ((parts.toList.flatMap fun p => (a.eval p.2).cells.toList)).toArray e)) ∧
   Rel Γ M w0 ρ' (st'.push [.arr e tg xs true b]) vs a (w.alloc (.cells ((parts.toList.flatMap fun p => (a.eval p.2).cells.toList)).toArray e)) ∧ (∀ r,r < st.rg.length → ρ' r = ρ r) ∧ st'.rg.length = st.rg.length ∧
   (At.sl st.rg.length [] 0 n).ok (st.rg.length + 1) ρ' (.slice (some ⟨w.heap.size,0,none⟩) n n):=by
 obtain ⟨htg,_⟩:=hE.kd e tg hD
 have hside : Side M w0 w ρ st []:=⟨by simpa using h.rs⟩
 obtain ⟨st',xs,b,items,ρ1,cfg,ix,k1,k2,k3,k4,k5,k6⟩:=litK_sound (a:=a) hne hside (fun o x hx => ev_sound h hx) hK
 have hxn:=lenIs_length (hKn _ _ _ k1)
 rw [hxn] at k6
 simp only [List.length_nil,Nat.add_zero,List.nil_append] at k3 k4 k5
 have hvl : ∀ v ∈ (parts.toList.map fun p => (a.eval p.2).cells.toList),v.length = tg.length:=by
  intro v hv
  obtain ⟨i,hi⟩:=List.getElem?_of_mem hv
  have hlt : i < xs.length:=by rw [← k5.len];exact (List.getElem?_eq_some_iff.1 hi).1
  obtain ⟨ys,h1,h2⟩:=k5.lies (gl noRI cfg) [] (fun i j => by rw [Nat.zero_add];exact gl_snoc (σ:=[])) i hlt
  obtain rfl:=Option.some.inj (h1.symm.trans hi)
  exact lies_length h2
 have hfm : (parts.toList.flatMap fun p => (a.eval p.2).cells.toList) = (parts.toList.map fun p => (a.eval p.2).cells.toList).flatten:=by rw [List.flatMap_def]
 have hrun:=run_buildSlice (P:=P) (w:=w) (parts:=parts.map fun (i,x) => (i,a.eval x)) hE ht hD (n:=n) (by simpa [Function.comp_def] using k6) (by
  intro p hp
  simp only [Array.toList_map,List.mem_map] at hp
  obtain ⟨q,hq,rfl⟩:=hp
  exact hvl _ (List.mem_map.2 ⟨q,hq,rfl⟩)) hn hsz
 have hcells : ((parts.map fun (i,x) => (i,a.eval x)).toList.flatMap fun p => p.2.cells.toList) = parts.toList.flatMap fun p => (a.eval p.2).cells.toList:=by
  simp [List.flatMap_map]
 rw [hcells] at hrun
 have hflen : (parts.toList.flatMap fun p => (a.eval p.2).cells.toList).length = n * tg.length:=by
  rw [hfm]
  have gen : ∀ (l : List (List Value)),(∀ v ∈ l,v.length = tg.length) → l.flatten.length = l.length * tg.length:=by
   intro l
   induction l with
   | nil => intro _;simp
   | cons x l ih => intro hl;rw [List.flatten_cons,List.length_append,hl x (by simp),ih fun v hv => hl v (by simp [hv])];simp only [List.length_cons];rw [Nat.add_mul];omega
  rw [gen _ hvl,k5.len,hxn]
 have hinst:=Side.install (w':=w.alloc (.cells ((parts.toList.flatMap fun p => (a.eval p.2).cells.toList)).toArray e)) (held:=[]) (items:=items) (te:=e) (b:=b) (I:=⟨w.heap.size,0,tg.length,n,false⟩) htg (by simpa using k3) k2.len (by simpa using k5) (below_alloc _) rfl rfl (by rw [hxn];exact Nat.le_refl _) (Nat.le_refl _) (by simp) ⟨.inr h.bl.size,fun j => by simp⟩
  ⟨by
    show n ≤ maxLen
    have : n ≤ n * tg.length:=Nat.le_mul_of_pos_right _ (List.length_pos_iff.2 htg)
    exact Nat.le_trans (Nat.le_trans this hsz) (Nat.le_of_ble_eq_true rfl),_,(by show (w.heap.push _)[w.heap.size]? = _;simp;rfl),by simp only [List.size_toArray,hflen];omega⟩
  (fun i hi ys hys s y hy => by
    simp only [RI.at,Nat.zero_add]
    rw [cell_alloc_at,hfm]
    have hs : s < tg.length:=by
     have:=hvl ys (List.mem_of_getElem? hys)
     rw [← this];exact (List.getElem?_eq_some_iff.1 hy).1
    rw [flat_get tg.length _ hvl i ys hys s hs];exact hy)
 simp only [List.append_nil,List.length_nil,Nat.add_zero] at hinst
 refine ⟨st',xs,b,setρ ρ1 st.rg.length (gl ⟨w.heap.size,0,tg.length,n,false⟩ cfg),k1,hrun,?_,fun r hr => by rw [setρ_lt hr];exact k4 r hr,k2.len,?_⟩
 ·have hrel : Rel Γ M w0 ρ1 st' vs a w:=Less.rel h k2 k4 (by rw [k2.len];have:=k3.rs;rw [k2.len] at this;exact this.front)
  refine hrel.grow (below_alloc _) (fun r hr π => by rw [setρ_lt (by rw [← k2.len];exact hr)]) ?_
  rw [k2.len]
  exact hinst.monoN (Nat.le_succ _)
 ·refine ⟨by omega,?_⟩
  rw [setρ_at,gl_nil]
  refine ⟨fun hv => (by cases hv),fun _ => ⟨Nat.le_of_eq (Nat.zero_add n),some ⟨w.heap.size,0,none⟩,?_,fun _ => ?_⟩⟩
  ·rfl
  ·show _ = some (RI.at _ (0 * tg.length));simp [RI.at]
/-! ### make -/
def subLen : List CK → Nat → Nat
 | .sl _ tg :: _,0 => tg.length
 | _ :: cs,j + 1 => subLen cs j
 | _,_ => 0
theorem sub_zero : ∀ {tg : List CK} {j : Nat} {B : Ar},allL CK.ne tg = true → Tup.sub tg (Tup.d tg) j = some B → B.xs = [] ∧ B.tg ≠ [] ∧ B.tg.length = subLen tg j:=by
 have one : ∀ (c : CK) {B : Ar} {cs : List CK},CK.ne c = true → c.sub c.d = some B → B.xs = [] ∧ B.tg ≠ [] ∧ B.tg.length = subLen (c :: cs) 0:=by
  intro c B cs hc hB
  cases c with
  | sl e tg =>
    obtain rfl:=Option.some.inj hB
    refine ⟨rfl,fun h => ?_,rfl⟩
    have h : tg = []:=h
    subst h;cases hc
  | _ => cases hB
 intro tg
 induction tg with
 | nil => intro j B _ h;cases h
 | cons c cs ih =>
   intro j B hne h
   simp only [allL] at hne
   split at hne
   ·rename_i hc
    cases cs with
    | nil => cases j with
      | zero => exact one c hc h
      | succ j => cases h
    | cons c' cs =>
      cases j with
      | zero => exact one c hc h
      | succ j =>
        have:=ih hne h
        refine ⟨this.1,this.2.1,?_⟩
        rw [this.2.2]
        cases c <;> rfl
   ·cases hne
theorem lies_zero {η : Path → RI} {π : Path} {i : Nat} : ∀ {tg : List CK} {j : Nat},(∀ j,(η ((i,j) :: π)).void = true) → Tup.lies η π i j tg (Tup.d tg) (Tup.zero tg):=by
 have one : ∀ (c : CK) (j : Nat),(∀ j,(η ((i,j) :: π)).void = true) → c.lies η π i j c.d (match c with | .int k => .int k 0 | .bool => .bool false | .str => .string ByteArray.empty | .sl _ _ => .slice none 0 0):=by
  intro c j hv
  cases c with
  | sl e tg => exact ⟨fun _ => ⟨rfl,none,rfl⟩,fun hh => by rw [hv j] at hh;cases hh⟩
  | _ => rfl
 intro tg
 induction tg with
 | nil => intro j _;rfl
 | cons c cs ih =>
   intro j hv
   cases cs with
   | nil => exact ⟨_,rfl,one c j hv⟩
   | cons c' cs => exact ⟨_,_,rfl,one c j hv,ih hv⟩
theorem zero_length : ∀ (tg : List CK),(Tup.zero tg).length = tg.length
 | [] => rfl
 | c :: cs => by simp [Tup.zero,zero_length cs]
theorem has_made {te : TypeId} {tg : List CK} {n : Nat} (hne : allL CK.ne tg = true) : ∀ {π : Path} {B : Ar},Ar.has ⟨te,tg,List.replicate n (Tup.d tg)⟩ π B → (π = [] ∧ B = ⟨te,tg,List.replicate n (Tup.d tg)⟩) ∨ (∃ i j,π = [(i,j)] ∧ B.xs = [] ∧ B.tg ≠ [] ∧ B.tg.length = subLen tg j)
 | [],B,h => .inl ⟨rfl,h⟩
 | (i,j) :: π,B,h => by
   obtain ⟨C,h1,h2,h3⟩:=h
   rcases has_made hne h1 with ⟨rfl,rfl⟩ | ⟨i',j',_,hx,_⟩
   ·refine .inr ⟨i,j,rfl,?_⟩
    have e : Ar.get ⟨te,tg,List.replicate n (Tup.d tg)⟩ i = Tup.d tg:=by
     simp only [Ar.get,List.getD_eq_getElem?_getD]
     simp only [List.length_replicate] at h2
     simp [h2]
    rw [e] at h3
    exact sub_zero hne h3
   ·rw [hx] at h2;simp at h2
theorem rel_made (h : Rel Γ M w0 ρ st vs a w) {te : TypeId} {tg : List CK} (htg : tg ≠ []) (hne : allL CK.ne tg = true) {n : Nat} (hn : n ≤ maxLen) {cs : List Value} (hl : cs.length = n * tg.length) (hc : ∀ i,i < n → ∀ s,s < tg.length → cs[i * tg.length + s]? = (Tup.zero tg)[s]?) :
  Rel Γ M w0 (setρ ρ st.rg.length (gl ⟨w.heap.size,0,tg.length,n,false⟩ fun _ j _ => { noRI with m:=subLen tg j })) (st.push [.arr te tg (List.replicate n (Tup.d tg)) true true]) vs a (w.alloc (.cells cs.toArray te)):=by
 refine h.grow (below_alloc _) (fun r hr π => by rw [setρ_lt hr]) (h.rs.fresh (below_alloc _) ?_ ?_ ?_ ?_)
 ·rintro π o B ⟨_,A,hA,rfl⟩
  show A.lies _ (setρ ρ st.rg.length _ st.rg.length) π
  rw [setρ_at]
  rcases has_made hne hA with ⟨rfl,rfl⟩ | ⟨i,j,rfl,h1,h2,h3⟩
  ·refine ⟨htg,rfl,fun hv => (by cases hv),fun _ => (by simp [gl_nil]),fun i hi => ?_⟩
   simp only [List.length_replicate] at hi
   refine ⟨Tup.zero tg,?_,fun s y hy => ?_⟩
   ·have e : Ar.get ⟨te,tg,List.replicate n (Tup.d tg)⟩ i = Tup.d tg:=by
     simp only [Ar.get,List.getD_eq_getElem?_getD]
     simp [hi]
    rw [e]
    exact lies_zero fun j => rfl
   ·have hs : s < tg.length:=by rw [← zero_length tg];exact (List.getElem?_eq_some_iff.1 hy).1
    simp only [gl_nil,RI.at,Nat.zero_add]
    rw [cell_alloc_at,hc i hi s hs];exact hy
  ·refine ⟨h2,h3.symm,fun _ => h1,fun hv => (by cases hv),fun k hk => ?_⟩
   rw [h1] at hk;simp at hk
 ·rintro π o B ⟨_,A,hA,rfl⟩ hv
  rcases has_made hne hA with ⟨rfl,rfl⟩ | ⟨i,j,rfl,h1,h2,h3⟩
  ·exact ⟨Nat.le_refl _,by simp [gl_nil]⟩
  ·cases hv
 ·rintro π B ⟨_,A,hA,rfl⟩ hv
  rcases has_made hne hA with ⟨rfl,rfl⟩ | ⟨i,j,rfl,h1,h2,h3⟩
  ·exact ⟨⟨.inr h.bl.size,fun j => by simp [gl_nil]⟩,hn,_,(by show (w.heap.push _)[w.heap.size]? = _;simp;rfl),by simp [gl_nil,hl]⟩
  ·cases hv
 ·rintro π π' o o' B B' ⟨_,A,hA,rfl⟩ ⟨_,A',hA',rfl⟩ hv hv'
  rcases has_made hne hA with ⟨rfl,rfl⟩ | ⟨i,j,rfl,h1,h2,h3⟩
  ·rcases has_made hne hA' with ⟨rfl,rfl⟩ | ⟨i,j,rfl,h1,h2,h3⟩
   ·rfl
   ·cases hv'
  ·cases hv
end
end Go.Sy
end
section
namespace Go.Sy
open Go Go.RowKit
universe u
/-! ### Contents turned -/
theorem has_fun {A : Ar} : ∀ {π : Path} {B C : Ar},A.has π B → A.has π C → B = C
 | [],B,C,h,h' => Eq.trans (show B = A from h) (show C = A from h').symm
 | (i,j) :: π,B,C,h,h' => by
   obtain ⟨D,h1,_,h2⟩:=h
   obtain ⟨D',h1',_,h2'⟩:=h'
   obtain rfl:=has_fun h1 h1'
   exact Option.some.inj (h2.symm.trans h2')
theorem has_dn {A : Ar} : ∀ {π : Path} {B : Ar},A.has π B → ∃ q,A.dn π = some (q,B) ∧ obl q
 | [],B,h => ⟨[],by have h : B = A:=h;rw [h];rfl,trivial⟩
 | (i,j) :: π,C,h => by
   obtain ⟨B,h1,h2,h3⟩:=h
   obtain ⟨q,h4,h5⟩:=has_dn h1
   exact ⟨q ++ [(Duty.of (i < B.xs.length))],by simp only [Ar.dn,h4,h3],(obl_append _ _).2 ⟨h5,h2,trivial⟩⟩
theorem has_append {A : Ar} {π : Path} : ∀ {τ : Path} {C : Ar},A.has (τ ++ π) C ↔ ∃ B,A.has π B ∧ B.has τ C
 | [],C => ⟨fun h => ⟨C,h,rfl⟩,fun ⟨B,h1,h2⟩ => by have h2 : C = B:=h2;rw [h2];exact h1⟩
 | (k,l) :: τ,C => by
   constructor
   ·rintro ⟨D,h1,h2,h3⟩
    obtain ⟨B,b1,b2⟩:=has_append.1 h1
    exact ⟨B,b1,D,b2,h2,h3⟩
   ·rintro ⟨B,b1,D,b2,h2,h3⟩
    exact ⟨D,has_append.2 ⟨B,b1,b2⟩,h2,h3⟩
structure Same (C C' : Ar) : Prop where
 te : C'.te = C.te
 len : C'.xs.length = C.xs.length
 tg : ∃ h : C'.tg = C.tg,∀ (η : Path → RI) (π : Path) (i : Nat) ys,i < C.xs.length → Tup.lies η π i 0 C.tg (C.get i) ys → Tup.lies η π i 0 C'.tg (C'.get i) ys
theorem Same.refl (C : Ar) : Same C C:=⟨rfl,rfl,rfl,fun _ _ _ _ _ h => h⟩
theorem setSubC_same {c : CK} {C : Ar} {y : c.ty} (h : c.setSub C = some y) : c.sub y = some C:=by
 cases c with
 | sl e tg =>
   simp only [CK.setSub] at h
   split at h
   ·rename_i h1 h2 _ _
    obtain ⟨te,tg',xs⟩:=C
    obtain rfl:=h1.down
    obtain rfl:=h2.down
    obtain rfl:=Option.some.inj h
    rfl
   ·cases h
 | _ => cases h
theorem setSub_same : ∀ {tg : List CK} {x a : Tup tg} {j : Nat} {C : Ar},Tup.setSub tg x j C = some a → Tup.sub tg a j = some C:=by
 intro tg
 induction tg with
 | nil => intro x a j C h;cases h
 | cons c cs ih =>
   intro x a j C h
   cases cs with
   | nil => cases j with
     | zero => exact setSubC_same h
     | succ j => cases h
   | cons c' cs => cases j with
     | zero =>
       simp only [Tup.setSub] at h
       split at h
       ·rename_i y hy;obtain rfl:=Option.some.inj h;exact setSubC_same hy
       ·cases h
     | succ j =>
       simp only [Tup.setSub] at h
       split at h
       ·rename_i y hy;obtain rfl:=Option.some.inj h;exact ih hy
       ·cases h
theorem setSub_other : ∀ {tg : List CK} {x a : Tup tg} {j : Nat} {C : Ar},Tup.setSub tg x j C = some a → ∀ j',j' ≠ j → Tup.sub tg a j' = Tup.sub tg x j':=by
 intro tg
 induction tg with
 | nil => intro x a j C h;cases h
 | cons c cs ih =>
   intro x a j C h j' hne
   cases cs with
   | nil => cases j with
     | zero => cases j' with
       | zero => exact absurd rfl hne
       | succ j' => rfl
     | succ j => cases h
   | cons c' cs => cases j with
     | zero =>
       simp only [Tup.setSub] at h
       split at h
       ·rename_i y hy;obtain rfl:=Option.some.inj h
        cases j' with
        | zero => exact absurd rfl hne
        | succ j' => rfl
       ·cases h
     | succ j =>
       simp only [Tup.setSub] at h
       split at h
       ·rename_i y hy;obtain rfl:=Option.some.inj h
        cases j' with
        | zero => rfl
        | succ j' => exact ih hy j' (fun e => hne (by rw [e]))
       ·cases h
theorem setSub_lies {η : Path → RI} {π : Path} {i : Nat} : ∀ {tg : List CK} {x a : Tup tg} {j j0 : Nat} {C : Ar} {ys : List Value},Tup.setSub tg x j C = some a → (∃ B,Tup.sub tg x j = some B ∧ C.xs.length = B.xs.length) → Tup.lies η π i j0 tg x ys → Tup.lies η π i j0 tg a ys:=by
 have one : ∀ {c : CK} {x y : c.ty} {j : Nat} {C : Ar} {v : Value},c.setSub C = some y → (∃ B,c.sub x = some B ∧ C.xs.length = B.xs.length) → c.lies η π i j x v → c.lies η π i j y v:=by
  intro c x y j C v h hB hv
  cases c with
  | sl e tg =>
    obtain ⟨B,hB,hlen⟩:=hB
    have:=setSubC_same h
    obtain rfl:=Option.some.inj hB
    obtain rfl:=Option.some.inj this
    show RI.head _ 0 _ v
    have hv : RI.head (η ((i,j) :: π)) 0 _ v:=hv
    rw [show List.length _ = _ from hlen];exact hv
  | _ => cases h
 intro tg
 induction tg with
 | nil => intro x a j j0 C ys h;cases h
 | cons c cs ih =>
   intro x a j j0 C ys h hB hl
   cases cs with
   | nil => cases j with
     | zero => obtain ⟨y,h1,h2⟩:=hl;exact ⟨y,h1,one h hB h2⟩
     | succ j => cases h
   | cons c' cs => cases j with
     | zero =>
       simp only [Tup.setSub] at h
       split at h
       ·rename_i y hy;obtain rfl:=Option.some.inj h
        obtain ⟨v,ys',h1,h2,h3⟩:=hl
        exact ⟨v,ys',h1,one hy hB h2,h3⟩
       ·cases h
     | succ j =>
       simp only [Tup.setSub] at h
       split at h
       ·rename_i y hy;obtain rfl:=Option.some.inj h
        obtain ⟨v,ys',h1,h2,h3⟩:=hl
        exact ⟨v,ys',h1,h2,ih hy hB h3⟩
       ·cases h
theorem get_set {te : TypeId} {tg : List CK} {xs : List (Tup tg)} {i k : Nat} {a : Tup tg} (hi : i < xs.length) : Ar.get ⟨te,tg,xs.set i a⟩ k = if k = i then a else Ar.get ⟨te,tg,xs⟩ k:=by
 simp only [Ar.get,List.getD_eq_getElem?_getD]
 by_cases h : k = i
 ·subst h;rw [List.getElem?_set_self hi,if_pos rfl];rfl
 ·rw [List.getElem?_set_ne (Ne.symm h),if_neg h]
theorem up_spec {A : Ar} : ∀ {π : Path} {B B' A' : Ar},A.has π B → A.up π B' = some A' → B'.te = B.te → B'.tg = B.tg → B'.xs.length = B.xs.length →
  A'.has π B' ∧ A'.te = A.te ∧ A'.tg = A.tg ∧ ∀ σ C',A'.has σ C' → (∃ τ,σ = τ ++ π) ∨ ∃ C,A.has σ C ∧ Same C C'
 | [],B,B',A',hB,hu,h1,h2,h3 => by
   obtain rfl : B = A:=hB
   simp only [Ar.up] at hu
   split at hu
   ·rename_i e1 e2 _ _
    obtain ⟨te,tg,xs⟩:=B'
    obtain ⟨te2,tg2,xs2⟩:=B
    obtain rfl:=e1.down
    obtain rfl:=e2.down
    obtain rfl:=Option.some.inj hu
    exact ⟨rfl,rfl,rfl,fun σ C' _ => .inl ⟨σ,by simp⟩⟩
   ·cases hu
 | (i,j) :: π,B,B',A',hB,hu,h1,h2,h3 => by
   obtain ⟨B0,b1,b2,b3⟩:=hB
   obtain ⟨q,hd,_⟩:=has_dn b1
   simp only [Ar.up,hd] at hu
   split at hu
   ·rename_i a ha
    obtain ⟨u1,u2,u3,u4⟩:=up_spec b1 hu rfl rfl (by simp)
    have ga : Ar.get ⟨B0.te,B0.tg,B0.xs.set i a⟩ i = a:=by rw [get_set b2,if_pos rfl]
    refine ⟨⟨_,u1,by simpa using b2,by rw [ga];exact setSub_same ha⟩,u2,u3,fun σ C' hC => ?_⟩
    rcases u4 σ C' hC with ⟨τ,rfl⟩ | ⟨C,c1,c2⟩
    ·obtain ⟨D,d1,d2⟩:=has_append.1 hC
     obtain rfl:=has_fun d1 u1
     rcases path_last τ with rfl | ⟨τ',k,l,rfl⟩
     ·obtain rfl : C' = _:=d2
      refine .inr ⟨B0,by simpa using b1,rfl,by simp,rfl,fun η π' k ys hk hl => ?_⟩
      rw [get_set b2]
      split
      ·rename_i e;subst e
       exact setSub_lies ha ⟨B,b3,h3⟩ hl
      ·exact hl
     ·by_cases e : (k,l) = (i,j)
      ·obtain ⟨rfl,rfl⟩:=Prod.mk.inj e
       exact .inl ⟨τ',by simp⟩
      ·refine .inr ⟨C',?_,Same.refl _⟩
       obtain ⟨D,e1,e2,e3⟩:=has_snoc.1 d2
       refine has_append.2 ⟨B0,b1,has_snoc.2 ⟨D,by simpa using e1,?_,e3⟩⟩
       rw [← e2,get_set b2]
       split
       ·rename_i e4;subst e4
        exact (setSub_other ha l (fun e5 => e (by rw [e5]))).symm
       ·rfl
    ·exact .inr ⟨C,c1,c2⟩
   ·cases hu
end Go.Sy
end
section
namespace Go.Sy
open Go Go.RowKit
universe u
section
variable {P : Program} {Γ : Glob} {E : Env} {M : Nat → Prop} {w0 : World} {ρ : Keys} {st : St} {vs : Fv} {a : Act} {w : World}
theorem of_lies {c : CK} {v : Value} {y : c.ty} (h : c.of v = some y) (η : Path → RI) (π : Path) (i j : Nat) : c.lies η π i j y v:=by
 cases c with
 | int k =>
   cases v <;> simp only [CK.of] at h <;> try (cases h;done)
   split at h
   ·rename_i hk;obtain rfl:=sameKind_eq hk;obtain rfl:=Option.some.inj h;exact rfl
   ·cases h
 | bool => cases v <;> simp only [CK.of] at h <;> try (cases h;done)
           obtain rfl:=Option.some.inj h;exact rfl
 | str => cases v <;> simp only [CK.of] at h <;> try (cases h;done)
          obtain rfl:=Option.some.inj h;exact rfl
 | sl e tg => simp only [CK.of] at h;cases h
theorem of_sub {c : CK} {v : Value} {y : c.ty} (h : c.of v = some y) (x : c.ty) : c.sub y = none ∧ c.sub x = none:=by
 cases c with
 | sl e tg => simp only [CK.of] at h;cases h
 | _ => exact ⟨rfl,rfl⟩
theorem upd_lies {η : Path → RI} {π : Path} {i : Nat} {v : Value} : ∀ {tg : List CK} {x b : Tup tg} {j j0 : Nat} {ys : List Value},Tup.upd tg x j v = some b → Tup.lies η π i j0 tg x ys → j < tg.length ∧ Tup.lies η π i j0 tg b (ys.set j v) ∧ ∀ j',Tup.sub tg b j' = Tup.sub tg x j':=by
 intro tg
 induction tg with
 | nil => intro x b j j0 ys h;cases h
 | cons c cs ih =>
   intro x b j j0 ys h hl
   cases cs with
   | nil => cases j with
     | zero =>
       obtain ⟨y,rfl,h2⟩:=hl
       refine ⟨Nat.zero_lt_one,⟨v,rfl,of_lies h _ _ _ _⟩,fun j' => ?_⟩
       cases j' with
       | zero => exact (of_sub h x).1.trans (of_sub h x).2.symm
       | succ j' => rfl
     | succ j => cases h
   | cons c' cs => cases j with
     | zero =>
       simp only [Tup.upd] at h
       split at h
       ·rename_i y hy;obtain rfl:=Option.some.inj h
        obtain ⟨u,ys',rfl,h2,h3⟩:=hl
        refine ⟨Nat.succ_pos _,⟨v,ys',rfl,of_lies hy _ _ _ _,h3⟩,fun j' => ?_⟩
        cases j' with
        | zero => exact (of_sub hy x.1).1.trans (of_sub hy x.1).2.symm
        | succ j' => rfl
       ·cases h
     | succ j =>
       simp only [Tup.upd] at h
       split at h
       ·rename_i y hy;obtain rfl:=Option.some.inj h
        obtain ⟨u,ys',rfl,h2,h3⟩:=hl
        obtain ⟨k1,k2,k3⟩:=ih hy h3
        refine ⟨Nat.succ_lt_succ k1,⟨u,ys'.set j v,rfl,h2,k2⟩,fun j' => ?_⟩
        cases j' with
        | zero => rfl
        | succ j' => exact k3 j'
       ·cases h
theorem updAll_lies {N : Nat} {η : Path → RI} {π : Path} {i : Nat} {tg : List CK} : ∀ {l : List At} {us : List Value} {x b : Tup tg} {j : Nat} {ys : List Value},updAll tg x j l = some b → okL (At.ok N ρ) l us → Tup.lies η π i 0 tg x ys →
  (∀ s,s < l.length → j + s < tg.length) ∧ (∃ ys',Tup.lies η π i 0 tg b ys' ∧ ∀ s,ys'[s]? = if j ≤ s ∧ s < j + l.length then us[s - j]? else ys[s]?) ∧ ∀ j',Tup.sub tg b j' = Tup.sub tg x j'
 | [],[],x,b,j,ys,h,_,hl => by
   simp only [updAll,Option.some.injEq] at h;subst h
   exact ⟨by simp,⟨ys,hl,fun s => by rw [if_neg (by simp)]⟩,fun _ => rfl⟩
 | t :: l,u :: us,x,b,j,ys,h,ho,hl => by
   have main : ∀ v,u = v → (match Tup.upd tg x j v with | some a' => updAll tg a' (j + 1) l | none => none) = some b →
     (∀ s,s < (t :: l).length → j + s < tg.length) ∧ (∃ ys',Tup.lies η π i 0 tg b ys' ∧ ∀ s,ys'[s]? = if j ≤ s ∧ s < j + (t :: l).length then (u :: us)[s - j]? else ys[s]?) ∧ ∀ j',Tup.sub tg b j' = Tup.sub tg x j':=by
    rintro v rfl h
    split at h
    ·rename_i b1 hb
     obtain ⟨k1,k2,k3⟩:=upd_lies hb hl
     obtain ⟨m1,⟨ys',m2,m3⟩,m4⟩:=updAll_lies h ho.2 k2
     have hlen:=lies_length hl
     refine ⟨fun s hs => ?_,⟨ys',m2,fun s => ?_⟩,fun j' => (m4 j').trans (k3 j')⟩
     ·cases s with
      | zero => exact k1
      | succ s => have:=m1 s (by simpa using hs);omega
     ·rw [m3 s]
      simp only [List.length_cons]
      by_cases e1 : s = j
      ·subst e1
       rw [if_neg (by omega),if_pos (by omega),List.getElem?_set_self (by omega),Nat.sub_self];rfl
      ·by_cases e2 : j + 1 ≤ s ∧ s < j + 1 + l.length
       ·rw [if_pos e2,if_pos (by omega),show s - j = (s - (j + 1)) + 1 by omega];rfl
       ·rw [if_neg e2,if_neg (by omega),List.getElem?_set_ne (by omega)]
    ·cases h
   cases t <;> simp only [updAll] at h <;> try (cases h;done)
   ·exact main _ ho.1.1 h
   ·exact main _ ho.1 h
   ·exact main _ ho.1 h
theorem heap_setCells (b : Nat) : ∀ (vs : List Value) (o : Nat) (w : World) (k : Nat),k ≠ b → (w.setCells b o vs).heap[k]? = w.heap[k]?
 | [],_,_,_,_ => rfl
 | v :: vs,o,w,k,hk => by rw [World.setCells,heap_setCells b vs _ _ k hk,Below.heap_setCell _ _ _ _ hk]
theorem size_setCells (b : Nat) : ∀ (vs : List Value) (o : Nat) (w : World),(w.setCells b o vs).heap.size = w.heap.size
 | [],_,_ => rfl
 | v :: vs,o,w => by rw [World.setCells,size_setCells b vs,World.size_setCell]
theorem Frame.setCell {w1 : World} (h : Frame M w0 w1) {p : Addr} (hp : M p.block ∨ w0.heap.size ≤ p.block) (v : Value) : Frame M w0 (w1.setCell p v) :=
 ⟨h.os,h.tape,h.output,by rw [World.size_setCell];exact h.size,fun k hk hm => by
   rw [Below.heap_setCell _ _ _ _ (by rcases hp with hp | hp;· (intro e;subst e;exact hm hp)
                                      ·omega)]
   exact h.block k hk hm⟩
theorem frame_setCells {b : Nat} (hb : M b ∨ w0.heap.size ≤ b) : ∀ (vs : List Value) (o : Nat) {w1 : World},Frame M w0 w1 → Frame M w0 (w1.setCells b o vs)
 | [],_,_,h => h
 | v :: vs,o,w1,h => by rw [World.setCells];exact frame_setCells hb vs _ (h.setCell (p:=⟨b,o,none⟩) hb v)
theorem whole_setCells {I : RI} {te : TypeId} : ∀ (vs : List Value) (o : Nat) {w : World},Whole w I te → Whole (w.setCells I.b o vs) I te:=by
 intro vs
 induction vs with
 | nil => exact fun o w h => h
 | cons v vs ih =>
   intro o w hw
   rw [World.setCells]
   refine ih _ ?_
   obtain ⟨h1,cur,h4,h5⟩:=hw
   refine ⟨h1,cur.setIfInBounds o v,?_,by simpa using h5⟩
   have hlt:=(Array.getElem?_eq_some_iff.1 h4).1
   have hv:=(Array.getElem?_eq_some_iff.1 h4).2
   show (w.heap.modify I.b _)[I.b]? = _
   rw [Array.getElem?_eq_getElem (by rw [Array.size_modify];exact hlt),Array.getElem_modify_self,hv]
   rfl
theorem Rel.write (h : Rel Γ M w0 ρ st vs a w) {r : Nat} {g g' : Reg} {π : Path} {B0 : Blk} (hr : st.rg[r]? = some g) (hB : g.has π true B0) (hv : (ρ r π).void = false) {base : Nat} {us : List Value}
  (hkeys : ∀ σ o B',g'.has σ o B' → ∃ B,g.has σ o B ∧ (σ ≠ π → ∀ w',B.lies st.rg.length ρ r σ w' → B'.lies st.rg.length ρ r σ w') ∧ (∀ w',B.mine M w0 w' (ρ r σ) → B'.mine M w0 w' (ρ r σ)))
  (hown : ∀ o B',g'.has π o B' → B'.lies st.rg.length ρ r π (w.setCells (ρ r π).b base us)) :
  Rel Γ M w0 ρ (st.setR r g') vs a (w.setCells (ρ r π).b base us):=by
 have hm:=h.rs.own r g π B0 hr hB hv
 have hmine : Mine M w0 w (ρ r π):=by cases B0 with | box => exact hm | map => exact hm | mps => exact hm | it => exact hm | lp => exact hm | arr A => exact hm.1
 have hlen : (st.setR r g').rg.length = st.rg.length:=by simp [St.setR]
 have heap : ∀ k,k ≠ (ρ r π).b → (w.setCells (ρ r π).b base us).heap[k]? = w.heap[k]?:=fun k hk => heap_setCells _ us base w k hk
 have other : ∀ (r1 : Nat) (g1 : Reg) σ o B,st.rg[r1]? = some g1 → g1.has σ o B → ¬ (r = r1 ∧ π = σ) → (ρ r1 σ).void = false → (w.setCells (ρ r π).b base us).heap[(ρ r1 σ).b]? = w.heap[(ρ r1 σ).b]? :=
  fun r1 g1 σ o B h1 h2 hne hv1 => heap _ (fun e => h.rs.dj r r1 g g1 π σ o B0 B hr h1 hB h2 hv hv1 hne e.symm)
 -- own memory stays own memory
 have mine : ∀ (r1 : Nat) (g1 : Reg) σ B,st.rg[r1]? = some g1 → g1.has σ true B → (ρ r1 σ).void = false → B.mine M w0 (w.setCells (ρ r π).b base us) (ρ r1 σ):=by
  intro r1 g1 σ B h1 h2 hv1
  have hb:=h.rs.own r1 g1 σ B h1 h2 hv1
  by_cases e : r = r1 ∧ π = σ
  ·obtain ⟨rfl,rfl⟩:=e
   have f : Mine M w0 (w.setCells (ρ r π).b base us) (ρ r π):=⟨hmine.own,fun j => by rw [World.frozen?_setCells];exact hmine.fz j⟩
   cases B with
   | box => exact f
   | map => exact f
   | mps => exact f
   | it => exact f
   | lp => exact f
   | arr A => exact ⟨f,whole_setCells _ _ hb.2⟩
  ·exact hb.later (other r1 g1 σ true B h1 h2 e hv1)
 refine ⟨by rw [hlen];exact h.tm,by rw [hlen];exact h.fr,h.df,?_,frame_setCells hmine.own _ _ h.bl,Γ.st _ _ h.gl fun b hb => heap b ?_,h.gn⟩
 ·rw [hlen]
  refine ⟨fun r1 g1 σ o B h1 h2 => ?_,fun r1 g1 σ o B h1 h2 hv1 => ?_,fun r1 g1 σ B h1 h2 hv1 => ?_,fun r1 r2 g1 g2 σ σ' o' B B' h1 h2 k1 k2 v1 v2 hne => ?_⟩
  ·rcases set_get h1 with ⟨rfl,rfl,_⟩ | ⟨hne,h1⟩
   ·by_cases e : σ = π
    ·subst e;exact hown o B h2
    ·obtain ⟨B1,b1,b2,_⟩:=hkeys σ o B h2
     refine b2 e _ ?_
     exact (h.rs.blk _ g σ o B1 hr b1).later (fun _ => rfl) (Nat.le_refl _) (fun _ _ _ => rfl) (fun hv1 => other _ g σ o B1 hr b1 (fun e' => e e'.2.symm) hv1)
   ·exact (h.rs.blk r1 g1 σ o B h1 h2).later (fun _ => rfl) (Nat.le_refl _) (fun _ _ _ => rfl) (fun hv1 => other r1 g1 σ o B h1 h2 (fun e' => hne e'.1.symm) hv1)
  ·rw [size_setCells]
   rcases set_get h1 with ⟨rfl,rfl,_⟩ | ⟨hne,h1⟩
   ·obtain ⟨B1,b1,_,_⟩:=hkeys σ o B h2
    exact h.rs.lt _ g σ o B1 hr b1 hv1
   ·exact h.rs.lt r1 g1 σ o B h1 h2 hv1
  ·rcases set_get h1 with ⟨rfl,rfl,_⟩ | ⟨hne,h1⟩
   ·obtain ⟨B1,b1,_,b3⟩:=hkeys σ true B h2
    exact b3 _ (mine _ g σ B1 hr b1 hv1)
   ·exact mine r1 g1 σ B h1 h2 hv1
  ·rcases set_get h1 with ⟨e1,f1,_⟩ | ⟨_,p1⟩ <;> rcases set_get h2 with ⟨e2,f2,_⟩ | ⟨_,p2⟩
   ·subst e1 f1 e2 f2
    obtain ⟨Ba,b1,_,_⟩:=hkeys σ true B k1
    obtain ⟨Bb,b2,_,_⟩:=hkeys σ' o' B' k2
    exact h.rs.dj _ _ g g σ σ' o' Ba Bb hr hr b1 b2 v1 v2 hne
   ·subst e1 f1
    obtain ⟨Ba,b1,_,_⟩:=hkeys σ true B k1
    exact h.rs.dj _ _ g g2 σ σ' o' Ba B' hr p2 b1 k2 v1 v2 hne
   ·subst e2 f2
    obtain ⟨Bb,b2,_,_⟩:=hkeys σ' o' B' k2
    exact h.rs.dj _ _ g1 g σ σ' o' B Bb p1 hr k1 b2 v1 v2 hne
   ·exact h.rs.dj _ _ g1 g2 σ σ' o' B B' p1 p2 k1 k2 v1 v2 hne
 ·have:=h.gn b hb
  rcases hmine.own with ho | ho
  ·intro e;subst e;exact this.1 ho
  ·omega
end
end Go.Sy
end
section
namespace Go.Sy
open Go Go.RowKit
universe u
section
variable {cc : Bool} {P : Program} {Γ : Glob} {E : Env} {M : Nat → Prop} {w0 : World} {ρ : Keys} {st : St} {vs : Fv} {a : Act} {w : World}
theorem fillL_get : ∀ (l : List At) (cells : List At) (off p : Nat),off + l.length ≤ cells.length → (fillL cells off l)[p]? = if off ≤ p ∧ p < off + l.length then l[p - off]? else cells[p]?
 | [],cells,off,p,_ => by simp [fillL];intro _ _;omega
 | x :: l,cells,off,p,h => by
   simp only [List.length_cons] at h ⊢
   rw [fillL,fillL_get l _ (off + 1) p (by simp;omega)]
   by_cases h1 : p = off
   ·subst h1
    rw [if_neg (by omega),if_pos (by omega),List.getElem?_set_self (by omega),Nat.sub_self];rfl
   ·by_cases h2 : off + 1 ≤ p ∧ p < off + 1 + l.length
    ·rw [if_pos h2,if_pos (by omega),show p - off = (p - (off + 1)) + 1 by omega];rfl
    ·rw [if_neg h2,if_neg (by omega),List.getElem?_set_ne (by omega)]
theorem ty_size (hE : EnvOk P Γ E) {t : TypeId} (hn : E.ty t ≠ .other) : (P.info? t).map (·.size) = some (E.ty t).cells:=by
 have:=hE.ty t
 cases hh : E.ty t <;> rw [hh] at this
 case other => exact absurd hh hn
 case st => exact this.2
 case sl => exact this.2.2
 case ar => exact this.2.2
 all_goals exact this.2
theorem boxStore (hE : EnvOk P Γ E) (h : Rel Γ M w0 ρ st vs a w) {t : TypeId} (hno : E.ty t ≠ .other) {r j : Nat} {cells l : List At} {vx : Value} (hgr : st.rg[r]? = some (.box true cells)) (hfit : j + l.length ≤ cells.length) (hl : okL (At.ok st.rg.length ρ) l vx.cells.toList) (hone : ∀ z ∈ vx.cells.toList,z.oneCell' = true)
  (hlen : l.length = (E.ty t).cells) :
  (Instr.storeAt t (.pointer (some ((ρ r []).at (0 * (ρ r []).m + j)))) vx).run P w = .ok () (w.setCells (ρ r []).b ((ρ r []).off + (0 * (ρ r []).m + j)) vx.cells.toList) ∧ Rel Γ M w0 ρ (st.setR r (.box true (fillL cells j l))) vs a (w.setCells (ρ r []).b ((ρ r []).off + (0 * (ρ r []).m + j)) vx.cells.toList):=by
 have hvlen : vx.cells.toList.length = l.length:=hl.length.symm
 have hsz:=ty_size hE hno
 have run : (∀ s,s < l.length → (w.cell? ((ρ r []).at (0 * (ρ r []).m + j + s))).isSome = true) → (∀ o,w.frozen? ⟨(ρ r []).b,o,none⟩ = false) →
   (Instr.storeAt t (.pointer (some ((ρ r []).at (0 * (ρ r []).m + j)))) vx).run P w = .ok () (w.setCells (ρ r []).b ((ρ r []).off + (0 * (ρ r []).m + j)) vx.cells.toList):=by
  intro hc hf
  have hst:=run_storeCells_cells (P:=P) (ρ r []).b ((ρ r []).off + (0 * (ρ r []).m + j)) vx.cells.toList 0 w
   (fun s hs => by have:=hc s (by omega);simpa [RI.at,Nat.add_assoc] using this) (fun s _ => hf _) hone
  have hcs : vx.cells.size = (E.ty t).cells:=by
   have : vx.cells.toList.length = (E.ty t).cells:=by rw [hvlen,hlen]
   simpa using this
  simp only [Nat.add_zero,Nat.zero_mul,Nat.zero_add] at hst
  simp [Instr.storeAt,Instr.sureAddr,storeVar,run_size hsz,hcs,RI.at,hst]
 have hB : (Reg.box true cells).has [] true (.box cells):=⟨rfl,rfl,rfl⟩
 obtain ⟨_,h1,h2,h4⟩:=h.rs.blk r _ [] true _ hgr hB
 have hm : Mine M w0 w (ρ r []):=h.rs.own r _ [] _ hgr hB h2
 have hcell : ∀ s,s < l.length → (w.cell? ((ρ r []).at (0 * (ρ r []).m + j + s))).isSome = true:=fun s hs => by
  obtain ⟨y,_,hy⟩:=h4 (j + s) cells[j + s] (List.getElem?_eq_getElem (by omega))
  rw [show 0 * (ρ r []).m + j + s = j + s by omega,hy];rfl
 refine ⟨run hcell hm.fz,h.write hgr hB h2 ?_ ?_⟩
 ·rintro σ o B' ⟨rfl,rfl,rfl⟩
  exact ⟨.box cells,hB,fun e => absurd rfl e,fun _ hh => hh⟩
 ·rintro o B' ⟨_,rfl,rfl⟩
  refine ⟨rfl,h1,h2,fun p x hx => ?_⟩
  rw [fillL_get _ _ _ _ hfit] at hx
  split at hx
  ·rename_i hp
   obtain ⟨y,hy,hr⟩:=hl.get _ _ hx
   refine ⟨y,hr,?_⟩
   have hplt : p - j < vx.cells.toList.length:=by omega
   have:=World.cell?_setCells_in (ρ r []).b vx.cells.toList ((ρ r []).off + (0 * (ρ r []).m + j)) w (fun s hs => by have:=hcell s (by omega);simpa [RI.at,Nat.add_assoc] using this) (p - j) hplt
   rw [show (ρ r []).at p = ⟨(ρ r []).b,(ρ r []).off + (0 * (ρ r []).m + j) + (p - j),none⟩ by simp only [RI.at];congr 1;omega]
   rw [this]
   rw [← List.getElem?_eq_getElem hplt];exact hy
  ·rename_i hp
   obtain ⟨y,hy,hc⟩:=h4 p x hx
   refine ⟨y,hy,?_⟩
   rw [World.cell?_setCells_out]
   ·exact hc
   ·intro _ _
    simp only [RI.at]
    omega
theorem storeK_sound (hE : EnvOk P Γ E) (h : Rel Γ M w0 ρ st vs a w) {t : TypeId} (hno : E.ty t ≠ .other) {r i j : Nat} {π : Path} {l : List At} {vx : Value} (hr : r < st.rg.length) (hl : okL (At.ok st.rg.length ρ) l vx.cells.toList) (hone : ∀ z ∈ vx.cells.toList,z.oneCell' = true)
  (hlen : l.length = (E.ty t).cells) {K : St → Prop} (hK : storeK cc st r π i j l K) :
  ∃ (w' : World) (st' : St),(Instr.storeAt t (.pointer (some ((ρ r π).at (i * (ρ r π).m + j)))) vx).run P w = .ok () w' ∧ Rel Γ M w0 ρ st' vs a w' ∧ K st':=by
 have hvlen : vx.cells.toList.length = l.length:=hl.length.symm
 have hsz:=ty_size hE hno
 have run : (∀ s,s < l.length → (w.cell? ((ρ r π).at (i * (ρ r π).m + j + s))).isSome = true) → (∀ o,w.frozen? ⟨(ρ r π).b,o,none⟩ = false) →
   (Instr.storeAt t (.pointer (some ((ρ r π).at (i * (ρ r π).m + j)))) vx).run P w = .ok () (w.setCells (ρ r π).b ((ρ r π).off + (i * (ρ r π).m + j)) vx.cells.toList):=by
  intro hc hf
  have hst:=run_storeCells_cells (P:=P) (ρ r π).b ((ρ r π).off + (i * (ρ r π).m + j)) vx.cells.toList 0 w
   (fun s hs => by have:=hc s (by omega);simpa [RI.at,Nat.add_assoc] using this) (fun s _ => hf _) hone
  have hcs : vx.cells.size = (E.ty t).cells:=by
   have : vx.cells.toList.length = (E.ty t).cells:=by rw [hvlen,hlen]
   simpa using this
  simp only [Nat.add_zero] at hst
  simp [Instr.storeAt,Instr.sureAddr,storeVar,run_size hsz,hcs,RI.at,hst]
 unfold storeK at hK
 split at hK
 ·rename_i cells hg
  split at hK
  ·rename_i hfit
   rw [St.setRK_eq] at hK
   have hgr:=getD_reg hg (by simp)
   have hfit:=Nat.le_of_ble_eq_true hfit
   have hB : (Reg.box true cells).has [] true (.box cells):=⟨rfl,rfl,rfl⟩
   obtain ⟨_,h1,h2,h4⟩:=h.rs.blk r _ [] true _ hgr hB
   have hm : Mine M w0 w (ρ r []):=h.rs.own r _ [] _ hgr hB h2
   have hcell : ∀ s,s < l.length → (w.cell? ((ρ r []).at (0 * (ρ r []).m + j + s))).isSome = true:=fun s hs => by
    obtain ⟨y,_,hy⟩:=h4 (j + s) cells[j + s] (List.getElem?_eq_getElem (by omega))
    rw [show 0 * (ρ r []).m + j + s = j + s by omega,hy];rfl
   refine ⟨_,_,run hcell hm.fz,h.write hgr hB h2 ?_ ?_,hK⟩
   ·rintro σ o B' ⟨rfl,rfl,rfl⟩
    exact ⟨.box cells,hB,fun e => absurd rfl e,fun _ hh => hh⟩
   ·rintro o B' ⟨_,rfl,rfl⟩
    refine ⟨rfl,h1,h2,fun p x hx => ?_⟩
    rw [fillL_get _ _ _ _ hfit] at hx
    split at hx
    ·rename_i hp
     obtain ⟨y,hy,hr⟩:=hl.get _ _ hx
     refine ⟨y,hr,?_⟩
     have hplt : p - j < vx.cells.toList.length:=by omega
     have:=World.cell?_setCells_in (ρ r []).b vx.cells.toList ((ρ r []).off + (0 * (ρ r []).m + j)) w (fun s hs => by have:=hcell s (by omega);simpa [RI.at,Nat.add_assoc] using this) (p - j) hplt
     rw [show (ρ r []).at p = ⟨(ρ r []).b,(ρ r []).off + (0 * (ρ r []).m + j) + (p - j),none⟩ by simp only [RI.at];congr 1;omega]
     rw [this]
     rw [← List.getElem?_eq_getElem hplt];exact hy
    ·rename_i hp
     obtain ⟨y,hy,hc⟩:=h4 p x hx
     refine ⟨y,hy,?_⟩
     rw [World.cell?_setCells_out]
     ·exact hc
     ·intro _ _
      simp only [RI.at]
      omega
  ·exact hK.elim
 ·split at hK
  ·rename_i g hnb q B hmine hd
   split at hK
   ·rename_i b hb
    rw [oblige_iff,obl_append] at hK
    obtain ⟨⟨hq,hi,_⟩,hK⟩:=hK
    simp only [Duty.of_p] at hi
    obtain ⟨te,tg,xs,o,inn,hg,hA,hB⟩:=Reg.dn_arr hmine hd hq
    have hgr:=getD_reg hg (by simp)
    have hflag : flagAt π o inn = true:=by
     rw [hg] at hmine
     cases π <;> exact hmine
    rw [hflag] at hB
    rw [hg] at hB
    have hL : B.lies w (ρ r) π:=h.rs.blk r _ π true (.arr B) hgr hB
    have hv : (ρ r π).void = false:=by
     cases hv : (ρ r π).void with
     | false => rfl
     | true => rw [hL.void hv] at hi;simp at hi
    have hm : Mine M w0 w (ρ r π):=(h.rs.own r _ π _ hgr hB hv).1
    obtain ⟨ys,c1,c2⟩:=hL.cell i hi
    obtain ⟨u1,_,u3⟩:=updAll_lies hb hl c1
    have hylen:=lies_length c1
    have hcell : ∀ s,s < l.length → (w.cell? ((ρ r π).at (i * (ρ r π).m + j + s))).isSome = true:=fun s hs => by
     have hjs:=u1 s hs
     have:=c2 (j + s) ys[j + s] (List.getElem?_eq_getElem (by omega))
     rw [Nat.add_assoc,this];rfl
    -- the content turned
    unfold arrUp at hK
    rw [hg] at hK
    simp only at hK
    split at hK
    ·rename_i A' hup
     split at hK
     ·rename_i te' tg' xs' ht' hteq
      split at hK
      case h_2 => exact hK.elim
      rename_i hte
      rw [St.setNK_eq] at hK
      obtain rfl:=Nat.eq_of_beq_eq_true hte
      obtain rfl:=ht'.down
      obtain ⟨s1,s2,s3,s4⟩:=up_spec hA hup rfl rfl (by simp)
      have hinn : bAnd inn true = inn:=by cases inn <;> rfl
      rw [hinn] at hK
      refine ⟨_,_,run hcell hm.fz,h.write hgr hB hv ?_ ?_,hK⟩
      ·rintro σ f B' ⟨hf,C',hC',rfl⟩
       rcases s4 σ C' hC' with ⟨τ,rfl⟩ | ⟨C,k1,k2⟩
       ·obtain ⟨D,d1,d2⟩:=has_append.1 hC'
        obtain rfl:=has_fun d1 s1
        rcases path_last τ with rfl | ⟨τ',k,m,rfl⟩
        ·obtain rfl : C' = _:=d2
         exact ⟨.arr B,⟨hf,B,by simpa using hA,rfl⟩,fun e => absurd (by simp) e,fun _ hh => hh⟩
        ·obtain ⟨D,e1,e2,e3⟩:=has_snoc.1 d2
         have e1' : k < B.xs.length:=by simpa using e1
         have e2' : Tup.sub B.tg (B.get k) m = some D:=by
          rw [← e2,get_set hi]
          split
          ·rename_i e4;subst e4;exact (u3 m).symm
          ·rfl
         exact ⟨.arr C',⟨hf,C',has_append.2 ⟨B,hA,has_snoc.2 ⟨D,e1',e2',e3⟩⟩,rfl⟩,fun _ _ hh => hh,fun _ hh => hh⟩
       ·obtain ⟨htg,hsame⟩:=k2.tg
        refine ⟨.arr C,⟨hf,C,k1,rfl⟩,fun _ w' hh => ?_,fun w' hh => ?_⟩
        ·have hh : C.lies w' (ρ r) σ:=hh
         exact ⟨by rw [htg];exact hh.tg,by rw [htg];exact hh.m,fun hv => by have:=hh.void hv;exact List.eq_nil_of_length_eq_zero (by rw [k2.len,this];rfl),fun hv => by rw [k2.len];exact hh.len hv,fun n hn => by
          obtain ⟨zs,z1,z2⟩:=hh.cell n (by rw [← k2.len];exact hn)
          exact ⟨zs,hsame _ _ _ _ (by rw [← k2.len];exact hn) z1,z2⟩⟩
        ·exact ⟨hh.1,by rw [k2.te];exact hh.2⟩
      ·rintro f B' ⟨hf,C',hC',rfl⟩
       obtain rfl:=has_fun hC' s1
       show Ar.lies _ (ρ r) π _
       refine ⟨hL.tg,hL.m,fun hh => absurd hh (by rw [hv];simp),fun hh => by simpa using hL.len hh,fun n hn => ?_⟩
       have hn' : n < B.xs.length:=by simpa using hn
       by_cases e : n = i
       ·subst e
        rw [get_set hi,if_pos rfl]
        obtain ⟨_,⟨ys',v1,v2⟩,_⟩:=updAll_lies hb hl c1
        refine ⟨ys',v1,fun s y hy => ?_⟩
        have hs : s < B.tg.length:=by rw [← lies_length v1];exact (List.getElem?_eq_some_iff.1 hy).1
        rw [v2 s] at hy
        split at hy
        ·rename_i hp
         have hplt : s - j < vx.cells.toList.length:=by omega
         have:=World.cell?_setCells_in (ρ r π).b vx.cells.toList ((ρ r π).off + (n * (ρ r π).m + j)) w (fun s hs => by have:=hcell s (by omega);simpa [RI.at,Nat.add_assoc] using this) (s - j) hplt
         rw [show (ρ r π).at (n * (ρ r π).m + s) = ⟨(ρ r π).b,(ρ r π).off + (n * (ρ r π).m + j) + (s - j),none⟩ by simp only [RI.at];congr 1;omega]
         rw [this,← List.getElem?_eq_getElem hplt];exact hy
        ·rename_i hp
         rw [World.cell?_setCells_out]
         ·exact c2 s y hy
         ·intro _ _
          simp only [RI.at]
          omega
       ·rw [get_set hi,if_neg e]
        obtain ⟨zs,z1,z2⟩:=hL.cell n hn'
        refine ⟨zs,z1,fun s y hy => ?_⟩
        have hs : s < B.tg.length:=by rw [← lies_length z1];exact (List.getElem?_eq_some_iff.1 hy).1
        rw [World.cell?_setCells_out]
        ·exact z2 s y hy
        ·intro _ _
         simp only [RI.at]
         rcases Nat.lt_or_gt_of_ne e with hlt | hgt
         ·have h1 : (n + 1) * (ρ r π).m ≤ i * (ρ r π).m:=Nat.mul_le_mul_right _ hlt
          rw [Nat.add_mul] at h1
          have:=hL.m
          omega
         ·have h1 : (i + 1) * (ρ r π).m ≤ n * (ρ r π).m:=Nat.mul_le_mul_right _ hgt
          rw [Nat.add_mul] at h1
          have:=hL.m
          by_cases hz : l.length = 0
          ·omega
          ·have:=u1 (l.length - 1) (by omega)
           omega
     ·exact hK.elim
    ·exact hK.elim
   ·exact hK.elim
  ·exact hK.elim
end
end Go.Sy
end
