/-
  Texts of the claims: Sy4t. No condition: lemmas and contracts.
-/
import Derived.Test.YtcmojakklijgfaaGreatDoorSy3t
import Derived.RangeFuncLeaves
import Derived.RangeFuncRecord
import Derived.TacticsIn
import Derived.LoopNIn
import Derived.Sort.LoopGhostIn
import Derived.Scope
set_option linter.all false
set_option maxRecDepth 100000
set_option maxHeartbeats 4000000
section
namespace Go.Sy
open Go Go.RowKit
universe u
section
variable {P : Program} {Γ : Glob} {E : Env} {cl : Cl} {M : Nat → Prop} {w0 : World} {ρ : Keys} {st : St} {vs : Fv} {a : Act} {w : World}
theorem Rel.reput (h : Rel Γ M w0 ρ st vs a w) {d : Nat} {x : Tm} (hx : x.ok st.rg.length ρ (a.tmps.getD d undef)) : Rel Γ M w0 ρ (st.put (some d) x) vs a w:=by
 have e : a.tmps.setIfInBounds d (a.tmps.getD d undef) = a.tmps:=by
  apply Array.ext (by simp)
  intro i h1 h2
  rw [Array.getElem_setIfInBounds (by simpa using h2)]
  split
  ·rename_i hi;subst hi;simp [Array.getD,h2]
  ·rfl
 have:=h.tm.put d hx
 rw [e] at this
 exact ⟨this,h.fr,h.df,h.rs,h.bl,h.gl,h.gn⟩
theorem getD_ok (h : Rel Γ M w0 ρ st vs a w) (t : Nat) : (st.tm.get t).ok st.rg.length ρ (a.tmps.getD t undef):=h.tm.h t
theorem yielded_of {ops : Array Oper} {j d : Nat} (hd : (ops[j]?).bind (·.dst) = some d) {b : Bool} (hb : a.tmps.getD d undef = .bool b) : yielded ops a.tmps j = some b:=by
 unfold yielded
 rw [hd]
 cases hh : a.tmps[d]? with
 | none => simp [Array.getD_eq_getD_getElem?,hh,undef] at hb
 | some y =>
   have : y = .bool b:=by simpa [Array.getD_eq_getD_getElem?,hh] using hb
   subst this
   simp [hh]
theorem yielded_un {ops : Array Oper} {j d : Nat} (hd : (ops[j]?).bind (·.dst) = some d) (hb : a.tmps.getD d undef = undef) : yielded ops a.tmps j = none:=by
 unfold yielded
 rw [hd]
 cases hh : a.tmps[d]? with
 | none => simp [hh]
 | some y =>
   have : y = undef:=by simpa [Array.getD_eq_getD_getElem?,hh] using hb
   subst this
   simp [hh,undef]
theorem evGuard_sound (h : Rel Γ M w0 ρ st vs a w) {ops : Array Oper} {o : Oper} {yes no : St → Prop} {cc : Bool} (he : evGuard cc st ops o.guard yes no) :
  (∃ st',yes st' ∧ Rel Γ M w0 ρ st' vs a w ∧ Region.wanted o (yielded ops a.tmps) = true) ∨ (∃ st',no st' ∧ Rel Γ M w0 ρ st' vs a w ∧ Region.wanted o (yielded ops a.tmps) = false):=by
 unfold evGuard at he
 unfold Region.wanted
 split at he
 ·rename_i hg;exact .inl ⟨st,he,h,by simp [hg]⟩
 ·rename_i j want hg
  simp only [hg]
  split at he
  ·exact he.elim
  ·rename_i d hd
   have hok:=getD_ok h d
   split at he
   ·rename_i ht
    rw [ht] at hok
    rw [yielded_un hd hok]
    exact .inr ⟨st,he,h,by simp⟩
   ·rename_i ht
    rw [ht] at hok
    rw [yielded_of hd hok]
    cases want with
    | true => exact .inl ⟨st,he,h,by simp⟩
    | false => exact .inr ⟨st,he,h,by simp⟩
   ·rename_i ht
    rw [ht] at hok
    rw [yielded_of hd hok]
    cases want with
    | true => exact .inr ⟨st,he,h,by simp⟩
    | false => exact .inl ⟨st,he,h,by simp⟩
   ·rename_i b ht
    rw [ht] at hok
    have hok : a.tmps.getD d undef = .bool b:=hok.1
    rw [yielded_of hd hok]
    have htt : b = true → Rel Γ M w0 ρ (st.put (some d) (.a .tt)) vs a w:=fun hb => h.reput (by rw [hok,hb];rfl)
    have hff : b = false → Rel Γ M w0 ρ (st.put (some d) (.a .ff)) vs a w:=fun hb => h.reput (by rw [hok,hb];rfl)
    split at he
    ·cases b <;> cases want <;> simp only [St.putK_iff] at he
     ·exact .inl ⟨_,he.2,hff rfl,by simp⟩
     ·exact .inr ⟨_,he.2,hff rfl,by simp⟩
     ·exact .inr ⟨_,he.2,htt rfl,by simp⟩
     ·exact .inl ⟨_,he.2,htt rfl,by simp⟩
    cases want with
    | true =>
      simp only [St.putK_iff] at he
      cases b with
      | true => exact .inl ⟨_,(he.1 rfl).2,htt rfl,by simp⟩
      | false => exact .inr ⟨_,(he.2 rfl).2,hff rfl,by simp⟩
    | false =>
      simp only [St.putK_iff] at he
      cases b with
      | true => exact .inr ⟨_,(he.1 rfl).2,htt rfl,by simp⟩
      | false => exact .inl ⟨_,(he.2 rfl).2,hff rfl,by simp⟩
   ·exact he.elim
theorem evOps_sound (hP : ProgOk P Γ E) (hC : ClOk P Γ E cl) {ops : Array Oper} {K : St → Prop} {Q : Exit → Act → World → Prop} (hK : ∀ st' a' w' ρ',K st' → Rel Γ M w0 ρ' st' vs a' w' → Q .normal a' w') :
  ∀ (l : List Oper) (st : St) (a : Act) (w : World) (ρ : Keys),evOps E cl ops l st K → Rel Γ M w0 ρ st vs a w → wpList P ops Q l a w
 | [],st,a,w,ρ,he,h => hK _ _ _ _ he h
 | o :: rest,st,a,w,ρ,he,h => by
   change evGuard E.conc st ops o.guard (fun st => evOp E cl st o (fun st => evOps E cl ops rest st K)) (fun st => st.putK o.dst (.a .un) (fun st => evOps E cl ops rest st K)) at he
   unfold wpList
   rcases evGuard_sound h he with ⟨st',hy,h',hw⟩ | ⟨st',hn,h',hw⟩
   ·rw [if_pos hw]
    exact .inl (evOp_sound hP hC h' hy fun st2 a2 w2 ρ2 hk hr => evOps_sound hP hC hK rest st2 a2 w2 ρ2 hk hr)
   ·rw [if_neg (by rw [hw];simp)]
    simp only [St.putK_iff] at hn
    exact evOps_sound hP hC hK rest _ _ _ _ hn.2 (h'.put o.dst (x:=.a .un) (y:=undef) rfl)
theorem At.fun {N : Nat} {x : At} {y y' : Value} (hs : x.sure = true) (h : x.ok N ρ y) (h' : x.ok N ρ y') : y = y':=by
 cases x <;> first | (simp [At.sure] at hs;done) | exact h.trans h'.symm | exact h.1.trans h'.1.symm | exact h.2.trans h'.2.symm | exact h.2.2.trans h'.2.2.symm
theorem okL_fun {α : Type} {R : α → Value → Prop} {f : α → Bool} (hf : ∀ x y y',f x = true → R x y → R x y' → y = y') : ∀ {l : List α} {ys ys' : List Value},allL f l = true → okL R l ys → okL R l ys' → ys = ys'
 | [],[],[],_,_,_ => rfl
 | x :: l,y :: ys,y' :: ys',hs,h,h' => by
   simp only [allL] at hs
   split at hs
   ·rename_i hx
    rw [hf x y y' hx h.1 h'.1,okL_fun hf hs h.2 h'.2]
   ·cases hs
theorem C1.fun {N : Nat} {x : C1} {y y' : Value} (hs : x.sure = true) (h : x.ok N ρ y) (h' : x.ok N ρ y') : y = y':=by
 cases x with
 | a x => exact At.fun hs h h'
 | agg l =>
   obtain ⟨ys,rfl,h⟩:=h
   obtain ⟨ys',rfl,h'⟩:=h'
   rw [okL_fun (fun _ _ _ => At.fun) hs h h']
theorem Tm.fun {N : Nat} {x : Tm} {y y' : Value} (hs : x.sure = true) (h : x.ok N ρ y) (h' : x.ok N ρ y') : y = y':=by
 cases x with
 | a x => exact At.fun hs h h'
 | agg l =>
   obtain ⟨ys,rfl,h⟩:=h
   obtain ⟨ys',rfl,h'⟩:=h'
   rw [okL_fun (fun _ _ _ => At.fun) hs h h']
 | tup l =>
   obtain ⟨ys,rfl,h⟩:=h
   obtain ⟨ys',rfl,h'⟩:=h'
   rw [okL_fun (fun _ _ _ => C1.fun) hs h h']
theorem evP_later (hE : EnvOk P Γ E) (h : Rel Γ M w0 ρ st vs a w) {o : Oper} {q : List Duty} {x : Tm} (he : evP E st o = some (q,x)) (hq : obl q) (hc : calm o x = true) :
  ∃ y,(∀ w1,Below w.heap.size w w1 → (execOp a.eval o).run P w1 = .ok (.value y) w1) ∧ x.ok st.rg.length ρ y:=by
 obtain ⟨y,hr,hy⟩:=evP_sound hE h he hq
 unfold calm at hc
 split at hc
 ·rename_i hro
  unfold readOp at hro
  split at hro
  ·rename_i u hop
   refine ⟨y,fun w1 _ => ?_,hy⟩
   simp only [execOp,hop,Sem.run_pure,Result.ok.injEq] at hr ⊢
   exact ⟨hr.1,trivial⟩
  ·rename_i u hop
   refine ⟨y,fun w1 _ => ?_,hy⟩
   simp only [execOp,hop,Sem.run_pure,Result.ok.injEq] at hr ⊢
   exact ⟨hr.1,trivial⟩
  ·rename_i t ad hop
   simp only [evP,hop] at he
   split at he
   ·rename_i hx
    obtain ⟨y,h1,h2⟩:=evLoad_sound hE h (ev_sound h hx) he hq
    exact ⟨y,fun w1 hw => by simp [execOp,hop,h1 w1 hw],h2⟩
   ·cases he
  ·rename_i t i hop
   refine ⟨y,fun w1 _ => ?_,hy⟩
   have : (Instr.extract (a.eval t) i).run P w = .ok y w:=by
    simp only [execOp,hop] at hr
    cases hh : (Instr.extract (a.eval t) i).run P w with
    | ok v w' => rw [Sem.run_bind,hh] at hr;simp at hr;rw [hr.1,hr.2]
    | halt e w' => rw [Sem.run_bind,hh] at hr;cases hr
   have : (Instr.extract (a.eval t) i).run P w1 = .ok y w1:=by
    unfold Instr.extract at this ⊢
    split at this <;> (try split at this) <;> simp_all
   simp [execOp,hop,this]
  ·rename_i t u lo hi hop
   simp only [evP,hop] at he
   split at he
   ·rename_i hx
    obtain ⟨y,h1,h2⟩:=evSlice_sound hE h (ev_sound h hx) he hq
    exact ⟨y,fun w1 _ => by simp [execOp,hop,h1 w1],h2⟩
   ·cases he
  ·rename_i t m n hop
   simp only [evP,hop] at he
   split at he
   ·rename_i kt et ht
    split at he
    ·rename_i k c' x k' n' hk hc' hx hi
     split at he
     ·rename_i es hs hm
      simp only [Option.some.injEq,Prod.mk.injEq] at he;obtain ⟨rfl,rfl⟩:=he
      obtain ⟨hu,_⟩:=hE.tyMap ht
      have hku : P.underlying kt = some (.int k):=by have:=hE.ty kt;rw [hk] at this;exact this.1
      obtain rfl:=sameKind_eq hs
      have hvi : a.eval _ = .int k' n':=(ev_sound h hi).1
      obtain ⟨y,h1,h2⟩:=lookup_later h hu hku (hE.sc et c' hc') hm (ev_sound h hx) n'
      exact ⟨y,fun w1 hw1 => by simp [execOp,hop,hvi,h1 w1 hw1],h2⟩
     ·cases he
    ·rename_i r l hx hi
     split at he
     ·rename_i t' kk e tg es o i kk' e' tg' _ hg hk hv
      split at he
      ·rename_i q1 q2 q3 k _ _ _ hc'
       simp only [Option.some.injEq,Prod.mk.injEq] at he;obtain ⟨rfl,rfl⟩:=he
       have hin:=hq.1
       simp only [Duty.of_p] at hin
       obtain ⟨y,h1,h2⟩:=lookup_there hE h ht hg hk hv q1.down hc' hin (ev_sound h hx) (ev_sound h hi)
       exact ⟨y,fun w1 hw1 => by simp [execOp,hop,h1 w1 hw1],h2⟩
      ·cases he
     ·cases he
    ·cases he
   ·cases he
  ·cases hro
 ·split at hc
  ·rename_i hpu
   obtain ⟨y,h1,h2⟩:=evP_pure hE h hpu he hq
   exact ⟨y,fun w1 _ => h1 w1,h2⟩
  ·exact ⟨y,fun w1 hw => by
    obtain ⟨y',hr',hy'⟩:=evP_sound hE (h.later hw) he hq
    rw [hr',Tm.fun hc hy' hy],hy⟩
theorem evQ1_soundG (hP : ProgOk P Γ E) {w1 : World} (h : Rel Γ M w0 ρ st vs a w1) {o : Oper} {q : List Duty} {x : Tm} (he : evQ1 E st o = some (q,x)) (hq : obl q) (hs : calm o x = true) :
  ∃ v,x.ok st.rg.length ρ v ∧ ∀ w,Below w1.heap.size w1 w → o.quietAt P a (fun w' => Below w.heap.size w w') w v:=by
 unfold evQ1 at he
 split at he
 ·rename_i c hco
  have hop : o.op = .call c:=by
   unfold callOf at hco
   split at hco
   ·rename_i c' hop
    split at hco
    ·simp only [Option.some.injEq] at hco;subst hco;exact hop
    ·cases hco
   ·cases hco
  have hs : x.sure = true:=by
   unfold calm readOp pureOp at hs
   rw [hop] at hs
   exact hs
  split at he
  ·rename_i fo hcal
   split at he
   ·rename_i f caps args hcl hargs
    obtain ⟨us,hv,hcaps⟩:=evCallee_sound h hcl
    have hall:=(evAll_sound h hargs).append hcaps
    split at he
    ·rename_i F hF
     have hct : Ctr.Ok P Γ f (.fn F):=hP.env.ct f _ hF
     have call : ∀ w,Below w1.heap.size w1 w → Calls P f ((c.args.toList.map a.eval) ++ us).toArray w fun e w' => ∃ v,e = .returned v ∧ x.ok st.rg.length ρ v ∧ Below w.heap.size w w':=fun w hw =>
      hct _ _ _ _ he hq M w0 ρ w _ (h.later hw).bl.size (fun b hb => Nat.lt_of_lt_of_le (h.gn b hb).2 (h.later hw).bl.size) (h.later hw).gl hall (h.later hw).rs
     obtain ⟨e,w',fr,⟨v,_,hxv,_⟩,_⟩:=call w1 (Below.refl _ _) []
     refine ⟨v,hxv,fun w hw => ?_⟩
     unfold Oper.quietAt
     rw [run_call (hP.fn f _ hF) hop hcal hv]
     refine ⟨rfl,(call w hw).mono ?_⟩
     rintro e w' ⟨v',rfl,hv',hb⟩
     exact ⟨by rw [Tm.fun hs hv' hxv],hb⟩
    ·cases he
   ·cases he
  ·cases he
 ·obtain ⟨y,hr,hy⟩:=evP_later hP.env h he hq hs
  refine ⟨y,hy,fun w hw => ?_⟩
  unfold Oper.quietAt
  rw [hr w hw]
  exact ⟨rfl,rfl⟩
theorem quietAt_mono {o : Oper} {a : Act} {C C' : World → Prop} {w : World} {v : Value} (hc : ∀ w',C w' → C' w') (h : o.quietAt P a C w v) : o.quietAt P a C' w v:=by
 unfold Oper.quietAt at *
 generalize (execOp a.eval o).run P w = r at *
 cases r with
 | ok n w' =>
   cases n <;> simp only [Oper.quietUpon] at h ⊢ <;> try exact h
   exact ⟨h.1,h.2.mono fun e w'' ⟨he,hw⟩ => ⟨he,hc _ hw⟩⟩
 | halt x w' => exact h
theorem evQ1_sound (hP : ProgOk P Γ E) {w1 : World} (h : Rel Γ M w0 ρ st vs a w1) {o : Oper} {q : List Duty} {x : Tm} (he : evQ1 E st o = some (q,x)) (hq : obl q) (hs : calm o x = true) :
  ∃ v,x.ok st.rg.length ρ v ∧ ∀ w,Below w1.heap.size w1 w → o.quietAt P a (fun w' => Below w1.heap.size w1 w') w v:=by
 obtain ⟨v,h1,h2⟩:=evQ1_soundG hP h he hq hs
 exact ⟨v,h1,fun w hw => quietAt_mono (fun w' hb => hw.trans (hb.mono hw.size)) (h2 w hw)⟩
theorem evQ_sound (hP : ProgOk P Γ E) {w1 : World} {ops : Array Oper} {K : St → Prop} {Qf : Act → Prop} (hK : ∀ st' a',K st' → Rel Γ M w0 ρ st' vs a' w1 → Qf a') :
  ∀ (l : List Oper) (st : St) (a : Act),evQ E ops l st K → Rel Γ M w0 ρ st vs a w1 → wpQuiet P ops (fun w' => Below w1.heap.size w1 w') Qf l a
 | [],st,a,he,h => hK _ _ he h
 | o :: rest,st,a,he,h => by
   change evGuard E.conc st ops o.guard
    (fun st => match evQ1 E st o with
      | some (q,x) => oblige E.conc q (match calm o x with | true => st.putN E o x (fun st => evQ E ops rest st K) | false => False)
      | none => False)
    (fun st => st.putK o.dst (.a .un) (fun st => evQ E ops rest st K)) at he
   unfold wpQuiet
   rcases evGuard_sound h he with ⟨st',hy,h',hw⟩ | ⟨st',hn,h',hw⟩
   ·rw [if_pos hw]
    split at hy
    ·rename_i q x hp
     rw [oblige_iff] at hy
     obtain ⟨hq,hy⟩:=hy
     split at hy
     ·rename_i hs
      rw [St.putN_iff] at hy
      obtain ⟨v,hv,hall⟩:=evQ1_sound hP h' hp hq hs
      exact ⟨v,hall,evQ_sound hP hK rest _ _ hy.2 (h'.put o.dst hv)⟩
     ·exact hy.elim
    ·exact hy.elim
   ·rw [if_neg (by rw [hw];simp)]
    simp only [St.putK_iff] at hn
    exact evQ_sound hP hK rest _ _ hn.2 (h'.put o.dst (x:=.a .un) (y:=undef) rfl)
def YieldsG (P : Program) (ops : Array Oper) (S : World → Prop) (o : Oper) (v : Value) (a : Act) : Prop :=
 (Region.wanted o (yielded ops a.tmps) = true ∧ ∀ w,S w → o.quietAt P a (fun w' => Below w.heap.size w w') w v) ∨
 (Region.wanted o (yielded ops a.tmps) = false ∧ v = undef)
theorem YieldsG.of_same {ops : Array Oper} {S : World → Prop} {o : Oper} {v : Value} {a a' : Act} (hy : YieldsG P ops S o v a) (he : execOp a'.eval o = execOp a.eval o)
  (hw : Region.wanted o (yielded ops a'.tmps) = Region.wanted o (yielded ops a.tmps)) : YieldsG P ops S o v a':=by
 unfold YieldsG Oper.quietAt at *
 rw [he,hw]
 exact hy
theorem YieldsG.sub {ops : Array Oper} {S S' : World → Prop} {o : Oper} {v : Value} {a : Act} (hs : ∀ w,S' w → S w) (hy : YieldsG P ops S o v a) : YieldsG P ops S' o v a :=
 hy.imp (fun ⟨h1,h2⟩ => ⟨h1,fun w hw => h2 w (hs w hw)⟩) id
def Shut (S : World → Prop) : Prop:=∀ w w',S w → Below w.heap.size w w' → S w'
theorem Shut.below (w : World) : Shut (fun w' => Below w.heap.size w w'):=fun _ _ h h' => h.trans (h'.mono h.size)
theorem YieldsG.wpOp {ops : Array Oper} {S : World → Prop} {i : Nat} {o : Oper} {v : Value} {Q : Exit → Act → World → Prop} (hi : ops[i]? = some o) (hS : Shut S) (hy : YieldsG P ops S o v a) {K : Act → World → Prop}
  (h : ∀ w',S w' → K (a.put o.dst v) w') {w : World} (hw : S w) : wpOp P ops Q i K a w:=by
 unfold Go.wpOp
 simp only [hi]
 rcases hy with ⟨hw',hv⟩ | ⟨hw',rfl⟩
 ·simp only [hw',if_true]
  refine .inl ?_
  have h3:=hv w hw
  unfold Oper.quietAt at h3
  unfold Oper.wp
  generalize (execOp a.eval o).run P w = r at *
  cases r with
  | ok n w' =>
    cases n <;> simp only [Oper.quietUpon] at h3 <;> simp only [Oper.upon]
    case value u => obtain ⟨e1,e2⟩:=h3;rw [e1,e2];exact h _ hw
    case skip => obtain ⟨e1,e2⟩:=h3;rw [e1,← e2];exact h _ hw
    case enter f args =>
     obtain ⟨e1,hc⟩:=h3
     rw [e1]
     exact hc.mono fun e w'' ⟨he,hw''⟩ => by subst he;exact h _ (hS _ _ hw hw'')
  | halt x w' => simp only [Oper.quietUpon] at h3
 ·simp only [hw',Bool.false_eq_true,if_false];exact h _ hw
theorem wpOp_putG {ops : Array Oper} {S : World → Prop} {j : Nat} {oi oj : Oper} {v : Value} {Q : Exit → Act → World → Prop} (hj : ops[j]? = some oj) (hap : oi.apart ops oj = true)
  (hsi : ∀ cs b,oi.op ≠ .select cs b) (hsj : ∀ cs b,oj.op ≠ .select cs b) (hQ : ∀ c a w,¬ Q (.panic c) a w) {K : Act → World → Prop} {a : Act} {w : World}
  (hy : YieldsG P ops S oi v a) (h : wpOp P ops Q j K (a.put oi.dst v) w) : wpOp P ops Q j (fun a' w' => YieldsG P ops S oi v a' ∧ K (a'.put oi.dst v) w') a w:=by
 obtain ⟨h1,h2,h3⟩:=Oper.apart_spec hap
 have keep : ∀ (a : Act),YieldsG P ops S oi v a → ∀ u,YieldsG P ops S oi v (a.put oj.dst u):=fun a hy u =>
  hy.of_same (execOp_put oi hsi a oj.dst u h3) (wanted_put oi a oj.dst u h3)
 unfold wpOp at *
 simp only [hj] at *
 rw [wanted_put oj a oi.dst v h1] at h
 split
 ·rename_i hw
  simp only [hw,if_true] at h
  rcases h with h | ⟨hasks,hlets⟩
  case inr => exact .inr ⟨by unfold Oper.asks at *;rw [execOp_put oj hsj a oi.dst v h1] at hasks;exact hasks,hlets⟩
  refine .inl ?_
  unfold Oper.wp at *
  rw [execOp_put oj hsj a oi.dst v h1] at h
  generalize (execOp a.eval oj).run P w = r at *
  cases r with
  | ok n w' =>
    cases n <;> simp only [Oper.upon] at h ⊢
    case value u => exact ⟨keep a hy u,by rw [← Act.put_comm a v u h2];exact h⟩
    case skip => exact ⟨keep a hy _,by rw [← Act.put_comm a v undef h2];exact h⟩
    case defer d =>
     refine ⟨keep { a with defers:=d :: a.defers } (hy.of_same rfl rfl) _,?_⟩
     rw [← Act.put_comm _ v undef h2,← Act.put_defers]
     exact h
    case enter f args =>
     refine Calls.mono h fun e w'' he => ?_
     cases e with
     | returned u => exact ⟨keep a hy u,by rw [← Act.put_comm a v u h2];exact he⟩
     | panicked c => exact absurd he (hQ _ _ _)
     | outgrown => exact he
    case row row args => exact Rows.mono h fun u w'' he => ⟨keep a hy u,by rw [← Act.put_comm a v u h2];exact he⟩
  | halt x w' =>
    cases x <;> simp only [Oper.upon] at h ⊢
    case panic u => exact absurd h (hQ _ _ _)
 ·rename_i hw
  simp only [hw] at h
  exact ⟨keep a hy _,by rw [← Act.put_comm a v undef h2];exact h⟩
def anyG (P : Program) (ops : Array Oper) (Q : Exit → Act → World → Prop) (n : Nat) (L : Array Bool → Act → World → Prop) : Nat → (World → Prop) → Array Bool → Act → Prop
 | 0,S,listed,a => ∀ w,S w → L listed a w
 | f + 1,S,listed,a => Region.ready .any ops listed ≠ [] ∧ ∀ i ∈ Region.ready .any ops listed,i < n ∧
    ∀ w,S w → wpOp P ops Q i (fun a' w' => ∃ S',S' w' ∧ (∀ v,S' v → S v) ∧ Shut S' ∧ anyG P ops Q n L f S' (listed.setIfInBounds i true) a') a w
theorem anyG_any {ops : Array Oper} {Q : Exit → Act → World → Prop} {n g : Nat} {L : Array Bool → Act → World → Prop} (hL : ∀ listed a w,L listed a w → wpAny P .any ops Q g listed a w) :
  ∀ (f : Nat) (S : World → Prop) (listed : Array Bool) (a : Act) (w : World),S w → anyG P ops Q n L f S listed a → wpAny P .any ops Q (f + g) listed a w
 | 0,S,listed,a,w,hw,h => by rw [Nat.zero_add];exact hL _ _ _ (h w hw)
 | f + 1,S,listed,a,w,hw,h => by
   rw [show f + 1 + g = (f + g) + 1 by omega]
   refine ⟨fun h0 => absurd h0 h.1,fun i hi => wpOp_mono (fun a' w' hh => ?_) ((h.2 i hi).2 w hw)⟩
   obtain ⟨S',h1,_,_,h4⟩:=hh
   exact anyG_any hL f S' _ a' w' h1 h4
theorem anyG_first {ops : Array Oper} {Q : Exit → Act → World → Prop} {n i : Nat} {oi : Oper} {v : Value} {L : Array Bool → Act → World → Prop} (hi : ops[i]? = some oi) (hsel : ∀ (j : Nat) (o : Oper) cs b,ops[j]? = some o → o.op ≠ .select cs b)
  (hQ : ∀ c a w,¬ Q (.panic c) a w) (ht : tailB ops n = true) (hin : i < n) (hdone : ∀ listed a w,L listed a w → ∀ j ∈ Region.ready .any ops listed,n ≤ j) :
  ∀ (f : Nat) (S : World → Prop) (listed : Array Bool) (a : Act),HeadInv .any ops n listed → Shut S → (∃ w,S w) →
   (∀ j oj,ops[j]? = some oj → j ≠ i → listed.getD j true = false → (∀ e ∈ oj.after,Region.binds .any e = true → e.on ≠ i) → oi.apart ops oj = true) →
   i ∈ Region.ready .any ops listed → YieldsG P ops S oi v a → anyG P ops Q n L f S (listed.setIfInBounds i true) (a.put oi.dst v) → anyG P ops Q n L (f + 1) S listed a:=by
 have waits : ∀ (listed : Array Bool),HeadInv .any ops n listed → i ∈ Region.ready .any ops listed → ∀ j ∈ Region.ready .any ops listed,j < n:=fun listed inv hr j hj => by
  simp only [tailB,Bool.or_eq_true,Bool.and_eq_true,decide_eq_true_eq] at ht
  rcases ht with ht | ⟨⟨h1,h2⟩,h3⟩
  ·have:=Nat.eq_of_beq_eq_true ht
   obtain ⟨_,oj,hoj,_⟩:=mem_ready.1 hj
   have:=(Array.getElem?_eq_some_iff.1 hoj).1
   omega
  ·exact Nat.lt_of_not_le fun hle => tail_waits h2 h3 h1 inv _ i rfl hin (mem_ready.1 hr).1 j hle hj
 intro f
 induction f with
 | zero =>
   intro S listed a inv hsh hne _ hr hy H
   refine ⟨fun h0 => (by rw [h0] at hr;cases hr),fun j hj => ?_⟩
   have hjn:=waits listed inv hr j hj
   refine ⟨hjn,?_⟩
   by_cases hji : j = i
   ·subst hji;exact fun w hw => hy.wpOp hi hsh (fun w' hw' => ⟨S,hw',fun _ h => h,hsh,H⟩) hw
   ·obtain ⟨w,hw⟩:=hne
    exact absurd (hdone _ _ _ (H w hw) j (ready_mono hj hji)) (by omega)
 | succ f ih =>
   intro S listed a inv hsh hne hfree hr hy H
   refine ⟨fun h0 => (by rw [h0] at hr;cases hr),fun j hj => ?_⟩
   have hjn:=waits listed inv hr j hj
   refine ⟨hjn,?_⟩
   by_cases hji : j = i
   ·subst hji;exact fun w hw => hy.wpOp hi hsh (fun w' hw' => ⟨S,hw',fun _ h => h,hsh,H⟩) hw
   ·intro w hw
    obtain ⟨hjun,oj,hoj,hall⟩:=mem_ready.1 hj
    have hnot : ∀ e ∈ oj.after,Region.binds .any e = true → e.on ≠ i:=fun e he hb heq => by
     have h1:=hall e he hb
     rw [heq,getD_both (mem_ready.1 hr).1] at h1
     cases h1
    have h2:=wpOp_putG hoj (hfree j oj hoj hji hjun hnot) (fun cs b => hsel i oi cs b hi) (fun cs b => hsel j oj cs b hoj) hQ hy ((H.2 j (ready_mono hj hji)).2 w hw)
    refine wpOp_mono (fun a' w' h3 => ?_) h2
    obtain ⟨hy',S',b1,b2,b3,b4⟩:=h3
    refine ⟨S',b1,b2,b3,ih S' (listed.setIfInBounds j true) a' (inv.set hj hjn) b3 ⟨w',b1⟩ (fun k ok hk hki hkun hno => hfree k ok hk hki ?_ hno) (ready_mono hr (Ne.symm hji)) (hy'.sub b2) ?_⟩
    ·by_cases hjk : j = k
     ·subst hjk;exact hjun
     ·rwa [getD_set_ne true hjk] at hkun
    ·rw [Array.setIfInBounds_comm _ _ hji];exact b4
theorem anyG_step {ops : Array Oper} {Q : Exit → Act → World → Prop} {n i : Nat} {oi : Oper} {v : Value} {L : Array Bool → Act → World → Prop} (hi : ops[i]? = some oi) (hsel : Region.noSelect ops = true)
  (hQ : ∀ c a w,¬ Q (.panic c) a w) (ht : tailB ops n = true) (hin : i < n) (hdone : ∀ listed a w,L listed a w → ∀ j ∈ Region.ready .any ops listed,n ≤ j)
  {f : Nat} {S : World → Prop} {listed : Array Bool} {a : Act} (inv : HeadInv .any ops n listed) (hsh : Shut S) (hne : ∃ w,S w) (hB : stepB ops i listed = true) (hy : YieldsG P ops S oi v a)
  (H : anyG P ops Q n L f S (listed.setIfInBounds i true) (a.put oi.dst v)) : anyG P ops Q n L (f + 1) S listed a:=by
 simp only [stepB,Bool.and_eq_true,Bool.or_eq_true,decide_eq_true_eq] at hB
 obtain ⟨hr,hB⟩:=hB
 have hr' : i ∈ Region.ready .any ops listed:=by simpa using hr
 rcases hB with hB | hB
 ·refine ⟨fun h0 => (by rw [h0] at hr';cases hr'),fun j hj => ?_⟩
  rw [hB] at hj
  obtain rfl : j = i:=by simpa using hj
  exact ⟨hin,fun w hw => hy.wpOp hi hsh (fun w' hw' => ⟨S,hw',fun _ h => h,hsh,H⟩) hw⟩
 ·exact anyG_first hi (Region.noSelect_spec hsel) hQ ht hin hdone f S listed a inv hsh hne (Region.free_spec hi hB) hr' hy H
theorem storeAt_le : ∀ (l : List Oper),storeAt l ≤ l.length
 | [] => Nat.le_refl _
 | x :: l => by
   simp only [storeAt]
   split
   ·simp only [List.length_cons];exact Nat.succ_le_succ (storeAt_le l)
   ·exact Nat.zero_le _
theorem evG_sound (hP : ProgOk P Γ E) (hC : ClOk P Γ E cl) {l : List Oper} {n : Nat} {Q : Exit → Act → World → Prop} (hn : n ≤ l.length) (hsel : Region.noSelect l.toArray = true) (ht : tailB l.toArray n = true)
  (hstep : ∀ k,k < n → stepB l.toArray k (upTo l.toArray k) = true) (hseq : Region.seqB .any l.toArray (l.toArray.size - n) n (upTo l.toArray n) = true) (hQ : ∀ c a w,¬ Q (.panic c) a w) {K : St → Prop}
  (hK : ∀ st' a' w' ρ',K st' → Rel Γ M w0 ρ' st' vs a' w' → wpList P l.toArray Q (l.drop n) a' w') :
  ∀ (hd : List Oper) (k : Nat),hd = (l.take n).drop k → k ≤ n → HeadInv .any l.toArray n (upTo l.toArray k) → ∀ (st : St) (a : Act) (w : World) (ρ : Keys),evG E cl l l.toArray hd k st K → Rel Γ M w0 ρ st vs a w →
   anyG P l.toArray Q n (fun listed a w => Region.seqB .any l.toArray (l.toArray.size - n) n listed = true ∧ wpList P l.toArray Q (l.drop n) a w) hd.length (fun w' => Below w.heap.size w w') (upTo l.toArray k) a
 | [],k,hd,hk,inv,st,a,w,ρ,he,h => by
   have : k = n:=by
    have:=congrArg List.length hd
    simp only [List.length_nil,List.length_drop,List.length_take] at this
    omega
   subst this
   exact fun w' hw' => ⟨hseq,hK _ _ _ _ he (h.later hw')⟩
 | o :: rest,k,hd,hk,inv,st,a,w,ρ,he,h => by
   have hkn : k < n:=by
    have:=congrArg List.length hd
    simp only [List.length_cons,List.length_drop,List.length_take] at this
    omega
   have hget : l.toArray[k]? = some o:=by
    have h1 : ((l.take n).drop k)[0]? = some o:=by rw [← hd];rfl
    rw [List.getElem?_drop,Nat.add_zero,List.getElem?_take_of_lt hkn] at h1
    simpa using h1
   have hrest : rest = (l.take n).drop (k + 1):=by
    have h1 : ((l.take n).drop k).drop 1 = rest:=by rw [← hd];rfl
    rw [← h1,List.drop_drop]
   have hB:=hstep k hkn
   have hB2:=hB
   simp only [stepB,Bool.and_eq_true] at hB2
   have hr : k ∈ Region.ready .any l.toArray (upTo l.toArray k):=by simpa using hB2.1
   have inv' : HeadInv .any l.toArray n (upTo l.toArray (k + 1)):=inv.set hr hkn
   have hdone : ∀ (listed : Array Bool) (a : Act) (w : World),(Region.seqB .any l.toArray (l.toArray.size - n) n listed = true ∧ wpList P l.toArray Q (l.drop n) a w) → ∀ j ∈ Region.ready .any l.toArray listed,n ≤ j:=fun listed a w hL => seqB_ready hL.1
   have IH:=evG_sound hP hC hn hsel ht hstep hseq hQ hK rest (k + 1) hrest hkn inv'
   change evGuard E.conc st l.toArray o.guard
    (fun st => match evQ1 E st o with
      | some (q,x) => (match calm o x with | true => oblige E.conc q (st.putN E o x (fun st => evG E cl l l.toArray rest (k + 1) st K)) | false => False)
      | none => (match keeps E o with | true => testK E.conc (forcedB l.toArray k) (Forced l k) (evOp E cl st o (fun st => evG E cl l l.toArray rest (k + 1) st K)) | false => False))
    (fun st => st.putK o.dst (.a .un) (fun st => evG E cl l l.toArray rest (k + 1) st K)) at he
   rcases evGuard_sound h he with ⟨st',hy,h',hw⟩ | ⟨st',hno,h',hw⟩
   ·split at hy
    ·rename_i q x hp
     split at hy
     ·rename_i hs
      rw [oblige_iff,St.putN_iff] at hy
      obtain ⟨hq,hy⟩:=hy
      obtain ⟨v,hv,hall⟩:=evQ1_soundG hP h' hp hq hs
      exact anyG_step hget hsel hQ ht hkn hdone inv (Shut.below w) ⟨w,Below.refl _ _⟩ hB (.inl ⟨hw,fun w' hw' => hall w' hw'⟩) (IH _ _ w _ hy.2 (h'.put o.dst hv))
     ·exact hy.elim
    ·split at hy
     case h_2 => exact hy.elim
     rename_i hkeep
     obtain ⟨hfo,hy⟩:=testK_fact Tk.mk hy
     have hfo' : Region.ready .any l.toArray (upTo l.toArray k) = [k]:=by simpa [forcedB] using hfo.h
     refine ⟨fun h0 => (by rw [h0] at hr;cases hr),fun j hj => ?_⟩
     rw [hfo'] at hj
     obtain rfl : j = k:=by simpa using hj
     refine ⟨hkn,fun w' hw' => ?_⟩
     unfold wpOp
     simp only [hget]
     rw [if_pos hw]
     refine .inl (evOp_soundB hP hC (h'.later hw') hy fun st'' a'' w'' ρ'' hk'' hr'' hb'' => ?_)
     have hbb : Below w'.heap.size w' w'':=hb'' hkeep
     exact ⟨fun v => Below w''.heap.size w'' v,Below.refl _ _,fun v hv => (hw'.trans (hbb.mono hw'.size)).trans (hv.mono (Nat.le_trans hw'.size hbb.size)),Shut.below _,IH _ _ _ _ hk'' hr''⟩
   ·rw [St.putK_iff] at hno
    exact anyG_step hget hsel hQ ht hkn hdone inv (Shut.below w) ⟨w,Below.refl _ _⟩ hB (.inr ⟨hw,rfl⟩) (IH _ _ w _ hno.2 (h'.put o.dst (x:=.a .un) (y:=undef) rfl))
theorem upD_snoc (ops : Array Oper) (done : List Nat) (i : Nat) : upD ops (done ++ [i]) = (upD ops done).setIfInBounds i true:=by simp [upD,List.foldl_append]
theorem evGp_sound (hP : ProgOk P Γ E) (hC : ClOk P Γ E cl) {l : List Oper} {all : List Nat} {Q : Exit → Act → World → Prop} (hsel : Region.noSelect l.toArray = true) (ht : tailB l.toArray all.length = true)
  (hstep : ∀ k,k < all.length → stepB l.toArray (all.getD k 0) (upD l.toArray (all.take k)) = true ∧ all.getD k 0 < all.length) (hseq : Region.seqB .any l.toArray (l.toArray.size - all.length) all.length (upD l.toArray all) = true) (hQ : ∀ c a w,¬ Q (.panic c) a w) {K : St → Prop}
  (hK : ∀ st' a' w' ρ',K st' → Rel Γ M w0 ρ' st' vs a' w' → wpList P l.toArray Q (l.drop all.length) a' w') :
  ∀ (ord done : List Nat),done ++ ord = all → HeadInv .any l.toArray all.length (upD l.toArray done) → ∀ (st : St) (a : Act) (w : World) (ρ : Keys),evGp E cl l l.toArray ord done st K → Rel Γ M w0 ρ st vs a w →
   anyG P l.toArray Q all.length (fun listed a w => Region.seqB .any l.toArray (l.toArray.size - all.length) all.length listed = true ∧ wpList P l.toArray Q (l.drop all.length) a w) ord.length (fun w' => Below w.heap.size w w') (upD l.toArray done) a
 | [],done,hd,inv,st,a,w,ρ,he,h => by
   rw [List.append_nil] at hd
   subst hd
   exact fun w' hw' => ⟨hseq,hK _ _ _ _ he (h.later hw')⟩
 | i :: rest,done,hd,inv,st,a,w,ρ,he,h => by
   have hkn : done.length < all.length:=by rw [← hd];simp
   have hgi : all.getD done.length 0 = i:=by rw [← hd];simp [List.getD]
   have htk : all.take done.length = done:=by rw [← hd];simp
   obtain ⟨hB,hin⟩:=hstep done.length hkn
   rw [hgi,htk] at hB
   rw [hgi] at hin
   have hB2:=hB
   simp only [stepB,Bool.and_eq_true] at hB2
   have hr : i ∈ Region.ready .any l.toArray (upD l.toArray done):=by simpa using hB2.1
   have inv' : HeadInv .any l.toArray all.length (upD l.toArray (done ++ [i])):=by rw [upD_snoc];exact inv.set hr hin
   have hdone : ∀ (listed : Array Bool) (a : Act) (w : World),(Region.seqB .any l.toArray (l.toArray.size - all.length) all.length listed = true ∧ wpList P l.toArray Q (l.drop all.length) a w) → ∀ j ∈ Region.ready .any l.toArray listed,all.length ≤ j:=fun listed a w hL => seqB_ready hL.1
   have IH:=evGp_sound hP hC hsel ht hstep hseq hQ hK rest (done ++ [i]) (by rw [← hd];simp) inv'
   change (match l[i]? with
    | none => False
    | some o => evGuard E.conc st l.toArray o.guard
      (fun st => match evQ1 E st o with
        | some (q,x) => (match calm o x with | true => oblige E.conc q (st.putN E o x (fun st => evGp E cl l l.toArray rest (done ++ [i]) st K)) | false => False)
        | none => (match keeps E o with | true => testK E.conc (forcedD l.toArray done i) (ForcedP l done i) (evOp E cl st o (fun st => evGp E cl l l.toArray rest (done ++ [i]) st K)) | false => False))
      (fun st => st.putK o.dst (.a .un) (fun st => evGp E cl l l.toArray rest (done ++ [i]) st K))) at he
   split at he
   ·exact he.elim
   rename_i o ho
   have hget : l.toArray[i]? = some o:=by simpa using ho
   rw [upD_snoc] at IH
   rcases evGuard_sound h he with ⟨st',hy,h',hw⟩ | ⟨st',hno,h',hw⟩
   ·split at hy
    ·rename_i q x hp
     split at hy
     ·rename_i hs
      rw [oblige_iff,St.putN_iff] at hy
      obtain ⟨hq,hy⟩:=hy
      obtain ⟨v,hv,hall⟩:=evQ1_soundG hP h' hp hq hs
      exact anyG_step hget hsel hQ ht hin hdone inv (Shut.below w) ⟨w,Below.refl _ _⟩ hB (.inl ⟨hw,fun w' hw' => hall w' hw'⟩) (IH _ _ w _ hy.2 (h'.put o.dst hv))
     ·exact hy.elim
    ·split at hy
     case h_2 => exact hy.elim
     rename_i hkeep
     obtain ⟨hfo,hy⟩:=testK_fact Tk.mk hy
     have hfo' : Region.ready .any l.toArray (upD l.toArray done) = [i]:=by simpa [forcedD] using hfo.h
     refine ⟨fun h0 => (by rw [h0] at hr;cases hr),fun j hj => ?_⟩
     rw [hfo'] at hj
     obtain rfl : j = i:=by simpa using hj
     refine ⟨hin,fun w' hw' => ?_⟩
     unfold wpOp
     simp only [hget]
     rw [if_pos hw]
     refine .inl (evOp_soundB hP hC (h'.later hw') hy fun st'' a'' w'' ρ'' hk'' hr'' hb'' => ?_)
     have hbb : Below w'.heap.size w' w'':=hb'' hkeep
     exact ⟨fun v => Below w''.heap.size w'' v,Below.refl _ _,fun v hv => (hw'.trans (hbb.mono hw'.size)).trans (hv.mono (Nat.le_trans hw'.size hbb.size)),Shut.below _,IH _ _ _ _ hk'' hr''⟩
   ·rw [St.putK_iff] at hno
    exact anyG_step hget hsel hQ ht hin hdone inv (Shut.below w) ⟨w,Below.refl _ _⟩ hB (.inr ⟨hw,rfl⟩) (IH _ _ w _ hno.2 (h'.put o.dst (x:=.a .un) (y:=undef) rfl))
theorem evAlts_sound (hP : ProgOk P Γ E) (hC : ClOk P Γ E cl) {l : List Oper} {Q : Exit → Act → World → Prop} {K : St → Prop} (hsel : Region.noSelect l.toArray = true) (hQ : ∀ c a w,¬ Q (.panic c) a w)
  (hK : ∀ st' a' w' ρ',K st' → Rel Γ M w0 ρ' st' vs a' w' → Q .normal a' w') :
  ∀ (t : OT) (n : Nat) (listed : Array Bool) (st : St) (a : Act) (w : World) (ρ : Keys),evAlts E cl l l.toArray K t st → Rel Γ M w0 ρ st vs a w →
   (okT l.toArray t true n listed = true → t.isFin = false → wpAny P .any l.toArray Q n listed a w) ∧
   (okT l.toArray t false n listed = true → ∀ i ∈ t.heads,wpOp P l.toArray Q i (wpAny P .any l.toArray Q (n - 1) (listed.setIfInBounds i true)) a w)
 | .fin,n,listed,st,a,w,ρ,he,h => ⟨fun _ hf => (by cases hf),fun _ i hi => (by cases hi)⟩
 | .take i t,n,listed,st,a,w,ρ,he,h => by
   refine ⟨fun hok _ => ?_,fun hok => (by simp [okT] at hok)⟩
   simp only [okT,Bool.true_and,Bool.and_eq_true,decide_eq_true_eq] at hok
   obtain ⟨hfree,hcon,hn,hsub⟩:=hok
   change (match l[i]? with
     | some o => evGuard E.conc st l.toArray o.guard (fun st => match pureOp o,evP E st o with
        | true,some (q,x) => oblige E.conc q (st.putN E o x (fun st => OT.next t (K st) (evAlts E cl l l.toArray K t st)))
        | _,_ => False) (fun st => st.putK o.dst (.a .un) (fun st => OT.next t (K st) (evAlts E cl l l.toArray K t st)))
     | none => False) at he
   split at he
   ·rename_i o ho
    have ho' : l.toArray[i]? = some o:=by simpa using ho
    obtain ⟨m,rfl⟩ : ∃ m,n = m + 1:=⟨n - 1,by omega⟩
    have next : ∀ (st' : St) (a' : Act) (ρ' : Keys),OT.next t (K st') (evAlts E cl l l.toArray K t st') → Rel Γ M w0 ρ' st' vs a' w → wpAny P .any l.toArray Q m (listed.setIfInBounds i true) a' w:=fun st' a' ρ' hk hr => by
     rw [Nat.add_sub_cancel] at hsub
     cases t with
     | fin =>
       have hr0 : Region.ready .any l.toArray (listed.setIfInBounds i true) = []:=by simpa [okT] using hsub
       exact wpAny_done hr0 (hK _ _ _ _ hk hr) m
     | alt i2 t2 m2 => exact (evAlts_sound hP hC hsel hQ hK (.alt i2 t2 m2) m _ st' a' w ρ' hk hr).1 hsub rfl
     | take i2 t2 => exact (evAlts_sound hP hC hsel hQ hK (.take i2 t2) m _ st' a' w ρ' hk hr).1 hsub rfl
    rcases evGuard_sound h he with ⟨st',hy,h',hw⟩ | ⟨st',hno,h',hw⟩
    ·split at hy
     ·rename_i q x hpu hev
      rw [oblige_iff,St.putN_iff] at hy
      obtain ⟨hq,hy⟩:=hy
      obtain ⟨v,hv,hx⟩:=evP_pure hP.env h' hpu hev hq
      exact wpAny_take ho' hsel hfree hcon (fun c a w hq => absurd hq (hQ _ _ _)) (.inl ⟨hw,hv⟩) (next _ _ _ hy.2 (h'.put o.dst hx))
     ·exact hy.elim
    ·rw [St.putK_iff] at hno
     exact wpAny_take ho' hsel hfree hcon (fun c a w hq => absurd hq (hQ _ _ _)) (.inr ⟨hw,rfl⟩) (next _ _ _ hno.2 (h'.put o.dst (x:=.a .un) (y:=undef) rfl))
   ·exact he.elim
 | .alt i t m,n,listed,st,a,w,ρ,he,h => by
   change (match l[i]? with
     | some o => evGuard E.conc st l.toArray o.guard (fun st => evOp E cl st o (fun st => OT.next t (K st) (evAlts E cl l l.toArray K t st))) (fun st => st.putK o.dst (.a .un) (fun st => OT.next t (K st) (evAlts E cl l l.toArray K t st)))
     | none => False) ∧ evAlts E cl l l.toArray K m st at he
   obtain ⟨he,hem⟩:=he
   have alts : n ≠ 0 → okT l.toArray t true (n - 1) (listed.setIfInBounds i true) = true → okT l.toArray m false n listed = true → ∀ j ∈ (OT.alt i t m).heads,wpOp P l.toArray Q j (wpAny P .any l.toArray Q (n - 1) (listed.setIfInBounds j true)) a w:=by
    intro hn hsub hm j hj
    simp only [OT.heads,List.mem_cons] at hj
    rcases hj with rfl | hj
    ·have next : ∀ (st' : St) (a' : Act) (w' : World) (ρ' : Keys),OT.next t (K st') (evAlts E cl l l.toArray K t st') → Rel Γ M w0 ρ' st' vs a' w' → wpAny P .any l.toArray Q (n - 1) (listed.setIfInBounds j true) a' w':=by
      intro st' a' w' ρ' hk hr
      cases t with
      | fin =>
        have hr0 : Region.ready .any l.toArray (listed.setIfInBounds j true) = []:=by simpa [okT] using hsub
        exact wpAny_done hr0 (hK _ _ _ _ hk hr) _
      | alt i2 t2 m2 => exact (evAlts_sound hP hC hsel hQ hK (.alt i2 t2 m2) _ _ st' a' w' ρ' hk hr).1 hsub rfl
      | take i2 t2 => exact (evAlts_sound hP hC hsel hQ hK (.take i2 t2) _ _ st' a' w' ρ' hk hr).1 hsub rfl
     split at he
     ·rename_i o ho
      have ho' : l.toArray[j]? = some o:=by simpa using ho
      unfold wpOp
      simp only [ho']
      rcases evGuard_sound h he with ⟨st',hy,h',hw⟩ | ⟨st',hno,h',hw⟩
      ·rw [if_pos hw]
       exact .inl (evOp_sound hP hC h' hy fun st2 a2 w2 ρ2 hk hr => next st2 a2 w2 ρ2 hk hr)
      ·rw [if_neg (by rw [hw];simp)]
       simp only [St.putK_iff] at hno
       exact next _ _ _ _ hno.2 (h'.put o.dst (x:=.a .un) (y:=undef) rfl)
     ·exact he.elim
    ·exact (evAlts_sound hP hC hsel hQ hK m n listed st a w ρ hem h).2 hm j hj
   refine ⟨fun hok _ => ?_,fun hok => ?_⟩
   ·simp only [okT,Bool.not_true,Bool.false_or,Bool.and_eq_true,decide_eq_true_eq] at hok
    obtain ⟨hh,hn,h1,h2⟩:=hok
    obtain ⟨k,rfl⟩ : ∃ k,n = k + 1:=⟨n - 1,by omega⟩
    refine wpAny_all hh.symm (by simp [OT.heads]) fun j hj => ?_
    have:=alts (by omega) h1 h2 j hj
    rwa [Nat.add_sub_cancel] at this
   ·simp only [okT,Bool.not_false,Bool.true_or,Bool.true_and,Bool.and_eq_true,decide_eq_true_eq] at hok
    exact alts hok.1 hok.2.1 hok.2.2
theorem evH_sound (hP : ProgOk P Γ E) (hC : ClOk P Γ E cl) {l : List Oper} {n : Nat} {Q : Exit → Act → World → Prop} (hsel : Region.noSelect l.toArray = true) (ht : tailB l.toArray n = true) (hQ : ∀ c a w,¬ Q (.panic c) a w) {K : St → Prop}
  (hK : ∀ st' a' w' ρ',K st' → Rel Γ M w0 ρ' st' vs a' w' → wpList P l.toArray Q (l.drop n) a' w') :
  ∀ (t : OT) (f : Nat) (listed : Array Bool) (st : St) (a : Act) (w : World) (ρ : Keys),HeadInv .any l.toArray n listed → evH E cl l l.toArray K t st → Rel Γ M w0 ρ st vs a w →
   (okH l.toArray n t true f listed = true → t.isFin = false → anyG P l.toArray Q n (fun listed a w => Region.seqB .any l.toArray (l.toArray.size - n) n listed = true ∧ wpList P l.toArray Q (l.drop n) a w) f (fun w' => Below w.heap.size w w') listed a) ∧
   (okH l.toArray n t false f listed = true → ∀ i ∈ t.heads,i ∈ Region.ready .any l.toArray listed → i < n ∧ ∀ w',Below w.heap.size w w' → wpOp P l.toArray Q i (fun a' w2 => ∃ S',S' w2 ∧ (∀ v,S' v → Below w.heap.size w v) ∧ Shut S' ∧
     anyG P l.toArray Q n (fun listed a w => Region.seqB .any l.toArray (l.toArray.size - n) n listed = true ∧ wpList P l.toArray Q (l.drop n) a w) (f - 1) S' (listed.setIfInBounds i true) a') a w')
 | .fin,f,listed,st,a,w,ρ,inv,he,h => ⟨fun _ hf => (by cases hf),fun _ i hi => (by cases hi)⟩
 | .take i t,f,listed,st,a,w,ρ,inv,he,h => by
   refine ⟨fun hok _ => ?_,fun hok => (by simp [okH] at hok)⟩
   simp only [okH,Bool.true_and,Bool.and_eq_true,decide_eq_true_eq] at hok
   obtain ⟨hB,hin,hf,hsub⟩:=hok
   obtain ⟨f,rfl⟩ : ∃ m,f = m + 1:=⟨f - 1,by omega⟩
   rw [Nat.add_sub_cancel] at hsub
   change (match l[i]? with
     | some o => evGuard E.conc st l.toArray o.guard (fun st => match evQ1 E st o with
        | some (q,x) => (match calm o x with | true => oblige E.conc q (st.putN E o x (fun st => OT.next t (K st) (evH E cl l l.toArray K t st))) | false => False)
        | none => False) (fun st => st.putK o.dst (.a .un) (fun st => OT.next t (K st) (evH E cl l l.toArray K t st)))
     | none => False) at he
   have hdone : ∀ (listed : Array Bool) (a : Act) (w : World),(Region.seqB .any l.toArray (l.toArray.size - n) n listed = true ∧ wpList P l.toArray Q (l.drop n) a w) → ∀ j ∈ Region.ready .any l.toArray listed,n ≤ j:=fun listed a w hL => seqB_ready hL.1
   have hr : i ∈ Region.ready .any l.toArray listed:=by
    have hB2:=hB
    simp only [stepB,Bool.and_eq_true] at hB2
    simpa using hB2.1
   have inv' : HeadInv .any l.toArray n (listed.setIfInBounds i true):=inv.set hr hin
   have next : ∀ (st' : St) (a' : Act) (ρ' : Keys),OT.next t (K st') (evH E cl l l.toArray K t st') → Rel Γ M w0 ρ' st' vs a' w →
     anyG P l.toArray Q n (fun listed a w => Region.seqB .any l.toArray (l.toArray.size - n) n listed = true ∧ wpList P l.toArray Q (l.drop n) a w) f (fun w' => Below w.heap.size w w') (listed.setIfInBounds i true) a':=fun st' a' ρ' hk hrel => by
    cases t with
    | fin =>
      simp only [okH,Bool.not_true,Bool.false_or,Bool.and_eq_true] at hsub
      obtain ⟨h1,h2⟩:=hsub
      obtain rfl:=Nat.eq_of_beq_eq_true h1
      exact fun w' hw' => ⟨h2,hK _ _ _ _ hk (hrel.later hw')⟩
    | alt i2 t2 m2 => exact (evH_sound hP hC hsel ht hQ hK (.alt i2 t2 m2) f _ st' a' w ρ' inv' hk hrel).1 hsub rfl
    | take i2 t2 => exact (evH_sound hP hC hsel ht hQ hK (.take i2 t2) f _ st' a' w ρ' inv' hk hrel).1 hsub rfl
   split at he
   ·rename_i o ho
    have hget : l.toArray[i]? = some o:=by simpa using ho
    rcases evGuard_sound h he with ⟨st',hy,h',hw⟩ | ⟨st',hno,h',hw⟩
    ·split at hy
     ·rename_i q x hp
      split at hy
      ·rename_i hs
       rw [oblige_iff,St.putN_iff] at hy
       obtain ⟨hq,hy⟩:=hy
       obtain ⟨v,hv,hall⟩:=evQ1_soundG hP h' hp hq hs
       exact anyG_step hget hsel hQ ht hin hdone inv (Shut.below w) ⟨w,Below.refl _ _⟩ hB (.inl ⟨hw,fun w' hw' => hall w' hw'⟩) (next _ _ _ hy.2 (h'.put o.dst hv))
      ·exact hy.elim
     ·exact hy.elim
    ·rw [St.putK_iff] at hno
     exact anyG_step hget hsel hQ ht hin hdone inv (Shut.below w) ⟨w,Below.refl _ _⟩ hB (.inr ⟨hw,rfl⟩) (next _ _ _ hno.2 (h'.put o.dst (x:=.a .un) (y:=undef) rfl))
   ·exact he.elim
 | .alt i t m,f,listed,st,a,w,ρ,inv,he,h => by
   change (match l[i]? with
     | some o => evGuard E.conc st l.toArray o.guard (fun st => match keeps E o with | true => evOp E cl st o (fun st => OT.next t (K st) (evH E cl l l.toArray K t st)) | false => False) (fun st => st.putK o.dst (.a .un) (fun st => OT.next t (K st) (evH E cl l l.toArray K t st)))
     | none => False) ∧ evH E cl l l.toArray K m st at he
   obtain ⟨he,hem⟩:=he
   have alts : i < n → f ≠ 0 → okH l.toArray n t true (f - 1) (listed.setIfInBounds i true) = true → okH l.toArray n m false f listed = true → ∀ j ∈ (OT.alt i t m).heads,j ∈ Region.ready .any l.toArray listed → j < n ∧ ∀ w',Below w.heap.size w w' → wpOp P l.toArray Q j (fun a' w2 => ∃ S',S' w2 ∧ (∀ v,S' v → Below w.heap.size w v) ∧ Shut S' ∧
     anyG P l.toArray Q n (fun listed a w => Region.seqB .any l.toArray (l.toArray.size - n) n listed = true ∧ wpList P l.toArray Q (l.drop n) a w) (f - 1) S' (listed.setIfInBounds j true) a') a w':=by
    intro hin hf hsub hm j hj hjr
    simp only [OT.heads,List.mem_cons] at hj
    rcases hj with rfl | hj
    ·have inv' : HeadInv .any l.toArray n (listed.setIfInBounds j true):=inv.set hjr hin
     have next : ∀ (st' : St) (a' : Act) (w' : World) (ρ' : Keys),OT.next t (K st') (evH E cl l l.toArray K t st') → Rel Γ M w0 ρ' st' vs a' w' →
       anyG P l.toArray Q n (fun listed a w => Region.seqB .any l.toArray (l.toArray.size - n) n listed = true ∧ wpList P l.toArray Q (l.drop n) a w) (f - 1) (fun v => Below w'.heap.size w' v) (listed.setIfInBounds j true) a':=by
      intro st' a' w' ρ' hk hrel
      cases t with
      | fin =>
        simp only [okH,Bool.not_true,Bool.false_or,Bool.and_eq_true] at hsub
        obtain ⟨h1,h2⟩:=hsub
        rw [Nat.eq_of_beq_eq_true h1]
        exact fun w2 hw2 => ⟨h2,hK _ _ _ _ hk (hrel.later hw2)⟩
      | alt i2 t2 m2 => exact (evH_sound hP hC hsel ht hQ hK (.alt i2 t2 m2) _ _ st' a' w' ρ' inv' hk hrel).1 hsub rfl
      | take i2 t2 => exact (evH_sound hP hC hsel ht hQ hK (.take i2 t2) _ _ st' a' w' ρ' inv' hk hrel).1 hsub rfl
     refine ⟨hin,fun w' hw' => ?_⟩
     split at he
     ·rename_i o ho
      have ho' : l.toArray[j]? = some o:=by simpa using ho
      unfold wpOp
      simp only [ho']
      rcases evGuard_sound h he with ⟨st',hy,h',hw⟩ | ⟨st',hno,h',hw⟩
      ·rw [if_pos hw]
       split at hy
       ·rename_i hkeep
        refine .inl (evOp_soundB hP hC (h'.later hw') hy fun st'' a'' w'' ρ'' hk'' hr'' hb'' => ?_)
        have hbb : Below w'.heap.size w' w'':=hb'' hkeep
        exact ⟨fun v => Below w''.heap.size w'' v,Below.refl _ _,fun v hv => (hw'.trans (hbb.mono hw'.size)).trans (hv.mono (Nat.le_trans hw'.size hbb.size)),Shut.below _,next _ _ _ _ hk'' hr''⟩
       ·exact hy.elim
      ·rw [if_neg (by rw [hw];simp)]
       simp only [St.putK_iff] at hno
       exact ⟨fun v => Below w'.heap.size w' v,Below.refl _ _,fun v hv => hw'.trans (hv.mono hw'.size),Shut.below _,next _ _ _ _ hno.2 ((h'.later hw').put o.dst (x:=.a .un) (y:=undef) rfl)⟩
     ·exact he.elim
    ·exact (evH_sound hP hC hsel ht hQ hK m f listed st a w ρ inv hem h).2 hm j hj hjr
   refine ⟨fun hok _ => ?_,fun hok => ?_⟩
   ·simp only [okH,Bool.not_true,Bool.false_or,Bool.and_eq_true,decide_eq_true_eq] at hok
    obtain ⟨hh,hin,hf,h1,h2⟩:=hok
    obtain ⟨f,rfl⟩ : ∃ k,f = k + 1:=⟨f - 1,by omega⟩
    refine ⟨by rw [← hh];simp [OT.heads],fun j hj => ?_⟩
    have:=alts hin hf h1 h2 j (by rw [hh];exact hj) hj
    rwa [Nat.add_sub_cancel] at this
   ·simp only [okH,Bool.not_false,Bool.true_or,Bool.true_and,Bool.and_eq_true,decide_eq_true_eq] at hok
    exact alts hok.1 hok.2.1 hok.2.2.1 hok.2.2.2
/-! ### Stores between quiet operations -/
theorem weakK_sound : ∀ (l : List Nat) {st : St} {K : St → Prop},weakK l st K → Rel Γ M w0 ρ st vs a w → ∃ st',K st' ∧ Rel Γ M w0 ρ st' vs a w
 | [],st,K,he,h => ⟨st,he,h⟩
 | r :: l,st,K,he,h => by
   have he : st.setRK r (st.rg.getD r .dead).anyBox (fun st => weakK l st K):=he
   rw [St.setRK_eq] at he
   refine weakK_sound l he ?_
   cases hr : st.rg[r]? with
   | none =>
     have e : st.setR r (st.rg.getD r .dead).anyBox = st:=by
      cases st
      simp only [St.setR]
      rw [List.set_eq_of_length_le (List.getElem?_eq_none_iff.1 hr)]
     rw [e];exact h
   | some g =>
     have e : st.rg.getD r .dead = g:=by simp [List.getD,hr]
     rw [e]
     have hlen : (st.setR r g.anyBox).rg.length = st.rg.length:=by simp [St.setR]
     refine ⟨by rw [hlen];exact h.tm,by rw [hlen];exact h.fr,h.df,?_,h.bl,h.gl,h.gn⟩
     rw [hlen]
     refine h.rs.weaken hr ?_
     cases g with
     | box o l =>
       rintro π f B ⟨rfl,rfl,rfl⟩
       refine ⟨_,.box l,⟨rfl,rfl,rfl⟩,id,fun hl => ?_,id⟩
       obtain ⟨h1,h2,h3,h4⟩:=hl
       refine ⟨h1,h2,h3,fun j x hx => ?_⟩
       simp only [List.getElem?_map,Option.map_eq_some_iff] at hx
       obtain ⟨x0,hx0,rfl⟩:=hx
       obtain ⟨y,_,hc⟩:=h4 j x0 hx0
       exact ⟨y,trivial,hc⟩
     | _ => exact Weaker.refl
theorem Rel.writeAny (h : Rel Γ M w0 ρ st vs a w) {r : Nat} {cells : List At} (hr : st.rg[r]? = some (.box true cells)) (hall : allL isAny cells = true) {base : Nat} {us : List Value} (hlen : base + us.length ≤ cells.length) :
  Rel Γ M w0 ρ st vs a (w.setCells (ρ r []).b base us):=by
 have hB : (Reg.box true cells).has [] true (.box cells):=⟨rfl,rfl,rfl⟩
 obtain ⟨_,h1,h2,h3⟩:=h.rs.blk r _ [] true _ hr hB
 have e : st.setR r (.box true cells) = st:=by
  cases st
  simp only [St.setR,St.mk.injEq,true_and]
  apply List.ext_getElem?
  intro i
  rw [List.getElem?_set]
  split
  ·rename_i hi;subst hi
   split
   ·exact hr.symm
   ·rename_i hl;simp only at hr;rw [List.getElem?_eq_none (by omega)] at hr;cases hr
  ·rfl
 have hat : ∀ j,(ρ r []).at j = ⟨(ρ r []).b,j,none⟩:=fun j => by simp [RI.at,h1]
 have hcell : ∀ j,j < cells.length → (w.cell? ⟨(ρ r []).b,j,none⟩).isSome = true:=fun j hj => by
  obtain ⟨y,_,hc⟩:=h3 j cells[j] (List.getElem?_eq_getElem hj)
  rw [hat] at hc;rw [hc];rfl
 have:=h.write (g':=.box true cells) (base:=base) (us:=us) hr hB h2 (fun σ o B' hh => ⟨B',hh,fun _ _ hl => hl,fun _ hm => hm⟩) (fun o B' hh => by
  obtain ⟨_,_,rfl⟩:=hh
  refine ⟨rfl,h1,h2,fun j x hx => ?_⟩
  have hj:=(List.getElem?_eq_some_iff.1 hx).1
  have hx' : x = .any:=by
   have:=allL_forall hall x (List.mem_of_getElem? hx)
   unfold isAny at this
   split at this
   ·rfl
   ·cases this
  subst hx'
  have : ((w.setCells (ρ r []).b base us).cell? ⟨(ρ r []).b,j,none⟩).isSome = true:=by
   by_cases hin : base ≤ j ∧ j < base + us.length
   ·have h5:=World.cell?_setCells_in (ρ r []).b us base w (fun s hs => hcell _ (by omega)) (j - base) (by omega)
    rw [show base + (j - base) = j by omega] at h5
    rw [h5];rfl
   ·rw [World.cell?_setCells_out]
    ·exact hcell j hj
    ·intro _ _;simp only;omega
  rw [hat]
  obtain ⟨y,hy⟩:=Option.isSome_iff_exists.1 this
  exact ⟨y,trivial,hy⟩)
 rwa [e] at this
structure ShutW (st : St) (ρ : Keys) (S : World → Prop) : Prop where
 sh : Shut S
 wr : ∀ (r : Nat) (cells : List At),st.rg[r]? = some (.box true cells) → allL isAny cells = true → ∀ base us,base + us.length ≤ cells.length → ∀ w,S w → S (w.setCells (ρ r []).b base us)
theorem Rel.shutW : ShutW st ρ (fun w' => Rel Γ M w0 ρ st vs a w') :=
 ⟨fun _ _ h hb => h.later hb,fun _ _ hr hall _ _ hl _ h => h.writeAny hr hall hl⟩
theorem storeBox_sound (hE : EnvOk P Γ E) {o : Oper} {r j : Nat} {cells l : List At} (hs : storeBox E st o = some (r,j,cells,l)) :
  st.rg[r]? = some (.box true cells) ∧ allL isAny cells = true ∧ j + l.length ≤ cells.length ∧ o.dst = none ∧ o.guard = none ∧
  ∀ (w : World),Rel Γ M w0 ρ st vs a w → ∃ us : List Value,us.length = l.length ∧ (execOp a.eval o).run P w = .ok .skip (w.setCells (ρ r []).b j us) ∧ Rel Γ M w0 ρ (st.setR r (.box true (fillL cells j l))) vs a (w.setCells (ρ r []).b j us):=by
 unfold storeBox at hs
 split at hs
 case h_2 => cases hs
 rename_i t ad x hop hd hgd
 split at hs
 ·cases hs
 ·rename_i ty r' j' x' hea hex hno
  split at hs
  case h_2 => cases hs
  rename_i l' cells' hl hg
  split at hs
  case h_2 => cases hs
  rename_i hlen hble hall
  simp only [Option.some.injEq,Prod.mk.injEq] at hs
  obtain ⟨rfl,rfl,rfl,rfl⟩:=hs
  have hgr:=getD_reg hg (by simp)
  have hj : j' + l'.length ≤ cells'.length:=Nat.le_of_ble_eq_true hble
  refine ⟨hgr,hall,hj,hd,hgd,fun w h => ?_⟩
  obtain ⟨hrl,ha⟩:=ev_sound h hea
  have hvx:=ev_sound h hex
  obtain ⟨h1,h2,h3⟩:=tmCells_sound hvx hl
  have hty : E.ty t ≠ .other:=hno
  have hlen':=lenIs_length hlen
  obtain ⟨k1,k2⟩:=boxStore hE h hty hgr hj h1 h3 hlen'
  obtain ⟨_,o1,_,_⟩:=h.rs.blk r' _ [] true (.box cells') hgr ⟨rfl,rfl,rfl⟩
  rw [o1] at k1 k2
  rw [show 0 + (0 * (ρ r' []).m + j') = j' by omega] at k1 k2
  refine ⟨_,h1.length.symm,?_,k2⟩
  simp only [execOp,hop,ha,Sem.run_bind,k1,Result.andThen_ok,Sem.run_pure]
 ·cases hs
/-! ### Writes into a new block,in whatever world -/
def wrs (b : Nat) : List (Nat × List Value) → World → World
 | [],v => v
 | x :: l,v => wrs b l (v.setCells b x.1 x.2)
theorem below_setCells {B b : Nat} (hb : B ≤ b) : ∀ (us : List Value) (o : Nat) {u v : World},Below B u v → Below B u (v.setCells b o us)
 | [],_,_,_,h => h
 | x :: us,o,_,_,h => below_setCells hb us (o + 1) (h.setCell (p:=⟨b,o,none⟩) hb x)
theorem below_wrs {B b : Nat} (hb : B ≤ b) : ∀ (ws : List (Nat × List Value)) {u v : World},Below B u v → Below B u (wrs b ws v)
 | [],_,_,h => h
 | x :: ws,_,_,h => below_wrs hb ws (below_setCells hb x.2 x.1 h)
theorem below_set_both {B : Nat} {u v : World} (h : Below B u v) (p : Addr) (x : Value) : Below B (u.setCell p x) (v.setCell p x) :=
 ⟨h.os,h.tape,h.output,by simpa [World.setCell] using h.size,fun k hk => by simp only [World.setCell,Array.getElem?_modify];rw [h.block k hk]⟩
theorem below_setCells_both {B b : Nat} : ∀ (us : List Value) (o : Nat) {u v : World},Below B u v → Below B (u.setCells b o us) (v.setCells b o us)
 | [],_,_,_,h => h
 | x :: us,o,_,_,h => below_setCells_both us (o + 1) (below_set_both h ⟨b,o,none⟩ x)
theorem below_wrs_both {B b : Nat} : ∀ (ws : List (Nat × List Value)) {u v : World},Below B u v → Below B (wrs b ws u) (wrs b ws v)
 | [],_,_,h => h
 | x :: ws,_,_,h => below_wrs_both ws (below_setCells_both x.2 x.1 h)
theorem size_wrs {b : Nat} : ∀ (ws : List (Nat × List Value)) (v : World),(wrs b ws v).heap.size = v.heap.size
 | [],_ => rfl
 | x :: ws,v => (size_wrs ws _).trans (size_setCells ..)
theorem set_comm (v : World) {p q : Addr} (h : p.block ≠ q.block) (x y : Value) : (v.setCell p x).setCell q y = (v.setCell q y).setCell p x:=by
 simp only [World.setCell,World.mk.injEq,and_true]
 refine Array.ext_getElem? fun k => ?_
 simp only [Array.getElem?_modify]
 by_cases h1 : q.block = k
 ·by_cases h2 : p.block = k
  ·exact absurd (h2.trans h1.symm) h
  ·simp [h1,h2]
 ·by_cases h2 : p.block = k <;> simp [h1,h2]
theorem setCells_comm1 {b : Nat} {p : Addr} (h : p.block ≠ b) (x : Value) : ∀ (us : List Value) (o : Nat) (v : World),(v.setCell p x).setCells b o us = (v.setCells b o us).setCell p x
 | [],_,_ => rfl
 | y :: us,o,v => by
   show ((v.setCell p x).setCell ⟨b,o,none⟩ y).setCells b (o + 1) us = ((v.setCell ⟨b,o,none⟩ y).setCells b (o + 1) us).setCell p x
   rw [set_comm v (q:=⟨b,o,none⟩) h,setCells_comm1 h x us]
theorem setCells_comm {b b' : Nat} (h : b' ≠ b) (us : List Value) (o : Nat) : ∀ (us' : List Value) (o' : Nat) (v : World),(v.setCells b' o' us').setCells b o us = (v.setCells b o us).setCells b' o' us'
 | [],_,_ => rfl
 | y :: us',o',v => by
   show ((v.setCell ⟨b',o',none⟩ y).setCells b' (o' + 1) us').setCells b o us = ((v.setCells b o us).setCell ⟨b',o',none⟩ y).setCells b' (o' + 1) us'
   rw [setCells_comm h us o us',setCells_comm1 (p:=⟨b',o',none⟩) h]
theorem wrs_comm {b b' : Nat} (h : b' ≠ b) (us' : List Value) (o' : Nat) : ∀ (ws : List (Nat × List Value)) (v : World),wrs b ws (v.setCells b' o' us') = (wrs b ws v).setCells b' o' us'
 | [],_ => rfl
 | x :: ws,v => by
   show wrs b ws ((v.setCells b' o' us').setCells b x.1 x.2) = _
   rw [setCells_comm h,wrs_comm h us' o' ws];rfl
theorem okL_any {N : Nat} {ρ : Keys} : ∀ {z : List At} {ys : List Value},okL (At.ok N ρ) z ys → okL (At.ok N ρ) (z.map fun _ => At.any) ys
 | [],[],_ => trivial
 | [],_ :: _,h => h
 | _ :: _,[],h => h
 | _ :: _,_ :: _,h => ⟨trivial,okL_any h.2⟩
theorem evNew_sound (hE : EnvOk P Γ E) (h : Rel Γ M w0 ρ st vs a w) {o : Oper} {K : St → Prop} (he : evNew E st o K) :
  o.guard = none ∧ ∃ (g : Reg) (x : Tm) (y : Value) (ob : Obj) (ξ : Path → RI),K ((st.push [g]).put o.dst x) ∧ (execOp a.eval o).run P w = .ok (.value y) (w.alloc ob) ∧
   Rel Γ M w0 (setρ ρ st.rg.length ξ) ((st.push [g]).put o.dst x) vs (a.put o.dst y) (w.alloc ob) ∧ (ξ []).b = w.heap.size:=by
 unfold evNew at he
 split at he
 ·rename_i t hop hg
  refine ⟨hg,?_⟩
  split at he
  ·exact he.elim
  ·rename_i z hz hno
   obtain ⟨_,i,zv,h1,h2,h3⟩:=hE.zero _ _ hz
   simp only [lenC_eq,St.pushK_eq,St.putK_iff] at he
   refine ⟨_,_,.pointer (some ⟨w.heap.size,0,none⟩),.cells zv.cells.toList.toArray t,boxRI w,he.2,?_,?_,rfl⟩
   ·simp [execOp,hop,Instr.alloc,newVar,newRow,zeroValue,typeInfo,h1,h2]
   ·refine (h.box (okL_any (h3 _ _)) t).put o.dst ⟨by simp [St.push],?_⟩
    rw [setρ_at];simp [RI.at,boxRI]
  ·exact he.elim
 ·rename_i t len cap hop hg
  refine ⟨hg,?_⟩
  split at he
  ·rename_i e m n c ht hn hc
   split at he
   ·rename_i tg hD
    rw [oblige_iff] at he
    obtain ⟨⟨h0,hnc,hsz,_⟩,hm⟩:=he
    simp only [Duty.of_p] at h0 hnc hsz
    subst hnc
    simp only [lenC_eq,St.pushK_eq,St.putK_iff] at hm
    obtain ⟨kl,el⟩:=intArg_sound h hn
    obtain ⟨kc,ec⟩:=intArg_sound h hc
    obtain ⟨hu,_,_⟩:=hE.tySl ht
    obtain ⟨htg,i,z,hi,hs,hz,hzc,hby⟩:=hE.kd e tg hD
    have hpos : 0 < tg.length:=List.length_pos_iff.2 htg
    have hn1 : n ≤ 16777216:=Int.le_trans (by have:=Int.mul_le_mul_of_nonneg_left (show (1 : Int) ≤ tg.length by omega) h0;omega) hsz
    have hbytes : (i.bytes : Int) * n ≤ 281474976710656:=by
     have h1 : (i.bytes : Int) * n ≤ (32 * tg.length : Nat) * n:=Int.mul_le_mul_of_nonneg_right (by exact_mod_cast hby) h0
     have h2 : ((32 * tg.length : Nat) : Int) * n = 32 * (n * tg.length):=by push_cast;rw [Int.mul_assoc,Int.mul_comm (tg.length : Int)]
     omega
    have hrun:=run_make (P:=P) w t e i z hu hi hz kl kc n n h0 (Int.le_refl _) hbytes (by omega)
    have hzl : z.cells = (Tup.zero tg).toArray:=Array.ext' (by simpa using hzc)
    rw [hs,hzl] at hrun
    have hmade:=rel_made (te:=e) h htg (hE.kn e tg hD) (n:=n.toNat) (by simp only [maxLen];omega) (cs:=(madeCells (Tup.zero tg).toArray (n.toNat * tg.length)).toList) (by simp [madeCells])
     (fun i hi s hs => by have:=made_get (Tup.zero tg) n.toNat i s hi (by rw [zero_length];exact hs);rwa [zero_length] at this)
    simp only [Array.toArray_toList] at hmade
    refine ⟨_,_,.slice (some ⟨w.heap.size,0,none⟩) n.toNat n.toNat,.cells (madeCells (Tup.zero tg).toArray (n.toNat * tg.length)) e,_,hm.2,?_,hmade.put o.dst ⟨by simp [St.push],?_⟩,?_⟩
    ·simp [execOp,hop,el,ec,hrun]
    ·rw [setρ_at]
     exact ⟨fun hv => by simp [gl_nil] at hv,fun _ => ⟨by simp [gl_nil],some ⟨w.heap.size,0,none⟩,by simp [gl_nil],fun _ => by simp [RI.at,gl_nil]⟩⟩
    ·simp [gl_nil]
   ·exact he.elim
  ·exact he.elim
 ·exact he.elim
theorem evS_sound (hP : ProgOk P Γ E) {l : List Oper} {Q : Exit → Act → World → Prop} (hsel : Region.noSelect l.toArray = true) (hQ : ∀ c a w,¬ Q (.panic c) a w) {K : St → Prop}
  (hK : ∀ st' a' w' ρ',K st' → Rel Γ M w0 ρ' st' vs a' w' → Q .normal a' w') :
  ∀ (t : OT) (f : Nat) (listed : Array Bool) (st : St) (a : Act) (S : World → Prop) (ρ : Keys),HeadInv .any l.toArray l.length listed → ShutW st ρ S → (∃ w,S w) → (∀ w,S w → Rel Γ M w0 ρ st vs a w) → evS E l K t st →
   (okH l.toArray l.length t true f listed = true → t.isFin = false → anyG P l.toArray Q l.length (fun listed a w => Region.seqB .any l.toArray (l.toArray.size - l.length) l.length listed = true ∧ wpList P l.toArray Q (l.drop l.length) a w) f S listed a) ∧
   (okH l.toArray l.length t false f listed = true → ∀ i ∈ t.heads,i ∈ Region.ready .any l.toArray listed → i < l.length ∧ ∀ w',S w' → wpOp P l.toArray Q i (fun a' w2 => ∃ S',S' w2 ∧ (∀ v,S' v → S v) ∧ Shut S' ∧
     anyG P l.toArray Q l.length (fun listed a w => Region.seqB .any l.toArray (l.toArray.size - l.length) l.length listed = true ∧ wpList P l.toArray Q (l.drop l.length) a w) (f - 1) S' (listed.setIfInBounds i true) a') a w')
 | .fin,f,listed,st,a,S,ρ,inv,hS,hne,hR,he => ⟨fun _ hf => (by cases hf),fun _ i hi => (by cases hi)⟩
 | .take i t,f,listed,st,a,S,ρ,inv,hS,hne,hR,he => by
   refine ⟨fun hok _ => ?_,fun hok => (by simp [okH] at hok)⟩
   simp only [okH,Bool.true_and,Bool.and_eq_true,decide_eq_true_eq] at hok
   obtain ⟨hB,hin,hf,hsub⟩:=hok
   obtain ⟨f,rfl⟩ : ∃ m,f = m + 1:=⟨f - 1,by omega⟩
   rw [Nat.add_sub_cancel] at hsub
   obtain ⟨w,hw0⟩:=hne
   have h:=hR w hw0
   change (match l[i]? with
     | some o => (match o.guard,evQ1 E st o with
        | none,some (q,x) => (match x.sure with | true => oblige E.conc q (st.putN E o x (fun st => OT.next t (K st) (evS E l K t st))) | false => False)
        | _,_ => False)
     | none => False) at he
   have ht : tailB l.toArray l.length = true:=by simp [tailB]
   have hdone : ∀ (listed : Array Bool) (a : Act) (w : World),(Region.seqB .any l.toArray (l.toArray.size - l.length) l.length listed = true ∧ wpList P l.toArray Q (l.drop l.length) a w) → ∀ j ∈ Region.ready .any l.toArray listed,l.length ≤ j:=fun listed a w hL => seqB_ready hL.1
   have hr : i ∈ Region.ready .any l.toArray listed:=by
    have hB2:=hB
    simp only [stepB,Bool.and_eq_true] at hB2
    simpa using hB2.1
   have inv' : HeadInv .any l.toArray l.length (listed.setIfInBounds i true):=inv.set hr hin
   have next : ∀ (st' : St) (a' : Act),st'.rg = st.rg → (∀ w,S w → Rel Γ M w0 ρ st' vs a' w) → OT.next t (K st') (evS E l K t st') →
     anyG P l.toArray Q l.length (fun listed a w => Region.seqB .any l.toArray (l.toArray.size - l.length) l.length listed = true ∧ wpList P l.toArray Q (l.drop l.length) a w) f S (listed.setIfInBounds i true) a':=fun st' a' hrg hrel hk => by
    have hS' : ShutW st' ρ S:=⟨hS.sh,by rw [hrg];exact hS.wr⟩
    cases t with
    | fin =>
      simp only [okH,Bool.not_true,Bool.false_or,Bool.and_eq_true] at hsub
      obtain ⟨h1,h2⟩:=hsub
      obtain rfl:=Nat.eq_of_beq_eq_true h1
      exact fun w' hw' => ⟨h2,by rw [List.drop_length];exact hK _ _ _ _ hk (hrel w' hw')⟩
    | alt i2 t2 m2 => exact (evS_sound hP hsel hQ hK (.alt i2 t2 m2) f _ st' a' S ρ inv' hS' ⟨w,hw0⟩ hrel hk).1 hsub rfl
    | take i2 t2 => exact (evS_sound hP hsel hQ hK (.take i2 t2) f _ st' a' S ρ inv' hS' ⟨w,hw0⟩ hrel hk).1 hsub rfl
   split at he
   ·rename_i o ho
    have hget : l.toArray[i]? = some o:=by simpa using ho
    split at he
    ·rename_i q x hg hp
     split at he
     ·rename_i hs
      rw [oblige_iff,St.putN_iff] at he
      obtain ⟨hq,he⟩:=he
      have hw : Region.wanted o (yielded l.toArray a.tmps) = true:=by unfold Region.wanted;rw [hg]
      have hc : calm o x = true:=by unfold calm;split <;> first | rfl | (split <;> first | rfl | exact hs)
      obtain ⟨v,hv,_⟩:=evQ1_soundG hP h hp hq hc
      refine anyG_step (v:=v) hget hsel hQ ht hin hdone inv hS.sh ⟨w,hw0⟩ hB (.inl ⟨hw,fun w' hw' => ?_⟩) (next (st.put o.dst x) (a.put o.dst v) (by cases o.dst <;> rfl) (fun w' hw' => ?_) he.2)
      ·obtain ⟨v',hv',hall'⟩:=evQ1_soundG hP (hR w' hw') hp hq hc
       obtain rfl:=Tm.fun hs hv hv'
       exact hall' w' (Below.refl _ _)
      ·exact (hR w' hw').put o.dst hv
     ·exact he.elim
    ·exact he.elim
   ·exact he.elim
 | .alt i t m,f,listed,st,a,S,ρ,inv,hS,hne,hR,he => by
   change (match l[i]? with
     | some o => (match storeBox E st o with | some (r,j,cells,l') => st.setRK r (.box true (fillL cells j l')) (fun st => OT.next t (K st) (evS E l K t st)) | none => evNew E st o (fun st => OT.next t (K st) (evS E l K t st)))
     | none => False) ∧ evS E l K m st at he
   obtain ⟨he,hem⟩:=he
   have alts : i < l.length → f ≠ 0 → okH l.toArray l.length t true (f - 1) (listed.setIfInBounds i true) = true → okH l.toArray l.length m false f listed = true → ∀ j ∈ (OT.alt i t m).heads,j ∈ Region.ready .any l.toArray listed → j < l.length ∧ ∀ w',S w' → wpOp P l.toArray Q j (fun a' w2 => ∃ S',S' w2 ∧ (∀ v,S' v → S v) ∧ Shut S' ∧
     anyG P l.toArray Q l.length (fun listed a w => Region.seqB .any l.toArray (l.toArray.size - l.length) l.length listed = true ∧ wpList P l.toArray Q (l.drop l.length) a w) (f - 1) S' (listed.setIfInBounds j true) a') a w':=by
    intro hin hf hsub hm j hj hjr
    simp only [OT.heads,List.mem_cons] at hj
    rcases hj with rfl | hj
    ·have inv' : HeadInv .any l.toArray l.length (listed.setIfInBounds j true):=inv.set hjr hin
     split at he
     ·rename_i o ho
      have ho' : l.toArray[j]? = some o:=by simpa using ho
      split at he
      ·rename_i r k cells l' hsb
       rw [St.setRK_eq] at he
       refine ⟨hin,fun w' hw' => ?_⟩
       have hbox:=storeBox_sound (ρ:=ρ) (st:=st) (vs:=vs) (a:=a) (M:=M) (w0:=w0) hP.env hsb
       obtain ⟨b1,b2,b3,b4,b5,b6⟩:=hbox
       obtain ⟨us,u1,u2,u3⟩:=b6 w' (hR w' hw')
       have hw : Region.wanted o (yielded l.toArray a.tmps) = true:=by unfold Region.wanted;rw [b5]
       unfold wpOp
       simp only [ho']
       rw [if_pos hw]
       refine .inl ?_
       unfold Oper.wp
       rw [u2]
       have ea : a.put o.dst undef = a:=by rw [b4];rfl
       show ∃ S',S' _ ∧ (∀ v,S' v → S v) ∧ Shut S' ∧ anyG P l.toArray Q l.length _ (f - 1) S' (listed.setIfInBounds j true) (a.put o.dst undef)
       rw [ea]
       have hrl:=reg_lt b1
       have hget : ∀ (r1 : Nat) (c1 : List At),(st.setR r (.box true (fillL cells k l'))).rg[r1]? = some (.box true c1) → allL isAny c1 = true → (st.rg[r1]? = some (.box true c1) ∨ r1 = r):=fun r1 c1 h1 _ => by
        rcases set_get h1 with ⟨rfl,_,_⟩ | ⟨_,h1⟩
        ·exact .inr rfl
        ·exact .inl h1
       let S' : World → Prop:=fun v => S v ∧ Rel Γ M w0 ρ (st.setR r (.box true (fillL cells k l'))) vs a v
       have hw2 : S' (w'.setCells (ρ r []).b k us):=⟨hS.wr r cells b1 b2 k us (by omega) w' hw',u3⟩
       have hS' : ShutW (st.setR r (.box true (fillL cells k l'))) ρ S':=by
        refine ⟨fun v v' hv hb => ⟨hS.sh _ _ hv.1 hb,hv.2.later hb⟩,fun r1 c1 h1 h2 base us' hl' v hv => ⟨?_,hv.2.writeAny h1 h2 hl'⟩⟩
        rcases hget r1 c1 h1 h2 with h3 | rfl
        ·exact hS.wr r1 c1 h3 h2 base us' hl' v hv.1
        ·have hlen : c1.length = cells.length:=by
          rcases set_get h1 with ⟨_,e,_⟩ | ⟨hne,_⟩
          ·injection e with _ e
           rw [e]
           have gen : ∀ (l cells : List At) (off : Nat),(fillL cells off l).length = cells.length:=by
            intro l
            induction l with
            | nil => intro _ _;rfl
            | cons x l ih => intro cells off;simp only [fillL,ih,List.length_set]
           exact gen _ _ _
          ·exact absurd rfl hne
         exact hS.wr r1 cells b1 b2 base us' (by omega) v hv.1
       refine ⟨S',hw2,fun v hv => hv.1,hS'.sh,?_⟩
       cases t with
       | fin =>
         simp only [okH,Bool.not_true,Bool.false_or,Bool.and_eq_true] at hsub
         obtain ⟨h1,h2⟩:=hsub
         rw [Nat.eq_of_beq_eq_true h1]
         exact fun w2 hw2 => ⟨h2,by rw [List.drop_length];exact hK _ _ _ _ he hw2.2⟩
       | alt i2 t2 m2 => exact (evS_sound hP hsel hQ hK (.alt i2 t2 m2) _ _ _ a S' ρ inv' hS' ⟨_,hw2⟩ (fun v hv => hv.2) he).1 hsub rfl
       | take i2 t2 => exact (evS_sound hP hsel hQ hK (.take i2 t2) _ _ _ a S' ρ inv' hS' ⟨_,hw2⟩ (fun v hv => hv.2) he).1 hsub rfl
      ·refine ⟨hin,fun w' hw' => ?_⟩
       obtain ⟨b5,g,x,y,ob,ξ,he,hrun,hrel,hξ⟩:=evNew_sound hP.env (hR w' hw') he
       have hw : Region.wanted o (yielded l.toArray a.tmps) = true:=by unfold Region.wanted;rw [b5]
       unfold wpOp
       simp only [ho']
       rw [if_pos hw]
       refine .inl ?_
       unfold Oper.wp
       rw [hrun]
       let S' : World → Prop:=fun v => (∀ ws,S (wrs w'.heap.size ws v)) ∧ Rel Γ M w0 (setρ ρ st.rg.length ξ) ((st.push [g]).put o.dst x) vs (a.put o.dst y) v
       have hw2 : S' (w'.alloc ob):=⟨fun ws => hS.sh w' _ hw' (below_wrs (Nat.le_refl _) ws (below_alloc ob)),hrel⟩
       have hrgs : ((st.push [g]).put o.dst x).rg = st.rg ++ [g]:=by cases o.dst <;> rfl
       have hS' : ShutW ((st.push [g]).put o.dst x) (setρ ρ st.rg.length ξ) S':=by
        refine ⟨fun v v' hv hb => ⟨fun ws => hS.sh _ _ (hv.1 ws) (by rw [size_wrs];exact below_wrs_both ws hb),hv.2.later hb⟩,fun r1 c1 h1 h2 base us' hl' v hv => ⟨fun ws => ?_,hv.2.writeAny h1 h2 hl'⟩⟩
        rw [hrgs] at h1
        by_cases hlt : r1 < st.rg.length
        ·rw [List.getElem?_append_left hlt] at h1
         have hb1 : (ρ r1 []).b < w'.heap.size:=by
          have hB : (Reg.box true c1).has [] true (.box c1):=⟨rfl,rfl,rfl⟩
          obtain ⟨_,_,hv0,_⟩:=(hR w' hw').rs.blk r1 _ [] true _ h1 hB
          exact (hR w' hw').rs.lt r1 _ [] true _ h1 hB hv0
         rw [setρ_lt hlt,wrs_comm (by omega)]
         exact hS.wr r1 c1 h1 h2 base us' hl' _ (hv.1 ws)
        ·have hr1 : r1 = st.rg.length:=by
          have:=(List.getElem?_eq_some_iff.1 h1).1
          simp only [List.length_append,List.length_singleton] at this
          omega
         subst hr1
         rw [setρ_at,hξ]
         exact hv.1 ((base,us') :: ws)
       refine ⟨S',hw2,fun v hv => hv.1 [],hS'.sh,?_⟩
       cases t with
       | fin =>
         simp only [okH,Bool.not_true,Bool.false_or,Bool.and_eq_true] at hsub
         obtain ⟨h1,h2⟩:=hsub
         rw [Nat.eq_of_beq_eq_true h1]
         exact fun w2 hw2 => ⟨h2,by rw [List.drop_length];exact hK _ _ _ _ he hw2.2⟩
       | alt i2 t2 m2 => exact (evS_sound hP hsel hQ hK (.alt i2 t2 m2) _ _ _ _ S' _ inv' hS' ⟨_,hw2⟩ (fun v hv => hv.2) he).1 hsub rfl
       | take i2 t2 => exact (evS_sound hP hsel hQ hK (.take i2 t2) _ _ _ _ S' _ inv' hS' ⟨_,hw2⟩ (fun v hv => hv.2) he).1 hsub rfl
     ·exact he.elim
    ·exact (evS_sound hP hsel hQ hK m f listed st a S ρ inv hS hne hR hem).2 hm j hj hjr
   refine ⟨fun hok _ => ?_,fun hok => ?_⟩
   ·simp only [okH,Bool.not_true,Bool.false_or,Bool.and_eq_true,decide_eq_true_eq] at hok
    obtain ⟨hh,hin,hf,h1,h2⟩:=hok
    obtain ⟨f,rfl⟩ : ∃ k,f = k + 1:=⟨f - 1,by omega⟩
    refine ⟨by rw [← hh];simp [OT.heads],fun j hj => ?_⟩
    have:=alts hin hf h1 h2 j (by rw [hh];exact hj) hj
    rwa [Nat.add_sub_cancel] at this
   ·simp only [okH,Bool.not_false,Bool.true_or,Bool.true_and,Bool.and_eq_true,decide_eq_true_eq] at hok
    exact alts hok.1 hok.2.1 hok.2.2.1 hok.2.2.2
def onlyN (R : Act → World → Prop) (e : Exit) (a : Act) (w : World) : Prop:=match e with | .normal => R a w | _ => False
theorem evDraw_any (hP : ProgOk P Γ E) (hC : ClOk P Γ E cl) (h : Rel Γ M w0 ρ st vs a w) {id : Nat} {l : List Oper} {K : St → Prop} (he : evDraw E cl id l st K) {R : Act → World → Prop}
  (hK : ∀ st' a' w' ρ',K st' → Rel Γ M w0 ρ' st' vs a' w' → R a' w') : wpAny P .any l.toArray (onlyN R) l.toArray.size (Array.replicate l.toArray.size false) a { w with drawn:=w.drawn + 1 }:=by
 unfold evDraw at he
 have h1 : Rel Γ M w0 ρ st vs a { w with drawn:=w.drawn + 1 }:=h.later ((Below.refl w.heap.size w).drew)
 split at he
 ·rename_i dt _
  obtain ⟨ds,t⟩:=dt
  obtain ⟨hB,he⟩:=testK_fact Tk.mk he
  have hB:=hB.h
  simp only [okHead,Bool.and_eq_true,decide_eq_true_eq] at hB
  obtain ⟨hsel,hn,ht,hnf,hok⟩:=hB
  have hszl : l.toArray.size = l.length:=by simp
  obtain ⟨st1,he,hr1⟩:=weakK_sound ds he h1
  have inv0 : HeadInv .any l.toArray l.length (Array.replicate l.toArray.size false) :=
   ⟨by simp,fun j oj _ hl => (by rw [getD_replicate_false] at hl;cases hl),fun t _ ht => getD_in (by simpa using ht) (getD_replicate_false _ _)⟩
  have H : anyG P l.toArray (onlyN R) l.length (fun listed a w => Region.seqB .any l.toArray (l.toArray.size - l.length) l.length listed = true ∧ wpList P l.toArray (onlyN R) (l.drop l.length) a w) l.length (fun w' => Rel Γ M w0 ρ st1 vs a w') (Array.replicate l.toArray.size false) a:=by
   cases t with
   | fin => cases hnf
   | alt i2 t2 m2 => exact (evS_sound (Q:=onlyN R) hP hsel (fun c a w hq => hq) (fun st' a' w' ρ' hk hr => hK _ _ _ _ hk hr) (.alt i2 t2 m2) _ _ st1 a _ ρ inv0 Rel.shutW ⟨_,hr1⟩ (fun _ h => h) he).1 hok rfl
   | take i2 t2 => exact (evS_sound (Q:=onlyN R) hP hsel (fun c a w hq => hq) (fun st' a' w' ρ' hk hr => hK _ _ _ _ hk hr) (.take i2 t2) _ _ st1 a _ ρ inv0 Rel.shutW ⟨_,hr1⟩ (fun _ h => h) he).1 hok rfl
  have:=anyG_any (Q:=onlyN R) (g:=l.toArray.size - l.length) (fun listed a' w' hL => by
   have:=wpAny_of_seq (md:=.any) (Q':=onlyN R) (l.drop l.length) l.length listed a' w' (fun j => by simp [List.getElem?_drop]) (by rw [List.length_drop,← hszl];exact hL.1) hL.2
   rwa [List.length_drop,← hszl] at this) _ _ _ _ _ hr1 H
  rwa [show l.length + (l.toArray.size - l.length) = l.toArray.size by omega] at this
 split at he
 ·rename_i nt _
  obtain ⟨n,t⟩:=nt
  obtain ⟨hB,he⟩:=testK_fact Tk.mk he
  have hB:=hB.h
  simp only [okHead,Bool.and_eq_true,decide_eq_true_eq] at hB
  obtain ⟨hsel,hn,ht,hnf,hok⟩:=hB
  have hszl : l.toArray.size = l.length:=by simp
  have inv0 : HeadInv .any l.toArray n (Array.replicate l.toArray.size false) :=
   ⟨by simp,fun j oj _ hl => (by rw [getD_replicate_false] at hl;cases hl),fun t _ ht => getD_in (by simpa using ht) (getD_replicate_false _ _)⟩
  let Q' : Exit → Act → World → Prop:=onlyN R
  have tl:=fun st' a' w' ρ' (hk : evOps E cl l.toArray (l.drop n) st' K) (hr : Rel Γ M w0 ρ' st' vs a' w') => evOps_sound (Q:=Q') hP hC (fun st' a' w' ρ' hk hr => show Q' .normal a' w' from hK _ _ _ _ hk hr) _ _ _ _ _ hk hr
  have H : anyG P l.toArray Q' n (fun listed a w => Region.seqB .any l.toArray (l.toArray.size - n) n listed = true ∧ wpList P l.toArray Q' (l.drop n) a w) n (fun w' => Below w.heap.size { w with drawn:=w.drawn + 1 } w') (Array.replicate l.toArray.size false) a:=by
   cases t with
   | fin => cases hnf
   | alt i2 t2 m2 => exact (evH_sound (Q:=Q') (w0:=w0) (M:=M) (Γ:=Γ) (vs:=vs) hP hC hsel ht (fun c a w hq => hq) tl (.alt i2 t2 m2) _ _ st a _ ρ inv0 he h1).1 hok rfl
   | take i2 t2 => exact (evH_sound (Q:=Q') (w0:=w0) (M:=M) (Γ:=Γ) (vs:=vs) hP hC hsel ht (fun c a w hq => hq) tl (.take i2 t2) _ _ st a _ ρ inv0 he h1).1 hok rfl
  have:=anyG_any (Q:=Q') (g:=l.toArray.size - n) (fun listed a' w' hL => by
   have:=wpAny_of_seq (md:=.any) (Q':=Q') (l.drop n) n listed a' w' (fun j => by simp [List.getElem?_drop]) (by rw [List.length_drop,← hszl];exact hL.1) hL.2
   rwa [List.length_drop,← hszl] at this) _ _ _ _ _ (Below.refl _ _) H
  rwa [show n + (l.toArray.size - n) = l.toArray.size by omega] at this
 split at he
 ·rename_i t _
  obtain ⟨hB,he⟩:=testK_fact Tk.mk he
  have hB:=hB.h
  simp only [okTree,Bool.and_eq_true] at hB
  obtain ⟨hsel,hnf,hok⟩:=hB
  let Q' : Exit → Act → World → Prop:=onlyN R
  cases t with
  | fin => cases hnf
  | alt i2 t2 m2 => exact (evAlts_sound (Q:=Q') hP hC hsel (fun c a w hq => hq) (fun st' a' w' ρ' hk hr => hK _ _ _ _ hk hr) (.alt i2 t2 m2) _ _ st a _ ρ he h1).1 hok rfl
  | take i2 t2 => exact (evAlts_sound (Q:=Q') hP hC hsel (fun c a w hq => hq) (fun st' a' w' ρ' hk hr => hK _ _ _ _ hk hr) (.take i2 t2) _ _ st a _ ρ he h1).1 hok rfl
 split at he
 ·rename_i ord _
  obtain ⟨hB,he⟩:=testK_fact Tk.mk he
  have hB:=hB.h
  simp only [lexPB,Bool.and_eq_true,decide_eq_true_eq,List.all_eq_true,List.mem_range] at hB
  obtain ⟨⟨⟨⟨hsel,hn⟩,ht⟩,hstep⟩,hseq⟩:=hB
  have hszl : l.toArray.size = l.length:=by simp
  have inv0 : HeadInv .any l.toArray ord.length (upD l.toArray []) :=
   ⟨by simp [upD],fun j oj _ hl => (by rw [show upD l.toArray [] = Array.replicate l.toArray.size false from rfl,getD_replicate_false] at hl;cases hl),fun t _ ht => getD_in (by simpa [upD] using ht) (getD_replicate_false _ _)⟩
  let Q' : Exit → Act → World → Prop:=onlyN R
  have H:=evGp_sound (all:=ord) (Q:=Q') (w0:=w0) (M:=M) (Γ:=Γ) (vs:=vs) hP hC hsel ht hstep hseq (fun c a w hq => hq) (K:=fun st => evOps E cl l.toArray (l.drop ord.length) st K)
   (fun st' a' w' ρ' hk hr => evOps_sound hP hC (fun st' a' w' ρ' hk hr => show Q' .normal a' w' from hK _ _ _ _ hk hr) _ _ _ _ _ hk hr) ord [] rfl inv0 st a _ ρ he h1
  have:=anyG_any (Q:=Q') (g:=l.toArray.size - ord.length) (fun listed a' w' hL => by
   have:=wpAny_of_seq (md:=.any) (Q':=Q') (l.drop ord.length) ord.length listed a' w' (fun j => by simp [List.getElem?_drop]) (by rw [List.length_drop,← hszl];exact hL.1) hL.2
   rwa [List.length_drop,← hszl] at this) _ _ _ _ _ (Below.refl _ _) H
  rwa [show ord.length + (l.toArray.size - ord.length) = l.toArray.size by omega] at this
 split at he
 ·obtain ⟨hB,he⟩:=testK_fact Tk.mk he
  have hB:=hB.h
  simp only [Region.lexB,Bool.and_eq_true] at hB
  refine wpAny_of_quiet (C:=fun w' => Below w.heap.size { w with drawn:=w.drawn + 1 } w') (Q:=fun a' => ∀ w',Below w.heap.size { w with drawn:=w.drawn + 1 } w' → R a' w') (fun _ w' hw' h => h w' hw') _ _ _ _ (Below.refl _ _) ?_
  have:=wpAnyQ_lex (C:=fun w' => Below w.heap.size { w with drawn:=w.drawn + 1 } w') (md:=.any) hB.1 l 0 (Array.replicate l.toArray.size false) a (by simp) (by simpa using hB.2)
   (evQ_sound (w1:={ w with drawn:=w.drawn + 1 }) hP (Qf:=fun a' => ∀ w',Below w.heap.size { w with drawn:=w.drawn + 1 } w' → R a' w') (fun st' a' hk hr w' hw' => hK _ _ _ _ hk (hr.later hw')) _ _ _ he h1)
  simpa using this
 ·obtain ⟨hB,he⟩:=testK_fact Tk.mk he
  have hB:=hB.h
  simp only [lexGB,Bool.and_eq_true,decide_eq_true_eq,List.all_eq_true,List.mem_range] at hB
  obtain ⟨⟨⟨⟨hsel,hn⟩,ht⟩,hstep⟩,hseq⟩:=hB
  have hn' : storeAt l ≤ l.length:=storeAt_le l
  have hszl : l.toArray.size = l.length:=by simp
  have inv0 : HeadInv .any l.toArray (storeAt l) (upTo l.toArray 0) :=
   ⟨by simp [upTo],fun j oj _ hl => (by rw [upTo,getD_replicate_false] at hl;cases hl),fun t _ ht => getD_in (by simpa [upTo] using ht) (getD_replicate_false _ _)⟩
  let Q' : Exit → Act → World → Prop:=onlyN R
  have H:=evG_sound (n:=storeAt l) (Q:=Q') (w0:=w0) (M:=M) (Γ:=Γ) (vs:=vs) hP hC hn' hsel ht hstep hseq (fun c a w hq => hq) (K:=fun st => evOps E cl l.toArray (l.drop (storeAt l)) st K)
   (fun st' a' w' ρ' hk hr => evOps_sound hP hC (fun st' a' w' ρ' hk hr => show Q' .normal a' w' from hK _ _ _ _ hk hr) _ _ _ _ _ hk hr) (l.take (storeAt l)) 0 (by simp) (Nat.zero_le _) inv0 st a _ ρ he h1
  have:=anyG_any (Q:=Q') (g:=l.toArray.size - storeAt l) (fun listed a' w' hL => by
   have:=wpAny_of_seq (md:=.any) (Q':=Q') (l.drop (storeAt l)) (storeAt l) listed a' w' (fun j => by simp [List.getElem?_drop]) (by rw [List.length_drop,← hszl];exact hL.1) hL.2
   rwa [List.length_drop,← hszl] at this) _ _ _ _ _ (Below.refl _ _) H
  rwa [List.length_take,Nat.min_eq_left hn',show storeAt l + (l.toArray.size - storeAt l) = l.toArray.size by omega] at this
theorem evDraw_sound (hP : ProgOk P Γ E) (hC : ClOk P Γ E cl) (h : Rel Γ M w0 ρ st vs a w) {id : Nat} {l : List Oper} {K : St → Prop} (he : evDraw E cl id l st K) {Q : Exit → Act → World → Prop}
  (hK : ∀ st' a' w' ρ',K st' → Rel Γ M w0 ρ' st' vs a' w' → Q .normal a' w') : (Code.region id l.toArray true).wp P Q a w :=
 Code.wp_mono (Q:=onlyN (Q .normal)) (fun e a w hq => by cases e <;> first | exact hq | exact hq.elim) (wp_region_any hP.mixed (evDraw_any hP hC h he hK))
end
end Go.Sy
end
section
namespace Go.Sy
open Go Go.RowKit
universe u
section
variable {P : Program} {Γ : Glob} {E : Env} {cl : Cl} {M : Nat → Prop} {w0 : World} {ρ : Keys} {st : St} {vs : Fv} {a : Act} {w : World}
def reρ (ρ : Keys) (is : List Nat) (m : Nat) (gs : List Reg) : Keys:=fun r π =>
 if rn is r < m then ρ (rn is r) π else { noRI with m:=(match gs.getD r .dead with | .arr _ tg _ _ _ => tg.length | _ => 0) }
theorem reρ_lt {is : List Nat} {m r : Nat} {gs : List Reg} (h : rn is r < m) : reρ ρ is m gs r = ρ (rn is r):=by
 funext π;simp only [reρ];rw [if_pos h]
theorem reρ_ge {is : List Nat} {m r : Nat} {gs : List Reg} {π : Path} (h : m ≤ rn is r) : (reρ ρ is m gs r π).void = true:=by
 simp only [reρ];rw [if_neg (by omega)];rfl
theorem void_head {I : RI} (h : I.void = true) {a0 : Option Addr} : I.head 0 0 (.slice a0 0 0):=⟨fun _ => ⟨rfl,_,rfl⟩,fun hf => by rw [h] at hf;cases hf⟩
theorem leA_sound {is : List Nat} {m n : Nat} {gs : List Reg} {x x' : At} {y : Value} (hl : leA is m n x x') (h : x.ok m ρ y) : x'.ok n (reρ ρ is m gs) y:=by
 unfold leA at hl
 split at hl
 ·trivial
 ·exact h
 ·exact ⟨none,h.1⟩
 ·exact h
 ·obtain ⟨h1,h2,rfl,rfl,rfl⟩:=hl
  obtain ⟨rfl,_⟩:=h
  exact ⟨h2,void_head (reρ_ge h1)⟩
 ·obtain ⟨h1,h2,rfl,rfl,rfl⟩:=hl
  obtain ⟨a0,rfl⟩:=h
  exact ⟨h2,void_head (reρ_ge h1)⟩
 ·obtain ⟨rfl,rfl⟩:=hl;exact h
 ·obtain rfl:=hl;exact h
 ·obtain rfl:=hl;exact h
 ·exact h
 ·exact h
 ·obtain rfl:=hl;obtain rfl : y = .bool true:=h;exact ⟨rfl,rfl⟩
 ·obtain rfl:=hl;obtain rfl : y = .bool false:=h;exact ⟨rfl,rfl⟩
 ·obtain ⟨h1,h2,rfl,rfl,rfl,rfl⟩:=hl
  exact ⟨h1,by rw [reρ_lt h2];exact h.2⟩
 ·obtain ⟨h1,h2,rfl,rfl,rfl,rfl⟩:=hl
  exact ⟨h1,by rw [reρ_lt h2];exact h.2⟩
 ·obtain ⟨rfl,rfl,h1⟩:=hl
  refine ⟨fun r hr => (h1 r hr).1,?_⟩
  rw [h.2,List.map_map]
  congr 2
  exact List.map_congr_left fun r hr => by rw [reρ_lt (h1 r hr).2];rfl
 ·obtain ⟨h1,h2,rfl⟩:=hl
  exact ⟨h1,by rw [reρ_lt h2];exact h.2⟩
 ·obtain ⟨h1,h2,rfl⟩:=hl
  exact ⟨h1,by rw [reρ_lt h2];exact h.2⟩
 ·obtain ⟨h1,h2,rfl⟩:=hl
  exact ⟨h1,by rw [reρ_lt h2];exact h.2⟩
 ·exact h
 ·exact hl.elim
theorem leAs_sound {is : List Nat} {m n : Nat} {gs : List Reg} : ∀ {l l' : List At} {ys : List Value},leAs is m n l l' → okL (At.ok m ρ) l ys → okL (At.ok n (reρ ρ is m gs)) l' ys
 | [],[],[],_,_ => trivial
 | _ :: _,_ :: _,_ :: _,hl,h => ⟨leA_sound hl.1 h.1,leAs_sound hl.2 h.2⟩
theorem leC_sound {is : List Nat} {m n : Nat} {gs : List Reg} {x x' : C1} {y : Value} (hl : leC is m n x x') (h : x.ok m ρ y) : x'.ok n (reρ ρ is m gs) y:=by
 unfold leC at hl
 split at hl
 ·exact leA_sound hl h
 ·obtain ⟨ys,h1,h2⟩:=h;exact ⟨ys,h1,leAs_sound hl h2⟩
 ·exact hl.elim
theorem leCs_sound {is : List Nat} {m n : Nat} {gs : List Reg} : ∀ {l l' : List C1} {ys : List Value},leCs is m n l l' → okL (C1.ok m ρ) l ys → okL (C1.ok n (reρ ρ is m gs)) l' ys
 | [],[],[],_,_ => trivial
 | _ :: _,_ :: _,_ :: _,hl,h => ⟨leC_sound hl.1 h.1,leCs_sound hl.2 h.2⟩
theorem leT_sound {is : List Nat} {m n : Nat} {gs : List Reg} {x x' : Tm} {y : Value} (hl : leT is m n x x') (h : x.ok m ρ y) : x'.ok n (reρ ρ is m gs) y:=by
 unfold leT at hl
 split at hl
 ·trivial
 ·exact leA_sound hl h
 ·obtain ⟨ys,h1,h2⟩:=h;exact ⟨ys,h1,leAs_sound hl h2⟩
 ·obtain ⟨ys,h1,h2⟩:=h;exact ⟨ys,h1,leCs_sound hl h2⟩
 ·exact hl.elim
theorem leT_any {is : List Nat} {m n : Nat} {x : Tm} : leT is m n x (.a .any):=by cases x <;> exact trivial
theorem leTr_get {is : List Nat} {m n : Nat} : ∀ {t' t : Tr},leTr is m n t t' → ∀ i,leT is m n (t.get i) (t'.get i)
 | .nil,_,_,i => leT_any
 | .node y l r,.nil,h,i => by
   have h' : (match (generalizing:=false) y with | .a .any => True | _ => False) ∧ leTr is m n .nil l ∧ leTr is m n .nil r:=h
   obtain ⟨h1,h2,h3⟩:=h'
   unfold Tr.get
   split
   ·split at h1
    ·exact leT_any
    ·exact h1.elim
   ·split
    ·exact leTr_get h2 _
    ·exact leTr_get h3 _
 | .node y l r,.node x l0 r0,h,i => by
   have h' : leT is m n x y ∧ leTr is m n l0 l ∧ leTr is m n r0 r:=h
   obtain ⟨h1,h2,h3⟩:=h'
   unfold Tr.get
   split
   ·exact h1
   ·split
    ·exact leTr_get h2 _
    ·exact leTr_get h3 _
theorem leS_sound {is : List Nat} {m n : Nat} {gs : List Reg} {s s' : Sl} {xs : Array Value} (hl : leS is m n s s') (h : s.ok m ρ xs) : s'.ok n (reρ ρ is m gs) xs :=
 ⟨h.n.trans hl.1,fun i => leT_sound (leTr_get hl.2 i) (h.h i)⟩
theorem leF_sound {is : List Nat} {m n : Nat} {gs : List Reg} : ∀ {l l' : List Sl} {ys : List (Array Value)},leF is m n l l' → okL (Sl.ok m ρ) l ys → okL (Sl.ok n (reρ ρ is m gs)) l' ys
 | [],[],[],_,_ => trivial
 | _ :: _,_ :: _,_ :: _,hl,h => ⟨leS_sound hl.1 h.1,leF_sound hl.2 h.2⟩
theorem leAs_get {is : List Nat} {m n : Nat} : ∀ {l l' : List At},leAs is m n l l' → ∀ (j : Nat) (x' : At),l'[j]? = some x' → ∃ x,l[j]? = some x ∧ leA is m n x x'
 | [],[],_,j,x',h => by simp at h
 | x :: _,_ :: _,hl,0,x',h => by simp at h;subst h;exact ⟨x,rfl,hl.1⟩
 | _ :: _,_ :: _,hl,j + 1,x',h => by
   obtain ⟨x,h1,h2⟩:=leAs_get hl.2 j x' (by simpa using h)
   exact ⟨x,by simpa using h1,h2⟩
theorem flagLe_imp {b b' : Bool} (h : flagLe b b') : b' = true → b = true:=by
 cases b
 ·intro h';rw [show b' = false from h] at h';cases h'
 ·exact fun _ => rfl
theorem leR_sound {is : List Nat} {m n : Nat} {gs : List Reg} {g g' : Reg} {r : Nat} {π : Path} {o : Bool} {B' : Blk} (hl : leR is m n g g') (hrn : rn is r < m) (h : g'.has π o B') :
  ∃ o2 B,g.has π o2 B ∧ (o = true → o2 = true) ∧ (B.lies m ρ (rn is r) π w → B'.lies n (reρ ρ is m gs) r π w) ∧ (B.mine M w0 w (ρ (rn is r) π) → B'.mine M w0 w (ρ (rn is r) π)):=by
 unfold leR at hl
 split at hl
 ·exact h.elim
 ·rename_i o1 l o1' l'
  obtain ⟨hf,hl⟩:=hl
  obtain ⟨rfl,rfl,rfl⟩:=h
  refine ⟨_,.box l,⟨rfl,rfl,rfl⟩,flagLe_imp hf,fun hh => ?_,id⟩
  obtain ⟨_,h2,h3,h4⟩:=hh
  refine ⟨rfl,by rw [reρ_lt hrn];exact h2,by rw [reρ_lt hrn];exact h3,fun j x' hx => ?_⟩
  obtain ⟨x,hx,hle⟩:=leAs_get hl j x' hx
  obtain ⟨y,hy,hc⟩:=h4 j x hx
  exact ⟨y,leA_sound hle hy,by rw [reρ_lt hrn];exact hc⟩
 ·rename_i te tg xs o1 i1 te' tg' xs' o1' i1'
  obtain ⟨⟨hh,rfl,hxs⟩,hf1,hf2⟩:=hl
  subst hh
  obtain rfl : xs = xs':=hxs
  obtain ⟨A,rfl,hA,rfl⟩:=Ar.has_flag h
  refine ⟨flagAt π o1 i1,.arr A,⟨rfl,A,hA,rfl⟩,?_,fun hh => ?_,id⟩
  ·cases π with
   | nil => exact flagLe_imp hf1
   | cons => exact flagLe_imp hf2
  ·show A.lies w (reρ ρ is m gs r) π
   rw [reρ_lt hrn];exact hh
 ·rename_i t k c es o1 t' k' c' es' o1'
  obtain ⟨⟨hh,rfl,rfl,hes⟩,hf⟩:=hl
  subst hh
  obtain rfl : es = es':=hes
  obtain ⟨rfl,rfl,rfl⟩:=h
  refine ⟨_,.map k c es,⟨rfl,rfl,rfl⟩,flagLe_imp hf,fun hh => ?_,id⟩
  obtain ⟨_,h2,h3⟩:=hh
  exact ⟨rfl,by rw [reρ_lt hrn];exact h2,by rw [reρ_lt hrn];exact h3⟩
 ·rename_i t kk e tg es o1 i1 t' kk' e' tg' es' o1' i1'
  obtain ⟨⟨hh,hh',rfl,rfl,hes⟩,hf1,hf2⟩:=hl
  subst hh
  subst hh'
  obtain rfl : es = es':=hes
  rcases h with ⟨rfl,rfl,rfl⟩ | ⟨j,rfl,rfl,hj,hf,rfl⟩
  ·refine ⟨_,_,.inl ⟨rfl,rfl,rfl⟩,flagLe_imp hf1,fun hh => ?_,id⟩
   obtain ⟨_,h2,h3⟩:=hh
   exact ⟨rfl,by rw [reρ_lt hrn];exact h2,by rw [reρ_lt hrn];exact h3⟩
  ·refine ⟨_,_,.inr ⟨j,rfl,rfl,hj,hf,rfl⟩,flagLe_imp hf2,fun hh => ?_,id⟩
   show Ar.lies w (reρ ρ is m gs r) _ _
   rw [reρ_lt hrn];exact hh
 ·rename_i r1 k1 l1 r1' k1' l1'
  obtain ⟨⟨rfl,rfl⟩,a1,a2,a3⟩:=hl
  obtain ⟨rfl,rfl,rfl⟩:=h
  refine ⟨_,.it (some r1) k1 l1,⟨rfl,rfl,rfl⟩,id,fun hh => ?_,id⟩
  obtain ⟨_,h2,h3,h4⟩:=hh
  refine ⟨rfl,by rw [reρ_lt hrn];exact h2,fun r' hr' => by cases hr';exact a1,?_⟩
  rw [reρ_lt hrn,h4]
  simp only [Option.map_some]
  rw [a3] at a2
  rw [reρ_lt a2,a3]
 ·obtain ⟨rfl,rfl⟩:=hl
  obtain ⟨rfl,rfl,rfl⟩:=h
  refine ⟨_,.it none _ _,⟨rfl,rfl,rfl⟩,id,fun hh => ?_,id⟩
  obtain ⟨_,h2,h3,h4⟩:=hh
  exact ⟨rfl,by rw [reρ_lt hrn];exact h2,(fun r' hr' => by cases hr'),by rw [reρ_lt hrn];exact h4⟩
 ·obtain ⟨hs,rfl,rfl,rfl,rfl⟩:=hl
  obtain ⟨rfl,rfl,rfl⟩:=h
  refine ⟨_,.lp _ _ _ _ _,⟨rfl,rfl,rfl⟩,id,fun hh => ?_,id⟩
  obtain ⟨_,h2,h3,h4,h5⟩:=hh
  exact ⟨rfl,by rw [reρ_lt hrn];exact h2,leS_sound hs h3,by rw [reρ_lt hrn];exact h4,by rw [reρ_lt hrn];exact h5⟩
 ·exact hl.elim
theorem leRs_get {is : List Nat} {m n : Nat} {rg : List Reg} : ∀ {l : List Reg} {k : Nat},leRs is m n rg k l → ∀ (r : Nat) (g' : Reg),l[r]? = some g' →
  (rn is (k + r) < m ∧ leR is m n (rg.getD (rn is (k + r)) .dead) g') ∨ (m ≤ rn is (k + r) ∧ nilR g')
 | [],_,_,r,g',h => by simp at h
 | y :: ys,k,hl,r,g',h => by
   obtain ⟨h1,h2⟩ : (match Nat.blt (rn is k) m with | true => leR is m n (rg.getD (rn is k) .dead) y | false => nilR y) ∧ leRs is m n rg (k + 1) ys:=hl
   cases r with
   | zero =>
     simp at h;subst h
     rw [Nat.add_zero]
     split at h1
     ·rename_i hb;exact .inl ⟨Nat.le_of_ble_eq_true hb,h1⟩
     ·rename_i hb
      refine .inr ⟨?_,h1⟩
      rcases Nat.lt_or_ge (rn is k) m with hlt | hge
      ·rw [show Nat.blt (rn is k) m = true from Nat.ble_eq_true_of_le hlt] at hb;cases hb
      ·exact hge
   | succ r =>
     have:=leRs_get h2 r g' (by simpa using h)
     rwa [show k + 1 + r = k + (r + 1) by omega] at this
theorem memN_false {r : Nat} : ∀ {l : List Nat},memN r l = false → r ∉ l
 | [],_ => by simp
 | x :: l,h => by
   simp only [memN] at h
   split at h
   ·cases h
   ·rename_i hb
    intro hm
    rcases List.mem_cons.1 hm with rfl | hm
    ·simp at hb
    ·exact memN_false h hm
theorem injB_spec {is : List Nat} {m : Nat} : ∀ {n : Nat} {seen : List Nat},injB is m n seen = true → (∀ j,j < n → rn is j < m → rn is j ∉ seen) ∧ (∀ j k,j < n → k < n → j ≠ k → rn is j < m → rn is k < m → rn is j ≠ rn is k)
 | 0,_,_ => ⟨fun j hj => by omega,fun j k hj => by omega⟩
 | n + 1,seen,h => by
   simp only [injB] at h
   split at h
   ·rename_i hb
    have hge : ¬ rn is n < m:=fun hlt => by rw [show Nat.blt (rn is n) m = true from Nat.ble_eq_true_of_le hlt] at hb;cases hb
    obtain ⟨h1,h2⟩:=injB_spec h
    refine ⟨fun j hj hm => ?_,fun j k hj hk hne h3 h4 => ?_⟩
    ·rcases Nat.lt_succ_iff_lt_or_eq.1 hj with hj | rfl
     ·exact h1 j hj hm
     ·exact absurd hm hge
    ·rcases Nat.lt_succ_iff_lt_or_eq.1 hj with hj | rfl
     ·rcases Nat.lt_succ_iff_lt_or_eq.1 hk with hk | rfl
      ·exact h2 j k hj hk hne h3 h4
      ·exact absurd h4 hge
     ·exact absurd h3 hge
   ·split at h
    ·cases h
    ·rename_i hmem
     obtain ⟨h1,h2⟩:=injB_spec h
     refine ⟨fun j hj hm => ?_,fun j k hj hk hne h3 h4 => ?_⟩
     ·rcases Nat.lt_succ_iff_lt_or_eq.1 hj with hj | rfl
      ·exact fun hs => h1 j hj hm (List.mem_cons_of_mem _ hs)
      ·exact memN_false hmem
     ·rcases Nat.lt_succ_iff_lt_or_eq.1 hj with hj | rfl
      ·rcases Nat.lt_succ_iff_lt_or_eq.1 hk with hk | rfl
       ·exact h2 j k hj hk hne h3 h4
       ·exact fun e => h1 j hj h3 (by rw [e];exact List.mem_cons_self)
      ·rcases Nat.lt_succ_iff_lt_or_eq.1 hk with hk | rfl
       ·exact fun e => h1 k hk h4 (by rw [← e];exact List.mem_cons_self)
       ·exact absurd rfl hne
theorem nil_has {g : Reg} (hn : nilR g) {π : Path} {o : Bool} {B : Blk} (h : g.has π o B) : ∃ te tg inn,π = [] ∧ tg ≠ [] ∧ g = .arr te tg [] o inn ∧ B = .arr ⟨te,tg,[]⟩:=by
 cases g with
 | dead => exact h.elim
 | box => exact hn.elim
 | map => exact hn.elim
 | mps => exact hn.elim
 | iter => exact hn.elim
 | lp => exact hn.elim
 | arr te tg xs o1 i1 =>
   obtain ⟨rfl,htg⟩:=hn
   obtain ⟨A,rfl,hA,rfl⟩:=Ar.has_flag h
   have none : ∀ {π : Path} {A : Ar},Ar.has ⟨te,tg,[]⟩ π A → π = [] ∧ A = ⟨te,tg,[]⟩:=by
    intro π
    induction π with
    | nil => intro A h;exact ⟨rfl,h⟩
    | cons p π ih =>
      obtain ⟨i,j⟩:=p
      rintro A ⟨B,h1,h2,_⟩
      obtain ⟨_,rfl⟩:=ih h1
      simp at h2
   obtain ⟨rfl,rfl⟩:=none hA
   exact ⟨te,tg,i1,rfl,htg,rfl,rfl⟩
theorem Rel.le (h : Rel Γ M w0 ρ st vs a w) {is : List Nat} {st' : St} (hl : Le is st st') : ∃ ρ',Rel Γ M w0 ρ' st' vs a w:=by
 unfold Le at hl
 rw [lenK_eq,lenK_eq] at hl
 obtain ⟨h1,h2,h3,h4⟩:=hl
 obtain ⟨_,hinj⟩:=injB_spec h4
 have get : ∀ (r : Nat) (g' : Reg),st'.rg[r]? = some g' → (rn is r < st.rg.length ∧ ∃ g,leR is st.rg.length st'.rg.length g g' ∧ ∀ π o B,g'.has π o B → st.rg[rn is r]? = some g) ∨ (st.rg.length ≤ rn is r ∧ nilR g'):=by
  intro r g' hr
  rcases leRs_get h3 r g' hr with ⟨k1,k2⟩ | k
  ·rw [Nat.zero_add] at k1 k2
   refine .inl ⟨k1,_,k2,fun π o B hh => ?_⟩
   simp [List.getD,k1]
  ·rw [Nat.zero_add] at k;exact .inr k
 refine ⟨reρ ρ is st.rg.length st'.rg,leS_sound h1 h.tm,leF_sound h2 h.fr,h.df,⟨fun r g' π o B hr hh => ?_,fun r g' π o B hr hh hv => ?_,fun r g' π B hr hh hv => ?_,fun r1 r2 g1 g2 π1 π2 o' B1 B2 e1 e2 k1 k2 v1 v2 hne => ?_⟩,h.bl,h.gl,h.gn⟩
 ·rcases get r g' hr with ⟨k1,g,k2,k3⟩ | ⟨k1,k2⟩
  ·obtain ⟨o2,B0,b1,_,b3,_⟩:=leR_sound (ρ:=ρ) (M:=M) (w0:=w0) (w:=w) (gs:=st'.rg) k2 k1 hh
   exact b3 (h.rs.blk _ g π o2 B0 (k3 π o B hh) b1)
  ·obtain ⟨te,tg,inn,rfl,htg,rfl,rfl⟩:=nil_has k2 hh
   refine ⟨htg,?_,fun _ => rfl,fun hf => ?_,fun i hi => by simp at hi⟩
   ·simp only [reρ];rw [if_neg (by omega)];simp [List.getD,hr]
   ·rw [reρ_ge k1] at hf;cases hf
 ·rcases get r g' hr with ⟨k1,g,k2,k3⟩ | ⟨k1,k2⟩
  ·obtain ⟨o2,B0,b1,_,_,_⟩:=leR_sound (ρ:=ρ) (M:=M) (w0:=w0) (w:=w) (gs:=st'.rg) k2 k1 hh
   rw [reρ_lt k1] at hv ⊢
   exact h.rs.lt _ g π o2 B0 (k3 π o B hh) b1 hv
  ·rw [reρ_ge k1] at hv;cases hv
 ·rcases get r g' hr with ⟨k1,g,k2,k3⟩ | ⟨k1,k2⟩
  ·obtain ⟨o2,B0,b1,b2,_,b4⟩:=leR_sound (ρ:=ρ) (M:=M) (w0:=w0) (w:=w) (gs:=st'.rg) k2 k1 hh
   obtain rfl:=b2 rfl
   rw [reρ_lt k1] at hv ⊢
   exact b4 (h.rs.own _ g π B0 (k3 π true B hh) b1 hv)
  ·rw [reρ_ge k1] at hv;cases hv
 ·rcases get r1 g1 e1 with ⟨p1,g10,p2,p3⟩ | ⟨p1,p2⟩
  ·rcases get r2 g2 e2 with ⟨q1,g20,q2,q3⟩ | ⟨q1,q2⟩
   ·obtain ⟨oa,Ba,a1,a2,_,_⟩:=leR_sound (ρ:=ρ) (M:=M) (w0:=w0) (w:=w) (gs:=st'.rg) p2 p1 k1
    obtain ⟨ob,Bb,b1,_,_,_⟩:=leR_sound (ρ:=ρ) (M:=M) (w0:=w0) (w:=w) (gs:=st'.rg) q2 q1 k2
    obtain rfl:=a2 rfl
    rw [reρ_lt p1] at v1 ⊢
    rw [reρ_lt q1] at v2 ⊢
    refine h.rs.dj _ _ g10 g20 π1 π2 ob Ba Bb (p3 _ _ _ k1) (q3 _ _ _ k2) a1 b1 v1 v2 ?_
    rintro ⟨x1,x2⟩
    by_cases hrr : r1 = r2
    ·exact hne ⟨hrr,x2⟩
    ·exact hinj r1 r2 (reg_lt (st:=st') e1) (reg_lt (st:=st') e2) hrr p1 q1 x1
   ·rw [reρ_ge q1] at v2;cases v2
  ·rw [reρ_ge p1] at v1;cases v1
end
end Go.Sy
end
section
namespace Go.Sy
open Go Go.RowKit
universe u
/-! ### The old world grows -/
structure Ext (M : Nat → Prop) (w0 : World) (M' : Nat → Prop) (w0' : World) : Prop where
 fr : Frame M w0 w0'
 sub : ∀ k,M' k → M k ∨ w0.heap.size ≤ k
theorem Ext.refl (M : Nat → Prop) (w0 : World) : Ext M w0 M w0:=⟨Frame.refl M w0,fun _ h => .inl h⟩
theorem Ext.frame {M M' : Nat → Prop} {w0 w0' w : World} (h : Ext M w0 M' w0') (hf : Frame M' w0' w) : Frame M w0 w :=
 ⟨hf.os.trans h.fr.os,hf.tape.trans h.fr.tape,hf.output.trans h.fr.output,Nat.le_trans h.fr.size hf.size,fun k hk hm =>
   (hf.block k (Nat.lt_of_lt_of_le hk h.fr.size) (fun hm' => by rcases h.sub k hm' with h1 | h1;exact hm h1;omega)).trans (h.fr.block k hk hm)⟩
theorem Ext.trans {M M' M2 : Nat → Prop} {w0 w0' w02 : World} (h : Ext M w0 M' w0') (k : Ext M' w0' M2 w02) : Ext M w0 M2 w02 :=
 ⟨h.frame k.fr,fun j hj => by
   rcases k.sub j hj with h1 | h1
   ·exact h.sub j h1
   ·exact .inr (Nat.le_trans h.fr.size h1)⟩
def mark (D : Nat) : Deferred:={ target:=.collected D,args:=#[] }
def Sealed (M : Nat → Prop) (w0 : World) (D : Nat) : Prop:=D < w0.heap.size ∧ ¬ M D ∧ w0.heap[D]? = some (.deferred (some []))
theorem Ext.sealed {M M' : Nat → Prop} {w0 w0' : World} (h : Ext M w0 M' w0') {D : Nat} (hs : Sealed M w0 D) : Sealed M' w0' D :=
 ⟨Nat.lt_of_lt_of_le hs.1 h.fr.size,fun hm => by rcases h.sub D hm with h1 | h1;exact hs.2.1 h1;exact absurd h1 (Nat.not_le.2 hs.1),(h.fr.block D hs.1 hs.2.1).trans hs.2.2⟩
theorem Sealed.now {M : Nat → Prop} {w0 w : World} {D : Nat} (hs : Sealed M w0 D) (hf : Frame M w0 w) : w.heap[D]? = some (.deferred (some [])):=(hf.block D hs.1 hs.2.1).trans hs.2.2
structure Adv (M : Nat → Prop) (w0 : World) (M' : Nat → Prop) (w0' : World) (ds ds' : List Deferred) : Prop where
 ext : Ext M w0 M' w0'
 marks : ∃ Ds : List Nat,ds' = Ds.map mark ++ ds ∧ Ds.Nodup ∧ ∀ D ∈ Ds,Sealed M' w0' D ∧ w0.heap.size ≤ D
theorem Adv.refl (M : Nat → Prop) (w0 : World) (ds : List Deferred) : Adv M w0 M w0 ds ds:=⟨Ext.refl M w0,[],rfl,List.nodup_nil,by simp⟩
theorem Adv.trans {M M' M2 : Nat → Prop} {w0 w0' w02 : World} {ds ds' ds2 : List Deferred} (h : Adv M w0 M' w0' ds ds') (k : Adv M' w0' M2 w02 ds' ds2) : Adv M w0 M2 w02 ds ds2:=by
 obtain ⟨h1,Ds,h2,h3,h4⟩:=h
 obtain ⟨k1,Es,k2,k3,k4⟩:=k
 refine ⟨h1.trans k1,Es ++ Ds,by rw [k2,h2];simp,?_,fun D hD => ?_⟩
 ·rw [List.nodup_append]
  refine ⟨k3,h3,fun a ha b hb e => ?_⟩
  subst e
  have:=(k4 a ha).2
  have:=(h4 a hb).1.1
  omega
 ·rcases List.mem_append.1 hD with hD | hD
  ·exact ⟨(k4 D hD).1,Nat.le_trans h1.fr.size (k4 D hD).2⟩
  ·exact ⟨k1.sealed (h4 D hD).1,(h4 D hD).2⟩
theorem Mine.unbase {M M' : Nat → Prop} {w0 w0' w : World} (h : Ext M w0 M' w0') {I : RI} (hm : Mine M' w0' w I) : Mine M w0 w I :=
 ⟨by rcases hm.own with h1 | h1
     ·exact h.sub _ h1
     ·exact .inr (Nat.le_trans h.fr.size h1),hm.fz⟩
theorem Blk.mine.unbase {M M' : Nat → Prop} {w0 w0' w : World} (h : Ext M w0 M' w0') {I : RI} {B : Blk} (hm : B.mine M' w0' w I) : B.mine M w0 w I:=by
 cases B with
 | arr A => exact ⟨Mine.unbase h hm.1,hm.2⟩
 | box => exact Mine.unbase h hm
 | map => exact Mine.unbase h hm
 | mps => exact Mine.unbase h hm
 | it => exact Mine.unbase h hm
 | lp => exact Mine.unbase h hm
theorem Regs.unbase {M M' : Nat → Prop} {w0 w0' w : World} (h : Ext M w0 M' w0') {N : Nat} {ρ : Keys} {rg : List Reg} (hr : Regs M' w0' N ρ rg w) : Regs M w0 N ρ rg w :=
 ⟨hr.blk,hr.lt,fun r g π B h1 h2 hv => (hr.own r g π B h1 h2 hv).unbase h,hr.dj⟩
theorem cell_deferred {w : World} {D : Nat} {x : Option (List Deferred)} (h : w.heap[D]? = some (.deferred x)) (o : Nat) : w.cell? ⟨D,o,none⟩ = none:=by simp [World.cell?,h]
theorem frozen_deferred {w : World} {D : Nat} {x : Option (List Deferred)} (h : w.heap[D]? = some (.deferred x)) (o : Nat) : w.frozen? ⟨D,o,none⟩ = false:=by simp [World.frozen?,h]
theorem Regs.putDef {M : Nat → Prop} {w0 w : World} {N : Nat} {ρ : Keys} {rg : List Reg} (h : Regs M w0 N ρ rg w) {D : Nat} {x y : Option (List Deferred)} (hD : w.heap[D]? = some (.deferred x)) : Regs M w0 N ρ rg (w.putObj D (.deferred y)):=by
 have hlt : D < w.heap.size:=(Array.getElem?_eq_some_iff.1 hD).1
 have hD' : (w.putObj D (.deferred y)).heap[D]? = some (.deferred y):=World.putObj_heap_same hlt
 have other : ∀ b,b ≠ D → (w.putObj D (.deferred y)).heap[b]? = w.heap[b]?:=fun b hb => World.putObj_heap_other hb
 refine ⟨fun r g π o B h1 h2 => ?_,fun r g π o B h1 h2 hv => ?_,fun r g π B h1 h2 hv => ?_,h.dj⟩
 ·by_cases hb : (ρ r π).b = D
  ·have hl:=h.blk r g π o B h1 h2
   cases B with
   | box cells =>
     obtain ⟨rfl,a1,a2,a3⟩:=hl
     refine ⟨rfl,a1,a2,fun j z hz => ?_⟩
     obtain ⟨v,_,hc⟩:=a3 j z hz
     have:=cell_deferred hD ((ρ r []).off + j)
     rw [← hb] at this
     rw [show (ρ r []).at j = ⟨(ρ r []).b,(ρ r []).off + j,none⟩ from rfl,this] at hc
     cases hc
   | arr A =>
     have hl : A.lies w (ρ r) π:=hl
     refine ⟨hl.tg,hl.m,hl.void,hl.len,fun i hi => ?_⟩
     obtain ⟨ys,c1,c2⟩:=hl.cell i hi
     exfalso
     have hpos : 0 < ys.length:=by rw [lies_length c1];exact List.length_pos_iff.2 hl.tg
     have:=c2 0 ys[0] (List.getElem?_eq_getElem hpos)
     rw [show (ρ r π).at (i * (ρ r π).m + 0) = ⟨(ρ r π).b,(ρ r π).off + (i * (ρ r π).m + 0),none⟩ from rfl,hb,cell_deferred hD] at this
     cases this
   | map k c es => obtain ⟨rfl,a1,ents,a2,_⟩:=hl;rw [hb,hD] at a2;cases a2
   | mps kk tg es => obtain ⟨rfl,a1,ents,a2,_⟩:=hl;rw [hb,hD] at a2;cases a2
   | it m n l => obtain ⟨rfl,a1,_,a2⟩:=hl;rw [hb,hD] at a2;cases a2
   | lp b s L q j => obtain ⟨rfl,a1,_,a2,_⟩:=hl;rw [hb,hD] at a2;cases a2
  ·exact (h.blk r g π o B h1 h2).later (fun _ => rfl) (Nat.le_refl _) (fun _ _ _ => rfl) (fun _ => other _ hb)
 ·rw [World.putObj_size];exact h.lt r g π o B h1 h2 hv
 ·by_cases hb : (ρ r π).b = D
  ·have hl:=h.own r g π B h1 h2 hv
   have fz : ∀ j,(w.putObj D (.deferred y)).frozen? ⟨(ρ r π).b,j,none⟩ = false:=fun j => by rw [hb];exact frozen_deferred hD' j
   cases B with
   | arr A => obtain ⟨_,_,cur,h5,_⟩:=hl;rw [hb,hD] at h5;cases h5
   | box => exact ⟨Mine.own hl,fz⟩
   | map => exact ⟨Mine.own hl,fz⟩
   | mps => exact ⟨Mine.own hl,fz⟩
   | it => exact ⟨Mine.own hl,fz⟩
   | lp => exact ⟨Mine.own hl,fz⟩
  ·exact (h.own r g π B h1 h2 hv).later (other _ hb)
/-! ### Frames,of functions and of rounds -/
def FrR (ro : Option Nat) : Fence:={ Fence.wide with round:=ro }
theorem calls_Fr {ro : Option Nat} {n : Nat} {P : Program} {f : FuncId} {args : Array Value} {w : World} {R : Ending → World → Prop} (h : Calls P f args w R) : CallsIn (FrR ro) n P f args w R :=
 ⟨trivial,(callsIn_wide.2 h : CallsIn Fence.wide n P f args w R).2⟩
theorem rows_Fr {ro : Option Nat} {n : Nat} {P : Program} {row : String} {args : Array Value} {w : World} {R : Value → World → Prop} (h : Rows P row args w R) : RowsIn (FrR ro) n P row args w R:=fun c cs _ => by
 obtain ⟨v,w',h1,h2⟩:=h c cs
 exact ⟨v,w',h1,(stepsIn_wide (P:=P)).2 h2⟩
theorem oper_Fr {ro : Option Nat} {n : Nat} {P : Program} {o : Oper} {a : Act} {w : World} {next : Act → World → Prop} {Q : Exit → Act → World → Prop} (hd : ∀ c,o.op ≠ .defer c) (h : o.wp P a w next Q) : o.wpIn (FrR ro) n P a w next Q:=by
 refine ⟨fun _ _ => trivial,?_⟩
 rw [Oper.semAt_eq _ _ _ hd]
 unfold Oper.wp at h
 cases hx : (execOp a.eval o).run P w with
 | ok nx w' =>
   rw [hx] at h
   cases nx with
   | value v => exact h
   | skip => exact h
   | «defer» d => exact h
   | enter f args => exact ⟨fun hh => (by cases hh),calls_Fr h⟩
   | row row args => exact ⟨fun hh => (by cases hh),rows_Fr h⟩
   | _ => exact h.elim
 | halt s w' =>
   rw [hx] at h
   cases s with
   | panic v => exact h
   | _ => exact h.elim
end Go.Sy
end
section
namespace Go.Sy
open Go Go.RowKit
universe u
section
variable {P : Program} {Γ : Glob} {E : Env} {cl : Cl} {rd : Rd} {M M' : Nat → Prop} {w0 w0' : World} {ρ : Keys} {st : St} {vs : Fv} {a : Act} {w : World}
theorem Rel.unbase (hx : Ext M w0 M' w0') (hg : ∀ b,b < Γ.n → ¬ M b ∧ b < w0.heap.size) (h : Rel Γ M' w0' ρ st vs a w) : Rel Γ M w0 ρ st vs a w :=
 ⟨h.tm,h.fr,h.df,h.rs.unbase hx,hx.frame h.bl,h.gl,hg⟩
theorem Rel.newLoop (h : Rel Γ M w0 ρ st vs a w) {L : Loop} (hs : st.tm.ok st.rg.length ρ L.tmps) :
  Rel Γ M w0 (setρ ρ st.rg.length (boxRI w)) (st.push [.lp w.heap.size st.tm L .ready none]) vs a (w.alloc (.loop { L with state:=.ready,pending:=none })):=by
 refine h.grow (below_alloc _) (fun r hr π => by rw [setρ_lt hr]) (h.rs.fresh (below_alloc _) ?_ ?_ ?_ ?_)
 ·rintro π o B ⟨rfl,rfl,rfl⟩
  exact ⟨rfl,by rw [setρ_at];rfl,hs.mono (Nat.le_add_right _ _) (fun r hr π => by rw [setρ_lt hr]),by rw [setρ_at];simp only [boxRI,alloc_new],by rw [setρ_at];rfl⟩
 ·rintro π o B ⟨rfl,rfl,rfl⟩ _
  exact ⟨Nat.le_refl _,by simp [boxRI]⟩
 ·rintro π B ⟨rfl,_,rfl⟩ _
  exact ⟨.inr h.bl.size,fun j => by simp only [boxRI,World.frozen?,alloc_new]⟩
 ·rintro π π' o o' B B' ⟨rfl,_⟩ ⟨rfl,_⟩ _ _
  rfl
theorem Rel.turnLoop (h : Rel Γ M w0 ρ st vs a w) {r l : Nat} {s : Sl} {L : Loop} {q q' : LoopState} {j j' : Option Code} (hr : st.rg[r]? = some (.lp l s L q j)) :
  Rel Γ M w0 ρ (st.setR r (.lp l s L q' j')) vs a (w.putObj l (.loop { L with state:=q',pending:=j' })):=by
 have hB : (Reg.lp l s L q j).has [] true (.lp l s L q j):=⟨rfl,rfl,rfl⟩
 obtain ⟨_,hv,hs,hh,hl⟩:=h.rs.blk r _ [] true _ hr hB
 have:=h.writeObj (g':=.lp l s L q' j') (obj:=.loop { L with state:=q',pending:=j' }) hr hB hv (h.rs.own r _ [] _ hr hB hv) (fun σ o B hh => by obtain ⟨rfl,rfl,rfl⟩:=hh;exact ⟨rfl,rfl,fun w' hw' => ⟨rfl,hv,hs,hw',hl⟩,fun _ _ hh => hh⟩) (fun w' b j hw' => by simp [World.frozen?,hw'])
 rw [hl] at this
 exact this
theorem Rel.dropLoop (h : Rel Γ M w0 ρ st vs a w) {r l : Nat} {s : Sl} {L : Loop} {q : LoopState} {j : Option Code} (hr : st.rg[r]? = some (.lp l s L q j)) (obj : Loop) :
  Rel Γ M w0 ρ (st.setR r .dead) vs a (w.putObj l (.loop obj)):=by
 have hB : (Reg.lp l s L q j).has [] true (.lp l s L q j):=⟨rfl,rfl,rfl⟩
 obtain ⟨_,hv,hs,hh,hl⟩:=h.rs.blk r _ [] true _ hr hB
 have:=h.writeObj (g':=.dead) (obj:=.loop obj) hr hB hv (h.rs.own r _ [] _ hr hB hv) (fun σ o B hh => hh.elim) (fun w' b j hw' => by simp [World.frozen?,hw'])
 rw [hl] at this
 exact this
theorem leave_marks {fn : Func} {R : Ending → World → Prop} {n : Nat} (hR : ∀ w' : World,Rel Γ M w0 ρ st vs a w' → ∃ v,(results fn a.tmps).run P w' = .ok v w' ∧ R (.returned v) w') :
  ∀ (Ds : List Nat) (w : World),Rel Γ M w0 ρ st vs a w → Ds.Nodup → (∀ D ∈ Ds,w.heap[D]? = some (.deferred (some [])) ∧ w0.heap.size ≤ D) → LeavesInM Fence.wide n P fn a.tmps R (Ds.map mark) .returning w
 | [],w,h,_,_ => hR w h
 | D :: Ds,w,h,hn,hb => by
   obtain ⟨hD,hD0⟩:=hb D List.mem_cons_self
   refine ⟨by simp,.inl ⟨D,_,rfl,run_takeDeferred hD,?_⟩⟩
   have hlt : D < w.heap.size:=(Array.getElem?_eq_some_iff.1 hD).1
   have h' : Rel Γ M w0 ρ st vs a (w.putObj D (.deferred none)) :=
    ⟨h.tm,h.fr,h.df,h.rs.putDef hD,⟨h.bl.os,h.bl.tape,h.bl.output,by rw [World.putObj_size];exact h.bl.size,fun k hk hm => (World.putObj_heap_other (by omega)).trans (h.bl.block k hk hm)⟩,
      Γ.st _ _ h.gl fun b hb => World.putObj_heap_other (by have:=(h.gn b hb).2;omega),h.gn⟩
   refine leave_marks hR Ds _ h' (List.nodup_cons.1 hn).2 fun E hE => ⟨?_,(hb E (List.mem_cons_of_mem _ hE)).2⟩
   rw [World.putObj_heap_other (fun e => by subst e;exact (List.nodup_cons.1 hn).1 hE)]
   exact (hb E (List.mem_cons_of_mem _ hE)).1
theorem enter_sound (h : Rel Γ M w0 ρ st vs a w) {rn : Option (Nat × Nat)} (hrn : match rn with
    | none => True
    | some (r0,b0) => (match st.rg.getD r0 .dead with | .lp b1 _ _ _ _ => b1 = b0 | _ => False)) (fn : FuncId) (ps : Array Tmp) (asg body : Code) :
  ∃ (l : Nat) (mk : List Deferred) (w1 : World) (M' : Nat → Prop) (w0' : World) (D : Nat) (ρ' : Keys),(Instr.enterLoop fn a.tmps ps asg body (rn.map (·.2))).run P w = .ok (l,mk) w1 ∧ Adv M w0 M' w0' vs.ds (mk ++ vs.ds) ∧
   Rel Γ M' w0' ρ' (st.push [.lp l st.tm { state:=.ready,pending:=none,fn:=fn,tmps:=a.tmps,params:=ps,assign:=asg,body:=body,defers:=D } .ready none]) ⟨vs.fs,mk ++ vs.ds⟩ { a with defers:=mk ++ a.defers } w1 ∧
   (ρ' st.rg.length []).b = l ∧ ∀ r,r < st.rg.length → ρ' r = ρ r:=by
 cases rn with
 | some rb =>
   obtain ⟨r0,b0⟩:=rb
   simp only at hrn
   split at hrn
   ·rename_i b1 s1 L1 q1 j1 hg
    subst hrn
    obtain ⟨_,_,_,hh,hl⟩:=h.rs.blk r0 _ [] true (.lp b1 s1 L1 q1 j1) (getD_reg hg (by simp)) ⟨rfl,rfl,rfl⟩
    rw [hl] at hh
    refine ⟨w.heap.size,[],_,M,w0,L1.defers,setρ ρ st.rg.length (boxRI w),?_,Adv.refl _ _ _,h.newLoop (L:={ state:=.ready,pending:=none,fn:=fn,tmps:=a.tmps,params:=ps,assign:=asg,body:=body,defers:=L1.defers }) h.tm,by rw [setρ_at];rfl,fun r hr => setρ_lt hr⟩
    unfold Instr.enterLoop
    simp only [Option.map_some,Sem.run_bind,run_getLoop hh,run_newObj_alloc,Result.andThen,Sem.run_pure]
   ·exact hrn.elim
 | none =>
   have hbel : Below w.heap.size w (w.alloc (.deferred (some []))):=below_alloc _
   have hnew : (w.alloc (.deferred (some []))).heap[w.heap.size]? = some (.deferred (some [])):=alloc_new _
   let M1 : Nat → Prop:=fun b => (M b ∧ b < w0.heap.size) ∨ (w0.heap.size ≤ b ∧ b < w.heap.size)
   have hext : Ext M w0 M1 (w.alloc (.deferred (some []))):=⟨h.bl.below hbel,fun k hk => by
    rcases hk with hk | hk
    ·exact .inl hk.1
    ·exact .inr hk.1⟩
   have hsz:=h.bl.size
   have h1 : Rel Γ M1 (w.alloc (.deferred (some []))) ρ st ⟨vs.fs,[mark w.heap.size] ++ vs.ds⟩ { a with defers:=[mark w.heap.size] ++ a.defers } (w.alloc (.deferred (some []))):=by
    have hl:=h.later hbel
    refine ⟨h.tm,h.fr,by rw [h.df],⟨hl.rs.blk,hl.rs.lt,fun r g π B k1 k2 hv => ?_,hl.rs.dj⟩,Frame.refl _ _,hl.gl,fun b hb => ?_⟩
    ·have hm:=hl.rs.own r g π B k1 k2 hv
     have hlt:=h.rs.lt r g π true B k1 k2 hv
     have conv : ∀ {I : RI},I.b < w.heap.size → Mine M w0 (w.alloc (.deferred (some []))) I → Mine M1 (w.alloc (.deferred (some []))) (w.alloc (.deferred (some []))) I:=fun {I} hI hm => ⟨by
      rcases hm.own with h3 | h3
      ·by_cases h4 : I.b < w0.heap.size
       ·exact .inl (.inl ⟨h3,h4⟩)
       ·exact .inl (.inr ⟨by omega,hI⟩)
      ·exact .inl (.inr ⟨h3,hI⟩),hm.fz⟩
     cases B with
     | arr A => exact ⟨conv hlt hm.1,hm.2⟩
     | box => exact conv hlt hm
     | map => exact conv hlt hm
     | mps => exact conv hlt hm
     | it => exact conv hlt hm
     | lp => exact conv hlt hm
    ·have:=h.gn b hb
     refine ⟨fun hm => ?_,Nat.lt_of_lt_of_le this.2 (Nat.le_trans hsz (by simp))⟩
     rcases hm with hm | hm
     ·exact this.1 hm.1
     ·omega
   refine ⟨w.heap.size + 1,[mark w.heap.size],_,M1,_,w.heap.size,setρ ρ st.rg.length (boxRI (w.alloc (.deferred (some [])))),run_enterLoop_outer _ _ _ _ _,⟨hext,[w.heap.size],rfl,by simp,fun D hD => ?_⟩,?_,by rw [setρ_at];simp [boxRI],fun r hr => setρ_lt hr⟩
   ·obtain rfl : D = w.heap.size:=by simpa using hD
    exact ⟨⟨by simp,fun hm => by rcases hm with hm | hm <;> omega,hnew⟩,hsz⟩
   ·have:=h1.newLoop (L:={ state:=.ready,pending:=none,fn:=fn,tmps:=a.tmps,params:=ps,assign:=asg,body:=body,defers:=w.heap.size }) h.tm
    rw [World.size_alloc] at this
    exact this
end
end Go.Sy
end
section
namespace Go.Sy
open Go Go.RowKit
universe u
section
variable {P : Program} {Γ : Glob} {E : Env} {cl : Cl} {rd : Rd} {M : Nat → Prop} {w0 : World} {ρ : Keys} {st : St} {vs : Fv} {a : Act} {w : World}
def Ex.exit' : Ex → Exit
 | .normal => .normal
 | .exit id => .exit id
 | .ret => .ret
def RdOk (P : Program) (Γ : Glob) (rd : Rd) : Prop :=
 ∀ r args st K,rd r args st K → ∀ (ro : Option Nat) (n : Nat) (M : Nat → Prop) (w0 : World) (ρ : Keys) (vs : Fv) (a : Act) (w : World) (vals : List Value),Rel Γ M w0 ρ st vs a w → okL (Tm.ok st.rg.length ρ) args vals →
  ∃ fn tmps asg body,(Instr.yield (ρ r []).b vals.toArray).run P w = .ok (.round (ρ r []).b fn tmps asg body) w ∧
   RoundIn (FrR ro) n P (ρ r []).b fn tmps asg body w fun e w' => ∃ v st' ρ' x,e = .returned v ∧ Rel Γ M w0 ρ' st' vs a w' ∧ Tm.ok st'.rg.length ρ' x v ∧ K x st'
theorem evOp_defer {o : Oper} {K : St → Prop} (h : evOp E cl st o K) : ∀ c,o.op ≠ .defer c:=by
 intro c hc
 simp only [evOp,callOf,hc,evP,evM] at h
 exact h.elim
theorem run_yieldCall {o : Oper} {c : Call} (ho : o.op = .call c) {fo : Operand} (hc : c.callee = .value fo) {l : Nat} (hv : a.eval fo = .func (.yield l) #[] #[]) {nx : Next} (hy : (Instr.yield l (c.args.toList.map a.eval).toArray).run P w = .ok nx w) :
  (execOp a.eval o).run P w = .ok nx w:=by
 have e : c.args.map a.eval = (c.args.toList.map a.eval).toArray:=Array.ext' (by simp)
 cases c
 simp only at hc
 subst hc
 simp only [execOp,ho,resolve,hv,Deferred.ofValue]
 simp only [Sem.run_bind,Sem.run_pure,Result.andThen_ok,Array.empty_append,invoke]
 simp only at e
 rw [e,hy]
theorem evOpsY_sound (hP : ProgOk P Γ E) (hC : ClOk P Γ E cl) (hR : RdOk P Γ rd) {ro : Option Nat} {n : Nat} {ops : Array Oper} {K : St → Prop} {Q : Exit → Act → World → Prop} (hK : ∀ st' a' w' ρ',K st' → Rel Γ M w0 ρ' st' vs a' w' → Q .normal a' w') :
  ∀ (l : List Oper) (st : St) (a : Act) (w : World) (ρ : Keys),evOpsY E cl rd ops l st K → Rel Γ M w0 ρ st vs a w → wpListIn (FrR ro) n P ops Q l a w
 | [],st,a,w,ρ,he,h => hK _ _ _ _ he h
 | o :: rest,st,a,w,ρ,he,h => by
   change evGuard E.conc st ops o.guard (fun st => match yieldOf st o with
     | some (r,args) => rd r args st (fun x st => st.putK o.dst x (fun st => evOpsY E cl rd ops rest st K))
     | none => evOp E cl st o (fun st => evOpsY E cl rd ops rest st K)) (fun st => st.putK o.dst (.a .un) (fun st => evOpsY E cl rd ops rest st K)) at he
   unfold wpListIn
   rcases evGuard_sound h he with ⟨st',hy,h',hw⟩ | ⟨st',hn,h',hw⟩
   ·rw [if_pos hw]
    split at hy
    ·rename_i r args hyo
     unfold yieldOf at hyo
     split at hyo
     case h_2 => cases hyo
     rename_i c hop
     split at hyo
     case h_2 => cases hyo
     rename_i fo hcal
     split at hyo
     case h_2 => cases hyo
     rename_i r' l hf hl
     simp only [Option.some.injEq,Prod.mk.injEq] at hyo
     obtain ⟨rfl,rfl⟩:=hyo
     obtain ⟨hlt,hv⟩:=ev_sound h' hf
     obtain ⟨fn,tmps,asg,body,hyield,hround⟩:=hR _ _ _ _ hy ro (n - 1) M w0 ρ vs _ w _ h' (evAll_sound h' hl)
     refine ⟨fun _ _ => trivial,?_⟩
     rw [Oper.semAt_eq _ _ _ (by simp [hop]),run_yieldCall hop hcal hv hyield]
     refine ⟨fun hh => (by cases hh),hround.mono ?_⟩
     rintro e w' ⟨v,st2,ρ2,x,rfl,hr2,hx,hk⟩
     rw [St.putK_iff] at hk
     exact evOpsY_sound hP hC hR hK rest _ _ _ _ hk.2 (hr2.put o.dst hx)
    ·exact oper_Fr (evOp_defer hy) (evOp_sound hP hC h' hy fun st2 a2 w2 ρ2 hk hr => evOpsY_sound hP hC hR hK rest st2 a2 w2 ρ2 hk hr)
   ·rw [if_neg (by rw [hw];simp)]
    simp only [St.putK_iff] at hn
    exact ⟨fun _ _ => trivial,evOpsY_sound hP hC hR hK rest _ _ _ _ hn.2 (h'.put o.dst (x:=.a .un) (y:=undef) rfl)⟩
theorem caps_ok {N N' : Nat} {ρ1 : Keys} (hρ : ∀ r,r < N → ρ1 r = ρ r) (hN : N ≤ N') : ∀ {caps : List Nat},(∀ r ∈ caps,r < N) → okL (Tm.ok N' ρ1) (caps.map fun r => Tm.a (.p r [] 0 0)) (caps.map fun r => Value.pointer (some ((ρ r []).at 0)))
 | [],_ => trivial
 | c :: cs,h => ⟨⟨Nat.lt_of_lt_of_le (h c List.mem_cons_self) hN,by rw [hρ c (h c List.mem_cons_self)];simp⟩,caps_ok hρ hN fun r hr => h r (List.mem_cons_of_mem _ hr)⟩
theorem evRange_sound (hP : ProgOk P Γ E) (hC : ClOk P Γ E cl) {rn : Option (Nat × Nat)} {n : Nat} {g : Operand} {ps : Array Tmp} {asg body : Code} {K : Ex → St → Prop} {Q : Exit → Act → World → Prop} (he : evRange E cl rn g ps asg body st K) (h : Rel Γ M w0 ρ st vs a w)
  (hK : ∀ e st' a' w' ρ' M' w0' ds',Adv M w0 M' w0' vs.ds ds' → K e st' → Rel Γ M' w0' ρ' st' ⟨vs.fs,ds'⟩ a' w' → Q e.exit' a' w') : (Code.rangeFunc g ps asg body).wpIn (FrR (rn.map (·.2))) n P Q a w:=by
 unfold evRange at he
 split at he
 case h_2 => exact he.elim
 rename_i f caps hg
 split at he
 case h_2 => exact he.elim
 rename_i b hct hb
 obtain ⟨hrn,he⟩:=he
 obtain ⟨hcaps,hgv⟩:=ev_sound h hg
 refine wpIn_rangeFunc fun fn _ => ?_
 obtain ⟨l,mk,w1,M',w0',D,ρ1,hent,hadv,h1,hl1,hρ1⟩:=enter_sound h hrn fn ps asg body
 have hk:=he l fn a.tmps D
 simp only [lenC_eq,St.pushK_eq] at hk
 obtain ⟨fnc,f1,f2,f3⟩:=(hP.inl f b hb).fn.h
 have hcall:=hC f b hb _ _ _ hk M' w0' ρ1 _ _ w1 (.func (.yield l) #[] #[] :: caps.map fun r => Value.pointer (some ((ρ r []).at 0))) h1 ⟨⟨by simp [St.push],by rw [hl1]⟩,caps_ok hρ1 (by simp [St.push]) hcaps⟩
 have hcf : ∀ args w,(callFunc f args).run P w = .ok (.enter f args) w:=fun args w => by
  simp only [callFunc,Sem.run_bind,run_program,Result.andThen_ok,f1,f2,f3,Bool.false_eq_true,if_false,Sem.run_pure]
 refine ⟨l,mk,w1,{ target:=.fn (.func f) (caps.map fun r => Value.pointer (some ((ρ r []).at 0))).toArray,args:=#[.func (.yield l) #[] #[]] },w1,f,(.func (.yield l) #[] #[] :: caps.map fun r => Value.pointer (some ((ρ r []).at 0))).toArray,w1,hent,?_,fun _ _ => trivial,?_,fun hh => (by cases hh),(calls_Fr hcall).mono ?_⟩
 ·simp only [resolve,hgv]
  simp [go_sem]
 ·simp only [invoke]
  rw [hcf]
  simp
 ·rintro e w2 ⟨v,st2,ρ2,x,rfl,h2,_,hk2⟩
  split at hk2
  case h_2 => exact hk2.elim
  rename_i l' s' L' q j hgr
  obtain ⟨rfl,hk2⟩:=hk2
  rw [St.setRK_eq] at hk2
  have hr2:=getD_reg hgr (by simp)
  obtain ⟨_,_,_,hh,hl2⟩:=h2.rs.blk _ _ [] true (.lp l' s' L' q j) hr2 ⟨rfl,rfl,rfl⟩
  rw [hl2] at hh
  have fin : q ≠ .busy → (Instr.endLoop l').run P w2 = .ok j (w2.putObj l' (.loop { L' with state:=.exhausted,pending:=j })):=fun hq => run_endLoop hh hq
  have h3:=h2.dropLoop hr2 { L' with state:=.exhausted,pending:=j }
  have out : ∀ e,K e (st2.setR st.rg.length .dead) → Q e.exit' { a with defers:=mk ++ a.defers } (w2.putObj l' (.loop { L' with state:=.exhausted,pending:=j })):=fun e hk => hK e _ _ _ _ _ _ _ hadv hk h3
  split at hk2
  ·exact ⟨_,_,fin (by simp),out .normal hk2⟩
  ·exact ⟨_,_,fin (by simp),wpIn_ret (out .ret hk2)⟩
  ·exact ⟨_,_,fin (by simp),wpIn_exit (out (.exit _) hk2)⟩
  ·exact hk2.elim
theorem wpOps_Fr {ro : Option Nat} {n : Nat} {ops : Array Oper} (hnd : ∀ (i : Nat) (o : Oper),ops[i]? = some o → ∀ c,o.op ≠ .defer c) {R : Act → World → Prop} :
  ∀ (l : List Nat) (a : Act) (w : World),wpOps P ops (onlyN R) l a w → wpOpsIn (FrR ro) n P ops (onlyN R) l a w
 | [],a,w,h => h
 | i :: rest,a,w,h => by
   unfold wpOps at h
   unfold wpOpsIn
   split at h
   ·rename_i ho
    rw [ho]
    exact wpOps_Fr hnd rest a w h
   ·rename_i o ho
    rw [ho]
    simp only
    split at h
    ·rename_i hw
     rw [if_pos hw]
     rcases h with h | ⟨_,a0,w0,h⟩
     ·exact oper_Fr (hnd i o ho) (Oper.wp_mono (fun a w => wpOps_Fr hnd rest a w) h)
     ·exact h.elim
    ·rename_i hw
     rw [if_neg hw]
     exact ⟨fun _ _ => trivial,wpOps_Fr hnd rest _ _ h⟩
theorem evDraw_soundIn (hP : ProgOk P Γ E) (hC : ClOk P Γ E cl) (h : Rel Γ M w0 ρ st vs a w) {ro : Option Nat} {n : Nat} {id : Nat} {l : List Oper} (hnd : allL noDefer l = true) {K : St → Prop} (he : evDraw E cl id l st K) {Q : Exit → Act → World → Prop}
  (hK : ∀ st' a' w' ρ',K st' → Rel Γ M w0 ρ' st' vs a' w' → Q .normal a' w') : (Code.region id l.toArray true).wpIn (FrR ro) n P Q a w:=by
 refine Code.wpIn_mono (Q:=onlyN (Q .normal)) (fun e a w hq => by cases e <;> first | exact hq | exact hq.elim) (wpIn_region_draw fun t => ?_)
 refine wpOps_Fr (fun i o ho c hc => ?_) _ _ _ ?_
 ·have h1:=allL_forall hnd o (List.mem_of_getElem? (by simpa using ho))
  unfold noDefer at h1
  rw [hc] at h1
  cases h1
 ·simp only [Region.schedule,hP.mixed,Bool.true_or,if_true]
  exact wpAny_sound _ t _ a _ (evDraw_any hP hC h he hK)
theorem evC_sound (hP : ProgOk P Γ E) (hC : ClOk P Γ E cl) (hR : RdOk P Γ rd) {rn : Option (Nat × Nat)} {n : Nat} : ∀ (c : Code) (M : Nat → Prop) (w0 : World) (vs : Fv) (st : St) (a : Act) (w : World) (ρ : Keys) (K : Ex → St → Prop) (Q : Exit → Act → World → Prop),evC E cl rd rn c st K → Rel Γ M w0 ρ st vs a w →
  (∀ e st' a' w' ρ' M' w0' ds',Adv M w0 M' w0' vs.ds ds' → K e st' → Rel Γ M' w0' ρ' st' ⟨vs.fs,ds'⟩ a' w' → Q e.exit' a' w') → c.wpIn (FrR (rn.map (·.2))) n P Q a w
 | .skip,M,w0,vs,st,a,w,ρ,K,Q,he,h,hK => wpIn_skip (hK .normal _ _ _ _ _ _ _ (Adv.refl _ _ _) he h)
 | .region id ops draw,M,w0,vs,st,a,w,ρ,K,Q,he,h,hK => by
   have e1 : ops = ops.toList.toArray:=by simp
   cases draw with
   | true =>
     cases rn with
     | none =>
       change evDraw E cl id ops.toList st (K .normal) at he
       rw [e1]
       exact wpIn_wide.2 (evDraw_sound hP hC h he fun st' a' w' ρ' hk hr => hK .normal _ _ _ _ _ _ _ (Adv.refl _ _ _) hk hr)
     | some p =>
       change (match allL noDefer ops.toList with | true => evDraw E cl id ops.toList st (K .normal) | false => False) at he
       split at he
       ·rename_i hnd
        rw [e1]
        exact evDraw_soundIn hP hC h hnd he fun st' a' w' ρ' hk hr => hK .normal _ _ _ _ _ _ _ (Adv.refl _ _ _) hk hr
       ·exact he.elim
   | false =>
     change evOpsY E cl rd ops ops.toList st (K .normal) at he
     exact wpIn_region_list (evOpsY_sound hP hC hR (fun st' a' w' ρ' hk hr => hK .normal _ _ _ _ _ _ _ (Adv.refl _ _ _) hk hr) _ _ _ _ _ he h)
 | .seq x y,M,w0,vs,st,a,w,ρ,K,Q,he,h,hK => by
   change (match E.cuts x with
    | true => ∃ (X : Type) (I : X → Prop) (S : X → St),evC E cl rd rn x st (fun e st' => match e with | .normal => ∃ (x : X) (is : List Nat),I x ∧ Le is st' (S x) | e => K e st') ∧ ∀ x,I x → evC E cl rd rn y (S x) K
    | false => evC E cl rd rn x st (fun e st => match e with | .normal => evC E cl rd rn y st K | e => K e st)) at he
   split at he
   ·obtain ⟨X,I,S,h1,h2⟩:=he
    refine wpIn_seq (evC_sound hP hC hR x M w0 vs st a w ρ _ _ h1 h fun e st' a' w' ρ' M' w0' ds' ha hk hr => ?_)
    cases e with
    | normal =>
      obtain ⟨z,is,hI,hle⟩:=hk
      obtain ⟨ρ2,hr2⟩:=hr.le hle
      exact evC_sound hP hC hR y M' w0' ⟨vs.fs,ds'⟩ (S z) a' w' ρ2 _ _ (h2 z hI) hr2 fun e st2 a2 w2 ρ2 M2 w02 ds2 hb hk2 hr2 => hK e _ _ _ _ _ _ _ (ha.trans hb) hk2 hr2
    | exit id => exact hK (.exit id) _ _ _ _ _ _ _ ha hk hr
    | ret => exact hK .ret _ _ _ _ _ _ _ ha hk hr
   refine wpIn_seq (evC_sound hP hC hR x M w0 vs st a w ρ _ _ he h fun e st' a' w' ρ' M' w0' ds' ha hk hr => ?_)
   cases e with
   | normal => exact evC_sound hP hC hR y M' w0' ⟨vs.fs,ds'⟩ st' a' w' ρ' _ _ hk hr fun e st2 a2 w2 ρ2 M2 w02 ds2 hb hk2 hr2 => hK e _ _ _ _ _ _ _ (ha.trans hb) hk2 hr2
   | exit id => exact hK (.exit id) _ _ _ _ _ _ _ ha hk hr
   | ret => exact hK .ret _ _ _ _ _ _ _ ha hk hr
 | .cond c x y,M,w0,vs,st,a,w,ρ,K,Q,he,h,hK => by
   change (match ev st c with
    | some (.a .tt) => evC E cl rd rn x st K
    | some (.a .ff) => evC E cl rd rn y st K
    | some (.a (.v (.bool t))) => (match E.conc with | true => (match t with | true => evC E cl rd rn x st K | false => evC E cl rd rn y st K) | false => (t = true → evC E cl rd rn x st K) ∧ (t = false → evC E cl rd rn y st K))
    | _ => False) at he
   split at he
   ·rename_i hc;exact wpIn_cond_true (ev_sound h hc) (evC_sound hP hC hR x M w0 vs st a w ρ _ _ he h hK)
   ·rename_i hc;exact wpIn_cond_false (ev_sound h hc) (evC_sound hP hC hR y M w0 vs st a w ρ _ _ he h hK)
   ·rename_i t hc
    have hv : a.eval c = .bool t:=(ev_sound h hc).1
    split at he
    ·cases t with
     | true => exact wpIn_cond_true hv (evC_sound hP hC hR x M w0 vs st a w ρ _ _ he h hK)
     | false => exact wpIn_cond_false hv (evC_sound hP hC hR y M w0 vs st a w ρ _ _ he h hK)
    cases t with
    | true => exact wpIn_cond_true hv (evC_sound hP hC hR x M w0 vs st a w ρ _ _ (he.1 rfl) h hK)
    | false => exact wpIn_cond_false hv (evC_sound hP hC hR y M w0 vs st a w ρ _ _ (he.2 rfl) h hK)
   ·exact he.elim
 | .block id body,M,w0,vs,st,a,w,ρ,K,Q,he,h,hK => by
   change evC E cl rd rn body st (fun e st => match e with
    | .exit id' => (match Nat.beq id id' with | true => K .normal st | false => K (.exit id') st)
    | e => K e st) at he
   refine wpIn_block (evC_sound hP hC hR body M w0 vs st a w ρ _ _ he h fun e st' a' w' ρ' M' w0' ds' ha hk hr => ?_)
   cases e with
   | normal => exact hK .normal _ _ _ _ _ _ _ ha hk hr
   | ret => exact hK .ret _ _ _ _ _ _ _ ha hk hr
   | exit id' =>
     simp only [Ex.exit',Exit.inBlock]
     simp only at hk
     split at hk
     ·rename_i hid;rw [if_pos (Nat.eq_of_beq_eq_true hid).symm];exact hK .normal _ _ _ _ _ _ _ ha hk hr
     ·rename_i hid;rw [if_neg (fun e => by subst e;simp at hid)];exact hK (.exit id') _ _ _ _ _ _ _ ha hk hr
 | .loop body,M,w0,vs,st,a,w,ρ,K,Q,he,h,hK => by
   change evLoop (fun st K => evC E cl rd rn body st K) E.un st K at he
   have inv : ∀ (st : St) (a : Act) (w : World) (ρ : Keys) (K : Ex → St → Prop) (Q : Exit → Act → World → Prop),LoopInv (fun st K => evC E cl rd rn body st K) st K → Rel Γ M w0 ρ st vs a w →
     (∀ e st' a' w' ρ' M' w0' ds',Adv M w0 M' w0' vs.ds ds' → K e st' → Rel Γ M' w0' ρ' st' ⟨vs.fs,ds'⟩ a' w' → Q e.exit' a' w') → (Code.loop body).wpIn (FrR (rn.map (·.2))) n P Q a w:=by
    intro st a w ρ K Q he h hK
    obtain ⟨X,I,S,μ,x0,is0,hI0,hle,hround⟩:=he
    obtain ⟨ρ0,h0⟩:=h.le hle
    refine wpIn_loop_ghost (fun n a w => ∃ x ρ M' w0' ds',Adv M w0 M' w0' vs.ds ds' ∧ I x ∧ μ x = n ∧ Rel Γ M' w0' ρ (S x) ⟨vs.fs,ds'⟩ a w) (μ x0) ⟨x0,ρ0,M,w0,vs.ds,Adv.refl _ _ _,hI0,rfl,h0⟩ ?_
    rintro n a1 w1 ⟨x,ρ1,M1,w01,ds1,ha1,hIx,rfl,hr⟩
    refine evC_sound hP hC hR body M1 w01 ⟨vs.fs,ds1⟩ (S x) a1 w1 ρ1 _ _ (hround x hIx) hr fun e st' a' w' ρ' M' w0' ds' ha hk hr' => ?_
    cases e with
    | normal =>
      obtain ⟨x',is,hI',hle',hlt⟩:=hk
      obtain ⟨ρ2,h2⟩:=hr'.le hle'
      exact ⟨μ x',hlt,x',ρ2,M',w0',ds',ha1.trans ha,hI',rfl,h2⟩
    | exit id => exact hK (.exit id) _ _ _ _ _ _ _ (ha1.trans ha) hk hr'
    | ret => exact hK .ret _ _ _ _ _ _ _ (ha1.trans ha) hk hr'
   unfold evLoop at he
   split at he
   ·exact inv st a w ρ K Q he h hK
   ·rename_i m _
    refine wpIn_loop_rounds (m + 1) ?_
    generalize m + 1 = m at he
    clear inv
    induction m generalizing st a w ρ M w0 vs with
    | zero => exact he.elim
    | succ m ih =>
      change evC E cl rd rn body st (fun e st' => match e with | .normal => roundsK (fun st K => evC E cl rd rn body st K) m st' K | e => K e st') at he
      refine evC_sound hP hC hR body M w0 vs st a w ρ _ _ he h fun e st' a' w' ρ' M' w0' ds' ha hk hr => ?_
      cases e with
      | normal => exact ih M' w0' ⟨vs.fs,ds'⟩ st' a' w' ρ' hr (fun e st2 a2 w2 ρ2 M2 w02 ds2 hb hk2 hr2 => hK e _ _ _ _ _ _ _ (ha.trans hb) hk2 hr2) hk
      | exit id => exact hK (.exit id) _ _ _ _ _ _ _ ha hk hr
      | ret => exact hK .ret _ _ _ _ _ _ _ ha hk hr
 | .rangeFunc g ps asg body,M,w0,vs,st,a,w,ρ,K,Q,he,h,hK => evRange_sound hP hC he h hK
 | .exit id,M,w0,vs,st,a,w,ρ,K,Q,he,h,hK => wpIn_exit (hK (.exit id) _ _ _ _ _ _ _ (Adv.refl _ _ _) he h)
 | .ret,M,w0,vs,st,a,w,ρ,K,Q,he,h,hK => wpIn_ret (hK .ret _ _ _ _ _ _ _ (Adv.refl _ _ _) he h)
 | .scope body,M,w0,vs,st,a,w,ρ,K,Q,he,h,hK => by
   cases rn with
   | some _ => exact he.elim
   | none =>
     change evC E cl rd none body st K at he
     refine wpIn_wide.2 (wp_scope_straight ((wpIn_wide (n:=n)).1 (evC_sound hP hC hR body M w0 vs st a w ρ _ (Exit.noGoto Q) he h fun e st' a' w' ρ' M' w0' ds' ha hk hr => ?_)))
     have:=hK e _ _ _ _ _ _ _ ha hk hr
     cases e <;> exact this
 | .label _,M,w0,vs,st,a,w,ρ,K,Q,he,h,hK => wpIn_label (hK .normal _ _ _ _ _ _ _ (Adv.refl _ _ _) he h)
 | .goto _,_,_,_,_,_,_,_,_,_,he,_,_ => he.elim
 | .refuse _,_,_,_,_,_,_,_,_,_,he,_,_ => he.elim
/-! ### A function's results -/
def resSem (tmps : Array Value) : ResultVar → Sem Value
 | .tmp t => pure (tmps.getD t undef)
 | .cell a t => do loadVar t (← asAddr (tmps.getD a undef))
theorem evRes1_sound (hE : EnvOk P Γ E) (h : Rel Γ M w0 ρ st vs a w) {r : ResultVar} {q : List Duty} {x : Tm} (he : evRes1 E st r = some (q,x)) (hq : obl q) :
  ∃ y,(resSem a.tmps r).run P w = .ok y w ∧ x.ok st.rg.length ρ y:=by
 cases r with
 | tmp t =>
   simp only [evRes1,Option.some.injEq,Prod.mk.injEq] at he
   obtain ⟨rfl,rfl⟩:=he
   exact ⟨_,rfl,getD_ok h t⟩
 | cell ad t =>
   simp only [evRes1] at he
   obtain ⟨y,h1,h2⟩:=evLoad_sound hE h (getD_ok h ad) he hq
   have h1:=h1 w (Below.refl _ _)
   refine ⟨y,?_,h2⟩
   -- the slot holds an address
   unfold evLoad at he
   split at he
   ·rename_i r π i j hx
    have hv:=getD_ok h ad
    rw [hx] at hv
    obtain ⟨_,hv⟩:=hv
    simp only [resSem]
    rw [hv] at h1 ⊢
    simpa [Instr.loadAt,Instr.sureAddr,asAddr] using h1
   ·cases he
theorem c1Of_sound {N : Nat} {x : Tm} {c : C1} {y : Value} (he : c1Of x = some c) (h : x.ok N ρ y) : c.ok N ρ y:=by
 cases x <;> simp only [c1Of,Option.some.injEq,reduceCtorEq] at he <;> subst he <;> exact h
theorem evResL_sound (hE : EnvOk P Γ E) (h : Rel Γ M w0 ρ st vs a w) : ∀ {rs : List ResultVar} {q : List Duty} {l : List C1},evResL E st rs = some (q,l) → obl q →
  ∃ ys : List Value,(rs.mapM (resSem a.tmps)).run P w = .ok ys w ∧ okL (C1.ok st.rg.length ρ) l ys
 | [],q,l,he,hq => by
   simp only [evResL,Option.some.injEq,Prod.mk.injEq] at he
   obtain ⟨rfl,rfl⟩:=he
   exact ⟨[],by simp,trivial⟩
 | r :: rs,q,l,he,hq => by
   simp only [evResL] at he
   split at he
   ·rename_i q1 t q2 l2 h1 h2
    split at he
    ·rename_i c hc
     simp only [Option.some.injEq,Prod.mk.injEq] at he
     obtain ⟨rfl,rfl⟩:=he
     rw [obl_append] at hq
     obtain ⟨y,r1,k1⟩:=evRes1_sound hE h h1 hq.1
     obtain ⟨ys,r2,k2⟩:=evResL_sound hE h h2 hq.2
     exact ⟨y :: ys,by simp only [List.mapM_cons,Sem.run_bind,r1,r2,Result.andThen_ok,Sem.run_pure],c1Of_sound hc k1,k2⟩
    ·cases he
   ·cases he
theorem results_eq (fn : Func) (tmps : Array Value) : results fn tmps = (do let vs ← fn.results.mapM (resSem tmps);pure (if h : vs.size = 1 then vs[0] else .tuple vs)):=by
 unfold results
 congr 1
theorem run_results {fn : Func} {rs : List ResultVar} (hr : fn.results = rs.toArray) {ys : List Value} (h : (rs.mapM (resSem a.tmps)).run P w = .ok ys w) :
  (results fn a.tmps).run P w = .ok (match ys with | [y] => y | ys => .tuple ys.toArray) w:=by
 rw [results_eq,hr]
 simp only [List.mapM_toArray,Sem.run_bind,Sem.run_map,h,Result.andThen_ok,Sem.run_pure]
 congr 1
 match ys with
 | [] => simp
 | [y] => simp
 | y :: z :: zs => simp
theorem evRes_sound (hE : EnvOk P Γ E) (h : Rel Γ M w0 ρ st vs a w) {fn : Func} {rs : List ResultVar} (hr : fn.results = rs.toArray) {q : List Duty} {x : Tm} (he : evRes E st rs = some (q,x)) (hq : obl q) :
  ∃ y,(results fn a.tmps).run P w = .ok y w ∧ x.ok st.rg.length ρ y:=by
 unfold evRes at he
 split at he
 ·obtain ⟨y,h1,h2⟩:=evRes1_sound hE h he hq
  exact ⟨y,run_results hr (ys:=[y]) (by simp [h1]),h2⟩
 ·rename_i hne
  split at he
  ·rename_i q' l hl
   simp only [Option.some.injEq,Prod.mk.injEq] at he
   obtain ⟨rfl,rfl⟩:=he
   obtain ⟨ys,h1,h2⟩:=evResL_sound hE h hl hq
   refine ⟨_,run_results hr h1,?_⟩
   have hlen : ys.length ≠ 1:=by
    intro hh
    have e1 : l.length = 1:=by rw [h2.length,hh]
    match l,e1 with
    | [c],_ =>
      have : rs.length = 1:=by
       clear h1 hr
       have gen : ∀ (rs : List ResultVar) (q : List Duty) (l : List C1),evResL E st rs = some (q,l) → rs.length = l.length:=by
        intro rs
        induction rs with
        | nil => intro q l hl;simp only [evResL,Option.some.injEq,Prod.mk.injEq] at hl;obtain ⟨_,rfl⟩:=hl;rfl
        | cons r rs ih =>
          intro q l hl
          simp only [evResL] at hl
          split at hl
          ·rename_i h1 h2
           split at hl
           ·simp only [Option.some.injEq,Prod.mk.injEq] at hl
            obtain ⟨_,rfl⟩:=hl
            simp [ih _ _ h2]
           ·cases hl
          ·cases hl
       exact gen rs _ _ hl
      match rs,this with
      | [r],_ => exact hne r rfl
   match ys,hlen with
   | [],_ => exact ⟨[],rfl,h2⟩
   | [y],hlen => exact absurd rfl hlen
   | y :: z :: zs,_ => exact ⟨_,rfl,h2⟩
  ·cases he
/-! ### Frames -/
theorem fullK_eq : ∀ (d : Nat) (k : Tr → Prop),fullK d k = k (Tr.full d)
 | 0,_ => rfl
 | d + 1,k => by
   show fullK d (fun t => k (.node (.a .un) t t)) = _
   rw [fullK_eq d];rfl
def putsT : List Tm → Nat → Tr → Tr
 | [],_,t => t
 | x :: l,i,t => putsT l (i + 1) (t.put i x)
theorem putsK_eq : ∀ (l : List Tm) (i : Nat) (t : Tr) (k : Tr → Prop),putsK l i t k = k (putsT l i t)
 | [],_,_,_ => rfl
 | x :: l,i,t,k => by
   show forceT x (fun x => t.putK i x (fun t => putsK l (i + 1) t k)) = _
   rw [forceT_eq,Tr.putK_eq,putsK_eq l];rfl
theorem full_get : ∀ (d i : Nat),(Tr.full d).get i = .a .un ∨ (Tr.full d).get i = .a .any
 | 0,_ => .inr rfl
 | d + 1,i => by
   rw [show Tr.full (d + 1) = .node (.a .un) (Tr.full d) (Tr.full d) from rfl]
   simp only [Tr.get]
   split
   ·exact .inl rfl
   ·split
    ·exact full_get d _
    ·exact full_get d _
theorem puts_get {N : Nat} : ∀ (l : List Tm) (k : Nat) (t : Tr) (us : List Value),okL (Tm.ok N ρ) l us → (∀ i,k ≤ i → (t.get i).ok N ρ undef) →
  (∀ i,i < k → ((putsT l k t).get i = t.get i)) ∧ (∀ i,((putsT l k t).get (k + i)).ok N ρ (us.getD i undef))
 | [],k,t,[],_,ht => ⟨fun i _ => rfl,fun i => by simpa [putsT] using ht (k + i) (Nat.le_add_right _ _)⟩
 | x :: l,k,t,u :: us,h,ht => by
   obtain ⟨h1,h2⟩:=puts_get l (k + 1) (t.put k x) us h.2 (fun i hi => by rw [Tr.get_put_ne _ _ _ _ (by omega)];exact ht i (by omega))
   refine ⟨fun i hi => ?_,fun i => ?_⟩
   ·show (putsT l (k + 1) (t.put k x)).get i = _
    rw [h1 i (by omega),Tr.get_put_ne _ _ _ _ (by omega)]
   ·show ((putsT l (k + 1) (t.put k x)).get (k + i)).ok N ρ _
    cases i with
    | zero =>
      show ((putsT l (k + 1) (t.put k x)).get k).ok N ρ u
      rw [h1 k (by omega)]
      rcases Tr.get_put_eq t k x with hg | hg
      ·rw [hg];exact h.1
      ·rw [hg];exact trivial
    | succ i => rw [show k + (i + 1) = k + 1 + i by omega];exact h2 i
theorem frameK_iff {n : Nat} {args : List Tm} {k : Sl → Prop} (h : frameK n args k) : args.length ≤ n ∧ k ⟨n,putsT args 0 (Tr.full (depthOf n))⟩:=by
 unfold frameK at h
 rw [lenK_eq] at h
 split at h
 ·rename_i hb
  rw [fullK_eq,putsK_eq] at h
  exact ⟨Nat.le_of_ble_eq_true hb,h⟩
 ·exact h.elim
theorem frame_ok {N n : Nat} {args : List Tm} {us : List Value} (h : okL (Tm.ok N ρ) args us) (hn : args.length ≤ n) : Sl.ok N ρ ⟨n,putsT args 0 (Tr.full (depthOf n))⟩ (us.toArray ++ Array.replicate (n - us.length) undef):=by
 refine ⟨?_,fun i => ?_⟩
 ·rw [h.length] at hn;simp;omega
 ·have:=(puts_get args 0 (Tr.full (depthOf n)) us h (fun i _ => by
   rcases full_get (depthOf n) i with hg | hg
   ·rw [hg];exact rfl
   ·rw [hg];exact trivial)).2 i
  rw [Nat.zero_add] at this
  have e : (us.toArray ++ Array.replicate (n - us.length) undef).getD i undef = us.getD i undef:=by
   simp only [Array.getD_eq_getD_getElem?,Array.getElem?_append,List.size_toArray,List.getElem?_toArray,List.getD_eq_getElem?_getD]
   split
   ·rfl
   ·rename_i hlt
    rw [List.getElem?_eq_none (by omega)]
    simp only [Array.getElem?_replicate]
    split <;> rfl
  rw [e];exact this
def GoOk (P : Program) (Γ : Glob) (go : Option (Nat × Nat) → Code → St → (Ex → St → Prop) → Prop) : Prop :=
 ∀ (rn : Option (Nat × Nat)) (n : Nat) (M : Nat → Prop) (w0 : World) (vs : Fv) (c : Code) (st : St) (a : Act) (w : World) (ρ : Keys) (K : Ex → St → Prop) (Q : Exit → Act → World → Prop),go rn c st K → Rel Γ M w0 ρ st vs a w →
  (∀ e st' a' w' ρ' M' w0' ds',Adv M w0 M' w0' vs.ds ds' → K e st' → Rel Γ M' w0' ρ' st' ⟨vs.fs,ds'⟩ a' w' → Q e.exit' a' w') → c.wpIn (FrR (rn.map (·.2))) n P Q a w
theorem body_sound (hP : ProgOk P Γ E) {go : Option (Nat × Nat) → Code → St → (Ex → St → Prop) → Prop} (hgo : GoOk P Γ go) : ClOk P Γ E (evBody E (go none)):=by
 intro f b hb st args K hc M w0 ρ vs a w vals h hargs
 obtain ⟨fn,h1,h2,h3,h4,h5⟩:=(hP.inl f b hb).h
 obtain ⟨tm,fr,rg⟩:=st
 change frameK b.n args (fun s => go none b.code ⟨s,tm :: fr,rg⟩ (fun e st' => match e with
  | .exit _ => False
  | _ => (match evRes E st' b.rs with
    | some (q,x) => oblige E.conc q (match st' with | ⟨_,tm' :: fr',rg'⟩ => K x ⟨tm',fr',rg'⟩ | _ => False)
    | none => False))) at hc
 obtain ⟨hn,hc⟩:=frameK_iff hc
 have hrel : Rel Γ M w0 ρ ⟨⟨b.n,putsT args 0 (Tr.full (depthOf b.n))⟩,tm :: fr,rg⟩ ⟨a.tmps :: vs.fs,[]⟩ { tmps:=vals.toArray ++ Array.replicate (b.n - vals.length) undef,defers:=[] } w :=
  ⟨frame_ok hargs hn,⟨h.tm,h.fr⟩,rfl,h.rs,h.bl,h.gl,h.gn⟩
 refine callsIn_wide.1 (callsIn_of_wp_marks (n:=0) h1 h3 trivial ?_ rfl)
 rw [h4]
 rw [show vals.toArray.size = vals.length by simp]
 refine hgo none 0 M w0 ⟨a.tmps :: vs.fs,[]⟩ b.code _ _ _ _ _ _ hc hrel fun e st' a' w' ρ' M' w0' ds' ha hk hr' => ?_
 obtain ⟨hext,Ds,hds,hnd,hDs⟩:=ha
 have hr0:=hr'.unbase hext h.gn
 have hdf : a'.defers = Ds.map mark:=by have:=hr'.df;simp only at this;rw [this,hds];simp
 have fin : (match evRes E st' b.rs with
   | some (q,x) => oblige E.conc q (match (generalizing:=false) st' with | ⟨_,tm' :: fr',rg'⟩ => K x ⟨tm',fr',rg'⟩ | _ => False)
   | none => False) → LeavesInM Fence.wide 0 P fn a'.tmps (fun e w' => ∃ v st' ρ' x,e = .returned v ∧ Rel Γ M w0 ρ' st' vs a w' ∧ Tm.ok st'.rg.length ρ' x v ∧ K x st') a'.defers .returning w':=by
  intro hk
  rw [hdf]
  refine leave_marks (Γ:=Γ) (M:=M) (w0:=w0) (ρ:=ρ') (st:=st') (vs:=⟨a.tmps :: vs.fs,ds'⟩) (a:=a') (fun w2 hr2 => ?_) Ds w' hr0 hnd (fun D hD => ⟨(hDs D hD).1.now hr'.bl,(hDs D hD).2⟩)
  split at hk
  ·rename_i q x hx
   rw [oblige_iff] at hk
   obtain ⟨y,k1,k2⟩:=evRes_sound hP.env hr2 h5 hx hk.1
   obtain ⟨_,hk⟩:=hk
   obtain ⟨tm1,fr1,rg1⟩:=st'
   cases fr1 with
   | nil => exact hk.elim
   | cons tm2 fr2 => exact ⟨y,k1,y,⟨tm2,fr2,rg1⟩,ρ',x,rfl,⟨hr2.fr.1,hr2.fr.2,h.df,hr2.rs,hr2.bl,hr2.gl,hr2.gn⟩,k2,hk⟩
  ·exact hk.elim
 cases e with
 | exit id => exact hk.elim
 | normal => exact fin hk
 | ret => exact fin hk
theorem parsK_sound {N : Nat} : ∀ (ps : List Nat) (args : List Tm) (s : Sl) (k : Sl → Prop) (vals : List Value) (t : Array Value),parsK ps args s k → okL (Tm.ok N ρ) args vals → s.ok N ρ t →
  vals.length = ps.length ∧ ∃ s',k s' ∧ s'.ok N ρ ((ps.zip vals).foldl (fun (t : Array Value) (p : Nat × Value) => t.setIfInBounds p.1 p.2) t)
 | [],[],s,k,[],t,h,_,hs => ⟨rfl,s,h,hs⟩
 | [],_ :: _,s,k,_,t,h,_,hs => h.elim
 | p :: ps,[],s,k,_,t,h,_,hs => by cases s;exact h.elim
 | p :: ps,x :: args,⟨n,tr⟩,k,v :: vals,t,h,ha,hs => by
   change (match Nat.blt p n with | true => forceT x (fun x => tr.putK p x (fun tr => parsK ps args ⟨n,tr⟩ k)) | false => False) at h
   split at h
   ·rename_i hb
    rw [forceT_eq,Tr.putK_eq] at h
    have hs' : Sl.ok N ρ ⟨n,tr.put p x⟩ (t.setIfInBounds p v):=by
     have:=hs.put p ha.1
     simp only [Sl.put,hb] at this
     exact this
    obtain ⟨h1,s',h2,h3⟩:=parsK_sound ps args _ k vals _ h ha.2 hs'
    exact ⟨by simp [h1],s',h2,h3⟩
   ·exact h.elim
theorem round_sound {go : Option (Nat × Nat) → Code → St → (Ex → St → Prop) → Prop} (hgo : GoOk P Γ go) : RdOk P Γ (evRound go):=by
 intro r args st K hk ro n M w0 ρ vs a w vals h hargs
 obtain ⟨tm,fr,rg⟩:=st
 unfold evRound at hk
 simp only at hk
 split at hk
 case h_2 => exact hk.elim
 rename_i l s L j hg
 obtain ⟨_,_,hs,hh,hl⟩:=h.rs.blk r _ [] true (.lp l s L .ready j) (getD_reg hg (by simp)) ⟨rfl,rfl,rfl⟩
 rw [hl] at hh ⊢
 obtain ⟨hlen,s',hk,hs'⟩:=parsK_sound _ _ _ _ _ _ hk hargs hs
 have hy:=run_yield (P:=P) (args:=vals.toArray) hh (by simp [hlen])
 refine ⟨_,_,_,_,hy,roundIn_of_wpIn trivial ?_⟩
 have hf : ((L.params.zip vals.toArray).foldl (fun (t : Array Value) (p : Nat × Value) => t.setIfInBounds p.1 p.2) L.tmps) = (L.params.toList.zip vals).foldl (fun (t : Array Value) (p : Nat × Value) => t.setIfInBounds p.1 p.2) L.tmps:=by
  rw [← Array.foldl_toList,Array.toList_zip]
 have hrel : Rel Γ M w0 ρ ⟨s',tm :: fr,rg⟩ ⟨a.tmps :: vs.fs,[]⟩ { tmps:=(L.params.toList.zip vals).foldl (fun (t : Array Value) (p : Nat × Value) => t.setIfInBounds p.1 p.2) L.tmps,defers:=[] } w :=
  ⟨hs',⟨h.tm,h.fr⟩,rfl,h.rs,h.bl,h.gl,h.gn⟩
 rw [← hf] at hrel
 refine hgo (some (r,l)) n M w0 ⟨a.tmps :: vs.fs,[]⟩ L.assign _ _ _ _ _ _ hk hrel fun e st1 a1 w1 ρ1 M1 w01 ds1 ha1 hk hr1 => ?_
 cases e with
 | exit id => exact hk.elim
 | ret => exact hk.elim
 | normal =>
   simp only at hk
   split at hk
   case h_2 => exact hk.elim
   rename_i l1 s1 L1 j1 hg1
   obtain ⟨rfl,hk⟩:=hk
   have hg1:=getD_reg hg1 (by simp)
   obtain ⟨_,_,_,hh1,hl1⟩:=hr1.rs.blk r _ [] true (.lp l1 s1 L1 .ready j1) hg1 ⟨rfl,rfl,rfl⟩
   rw [hl1] at hh1
   rw [St.setRK_eq] at hk
   refine ⟨_,run_beginRound hh1 rfl,?_⟩
   have hr2:=hr1.turnLoop (q':=.busy) (j':=j1) hg1
   refine hgo (some (r,l1)) n M1 w01 ⟨a.tmps :: vs.fs,ds1⟩ L.body _ _ _ _ _ _ hk hr2 fun e st3 a3 w3 ρ3 M3 w03 ds3 ha3 hk hr3 => ?_
   obtain ⟨tm3,fr3,rg3⟩:=st3
   cases fr3 with
   | nil => exact hk.elim
   | cons tm4 fr4 =>
     simp only at hk
     split at hk
     case h_2 => exact hk.elim
     rename_i l3 s3 L3 j3 hg3
     obtain ⟨rfl,hk⟩:=hk
     have hg3:=getD_reg (st:=⟨tm3,tm4 :: fr4,rg3⟩) hg3 (by simp)
     obtain ⟨_,_,_,hh3,hl3⟩:=hr3.rs.blk r _ [] true (.lp l3 s3 L3 .busy j3) hg3 ⟨rfl,rfl,rfl⟩
     rw [hl3] at hh3
     have hext:=(ha1.trans ha3).ext
     have back : ∀ (q : LoopState) (j : Option Code),Rel Γ M w0 ρ3 ((⟨tm4,fr4,rg3⟩ : St).setR r (.lp l3 s3 L3 q j)) vs a (w3.putObj l3 (.loop { L3 with state:=q,pending:=j })):=fun q j => by
      have h4:=(hr3.turnLoop (q':=q) (j':=j) hg3).unbase hext h.gn
      exact ⟨h4.fr.1,h4.fr.2,h.df,h4.rs,h4.bl,h4.gl,h4.gn⟩
     cases e with
     | normal =>
       simp only [roundEndK,St.setRK_eq] at hk
       exact ⟨_,_,run_endRound none hh3,_,_,ρ3,.a .tt,rfl,back .ready none,rfl,hk⟩
     | ret =>
       simp only [roundEndK,St.setRK_eq] at hk
       exact ⟨_,_,run_endRound (some .ret) hh3,_,_,ρ3,.a .ff,rfl,back .done (some .ret),rfl,hk⟩
     | exit id =>
       simp only [roundEndK,St.setRK_eq] at hk
       exact ⟨_,_,run_endRound (some (.exit id)) hh3,_,_,ρ3,.a .ff,rfl,back .done (some (.exit id)),rfl,hk⟩
theorem evN_sound (hP : ProgOk P Γ E) : ∀ (d : Nat),GoOk P Γ (evN E d)
 | 0 => fun rn n M w0 vs c st a w ρ K Q he h hK => evC_sound hP (cl:=fun _ _ _ _ => False) (rd:=fun _ _ _ _ => False) (fun _ _ _ _ _ _ hc => hc.elim) (fun _ _ _ _ hc => hc.elim) c M w0 vs st a w ρ K Q he h hK
 | d + 1 => fun rn n M w0 vs c st a w ρ K Q he h hK => evC_sound hP (body_sound hP (evN_sound hP d)) (round_sound (evN_sound hP d)) c M w0 vs st a w ρ K Q he h hK
end
end Go.Sy
end
section
namespace Go.Sy
open Go Go.RowKit
universe u
abbrev Pas:=List (Option (Nat × Path))
def paF (is : Pas) (n : Nat) : List Nat → List Nat → Prop
 | [],[] => True
 | r :: l,r' :: l' => (r' < n ∧ is[r']? = some (some (r,[]))) ∧ paF is n l l'
 | _,_ => False
def paA (is : Pas) (n : Nat) (x x' : At) : Prop :=
 match x' with
 | .any => True
 | .p r' π' i' j' => (∃ r π0,x = .p r (π' ++ π0) i' j' ∧ r' < n ∧ is[r']? = some (some (r,π0)))
 | .sl r' π' lo k => ((x = .v (.slice none 0 0) ∨ x = .z) ∧ lo = 0 ∧ k = 0 ∧ r' < n ∧ is[r']? = some none) ∨ (∃ r π0,x = .sl r (π' ++ π0) lo k ∧ r' < n ∧ is[r']? = some (some (r,π0)))
 | .fn f l' => ∃ l,x = .fn f l ∧ paF is n l l'
 | .mp r' => ∃ r,x = .mp r ∧ r' < n ∧ is[r']? = some (some (r,[]))
 | .it _ => False
 | .yl _ => False
 | .v (.bool b) => x = .v (.bool b) ∨ (x = .tt ∧ b = true) ∨ (x = .ff ∧ b = false)
 | x' => x = x'
def paAs (is : Pas) (n : Nat) : List At → List At → Prop
 | [],[] => True
 | x :: l,x' :: l' => paA is n x x' ∧ paAs is n l l'
 | _,_ => False
def paC (is : Pas) (n : Nat) : C1 → C1 → Prop
 | .a x,.a y => paA is n x y
 | .agg l,.agg l' => paAs is n l l'
 | _,_ => False
def paCs (is : Pas) (n : Nat) : List C1 → List C1 → Prop
 | [],[] => True
 | x :: l,x' :: l' => paC is n x x' ∧ paCs is n l l'
 | _,_ => False
def paT (is : Pas) (n : Nat) : Tm → Tm → Prop
 | .a x,.a y => paA is n x y
 | .agg l,.agg l' => paAs is n l l'
 | .tup l,.tup l' => paCs is n l l'
 | _,_ => False
def paTs (is : Pas) (n : Nat) : List Tm → List Tm → Prop
 | [],[] => True
 | x :: l,x' :: l' => paT is n x x' ∧ paTs is n l l'
 | _,_ => False
def paR (rg : List Reg) (is : Pas) (n : Nat) (r' : Nat) : Reg → Prop
 | .dead => True
 | .box o l' => o = false ∧ ∃ r o0 l,is[r']? = some (some (r,[])) ∧ rg[r]? = some (.box o0 l) ∧ paAs is n l l'
 | .arr te tg xs o i => o = false ∧ i = false ∧ ((is[r']? = some none ∧ xs = [] ∧ tg ≠ []) ∨ ∃ r π0 q,is[r']? = some (some (r,π0)) ∧ (rg.getD r .dead).dn π0 = some (q,⟨te,tg,xs⟩) ∧ obl q)
 | .map t k c es o => o = false ∧ ∃ r o0,is[r']? = some (some (r,[])) ∧ rg[r]? = some (.map t k c es o0)
 | _ => False
structure Passed (args : List Tm) (rg : List Reg) (is : Pas) (args' : List Tm) (rg' : List Reg) : Prop where
 args : paTs is rg'.length args args'
 rgs : ∀ (r : Nat) (g : Reg),rg'[r]? = some g → paR rg is rg'.length r g
section
variable {P : Program} {Γ : Glob} {E : Env} {M : Nat → Prop} {w0 : World} {ρ : Keys} {st : St} {vs : Fv} {a : Act} {w : World}
def paρ (ρ : Keys) (is : Pas) (rg' : List Reg) : Keys:=fun r τ =>
 match is[r]? with
 | some (some (r0,π0)) => ρ r0 (τ ++ π0)
 | _ => { noRI with m:=(match rg'.getD r .dead with | .arr _ tg _ _ _ => tg.length | _ => 0) }
theorem paρ_some {is : Pas} {rg' : List Reg} {r r0 : Nat} {π0 τ : Path} (h : is[r]? = some (some (r0,π0))) : paρ ρ is rg' r τ = ρ r0 (τ ++ π0):=by simp only [paρ,h]
theorem paρ_none {is : Pas} {rg' : List Reg} {r : Nat} {τ : Path} (h : is[r]? = some none) : (paρ ρ is rg' r τ).void = true:=by simp only [paρ,h];rfl
theorem paF_sound {N n : Nat} {is : Pas} {rg' : List Reg} : ∀ {l l' : List Nat},paF is n l l' → (∀ r ∈ l,r < N) → (∀ r ∈ l',r < n) ∧ l.map (fun r => Value.pointer (some ((ρ r []).at 0))) = l'.map (fun r => Value.pointer (some ((paρ ρ is rg' r []).at 0)))
 | [],[],_,_ => ⟨by simp,rfl⟩
 | r :: l,r' :: l',h,hN => by
   obtain ⟨⟨h1,h2⟩,h3⟩:=h
   obtain ⟨h4,h5⟩:=paF_sound (rg':=rg') h3 fun x hx => hN x (List.mem_cons_of_mem _ hx)
   refine ⟨fun x hx => ?_,?_⟩
   ·rcases List.mem_cons.1 hx with rfl | hx
    ·exact h1
    ·exact h4 x hx
   ·simp only [List.map_cons,h5,paρ_some h2,List.append_nil]
theorem paA_sound {N n : Nat} {is : Pas} {rg' : List Reg} {x x' : At} {y : Value} (hl : paA is n x x') (h : x.ok N ρ y) : x'.ok n (paρ ρ is rg') y:=by
 cases x' <;> simp only [paA] at hl
 case any => trivial
 case un => subst hl;exact h
 case v y' =>
  split at hl
  all_goals (rename_i heq;first | cases heq | skip)
  ·rcases hl with rfl | ⟨rfl,rfl⟩ | ⟨rfl,rfl⟩
   ·exact h
   ·obtain rfl : y = .bool true:=h;exact ⟨rfl,rfl⟩
   ·obtain rfl : y = .bool false:=h;exact ⟨rfl,rfl⟩
  ·subst hl;exact h
 case tt => subst hl;exact h
 case ff => subst hl;exact h
 case z => subst hl;exact h
 case err => subst hl;exact h
 case p r' π' i' j' =>
  obtain ⟨r,π0,rfl,h1,h2⟩:=hl
  exact ⟨h1,by rw [paρ_some h2];exact h.2⟩
 case sl r' π' lo k =>
  rcases hl with ⟨hx,rfl,rfl,h1,h2⟩ | ⟨r,π0,rfl,h1,h2⟩
  ·refine ⟨h1,?_⟩
   rcases hx with rfl | rfl
   ·obtain ⟨rfl,_⟩:=h;exact void_head (paρ_none h2)
   ·obtain ⟨a0,rfl⟩:=h;exact void_head (paρ_none h2)
  ·exact ⟨h1,by rw [paρ_some h2];exact h.2⟩
 case mp r' =>
  obtain ⟨r,rfl,h1,h2⟩:=hl
  exact ⟨h1,by rw [paρ_some h2];exact h.2⟩
 case fn f l' =>
  obtain ⟨l,rfl,h1⟩:=hl
  obtain ⟨h2,h3⟩:=paF_sound (ρ:=ρ) (rg':=rg') h1 h.1
  exact ⟨h2,by rw [h.2,h3]⟩
theorem paAs_sound {N n : Nat} {is : Pas} {rg' : List Reg} : ∀ {l l' : List At} {ys : List Value},paAs is n l l' → okL (At.ok N ρ) l ys → okL (At.ok n (paρ ρ is rg')) l' ys
 | [],[],[],_,_ => trivial
 | _ :: _,_ :: _,_ :: _,hl,h => ⟨paA_sound hl.1 h.1,paAs_sound hl.2 h.2⟩
theorem paC_sound {N n : Nat} {is : Pas} {rg' : List Reg} {x x' : C1} {y : Value} (hl : paC is n x x') (h : x.ok N ρ y) : x'.ok n (paρ ρ is rg') y:=by
 cases x <;> cases x' <;> first | exact hl.elim | skip
 ·exact paA_sound hl h
 ·obtain ⟨ys,h1,h2⟩:=h;exact ⟨ys,h1,paAs_sound hl h2⟩
theorem paCs_sound {N n : Nat} {is : Pas} {rg' : List Reg} : ∀ {l l' : List C1} {ys : List Value},paCs is n l l' → okL (C1.ok N ρ) l ys → okL (C1.ok n (paρ ρ is rg')) l' ys
 | [],[],[],_,_ => trivial
 | _ :: _,_ :: _,_ :: _,hl,h => ⟨paC_sound hl.1 h.1,paCs_sound hl.2 h.2⟩
theorem paT_sound {N n : Nat} {is : Pas} {rg' : List Reg} {x x' : Tm} {y : Value} (hl : paT is n x x') (h : x.ok N ρ y) : x'.ok n (paρ ρ is rg') y:=by
 cases x <;> cases x' <;> first | exact hl.elim | skip
 ·exact paA_sound hl h
 ·obtain ⟨ys,h1,h2⟩:=h;exact ⟨ys,h1,paAs_sound hl h2⟩
 ·obtain ⟨ys,h1,h2⟩:=h;exact ⟨ys,h1,paCs_sound hl h2⟩
theorem paTs_sound {N n : Nat} {is : Pas} {rg' : List Reg} : ∀ {l l' : List Tm} {ys : List Value},paTs is n l l' → okL (Tm.ok N ρ) l ys → okL (Tm.ok n (paρ ρ is rg')) l' ys
 | [],[],[],_,_ => trivial
 | _ :: _,_ :: _,_ :: _,hl,h => ⟨paT_sound hl.1 h.1,paTs_sound hl.2 h.2⟩
theorem paAs_get {is : Pas} {n : Nat} : ∀ {l l' : List At},paAs is n l l' → ∀ (j : Nat) (x' : At),l'[j]? = some x' → ∃ x,l[j]? = some x ∧ paA is n x x'
 | [],[],_,j,x',h => by simp at h
 | x :: _,_ :: _,hl,0,x',h => by simp at h;subst h;exact ⟨x,rfl,hl.1⟩
 | _ :: _,_ :: _,hl,j + 1,x',h => by
   obtain ⟨x,h1,h2⟩:=paAs_get hl.2 j x' (by simpa using h)
   exact ⟨x,by simpa using h1,h2⟩
theorem CK.lies.along {η η' : Path → RI} {π0 π : Path} {i j : Nat} (he : ∀ τ,η' τ = η (τ ++ π0)) : ∀ {c : CK} {x : c.ty} {y : Value},c.lies η (π ++ π0) i j x y → c.lies η' π i j x y
 | .int _,_,_,h => h
 | .bool,_,_,h => h
 | .str,_,_,h => h
 | .sl _ _,_,_,h => by
   show RI.head (η' ((i,j) :: π)) 0 _ _
   rw [he];exact h
theorem Tup.lies.along {η η' : Path → RI} {π0 π : Path} {i : Nat} (he : ∀ τ,η' τ = η (τ ++ π0)) : ∀ {tg : List CK} {j : Nat} {x : Tup tg} {ys : List Value},Tup.lies η (π ++ π0) i j tg x ys → Tup.lies η' π i j tg x ys
 | [],_,_,_,h => h
 | [c],_,_,_,h => by obtain ⟨y,h1,h2⟩:=h;exact ⟨y,h1,h2.along he⟩
 | c :: c' :: cs,_,_,_,h => by obtain ⟨y,ys',h1,h2,h3⟩:=h;exact ⟨y,ys',h1,h2.along he,h3.along (tg:=c' :: cs) he⟩
theorem Ar.lies.along {η η' : Path → RI} {π0 π : Path} {A : Ar} (he : ∀ τ,η' τ = η (τ ++ π0)) (h : A.lies w η (π ++ π0)) : A.lies w η' π where
 tg:=h.tg
 m:=by rw [he];exact h.m
 void:=by rw [he];exact h.void
 len:=by rw [he];exact h.len
 cell:=fun i hi => by
  obtain ⟨ys,h1,h2⟩:=h.cell i hi
  exact ⟨ys,h1.along he,fun s y hy => by rw [he];exact h2 s y hy⟩
theorem Regs.passed {rg rg' : List Reg} {is : Pas} {args args' : List Tm} (h : Regs M w0 rg.length ρ rg w) (hp : Passed args rg is args' rg') : Regs (fun _ => False) w rg'.length (paρ ρ is rg') rg' w:=by
 have arr : ∀ (r' : Nat) te tg xs o i,rg'[r']? = some (.arr te tg xs o i) → ∀ π f A,(Reg.arr te tg xs o i).has π f (.arr A) →
   f = false ∧ ((is[r']? = some none ∧ π = [] ∧ A = ⟨te,tg,[]⟩ ∧ tg ≠ []) ∨ ∃ r π0 g f0,is[r']? = some (some (r,π0)) ∧ rg[r]? = some g ∧ g.has (π ++ π0) f0 (.arr A)):=by
  intro r' te tg xs o i hr π f A hh
  obtain ⟨rfl,rfl,hc⟩:=hp.rgs r' _ hr
  have hf : f = false:=by obtain ⟨rfl,_⟩:=hh;cases π <;> rfl
  refine ⟨hf,?_⟩
  rcases hc with ⟨h1,rfl,h2⟩ | ⟨r,π0,q,h1,h2,h3⟩
  ·obtain ⟨te1,tg1,inn,p1,p2,p3,p4⟩:=nil_has (g:=.arr te tg [] false false) ⟨rfl,h2⟩ hh
   injection p3 with q1 q2 q3 q4 q5
   subst q1 q2
   injection p4 with p4
   exact .inl ⟨h1,p1,p4,h2⟩
  ·obtain ⟨_,hnd,_,k4⟩:=Reg.dn_has h2 h3
   obtain ⟨_,A',hA,hA'⟩:=hh
   injection hA' with hA'
   subst hA'
   rcases k4 π A hA with ⟨te0,tg0,xs0,o0,i0,hg,k1⟩ | ⟨f0,k1⟩
   ·exact .inr ⟨r,π0,_,_,h1,getD_reg (st:=⟨⟨0,.nil⟩,[],rg⟩) hg (by simp),rfl,A,has_append.2 ⟨_,k1,hA⟩,rfl⟩
   ·exact .inr ⟨r,π0,_,f0,h1,getD_reg (st:=⟨⟨0,.nil⟩,[],rg⟩) rfl hnd,k1⟩
 have box : ∀ (r' : Nat) o l',rg'[r']? = some (.box o l') → o = false ∧ ∃ r o0 l,is[r']? = some (some (r,[])) ∧ rg[r]? = some (.box o0 l) ∧ paAs is rg'.length l l':=fun r' o l' hr => hp.rgs r' _ hr
 have notOwn : ∀ (r' : Nat) (g' : Reg) π B,rg'[r']? = some g' → g'.has π true B → False:=by
  intro r' g' π B hr hh
  cases g' with
  | dead => exact hh
  | box o l' => obtain ⟨_,h2,_⟩:=hh;rw [(box r' o l' hr).1] at h2;cases h2
  | arr te tg xs o i =>
    obtain ⟨A,rfl,_,_⟩:=Ar.has_flag hh
    have:=(arr r' te tg xs o i hr π true A hh).1
    cases this
  | map t k c es o => obtain ⟨_,h2,_⟩:=hh;rw [(hp.rgs r' _ hr).1] at h2;cases h2
  | mps => exact (hp.rgs r' _ hr).elim
  | iter => exact (hp.rgs r' _ hr).elim
  | lp => exact (hp.rgs r' _ hr).elim
 refine ⟨fun r' g' π o B hr hh => ?_,fun r' g' π o B hr hh hv => ?_,fun r' g' π B hr hh _ => (notOwn r' g' π B hr hh).elim,fun r1 r2 g1 g2 π π' o' B B' e1 _ k1 _ _ _ _ => (notOwn r1 g1 π B e1 k1).elim⟩
 ·cases g' with
  | dead => exact hh.elim
  | map t k c es o' =>
    obtain ⟨rfl,rfl,rfl⟩:=hh
    obtain ⟨_,r,o0,h1,h2⟩:=hp.rgs r' _ hr
    obtain ⟨_,b2,b3⟩:=h.blk r _ [] o0 (.map k c es) h2 ⟨rfl,rfl,rfl⟩
    exact ⟨rfl,by rw [paρ_some h1];exact b2,by rw [paρ_some h1];exact b3⟩
  | mps => exact (hp.rgs r' _ hr).elim
  | iter => exact (hp.rgs r' _ hr).elim
  | lp => exact (hp.rgs r' _ hr).elim
  | box o' l' =>
    obtain ⟨rfl,rfl,rfl⟩:=hh
    obtain ⟨_,r,o0,l,h1,h2,h3⟩:=box r' _ l' hr
    obtain ⟨_,b2,b3,b4⟩:=h.blk r _ [] o0 (.box l) h2 ⟨rfl,rfl,rfl⟩
    refine ⟨rfl,by rw [paρ_some h1];exact b2,by rw [paρ_some h1];exact b3,fun j x' hx => ?_⟩
    obtain ⟨x,hx,hle⟩:=paAs_get h3 j x' hx
    obtain ⟨y,hy,hc⟩:=b4 j x hx
    exact ⟨y,paA_sound hle hy,by rw [paρ_some h1];exact hc⟩
  | arr te tg xs o' i' =>
    obtain ⟨A,rfl,_,_⟩:=Ar.has_flag hh
    rcases (arr r' te tg xs o' i' hr π o A hh).2 with ⟨h1,rfl,rfl,h2⟩ | ⟨r,π0,g,f0,h1,h2,h3⟩
    ·refine ⟨h2,?_,fun _ => rfl,fun hf => ?_,fun i hi => by simp at hi⟩
     ·simp only [paρ,h1];simp [List.getD,hr]
     ·rw [paρ_none h1] at hf;cases hf
    ·exact Ar.lies.along (fun τ => paρ_some h1) (h.blk r g (π ++ π0) f0 (.arr A) h2 h3)
 ·cases g' with
  | dead => exact hh.elim
  | map t k c es o' =>
    obtain ⟨rfl,rfl,rfl⟩:=hh
    obtain ⟨_,r,o0,h1,h2⟩:=hp.rgs r' _ hr
    rw [paρ_some h1] at hv ⊢
    exact h.lt r _ [] o0 (.map k c es) h2 ⟨rfl,rfl,rfl⟩ hv
  | mps => exact (hp.rgs r' _ hr).elim
  | iter => exact (hp.rgs r' _ hr).elim
  | lp => exact (hp.rgs r' _ hr).elim
  | box o' l' =>
    obtain ⟨rfl,rfl,rfl⟩:=hh
    obtain ⟨_,r,o0,l,h1,h2,h3⟩:=box r' _ l' hr
    rw [paρ_some h1] at hv ⊢
    exact h.lt r _ [] o0 (.box l) h2 ⟨rfl,rfl,rfl⟩ hv
  | arr te tg xs o' i' =>
    obtain ⟨A,rfl,_,_⟩:=Ar.has_flag hh
    rcases (arr r' te tg xs o' i' hr π o A hh).2 with ⟨h1,rfl,rfl,h2⟩ | ⟨r,π0,g,f0,h1,h2,h3⟩
    ·rw [paρ_none h1] at hv;cases hv
    ·rw [paρ_some h1] at hv ⊢
     exact h.lt r g (π ++ π0) f0 (.arr A) h2 h3 hv
end
end Go.Sy
end
section
namespace Go.Sy
open Go Go.RowKit
universe u
/-! ### Values that speak of no region;of regions below n -/
def At.lt (n : Nat) : At → Bool
 | .p r _ _ _ => Nat.blt r n
 | .sl r _ _ _ => Nat.blt r n
 | .fn _ l => allL (fun r => Nat.blt r n) l
 | .mp r => Nat.blt r n
 | .it r => Nat.blt r n
 | .yl r => Nat.blt r n
 | _ => true
def C1.lt (n : Nat) : C1 → Bool
 | .a x => x.lt n
 | .agg l => allL (At.lt n) l
def Tm.lt (n : Nat) : Tm → Bool
 | .a x => x.lt n
 | .agg l => allL (At.lt n) l
 | .tup l => allL (C1.lt n) l
section
variable {P : Program} {Γ : Glob} {E : Env} {M : Nat → Prop} {w0 : World} {ρ ρ' : Keys} {st : St} {vs : Fv} {a : Act} {w : World}
theorem At.ren_ok {N N' : Nat} (n : Nat) {f g : Nat → Nat} (hN : ∀ r,r < n → g r < N') (hρ : ∀ r,r < n → ρ' (g r) = ρ (f r)) {x : At} {y : Value} (hl : x.lt n = true) (h : (x.ren f).ok N ρ y) : (x.ren g).ok N' ρ' y:=by
 cases x <;> try exact h
 case p r π i j =>
  have hr : r < n:=Nat.le_of_ble_eq_true hl
  exact ⟨hN r hr,by rw [hρ r hr];exact h.2⟩
 case sl r π lo k =>
  have hr : r < n:=Nat.le_of_ble_eq_true hl
  exact ⟨hN r hr,by rw [hρ r hr];exact h.2⟩
 case fn k l =>
  have hr : ∀ r ∈ l,r < n:=fun r hr => Nat.le_of_ble_eq_true (allL_forall hl r hr)
  refine ⟨fun r' hr' => ?_,?_⟩
  ·obtain ⟨r,h1,rfl⟩:=List.mem_map.1 hr'
   exact hN r (hr r h1)
  ·show y = _
   rw [h.2]
   simp only [List.map_map]
   congr 2
   exact List.map_congr_left fun r h1 => by simp only [Function.comp];rw [hρ r (hr r h1)]
 case mp r =>
  have hr : r < n:=Nat.le_of_ble_eq_true hl
  exact ⟨hN r hr,by rw [hρ r hr];exact h.2⟩
 case it r =>
  have hr : r < n:=Nat.le_of_ble_eq_true hl
  exact ⟨hN r hr,by rw [hρ r hr];exact h.2⟩
 case yl r =>
  have hr : r < n:=Nat.le_of_ble_eq_true hl
  exact ⟨hN r hr,by rw [hρ r hr];exact h.2⟩
theorem okL_mapL {α : Type} {R R' : α → Value → Prop} {F G : α → α} {p : α → Bool} (hf : ∀ x y,p x = true → R (F x) y → R' (G x) y) : ∀ {l : List α} {ys : List Value},allL p l = true → okL R (l.map F) ys → okL R' (l.map G) ys
 | [],[],_,_ => trivial
 | x :: l,y :: ys,hs,h => by
   simp only [allL] at hs
   split at hs
   ·rename_i hx;exact ⟨hf x y hx h.1,okL_mapL hf hs h.2⟩
   ·cases hs
theorem C1.ren_ok {N N' : Nat} (n : Nat) {f g : Nat → Nat} (hN : ∀ r,r < n → g r < N') (hρ : ∀ r,r < n → ρ' (g r) = ρ (f r)) {x : C1} {y : Value} (hl : x.lt n = true) (h : (x.mapA (At.ren f)).ok N ρ y) : (x.mapA (At.ren g)).ok N' ρ' y:=by
 cases x with
 | a x => exact At.ren_ok n hN hρ hl h
 | agg l => obtain ⟨ys,h1,h2⟩:=h;exact ⟨ys,h1,okL_mapL (fun _ _ hp hh => At.ren_ok n hN hρ hp hh) hl h2⟩
theorem Tm.ren_ok {N N' : Nat} (n : Nat) {f g : Nat → Nat} (hN : ∀ r,r < n → g r < N') (hρ : ∀ r,r < n → ρ' (g r) = ρ (f r)) {x : Tm} {y : Value} (hl : x.lt n = true) (h : (x.ren f).ok N ρ y) : (x.ren g).ok N' ρ' y:=by
 cases x with
 | a x => exact At.ren_ok n hN hρ hl h
 | agg l => obtain ⟨ys,h1,h2⟩:=h;exact ⟨ys,h1,okL_mapL (fun _ _ hp hh => At.ren_ok n hN hρ hp hh) hl h2⟩
 | tup l => obtain ⟨ys,h1,h2⟩:=h;exact ⟨ys,h1,okL_mapL (fun _ _ hp hh => C1.ren_ok n hN hρ hp hh) hl h2⟩
def C1.plain : C1 → Bool
 | .a x => x.plain
 | .agg l => allL At.plain l
def Tm.plain : Tm → Bool
 | .a x => x.plain
 | .agg l => allL At.plain l
 | .tup l => allL C1.plain l
theorem At.plain_ok {N N' : Nat} {x : At} {y : Value} (hp : x.plain = true) (h : x.ok N ρ y) : x.ok N' ρ' y:=by
 cases x <;> first | exact h | simp [At.plain] at hp
theorem okL_all {α : Type} {R R' : α → Value → Prop} {f : α → Bool} (hf : ∀ x y,f x = true → R x y → R' x y) : ∀ {l : List α} {ys : List Value},allL f l = true → okL R l ys → okL R' l ys
 | [],[],_,_ => trivial
 | x :: l,y :: ys,hs,h => by
   simp only [allL] at hs
   split at hs
   ·rename_i hx;exact ⟨hf x y hx h.1,okL_all hf hs h.2⟩
   ·cases hs
theorem C1.plain_ok {N N' : Nat} {x : C1} {y : Value} (hp : x.plain = true) (h : x.ok N ρ y) : x.ok N' ρ' y:=by
 cases x with
 | a x => exact At.plain_ok hp h
 | agg l => obtain ⟨ys,h1,h2⟩:=h;exact ⟨ys,h1,okL_all (fun _ _ => At.plain_ok) hp h2⟩
theorem Tm.plain_ok {N N' : Nat} {x : Tm} {y : Value} (hp : x.plain = true) (h : x.ok N ρ y) : x.ok N' ρ' y:=by
 cases x with
 | a x => exact At.plain_ok hp h
 | agg l => obtain ⟨ys,h1,h2⟩:=h;exact ⟨ys,h1,okL_all (fun _ _ => At.plain_ok) hp h2⟩
 | tup l => obtain ⟨ys,h1,h2⟩:=h;exact ⟨ys,h1,okL_all (fun _ _ => C1.plain_ok) hp h2⟩
theorem eqA_sound {N : Nat} {x y : At} {v : Value} (he : eqA x y) (h : x.ok N ρ v) : y.ok N ρ v:=by
 unfold eqA at he
 split at he
 ·exact h
 ·exact h
 ·subst he;obtain rfl : v = .bool true:=h;exact ⟨rfl,rfl⟩
 ·subst he;obtain rfl : v = .bool false:=h;exact ⟨rfl,rfl⟩
 ·subst he;exact h.1
 ·subst he;exact h.1
 ·trivial
 ·obtain ⟨rfl,rfl,rfl,rfl⟩:=he;exact h
 ·obtain ⟨rfl,rfl,rfl,rfl⟩:=he;exact h
 ·obtain ⟨rfl,rfl⟩:=he;exact h
 ·subst he;exact h
 ·subst he;exact h
 ·subst he;exact h
 ·exact h
 ·exact h
 ·exact h
 ·exact ⟨_,h.1⟩
 ·obtain ⟨rfl,rfl⟩:=he;exact h
 ·subst he;exact h
 ·subst he;exact h
 ·exact he.elim
theorem eqAs_sound {N : Nat} : ∀ {l l' : List At} {ys : List Value},eqAs l l' → okL (At.ok N ρ) l ys → okL (At.ok N ρ) l' ys
 | [],[],[],_,_ => trivial
 | _ :: _,_ :: _,_ :: _,he,h => ⟨eqA_sound he.1 h.1,eqAs_sound he.2 h.2⟩
theorem eqC_sound {N : Nat} {x y : C1} {v : Value} (he : eqC x y) (h : x.ok N ρ v) : y.ok N ρ v:=by
 cases x <;> cases y <;> first | exact he.elim | skip
 ·exact eqA_sound he h
 ·obtain ⟨ys,h1,h2⟩:=h;exact ⟨ys,h1,eqAs_sound he h2⟩
theorem eqCs_sound {N : Nat} : ∀ {l l' : List C1} {ys : List Value},eqCs l l' → okL (C1.ok N ρ) l ys → okL (C1.ok N ρ) l' ys
 | [],[],[],_,_ => trivial
 | _ :: _,_ :: _,_ :: _,he,h => ⟨eqC_sound he.1 h.1,eqCs_sound he.2 h.2⟩
theorem eqT_sound {N : Nat} {x y : Tm} {v : Value} (he : eqT x y) (h : x.ok N ρ v) : y.ok N ρ v:=by
 cases x <;> cases y <;> first | exact he.elim | skip
 ·exact eqA_sound he h
 ·obtain ⟨ys,h1,h2⟩:=h;exact ⟨ys,h1,eqAs_sound he h2⟩
 ·obtain ⟨ys,h1,h2⟩:=h;exact ⟨ys,h1,eqCs_sound he h2⟩
/-! ### A function's walk -/
def evTop (E : Env) (d : Nat) (b : Body) (args : List Tm) (rg : List Reg) (K : Tm → St → Prop) : Prop :=
 frameK b.n args (fun s => eachK forceR rg (fun rg => evN E d none b.code ⟨s,[],rg⟩ (fun e st' => match e with
  | .exit _ => False
  | _ => (match evRes E st' b.rs with
    | some (q,x) => oblige E.conc q (K x st')
    | none => False))))
theorem top_leaves {M : Nat → Prop} {w0 : World} (hP : ProgOk P Γ E) {fn : Func} {c : Code} {rs : List ResultVar} (h5 : fn.results = rs.toArray) {d : Nat} {fs : List (Array Value)} {st : St} {a : Act} {ρ : Keys} {K : Tm → St → Prop}
  (hc : evN E d none c st (fun e st' => match e with
    | .exit _ => False
    | _ => (match evRes E st' rs with
      | some (q,x) => oblige E.conc q (K x st')
      | none => False))) (hrel : Rel Γ M w0 ρ st ⟨fs,[]⟩ a w) {R : Ending → World → Prop}
  (hR : ∀ v st' ρ' x a' w' ds,Rel Γ M w0 ρ' st' ⟨fs,ds⟩ a' w' → Tm.ok st'.rg.length ρ' x v → K x st' → R (.returned v) w') : c.wpIn Fence.wide 0 P (bodyPostM Fence.wide 0 P fn R) a w:=by
 refine evN_sound hP d none 0 M w0 ⟨fs,[]⟩ c _ _ _ _ _ _ hc hrel fun e st' a' w' ρ' M' w0' ds' ha hk hr' => ?_
 obtain ⟨hext,Ds,hds,hnd,hDs⟩:=ha
 have hr0:=hr'.unbase hext hrel.gn
 have hdf : a'.defers = Ds.map mark:=by have:=hr'.df;simp only at this;rw [this,hds];simp
 have fin : (match evRes E st' rs with
   | some (q,x) => oblige E.conc q (K x st')
   | none => False) → LeavesInM Fence.wide 0 P fn a'.tmps R a'.defers .returning w':=by
  intro hk
  rw [hdf]
  refine leave_marks (Γ:=Γ) (M:=M) (w0:=w0) (ρ:=ρ') (st:=st') (vs:=⟨fs,ds'⟩) (a:=a') (fun w2 hr2 => ?_) Ds w' hr0 hnd (fun D hD => ⟨(hDs D hD).1.now hr'.bl,(hDs D hD).2⟩)
  split at hk
  ·rename_i q x hx
   rw [oblige_iff] at hk
   obtain ⟨y,k1,k2⟩:=evRes_sound hP.env hr2 h5 hx hk.1
   exact ⟨y,k1,hR y st' ρ' x a' w2 ds' hr2 k2 hk.2⟩
  ·exact hk.elim
 cases e with
 | exit id => exact hk.elim
 | normal => exact fin hk
 | ret => exact fin hk
theorem top_sound (hP : ProgOk P Γ E) {f : FuncId} {b : Body} (hf : BodyOk P f b) {d : Nat} {args : List Tm} {rg : List Reg} {K : Tm → St → Prop} (he : evTop E d b args rg K) (hgn : ∀ b,b < Γ.n → b < w.heap.size) (hgl : Γ.G w)
  {us : List Value} (hargs : okL (Tm.ok rg.length ρ) args us) (hrs : Regs (fun _ => False) w rg.length ρ rg w) :
  Calls P f us.toArray w fun e w' => ∃ v st' ρ' x a' ds,e = .returned v ∧ Rel Γ (fun _ => False) w ρ' st' ⟨[],ds⟩ a' w' ∧ Tm.ok st'.rg.length ρ' x v ∧ K x st' ∧ Below w.heap.size w w':=by
 obtain ⟨fn,h1,h2,h3,h4,h5⟩:=hf.h
 unfold evTop at he
 obtain ⟨hn,hc⟩:=frameK_iff he
 rw [eachK_id forceR_eq] at hc
 have hrel : Rel Γ (fun _ => False) w ρ ⟨⟨b.n,putsT args 0 (Tr.full (depthOf b.n))⟩,[],rg⟩ ⟨[],[]⟩ { tmps:=us.toArray ++ Array.replicate (b.n - us.length) undef,defers:=[] } w :=
  ⟨frame_ok hargs hn,trivial,rfl,hrs,Frame.refl _ _,hgl,fun b hb => ⟨id,hgn b hb⟩⟩
 refine callsIn_wide.1 (callsIn_of_wp_marks (n:=0) h1 h3 trivial ?_ rfl)
 rw [h4]
 rw [show us.toArray.size = us.length by simp]
 exact top_leaves hP h5 hc hrel fun v st' ρ' x a' w' ds hr hx hk => ⟨v,st',ρ',x,a',ds,rfl,hr,hx,hk,⟨hr.bl.os,hr.bl.tape,hr.bl.output,hr.bl.size,fun k hk => hr.bl.block k hk id⟩⟩
theorem Ctr.fn_ok (hP : ProgOk P Γ E) {f : FuncId} {b : Body} (hf : BodyOk P f b) {d : Nat} {F : List Tm → List Reg → Option (List Duty × Tm)}
  (H : ∀ args rg q t,F args rg = some (q,t) → obl q → t.plain = true ∧ ∃ is args' rg',Passed args rg is args' rg' ∧ evTop E d b args' rg' (fun x _ => eqT x t)) : Ctr.Ok P Γ f (.fn F):=by
 intro args rg q t hF hq M w0 ρ w us hl hgn hgl hargs hrg
 obtain ⟨hpl,is,args',rg',hp,hev⟩:=H args rg q t hF hq
 refine (top_sound hP hf hev hgn hgl (paTs_sound hp.args hargs) (hrg.passed hp)).mono ?_
 rintro e w' ⟨v,st',ρ',x,a',_,rfl,_,hx,heq,hb⟩
 exact ⟨v,rfl,Tm.plain_ok hpl (eqT_sound heq hx),hb⟩
/-! ### New memory handed back -/
def Reg.out : Reg → Bool
 | .box true l => allL At.plain l
 | .arr _ tg _ true i => (match i with | true => true | false => flatK tg)
 | .map _ _ _ _ o => o
 | .mps _ _ _ _ _ o i => bAnd o i
 | _ => false
theorem out_has {g : Reg} (h : g.out = true) {π : Path} {o : Bool} {B : Blk} (hh : g.has π o B) : o = true:=by
 cases g with
 | dead => cases h
 | map => exact hh.2.1.trans h
 | mps t kk e tg es o1 i1 =>
   cases o1 with
   | false => cases h
   | true =>
     obtain rfl : i1 = true:=h
     rcases hh with ⟨_,h1,_⟩ | ⟨_,_,h1,_⟩ <;> exact h1
 | iter => cases h
 | lp => cases h
 | box o1 l => cases o1 with
   | false => cases h
   | true => exact hh.2.1
 | arr te tg xs o1 i1 =>
   cases o1 with
   | false => cases h
   | true =>
     obtain ⟨rfl,A,hA,_⟩:=hh
     cases π with
     | nil => rfl
     | cons p π =>
       cases i1 with
       | true => rfl
       | false => obtain ⟨hp,_⟩:=has_flat (te:=te) (tg:=tg) (xs:=xs) h hA;cases hp
def resRegs (st : St) : List Nat → List Reg → Prop
 | [],[] => True
 | i :: is,g :: gs => st.rg.getD i .dead = g ∧ g.out = true ∧ (∀ j ∈ is,i ≠ j) ∧ resRegs st is gs
 | _,_ => False
theorem resRegs_get {st : St} : ∀ {is : List Nat} {gs : List Reg},resRegs st is gs → ∀ (r : Nat) (g : Reg),gs[r]? = some g → ∃ i,is[r]? = some i ∧ st.rg[i]? = some g ∧ g.out = true
 | [],[],_,r,g,h => by simp at h
 | i :: is,g :: gs,h,r,g',hr => by
   obtain ⟨h1,h2,_,h6⟩:=h
   cases r with
   | zero =>
     simp at hr;subst hr
     exact ⟨i,rfl,getD_reg h1 (by intro e;subst e;cases h2),h2⟩
   | succ r =>
     obtain ⟨j,a,b⟩:=resRegs_get h6 r g' (by simpa using hr)
     exact ⟨j,by simpa using a,b⟩
theorem resRegs_inj {st : St} : ∀ {is : List Nat} {gs : List Reg},resRegs st is gs → ∀ (r r' i : Nat),is[r]? = some i → is[r']? = some i → r = r'
 | [],[],_,r,r',i,h,_ => by simp at h
 | i0 :: is,g :: gs,h,r,r',i,h1,h2 => by
   obtain ⟨_,_,h5,h6⟩:=h
   cases r with
   | zero =>
     simp at h1;subst h1
     cases r' with
     | zero => rfl
     | succ r' => exact absurd rfl (h5 i0 (List.mem_of_getElem? (by simpa using h2)))
   | succ r =>
     cases r' with
     | zero => simp at h2;subst h2;exact absurd rfl (h5 i0 (List.mem_of_getElem? (by simpa using h1)))
     | succ r' => rw [resRegs_inj h6 r r' i (by simpa using h1) (by simpa using h2)]
def resK (K : Res → Prop) (x : Tm) (st : St) : Prop:=∃ (res : Res) (js : List Nat),K res ∧ resRegs st js res.rg ∧ res.tm.lt res.rg.length = true ∧ eqT x (res.tm.ren (fun r => js.getD r 0))
theorem Ctr.new_ok (hP : ProgOk P Γ E) {f : FuncId} {b : Body} (hf : BodyOk P f b) {d : Nat} {C : List Tm → List Reg → (Res → Prop) → Prop}
  (H : ∀ args rg K,C args rg K → ∃ is args' rg',Passed args rg is args' rg' ∧ evTop E d b args' rg' (resK K)) : Ctr.Ok P Γ f (.new C):=by
 intro args rg K hC M w0 ρ w us hl hgn hgl hargs hrg
 obtain ⟨is,args',rg',hp,hev⟩:=H args rg K hC
 refine (top_sound hP hf hev (fun b hb => Nat.lt_of_lt_of_le (hgn b hb).2 hl) hgl (paTs_sound hp.args hargs) (hrg.passed hp)).mono ?_
 rintro e w' ⟨v,st',ρ',x,a',_,rfl,hr',hx,⟨res,js,hK,hreg,hlt,heq⟩,hb⟩
 have hget:=resRegs_get hreg
 let ρ1 : Keys:=fun r => if r < rg.length then ρ r else ρ' (js.getD (r - rg.length) 0)
 have e1 : ∀ r,r < rg.length → ρ1 r = ρ r:=fun r hr => by simp [ρ1,hr]
 have e2 : ∀ r,ρ1 (rg.length + r) = ρ' (js.getD r 0):=fun r => by
  show (if rg.length + r < rg.length then _ else _) = _
  rw [if_neg (by omega),Nat.add_sub_cancel_left]
 have hv : (res.tm.ren (fun r => rg.length + r)).ok (rg.length + res.rg.length) ρ1 v :=
  Tm.ren_ok res.rg.length (f:=fun r => js.getD r 0) (ρ:=ρ') (N:=st'.rg.length) (fun r hr => by omega) (fun r _ => e2 r) hlt (eqT_sound heq hx)
 refine ⟨v,res,ρ1,rfl,hK,hb,fun r hr π => by rw [e1 r hr],hv,?_⟩
 have hold:=hrg.later hb.size hb.block
 have key : ∀ (r : Nat) (g : Reg),(rg ++ res.rg)[r]? = some g → (r < rg.length ∧ rg[r]? = some g ∧ ρ1 r = ρ r) ∨ (∃ s i,r = rg.length + s ∧ res.rg[s]? = some g ∧ js[s]? = some i ∧ st'.rg[i]? = some g ∧ g.out = true ∧ ρ1 r = ρ' i):=by
  intro r g hr
  rcases Nat.lt_or_ge r rg.length with hl | hl
  ·rw [List.getElem?_append_left hl] at hr;exact .inl ⟨hl,hr,e1 r hl⟩
  ·rw [List.getElem?_append_right hl] at hr
   obtain ⟨i,h1,h2,h3⟩:=hget _ g hr
   refine .inr ⟨r - rg.length,i,by omega,hr,h1,h2,h3,?_⟩
   rw [show r = rg.length + (r - rg.length) by omega,e2]
   simp [List.getD,h1]
 have fresh : ∀ (i : Nat) (g : Reg),st'.rg[i]? = some g → g.out = true → ∀ π o B,g.has π o B → (ρ' i π).void = false → w.heap.size ≤ (ρ' i π).b:=by
  intro i g hi ho π o B hh hvd
  obtain rfl:=out_has ho hh
  have:=hr'.rs.own i g π B hi hh hvd
  have : False ∨ w.heap.size ≤ (ρ' i π).b:=by cases B with | box => exact this.own | map => exact this.own | mps => exact this.own | it => exact this.own | lp => exact this.own | arr => exact this.1.own
  exact this.elim False.elim id
 refine ⟨fun r g π o B hr hh => ?_,fun r g π o B hr hh hvd => ?_,fun r g π B hr hh hvd => ?_,fun r r' g g' π π' o' B B' h1 h2 k1 k2 v1 v2 hne => ?_⟩
 ·rcases key r g hr with ⟨hl,hg,he⟩ | ⟨s,i,rfl,_,_,hg,ho,he⟩
  ·exact (hold.blk r g π o B hg hh).later (fun π => by rw [he]) (Nat.le_add_right _ _) (fun r hr π => by rw [e1 r hr]) (fun _ => rfl)
  ·have hb:=hr'.rs.blk i g π o B hg hh
   cases B with
   | arr A => show Ar.lies w' (ρ1 (rg.length + s)) π A;rw [he];exact hb
   | map k c es =>
     obtain ⟨b1,b2,b3⟩:=hb
     exact ⟨b1,by rw [he];exact b2,by rw [he];exact b3⟩
   | mps kk tg es =>
     obtain ⟨b1,b2,b3⟩:=hb
     exact ⟨b1,by rw [he];exact b2,by rw [he];exact b3⟩
   | it =>
     cases g with
     | dead => cases ho
     | iter => cases ho
     | lp => cases ho
     | map => obtain ⟨_,_,hB⟩:=hh;cases hB
     | mps => rcases hh with ⟨_,_,hB⟩ | ⟨_,_,_,_,_,hB⟩ <;> cases hB
     | box => obtain ⟨_,_,hB⟩:=hh;cases hB
     | arr => obtain ⟨_,A,_,hA⟩:=hh;cases hA
   | lp =>
     cases g with
     | dead => cases ho
     | iter => cases ho
     | lp => cases ho
     | map => obtain ⟨_,_,hB⟩:=hh;cases hB
     | mps => rcases hh with ⟨_,_,hB⟩ | ⟨_,_,_,_,_,hB⟩ <;> cases hB
     | box => obtain ⟨_,_,hB⟩:=hh;cases hB
     | arr => obtain ⟨_,A,_,hA⟩:=hh;cases hA
   | box l =>
     obtain ⟨b1,b2,b3,b4⟩:=hb
     refine ⟨b1,by rw [he];exact b2,by rw [he];exact b3,fun j x hxj => ?_⟩
     obtain ⟨y,hy,hc⟩:=b4 j x hxj
     have hpl : allL At.plain l = true:=by
      cases g with
      | dead => cases ho
      | map => obtain ⟨_,_,hB⟩:=hh;cases hB
      | mps => rcases hh with ⟨_,_,hB⟩ | ⟨_,_,_,_,_,hB⟩ <;> cases hB
      | iter => cases ho
      | lp => cases ho
      | arr => obtain ⟨_,A,_,hA⟩:=hh;cases hA
      | box o1 l1 =>
        obtain ⟨_,_,hB⟩:=hh
        injection hB with hB
        subst hB
        cases o1 with
        | false => cases ho
        | true => exact ho
     exact ⟨y,At.plain_ok (allL_forall hpl x (List.mem_of_getElem? hxj)) hy,by rw [he];exact hc⟩
 ·rcases key r g hr with ⟨hl,hg,he⟩ | ⟨s,i,rfl,_,_,hg,ho,he⟩
  ·rw [he] at hvd ⊢;exact hold.lt r g π o B hg hh hvd
  ·rw [he] at hvd ⊢;exact hr'.rs.lt i g π o B hg hh hvd
 ·rcases key r g hr with ⟨hl,hg,he⟩ | ⟨s,i,rfl,_,_,hg,ho,he⟩
  ·rw [he] at hvd ⊢;exact hold.own r g π B hg hh hvd
  ·rw [he] at hvd ⊢
   have hm:=hr'.rs.own i g π B hg hh hvd
   have hfr:=fresh i g hg ho π true B hh hvd
   cases B with
   | box l => exact ⟨.inr (Nat.le_trans hl hfr),hm.fz⟩
   | map => exact ⟨.inr (Nat.le_trans hl hfr),hm.fz⟩
   | mps => exact ⟨.inr (Nat.le_trans hl hfr),hm.fz⟩
   | it => exact ⟨.inr (Nat.le_trans hl hfr),hm.fz⟩
   | lp => exact ⟨.inr (Nat.le_trans hl hfr),hm.fz⟩
   | arr A => exact ⟨⟨.inr (Nat.le_trans hl hfr),hm.1.fz⟩,hm.2⟩
 ·rcases key r g h1 with ⟨_,hg,he⟩ | ⟨s,i,q1,_,q2,hg,ho,he⟩ <;> rcases key r' g' h2 with ⟨_,hg',he'⟩ | ⟨s',i',q1',_,q2',hg',ho',he'⟩
  ·rw [he] at v1 ⊢;rw [he'] at v2 ⊢;exact hrg.dj r r' g g' π π' o' B B' hg hg' k1 k2 v1 v2 hne
  ·rw [he] at v1 ⊢;rw [he'] at v2 ⊢
   have:=hrg.lt r g π true B hg k1 v1
   have:=fresh i' g' hg' ho' π' o' B' k2 v2
   omega
  ·rw [he] at v1 ⊢;rw [he'] at v2 ⊢
   have:=hrg.lt r' g' π' o' B' hg' k2 v2
   have:=fresh i g hg ho π true B k1 v1
   omega
  ·rw [he] at v1 ⊢;rw [he'] at v2 ⊢
   refine hr'.rs.dj i i' g g' π π' o' B B' hg hg' k1 k2 v1 v2 fun hii => hne ⟨?_,hii.2⟩
   rw [← hii.1] at q2'
   rw [q1,q1',resRegs_inj hreg s s' i q2 q2']
end
end Go.Sy
end
section
namespace Go.Sy
open Go Go.RowKit
def structAs (P : Program) (t : TypeId) : Option (List (Nat × Nat)) :=
 match P.underlying t with
 | some (.struct fields) => fields.toList.mapM (fun f => (P.info? f.type).map fun i => (f.offset,i.size))
 | _ => none
theorem structAs_spec {P : Program} {t : TypeId} {fs : List (Nat × Nat)} (h : structAs P t = some fs) :
  ∃ fields,P.underlying t = some (.struct fields) ∧ fields.toList.mapM (fun f => (P.info? f.type).map fun i => (f.offset,i.size)) = some fs:=by
 unfold structAs at h
 split at h
 ·rename_i fields hu;exact ⟨fields,hu,h⟩
 ·cases h
/-! ### Tables of contracts -/
structure BsOk (P : Program) (bs : List (Nat × Body)) : Prop where
 h : ∀ f b,look bs f = some b → BodyOk P f b
theorem BsOk.nil {P : Program} : BsOk P []:=⟨fun f b h => by cases h⟩
theorem BsOk.cons {P : Program} {bs : List (Nat × Body)} (hb : BsOk P bs) {f : Nat} {b : Body} (h : BodyOk P f b) : BsOk P ((f,b) :: bs):=⟨fun g c hg => by
 unfold look at hg
 split at hg
 ·rename_i he
  obtain rfl:=Nat.eq_of_beq_eq_true he
  obtain rfl:=Option.some.inj hg
  exact h
 ·exact hb.h g c hg⟩
structure CsOk (P : Program) (Γ : Glob) (l : List (Nat × Ctr)) : Prop where
 h : ∀ f c,look l f = some c → FnOk P f ∧ Ctr.Ok P Γ f c
theorem CsOk.nil {P : Program} {Γ : Glob} : CsOk P Γ []:=⟨fun f b h => by cases h⟩
theorem CsOk.cons {P : Program} {Γ : Glob} {l : List (Nat × Ctr)} (hl : CsOk P Γ l) {f : Nat} {c : Ctr} (hf : FnOk P f) (hc : Ctr.Ok P Γ f c) : CsOk P Γ ((f,c) :: l):=⟨fun g c' hg => by
 unfold look at hg
 split at hg
 ·rename_i he
  obtain rfl:=Nat.eq_of_beq_eq_true he
  obtain rfl:=Option.some.inj hg
  exact ⟨hf,hc⟩
 ·exact hl.h g c' hg⟩
end Go.Sy
end
