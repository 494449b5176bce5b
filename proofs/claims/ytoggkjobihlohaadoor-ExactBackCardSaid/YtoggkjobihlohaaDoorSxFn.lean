/-
  The evaluator is sound: regions that draw their order, code, a whole function.
-/
import Derived.Test.YtoggkjobihlohaaDoorSxCode
namespace Go.Sx
open Go Go.RowKit
universe u

section
variable {P : Program} {Γ : Glob} {E : Env} {N0 : Nat} {w0 : World} {ρ : Nat → RI} {st : St} {a : Act} {w : World}

/-! ### Regions that draw: operations that may be taken first, or that come alone; then a tail in one order -/
/-- In every world of the class the operation leaves v, and keeps what lies there. -/
def YieldsG (P : Program) (ops : Array Oper) (S : World → Prop) (o : Oper) (v : Value) (a : Act) : Prop :=
  (Region.wanted o (yielded ops a.tmps) = true ∧ ∀ w, S w → o.quietAt P a (fun w' => Below w.heap.size w w') w v) ∨
  (Region.wanted o (yielded ops a.tmps) = false ∧ v = undef)

theorem YieldsG.of_same {ops : Array Oper} {S : World → Prop} {o : Oper} {v : Value} {a a' : Act} (hy : YieldsG P ops S o v a) (he : execOp a'.eval o = execOp a.eval o)
    (hw : Region.wanted o (yielded ops a'.tmps) = Region.wanted o (yielded ops a.tmps)) : YieldsG P ops S o v a' := by
  unfold YieldsG Oper.quietAt at *
  rw [he, hw]
  exact hy
theorem YieldsG.sub {ops : Array Oper} {S S' : World → Prop} {o : Oper} {v : Value} {a : Act} (hs : ∀ w, S' w → S w) (hy : YieldsG P ops S o v a) : YieldsG P ops S' o v a :=
  hy.imp (fun ⟨h1, h2⟩ => ⟨h1, fun w hw => h2 w (hs w hw)⟩) id

def Shut (S : World → Prop) : Prop := ∀ w w', S w → Below w.heap.size w w' → S w'
theorem Shut.below (w : World) : Shut (fun w' => Below w.heap.size w w') := fun _ _ h h' => h.trans (h'.mono h.size)

theorem YieldsG.wpOp {ops : Array Oper} {S : World → Prop} {i : Nat} {o : Oper} {v : Value} {Q : Exit → Act → World → Prop} (hi : ops[i]? = some o) (hS : Shut S) (hy : YieldsG P ops S o v a) {K : Act → World → Prop}
    (h : ∀ w', S w' → K (a.put o.dst v) w') {w : World} (hw : S w) : wpOp P ops Q i K a w := by
  unfold Go.wpOp
  simp only [hi]
  rcases hy with ⟨hw', hv⟩ | ⟨hw', rfl⟩
  · simp only [hw', if_true]
    refine .inl ?_
    have h3 := hv w hw
    unfold Oper.quietAt at h3
    unfold Oper.wp
    generalize (execOp a.eval o).run P w = r at *
    cases r with
    | ok n w' =>
      cases n <;> simp only [Oper.quietUpon] at h3 <;> simp only [Oper.upon]
      case value u => obtain ⟨e1, e2⟩ := h3; rw [e1, e2]; exact h _ hw
      case skip => obtain ⟨e1, e2⟩ := h3; rw [e1, ← e2]; exact h _ hw
      case enter f args =>
        obtain ⟨e1, hc⟩ := h3
        rw [e1]
        exact hc.mono fun e w'' ⟨he, hw''⟩ => by subst he; exact h _ (hS _ _ hw hw'')
    | halt x w' => simp only [Oper.quietUpon] at h3
  · simp only [hw', Bool.false_eq_true, if_false]; exact h _ hw

theorem wpOp_putG {ops : Array Oper} {S : World → Prop} {j : Nat} {oi oj : Oper} {v : Value} {Q : Exit → Act → World → Prop} (hj : ops[j]? = some oj) (hap : oi.apart ops oj = true)
    (hsi : ∀ cs b, oi.op ≠ .select cs b) (hsj : ∀ cs b, oj.op ≠ .select cs b) (hQ : ∀ c a w, ¬ Q (.panic c) a w) {K : Act → World → Prop} {a : Act} {w : World}
    (hy : YieldsG P ops S oi v a) (h : wpOp P ops Q j K (a.put oi.dst v) w) : wpOp P ops Q j (fun a' w' => YieldsG P ops S oi v a' ∧ K (a'.put oi.dst v) w') a w := by
  obtain ⟨h1, h2, h3⟩ := Oper.apart_spec hap
  have keep : ∀ (a : Act), YieldsG P ops S oi v a → ∀ u, YieldsG P ops S oi v (a.put oj.dst u) := fun a hy u =>
    hy.of_same (execOp_put oi hsi a oj.dst u h3) (wanted_put oi a oj.dst u h3)
  unfold wpOp at *
  simp only [hj] at *
  rw [wanted_put oj a oi.dst v h1] at h
  split
  · rename_i hw
    simp only [hw, if_true] at h
    rcases h with h | ⟨hasks, hlets⟩
    case inr => exact .inr ⟨by unfold Oper.asks at *; rw [execOp_put oj hsj a oi.dst v h1] at hasks; exact hasks, hlets⟩
    refine .inl ?_
    unfold Oper.wp at *
    rw [execOp_put oj hsj a oi.dst v h1] at h
    generalize (execOp a.eval oj).run P w = r at *
    cases r with
    | ok n w' =>
      cases n <;> simp only [Oper.upon] at h ⊢
      case value u => exact ⟨keep a hy u, by rw [← Act.put_comm a v u h2]; exact h⟩
      case skip => exact ⟨keep a hy _, by rw [← Act.put_comm a v undef h2]; exact h⟩
      case defer d =>
        refine ⟨keep { a with defers := d :: a.defers } (hy.of_same rfl rfl) _, ?_⟩
        rw [← Act.put_comm _ v undef h2, ← Act.put_defers]
        exact h
      case enter f args =>
        refine Calls.mono h fun e w'' he => ?_
        cases e with
        | returned u => exact ⟨keep a hy u, by rw [← Act.put_comm a v u h2]; exact he⟩
        | panicked c => exact absurd he (hQ _ _ _)
        | outgrown => exact he
      case row row args => exact Rows.mono h fun u w'' he => ⟨keep a hy u, by rw [← Act.put_comm a v u h2]; exact he⟩
    | halt x w' =>
      cases x <;> simp only [Oper.upon] at h ⊢
      case panic u => exact absurd h (hQ _ _ _)
  · rename_i hw
    simp only [hw] at h
    exact ⟨keep a hy _, by rw [← Act.put_comm a v undef h2]; exact h⟩

/-- The head's operations (those before n) come up in whatever order, till f are done; then L. -/
def anyG (P : Program) (ops : Array Oper) (Q : Exit → Act → World → Prop) (n : Nat) (L : Array Bool → Act → World → Prop) : Nat → (World → Prop) → Array Bool → Act → Prop
  | 0, S, listed, a => ∀ w, S w → L listed a w
  | f + 1, S, listed, a => Region.ready .any ops listed ≠ [] ∧ ∀ i ∈ Region.ready .any ops listed, i < n ∧
      ∀ w, S w → wpOp P ops Q i (fun a' w' => ∃ S', S' w' ∧ (∀ v, S' v → S v) ∧ Shut S' ∧ anyG P ops Q n L f S' (listed.setIfInBounds i true) a') a w

theorem anyG_any {ops : Array Oper} {Q : Exit → Act → World → Prop} {n g : Nat} {L : Array Bool → Act → World → Prop} (hL : ∀ listed a w, L listed a w → wpAny P .any ops Q g listed a w) :
    ∀ (f : Nat) (S : World → Prop) (listed : Array Bool) (a : Act) (w : World), S w → anyG P ops Q n L f S listed a → wpAny P .any ops Q (f + g) listed a w
  | 0, S, listed, a, w, hw, h => by rw [Nat.zero_add]; exact hL _ _ _ (h w hw)
  | f + 1, S, listed, a, w, hw, h => by
    rw [show f + 1 + g = (f + g) + 1 by omega]
    refine ⟨fun h0 => absurd h0 h.1, fun i hi => wpOp_mono (fun a' w' hh => ?_) ((h.2 i hi).2 w hw)⟩
    obtain ⟨S', h1, _, _, h4⟩ := hh
    exact anyG_any hL f S' _ a' w' h1 h4

theorem anyG_first {ops : Array Oper} {Q : Exit → Act → World → Prop} {n i : Nat} {oi : Oper} {v : Value} {L : Array Bool → Act → World → Prop} (hi : ops[i]? = some oi) (hsel : ∀ (j : Nat) (o : Oper) cs b, ops[j]? = some o → o.op ≠ .select cs b)
    (hQ : ∀ c a w, ¬ Q (.panic c) a w) (ht : tailB ops n = true) (hin : i < n) (hdone : ∀ listed a w, L listed a w → ∀ j ∈ Region.ready .any ops listed, n ≤ j) :
    ∀ (f : Nat) (S : World → Prop) (listed : Array Bool) (a : Act), HeadInv .any ops n listed → Shut S → (∃ w, S w) →
      (∀ j oj, ops[j]? = some oj → j ≠ i → listed.getD j true = false → (∀ e ∈ oj.after, Region.binds .any e = true → e.on ≠ i) → oi.apart ops oj = true) →
      i ∈ Region.ready .any ops listed → YieldsG P ops S oi v a → anyG P ops Q n L f S (listed.setIfInBounds i true) (a.put oi.dst v) → anyG P ops Q n L (f + 1) S listed a := by
  have waits : ∀ (listed : Array Bool), HeadInv .any ops n listed → i ∈ Region.ready .any ops listed → ∀ j ∈ Region.ready .any ops listed, j < n := fun listed inv hr j hj => by
    simp only [tailB, Bool.or_eq_true, Bool.and_eq_true, decide_eq_true_eq] at ht
    rcases ht with ht | ⟨⟨h1, h2⟩, h3⟩
    · have := Nat.eq_of_beq_eq_true ht
      obtain ⟨_, oj, hoj, _⟩ := mem_ready.1 hj
      have := (Array.getElem?_eq_some_iff.1 hoj).1
      omega
    · exact Nat.lt_of_not_le fun hle => tail_waits h2 h3 h1 inv _ i rfl hin (mem_ready.1 hr).1 j hle hj
  intro f
  induction f with
  | zero =>
    intro S listed a inv hsh hne _ hr hy H
    refine ⟨fun h0 => (by rw [h0] at hr; cases hr), fun j hj => ?_⟩
    have hjn := waits listed inv hr j hj
    refine ⟨hjn, ?_⟩
    by_cases hji : j = i
    · subst hji; exact fun w hw => hy.wpOp hi hsh (fun w' hw' => ⟨S, hw', fun _ h => h, hsh, H⟩) hw
    · obtain ⟨w, hw⟩ := hne
      exact absurd (hdone _ _ _ (H w hw) j (ready_mono hj hji)) (by omega)
  | succ f ih =>
    intro S listed a inv hsh hne hfree hr hy H
    refine ⟨fun h0 => (by rw [h0] at hr; cases hr), fun j hj => ?_⟩
    have hjn := waits listed inv hr j hj
    refine ⟨hjn, ?_⟩
    by_cases hji : j = i
    · subst hji; exact fun w hw => hy.wpOp hi hsh (fun w' hw' => ⟨S, hw', fun _ h => h, hsh, H⟩) hw
    · intro w hw
      obtain ⟨hjun, oj, hoj, hall⟩ := mem_ready.1 hj
      have hnot : ∀ e ∈ oj.after, Region.binds .any e = true → e.on ≠ i := fun e he hb heq => by
        have h1 := hall e he hb
        rw [heq, getD_both (mem_ready.1 hr).1] at h1
        cases h1
      have h2 := wpOp_putG hoj (hfree j oj hoj hji hjun hnot) (fun cs b => hsel i oi cs b hi) (fun cs b => hsel j oj cs b hoj) hQ hy ((H.2 j (ready_mono hj hji)).2 w hw)
      refine wpOp_mono (fun a' w' h3 => ?_) h2
      obtain ⟨hy', S', b1, b2, b3, b4⟩ := h3
      refine ⟨S', b1, b2, b3, ih S' (listed.setIfInBounds j true) a' (inv.set hj hjn) b3 ⟨w', b1⟩ (fun k ok hk hki hkun hno => hfree k ok hk hki ?_ hno) (ready_mono hr (Ne.symm hji)) (hy'.sub b2) ?_⟩
      · by_cases hjk : j = k
        · subst hjk; exact hjun
        · rwa [getD_set_ne true hjk] at hkun
      · rw [Array.setIfInBounds_comm _ _ hji]; exact b4

/-- One operation of the head, forced or free: what it yields in every world of the class. -/
theorem anyG_step {ops : Array Oper} {Q : Exit → Act → World → Prop} {n i : Nat} {oi : Oper} {v : Value} {L : Array Bool → Act → World → Prop} (hi : ops[i]? = some oi) (hsel : Region.noSelect ops = true)
    (hQ : ∀ c a w, ¬ Q (.panic c) a w) (ht : tailB ops n = true) (hin : i < n) (hdone : ∀ listed a w, L listed a w → ∀ j ∈ Region.ready .any ops listed, n ≤ j)
    {f : Nat} {S : World → Prop} {listed : Array Bool} {a : Act} (inv : HeadInv .any ops n listed) (hsh : Shut S) (hne : ∃ w, S w) (hB : stepB ops i listed = true) (hy : YieldsG P ops S oi v a)
    (H : anyG P ops Q n L f S (listed.setIfInBounds i true) (a.put oi.dst v)) : anyG P ops Q n L (f + 1) S listed a := by
  simp only [stepB, Bool.and_eq_true, Bool.or_eq_true, decide_eq_true_eq] at hB
  obtain ⟨hr, hB⟩ := hB
  have hr' : i ∈ Region.ready .any ops listed := by simpa using hr
  rcases hB with hB | hB
  · refine ⟨fun h0 => (by rw [h0] at hr'; cases hr'), fun j hj => ?_⟩
    rw [hB] at hj
    obtain rfl : j = i := by simpa using hj
    exact ⟨hin, fun w hw => hy.wpOp hi hsh (fun w' hw' => ⟨S, hw', fun _ h => h, hsh, H⟩) hw⟩
  · exact anyG_first hi (Region.noSelect_spec hsel) hQ ht hin hdone f S listed a inv hsh hne (Region.free_spec hi hB) hr' hy H

theorem storeAt_head : ∀ (l : List Oper), ∀ o ∈ l.take (storeAt l), notStore o = true
  | [], o, h => by simp [storeAt] at h
  | x :: l, o, h => by
    simp only [storeAt] at h
    split at h
    · rename_i hx
      simp only [List.take_succ_cons, List.mem_cons] at h
      rcases h with rfl | h
      · exact hx
      · exact storeAt_head l o h
    · simp at h
theorem storeAt_le : ∀ (l : List Oper), storeAt l ≤ l.length
  | [] => Nat.le_refl _
  | x :: l => by
    simp only [storeAt]
    split
    · simp only [List.length_cons]; exact Nat.succ_le_succ (storeAt_le l)
    · exact Nat.zero_le _

theorem evG_sound (hP : ProgOk P Γ E) {l : List Oper} {n : Nat} {Q : Exit → Act → World → Prop} (hn : n ≤ l.length) (hst : ∀ o ∈ l.take n, notStore o = true) (hsel : Region.noSelect l.toArray = true) (ht : tailB l.toArray n = true)
    (hstep : ∀ k, k < n → stepB l.toArray k (upTo l.toArray k) = true) (hseq : Region.seqB .any l.toArray (l.toArray.size - n) n (upTo l.toArray n) = true) (hQ : ∀ c a w, ¬ Q (.panic c) a w) {K : St → Prop}
    (hK : ∀ st' a' w' ρ', K st' → Rel Γ N0 w0 ρ' st' a' w' → wpList P l.toArray Q (l.drop n) a' w') :
    ∀ (hd : List Oper) (k : Nat), hd = (l.take n).drop k → k ≤ n → HeadInv .any l.toArray n (upTo l.toArray k) → ∀ (st : St) (a : Act) (w : World) (ρ : Nat → RI), evG E l l.toArray hd k st K → Rel Γ N0 w0 ρ st a w →
      anyG P l.toArray Q n (fun listed a w => Region.seqB .any l.toArray (l.toArray.size - n) n listed = true ∧ wpList P l.toArray Q (l.drop n) a w) hd.length (fun w' => Below w.heap.size w w') (upTo l.toArray k) a
  | [], k, hd, hk, inv, st, a, w, ρ, he, h => by
    have : k = n := by
      have := congrArg List.length hd
      simp only [List.length_nil, List.length_drop, List.length_take] at this
      omega
    subst this
    exact fun w' hw' => ⟨hseq, hK _ _ _ _ he (h.later hw')⟩
  | o :: rest, k, hd, hk, inv, st, a, w, ρ, he, h => by
    have hkn : k < n := by
      have := congrArg List.length hd
      simp only [List.length_cons, List.length_drop, List.length_take] at this
      omega
    have hmem : o ∈ l.take n := List.mem_of_mem_drop (hd ▸ List.mem_cons_self : o ∈ (l.take n).drop k)
    have hget : l.toArray[k]? = some o := by
      have h1 : ((l.take n).drop k)[0]? = some o := by rw [← hd]; rfl
      rw [List.getElem?_drop, Nat.add_zero, List.getElem?_take_of_lt hkn] at h1
      simpa using h1
    have hrest : rest = (l.take n).drop (k + 1) := by
      have h1 : ((l.take n).drop k).drop 1 = rest := by rw [← hd]; rfl
      rw [← h1, List.drop_drop]
    have hB := hstep k hkn
    have hB2 := hB
    simp only [stepB, Bool.and_eq_true] at hB2
    have hr : k ∈ Region.ready .any l.toArray (upTo l.toArray k) := by simpa using hB2.1
    have inv' : HeadInv .any l.toArray n (upTo l.toArray (k + 1)) := inv.set hr hkn
    have hdone : ∀ (listed : Array Bool) (a : Act) (w : World), (Region.seqB .any l.toArray (l.toArray.size - n) n listed = true ∧ wpList P l.toArray Q (l.drop n) a w) → ∀ j ∈ Region.ready .any l.toArray listed, n ≤ j := fun listed a w hL => seqB_ready hL.1
    have IH := evG_sound hP hn hst hsel ht hstep hseq hQ hK rest (k + 1) hrest hkn inv'
    change evGuard st l.toArray o.guard
      (fun st => match evQ1 E st o with
        | some (q, x) => (match x.sure with | true => oblige q (st.putN o x (fun st => evG E l l.toArray rest (k + 1) st K)) | false => False)
        | none => Forced l k ∧ evOp E st o (fun st => evG E l l.toArray rest (k + 1) st K))
      (fun st => st.putK o.dst (.a .un) (fun st => evG E l l.toArray rest (k + 1) st K)) at he
    rcases evGuard_sound h he with ⟨st', hy, h', hw⟩ | ⟨st', hno, h', hw⟩
    · split at hy
      · rename_i q x hp
        split at hy
        · rename_i hs
          rw [oblige_iff, St.putN_eq] at hy
          obtain ⟨hq, hy⟩ := hy
          obtain ⟨v, hv, hall⟩ := evQ1_soundG hP h' hp hq hs
          exact anyG_step hget hsel hQ ht hkn hdone inv (Shut.below w) ⟨w, Below.refl _ _⟩ hB (.inl ⟨hw, fun w' hw' => hall w' hw'⟩) (IH _ _ w _ hy (h'.put o.dst hv))
        · exact hy.elim
      · obtain ⟨hfo, hy⟩ := hy
        have hfo' : Region.ready .any l.toArray (upTo l.toArray k) = [k] := by simpa [forcedB] using hfo.h
        refine ⟨fun h0 => (by rw [h0] at hr; cases hr), fun j hj => ?_⟩
        rw [hfo'] at hj
        obtain rfl : j = k := by simpa using hj
        refine ⟨hkn, fun w' hw' => ?_⟩
        unfold wpOp
        simp only [hget]
        rw [if_pos hw]
        refine .inl (evOp_soundB hP (h'.later hw') hy fun st'' a'' w'' ρ'' hk'' hr'' hb'' => ?_)
        have hbb : Below w'.heap.size w' w'' := hb'' (hst o hmem)
        exact ⟨fun v => Below w''.heap.size w'' v, Below.refl _ _, fun v hv => (hw'.trans (hbb.mono hw'.size)).trans (hv.mono (Nat.le_trans hw'.size hbb.size)), Shut.below _, IH _ _ _ _ hk'' hr''⟩
    · rw [St.putK_eq] at hno
      exact anyG_step hget hsel hQ ht hkn hdone inv (Shut.below w) ⟨w, Below.refl _ _⟩ hB (.inr ⟨hw, rfl⟩) (IH _ _ w _ hno (h'.put o.dst (x := .a .un) (y := undef) rfl))

theorem OT.heads_nil {t : OT} (h : t.isFin = true) : t = .fin := by cases t <;> first | rfl | cases h
theorem evAlts_sound (hP : ProgOk P Γ E) {l : List Oper} {Q : Exit → Act → World → Prop} {K : St → Prop} (hK : ∀ st' a' w' ρ', K st' → Rel Γ N0 w0 ρ' st' a' w' → Q .normal a' w') :
    ∀ (t : OT) (n : Nat) (listed : Array Bool) (st : St) (a : Act) (w : World) (ρ : Nat → RI), okAlts l.toArray t n listed = true → evAlts E l l.toArray K t st → Rel Γ N0 w0 ρ st a w →
      ∀ i ∈ t.heads, wpOp P l.toArray Q i (wpAny P .any l.toArray Q n (listed.setIfInBounds i true)) a w
  | .fin, _, _, _, _, _, _, _, _, _, _, hi => by cases hi
  | .alt i t m, n, listed, st, a, w, ρ, hok, he, h, j, hj => by
    simp only [okAlts, Bool.and_eq_true, decide_eq_true_eq, Bool.or_eq_true] at hok
    obtain ⟨⟨hheads, hsub⟩, hm⟩ := hok
    change (match l[i]? with
       | some o => evGuard st l.toArray o.guard (fun st => evOp E st o (fun st => OT.next t (K st) (evAlts E l l.toArray K t st))) (fun st => st.putK o.dst (.a .un) (fun st => OT.next t (K st) (evAlts E l l.toArray K t st)))
       | none => False) ∧ evAlts E l l.toArray K m st at he
    obtain ⟨he, hem⟩ := he
    simp only [OT.heads, List.mem_cons] at hj
    rcases hj with rfl | hj
    · have next : ∀ (st' : St) (a' : Act) (w' : World) (ρ' : Nat → RI), OT.next t (K st') (evAlts E l l.toArray K t st') → Rel Γ N0 w0 ρ' st' a' w' → wpAny P .any l.toArray Q n (listed.setIfInBounds j true) a' w' := by
        intro st' a' w' ρ' hk hr
        rcases hsub with hf | ⟨hn, hsub⟩
        · obtain rfl := OT.heads_nil hf
          have hq := hK _ _ _ _ hk hr
          cases n with
          | zero => exact ⟨hheads.symm, hq⟩
          | succ n => exact ⟨fun _ => hq, fun k hk => (by rw [← hheads] at hk; cases hk)⟩
        · cases n with
          | zero => exact absurd rfl hn
          | succ n =>
            cases t with
            | fin => exact ⟨fun _ => hK _ _ _ _ hk hr, fun k hk => (by rw [← hheads] at hk; cases hk)⟩
            | alt i2 t2 m2 =>
              refine ⟨fun h0 => (by rw [← hheads] at h0; cases h0), fun k hk' => ?_⟩
              rw [← hheads] at hk'
              exact evAlts_sound hP hK (.alt i2 t2 m2) n _ st' a' w' ρ' hsub hk hr k hk'
      split at he
      · rename_i o ho
        have ho' : l.toArray[j]? = some o := by simpa using ho
        unfold wpOp
        simp only [ho']
        rcases evGuard_sound h he with ⟨st', hy, h', hw⟩ | ⟨st', hno, h', hw⟩
        · rw [if_pos hw]
          exact .inl (evOp_sound hP h' hy fun st2 a2 w2 ρ2 hk hr => next st2 a2 w2 ρ2 hk hr)
        · rw [if_neg (by rw [hw]; simp)]
          simp only [St.putK_eq] at hno
          exact next _ _ _ _ hno (h'.put o.dst (x := .a .un) (y := undef) rfl)
      · exact he.elim
    · exact evAlts_sound hP hK m n listed st a w ρ hm hem h j hj

theorem evDraw_sound (hP : ProgOk P Γ E) (h : Rel Γ N0 w0 ρ st a w) {id : Nat} {l : List Oper} {K : St → Prop} (he : evDraw E id l st K) {Q : Exit → Act → World → Prop}
    (hK : ∀ st' a' w' ρ', K st' → Rel Γ N0 w0 ρ' st' a' w' → Q .normal a' w') : (Code.region id l.toArray true).wp P Q a w := by
  unfold evDraw at he
  have h1 : Rel Γ N0 w0 ρ st a { w with drawn := w.drawn + 1 } := h.later ((Below.refl w.heap.size w).drew)
  split at he
  · rename_i t _
    obtain ⟨hB, he⟩ := he
    have hB := hB.h
    simp only [okTree, Bool.and_eq_true, decide_eq_true_eq, Bool.not_eq_true'] at hB
    obtain ⟨hheads, hf, hn, hok⟩ := hB
    refine wp_region_any hP.mixed ?_
    cases hs : l.toArray.size with
    | zero => exact absurd hs hn
    | succ n =>
      rw [hs] at hheads hok
      refine ⟨fun h0 => (by rw [← hheads] at h0; cases t with | fin => cases hf | alt i t m => cases h0), fun j hj => ?_⟩
      rw [← hheads] at hj
      exact evAlts_sound hP hK t n _ st a _ ρ hok he h1 j hj
  split at he
  · obtain ⟨hB, he⟩ := he
    refine wp_region_quiet (C := fun w' => Below w.heap.size { w with drawn := w.drawn + 1 } w') hP.mixed hB.h (Below.refl _ _) ?_
    exact evQ_sound (w1 := { w with drawn := w.drawn + 1 }) hP (fun st' a' hk hr w' hw' => hK _ _ _ _ hk (hr.later hw')) _ _ _ he h1
  · obtain ⟨hB, he⟩ := he
    have hB := hB.h
    simp only [lexGB, Bool.and_eq_true, decide_eq_true_eq, List.all_eq_true, List.mem_range] at hB
    obtain ⟨⟨⟨⟨hsel, hn⟩, ht⟩, hstep⟩, hseq⟩ := hB
    have hn' : storeAt l ≤ l.length := storeAt_le l
    have hszl : l.toArray.size = l.length := by simp
    have inv0 : HeadInv .any l.toArray (storeAt l) (upTo l.toArray 0) :=
      ⟨by simp [upTo], fun j oj _ hl => (by rw [upTo, getD_replicate_false] at hl; cases hl), fun t _ ht => getD_in (by simpa [upTo] using ht) (getD_replicate_false _ _)⟩
    let Q' : Exit → Act → World → Prop := fun e a w => match e with | .normal => Q .normal a w | _ => False
    have hQQ : ∀ e a w, Q' e a w → Q e a w := fun e a w hq => by cases e <;> first | exact hq | exact hq.elim
    have H := evG_sound (n := storeAt l) (Q := Q') (w0 := w0) (N0 := N0) (Γ := Γ) hP hn' (storeAt_head l) hsel ht hstep hseq (fun c a w hq => hq) (K := fun st => evOps E l.toArray (l.drop (storeAt l)) st K)
      (fun st' a' w' ρ' hk hr => evOps_sound hP (fun st' a' w' ρ' hk hr => show Q' .normal a' w' from hK _ _ _ _ hk hr) _ _ _ _ _ hk hr) (l.take (storeAt l)) 0 (by simp) (Nat.zero_le _) inv0 st a _ ρ he h1
    refine Code.wp_mono hQQ ?_
    refine wp_region_any hP.mixed ?_
    have := anyG_any (Q := Q') (g := l.toArray.size - storeAt l) (fun listed a' w' hL => by
      have := wpAny_of_seq (md := .any) (Q' := Q') (l.drop (storeAt l)) (storeAt l) listed a' w' (fun j => by simp [List.getElem?_drop]) (by rw [List.length_drop, ← hszl]; exact hL.1) hL.2
      rwa [List.length_drop, ← hszl] at this) _ _ _ _ _ (Below.refl _ _) H
    rwa [List.length_take, Nat.min_eq_left hn', show storeAt l + (l.toArray.size - storeAt l) = l.toArray.size by omega] at this

/-! ### Knowing less -/
/-- The regions that st' has more point nowhere. -/
def nilρ (ρ : Nat → RI) (m : Nat) (gs : List Reg) : Nat → RI := fun r =>
  if r < m then ρ r else ⟨0, 0, (match gs.getD r .dead with | .arr _ tg _ _ => (kindOf tg).m | _ => 0), true, 0⟩
theorem nilρ_lt {m r : Nat} {gs : List Reg} (h : r < m) : nilρ ρ m gs r = ρ r := if_pos h
theorem nilρ_ge {m r : Nat} {gs : List Reg} (h : m ≤ r) : (nilρ ρ m gs r).nil = true ∧ (nilρ ρ m gs r).cap = 0 := by
  simp only [nilρ]; rw [if_neg (by omega)]; exact ⟨rfl, rfl⟩

theorem leA_sound {N N' : Nat} {gs : List Reg} {x x' : At} {y : Value} (hl : leA N N' x x') (h : x.ok N ρ y) : x'.ok N' (nilρ ρ N gs) y := by
  unfold leA at hl
  split at hl
  · trivial
  · exact h
  · rename_i r' lo k
    obtain ⟨h1, h2, rfl⟩ := hl
    obtain ⟨rfl, _⟩ := h
    obtain ⟨h3, h4⟩ := nilρ_ge (ρ := ρ) (gs := gs) h1
    exact ⟨h2, fun _ => ⟨rfl, h4⟩, Nat.zero_le _, .inl (by rw [h3, h4]; simp)⟩
  · obtain rfl := hl; exact h
  · exact h
  · exact h
  · obtain rfl := hl; obtain rfl : y = .bool true := h; exact ⟨rfl, rfl⟩
  · obtain rfl := hl; obtain rfl : y = .bool false := h; exact ⟨rfl, rfl⟩
  · obtain ⟨h1, h2, rfl, rfl, rfl⟩ := hl
    exact ⟨h1, by rw [nilρ_lt h2]; exact h.2⟩
  · obtain ⟨h1, h2, rfl, rfl, rfl⟩ := hl
    exact ⟨h1, by rw [nilρ_lt h2]; exact h.2.1, by rw [nilρ_lt h2]; exact h.2.2⟩
  · obtain ⟨rfl, rfl, h1⟩ := hl
    refine ⟨fun r hr => (h1 r hr).1, ?_⟩
    rw [h.2]
    congr 2
    exact List.map_congr_left fun r hr => by rw [nilρ_lt (h1 r hr).2]
  · exact hl.elim
theorem leAs_sound {N N' : Nat} {gs : List Reg} : ∀ {l l' : List At} {ys : List Value}, leAs N N' l l' → okL (At.ok N ρ) l ys → okL (At.ok N' (nilρ ρ N gs)) l' ys
  | [], [], [], _, _ => trivial
  | _ :: _, _ :: _, _ :: _, hl, h => ⟨leA_sound hl.1 h.1, leAs_sound hl.2 h.2⟩
theorem leC_sound {N N' : Nat} {gs : List Reg} {x x' : C1} {y : Value} (hl : leC N N' x x') (h : x.ok N ρ y) : x'.ok N' (nilρ ρ N gs) y := by
  unfold leC at hl
  split at hl
  · exact leA_sound hl h
  · obtain ⟨ys, h1, h2⟩ := h; exact ⟨ys, h1, leAs_sound hl h2⟩
  · exact hl.elim
theorem leCs_sound {N N' : Nat} {gs : List Reg} : ∀ {l l' : List C1} {ys : List Value}, leCs N N' l l' → okL (C1.ok N ρ) l ys → okL (C1.ok N' (nilρ ρ N gs)) l' ys
  | [], [], [], _, _ => trivial
  | _ :: _, _ :: _, _ :: _, hl, h => ⟨leC_sound hl.1 h.1, leCs_sound hl.2 h.2⟩
theorem leT_sound {N N' : Nat} {gs : List Reg} {x x' : Tm} {y : Value} (hl : leT N N' x x') (h : x.ok N ρ y) : x'.ok N' (nilρ ρ N gs) y := by
  unfold leT at hl
  split at hl
  · trivial
  · exact leA_sound hl h
  · obtain ⟨ys, h1, h2⟩ := h; exact ⟨ys, h1, leAs_sound hl h2⟩
  · obtain ⟨ys, h1, h2⟩ := h; exact ⟨ys, h1, leCs_sound hl h2⟩
  · exact hl.elim
theorem leTs_sound {N N' : Nat} {gs : List Reg} : ∀ {l l' : List Tm} {ys : List Value}, leTs N N' l l' → okL (Tm.ok N ρ) l ys → okL (Tm.ok N' (nilρ ρ N gs)) l' ys
  | [], [], [], _, _ => trivial
  | _ :: _, _ :: _, _ :: _, hl, h => ⟨leT_sound hl.1 h.1, leTs_sound hl.2 h.2⟩
theorem leAs_get {M N : Nat} : ∀ {l l' : List At}, leAs M N l l' → ∀ (j : Nat) (x' : At), l'[j]? = some x' → ∃ x, l[j]? = some x ∧ leA M N x x'
  | [], [], _, j, x', h => by simp at h
  | x :: _, _ :: _, hl, 0, x', h => by simp at h; subst h; exact ⟨x, rfl, hl.1⟩
  | _ :: _, _ :: _, hl, j + 1, x', h => by
    obtain ⟨x, h1, h2⟩ := leAs_get hl.2 j x' (by simpa using h)
    exact ⟨x, by simpa using h1, h2⟩
theorem leR_sound {N N' : Nat} {gs : List Reg} {g g' : Reg} {I : RI} (hl : leR N N' g g') (h : g.ok N ρ N0 w I) : g'.ok N' (nilρ ρ N gs) N0 w I ∧ (g'.own I → g.own I) := by
  unfold leR at hl
  split at hl
  · exact ⟨trivial, fun hh => hh.elim⟩
  · obtain ⟨rfl, hl⟩ := hl
    obtain ⟨h1, h2, h3, h4⟩ := h
    refine ⟨⟨h1, h2, h3, fun j x' hx => ?_⟩, fun hh => hh⟩
    obtain ⟨x, hx, hle⟩ := leAs_get hl j x' hx
    obtain ⟨y, hy, hc⟩ := h4 j x hx
    exact ⟨y, leA_sound hle hy, hc⟩
  · subst hl
    rename_i hnd hnb
    refine ⟨?_, fun hh => hh⟩
    cases g with
    | dead => trivial
    | box o l => exact absurd rfl (hnb o l o l rfl)
    | arr te tg xs o => exact h
theorem leRs_nil {M N : Nat} : ∀ {l' : List Reg}, leRs M N [] l' → ∀ (r : Nat) (g' : Reg), l'[r]? = some g' → nilR g'
  | [], _, r, g', h => by simp at h
  | g :: _, hl, 0, g', h => by simp at h; subst h; exact hl.1
  | _ :: _, hl, r + 1, g', h => leRs_nil hl.2 r g' (by simpa using h)
theorem leRs_get {M N : Nat} : ∀ {l l' : List Reg}, leRs M N l l' → ∀ (r : Nat) (g' : Reg), l'[r]? = some g' → (∃ g, l[r]? = some g ∧ leR M N g g') ∨ (l.length ≤ r ∧ nilR g')
  | _, [], _, r, g', h => by simp at h
  | g :: _, _ :: _, hl, 0, g', h => by simp at h; subst h; exact .inl ⟨g, rfl, hl.1⟩
  | _ :: _, _ :: _, hl, r + 1, g', h => by
    rcases leRs_get hl.2 r g' (by simpa using h) with ⟨g, h1, h2⟩ | ⟨h1, h2⟩
    · exact .inl ⟨g, by simpa using h1, h2⟩
    · exact .inr ⟨by simp; omega, h2⟩
  | [], _ :: _, hl, r, g', h => .inr ⟨Nat.zero_le _, leRs_nil hl r g' h⟩
theorem Rel.le (h : Rel Γ N0 w0 ρ st a w) {st' : St} (hl : Le st st') : ∃ ρ', Rel Γ N0 w0 ρ' st' a w := by
  unfold Le at hl
  rw [lenK_eq, lenK_eq] at hl
  obtain ⟨h1, h2⟩ := hl
  have lt : ∀ {r : Nat} {g : Reg}, st.rg[r]? = some g → r < st.rg.length := fun hr => (List.getElem?_eq_some_iff.1 hr).1
  have nown : ∀ {r : Nat} (g : Reg), st.rg.length ≤ r → nilR g → ¬ g.own (nilρ ρ st.rg.length st'.rg r) := fun g hr hn ho => by
    obtain ⟨h3, _⟩ := nilρ_ge (ρ := ρ) (gs := st'.rg) hr
    cases g with
    | dead => exact ho
    | box o l => exact hn
    | arr te tg xs o => rw [ho.2] at h3; cases h3
  refine ⟨nilρ ρ st.rg.length st'.rg, leTs_sound h1 h.tm, h.df, fun r g' hr => ?_, fun r r' g1 g2 e1 e2 o1 o2 hne => ?_, h.bl, h.lo, h.gl, h.gn⟩
  · rcases leRs_get h2 r g' hr with ⟨g, hg, hle⟩ | ⟨hge, hn⟩
    · rw [nilρ_lt (lt hg)]; exact (leR_sound hle (h.rg r g hg)).1
    · cases g' with
      | dead => trivial
      | box o l => exact hn.elim
      | arr te tg xs o =>
        obtain ⟨rfl, htg⟩ := hn
        obtain ⟨h3, h4⟩ := nilρ_ge (ρ := ρ) (gs := st'.rg) hge
        refine ⟨kindOf_ok tg htg, ?_, fun _ => rfl, fun hf => ?_, fun i b hb => by simp at hb⟩
        · simp only [nilρ]; rw [if_neg (by omega)]; simp [List.getD, hr]
        · rw [h3] at hf; cases hf
  · rcases leRs_get h2 r g1 e1 with ⟨g1', hg1, hle1⟩ | ⟨hge, hn⟩
    · rcases leRs_get h2 r' g2 e2 with ⟨g2', hg2, hle2⟩ | ⟨hge, hn⟩
      · rw [nilρ_lt (lt hg1)] at o1 ⊢
        rw [nilρ_lt (lt hg2)] at o2 ⊢
        exact h.dj r r' g1' g2' hg1 hg2 ((leR_sound (gs := st'.rg) hle1 (h.rg r g1' hg1)).2 o1) ((leR_sound (gs := st'.rg) hle2 (h.rg r' g2' hg2)).2 o2) hne
      · exact absurd o2 (nown _ hge hn)
    · exact absurd o1 (nown _ hge hn)

/-! ### Code -/
def Ex.exit' : Ex → Exit
  | .normal => .normal
  | .exit id => .exit id
  | .ret => .ret

theorem forgetOps_some : ∀ (l : List Oper) (tm : List Tm) (k : List Tm → Prop), forgetOps l tm k → ∃ tm', k tm'
  | [], tm, k, h => ⟨tm, h⟩
  | o :: l, tm, k, h => by
    change (match o.dst with | some d => setK tm d (.a .any) (fun tm => forgetOps l tm k) | none => forgetOps l tm k) at h
    split at h
    · rw [setK_eq] at h; exact forgetOps_some l _ k h
    · exact forgetOps_some l tm k h
theorem forgetK_some : ∀ (c : Code) (tm : List Tm) (k : List Tm → Prop), forgetK c tm k → ∃ tm', k tm'
  | .skip, tm, k, h => ⟨tm, h⟩
  | .region _ ops _, tm, k, h => forgetOps_some ops.toList tm k h
  | .seq a b, tm, k, h => by
    change forgetK a tm (fun tm => forgetK b tm k) at h
    obtain ⟨tm1, h1⟩ := forgetK_some a tm _ h
    exact forgetK_some b tm1 k h1
  | .cond _ a b, tm, k, h => by
    change forgetK a tm (fun tm => forgetK b tm k) at h
    obtain ⟨tm1, h1⟩ := forgetK_some a tm _ h
    exact forgetK_some b tm1 k h1
  | .block _ a, tm, k, h => forgetK_some a tm k h
  | .loop a, tm, k, h => forgetK_some a tm k h
  | .rangeFunc .., tm, k, h => ⟨tm, h⟩
  | .exit _, tm, k, h => ⟨tm, h⟩
  | .scope a, tm, k, h => forgetK_some a tm k h
  | .label _, tm, k, h => ⟨tm, h⟩
  | .goto _, tm, k, h => ⟨tm, h⟩
  | .ret, tm, k, h => ⟨tm, h⟩
  | .refuse _, tm, k, h => ⟨tm, h⟩

theorem evC_sound (hP : ProgOk P Γ E) : ∀ (c : Code) (st : St) (a : Act) (w : World) (ρ : Nat → RI) (K : Ex → St → Prop) (Q : Exit → Act → World → Prop), evC E c st K → Rel Γ N0 w0 ρ st a w →
    (∀ e st' a' w' ρ', K e st' → Rel Γ N0 w0 ρ' st' a' w' → Q e.exit' a' w') → c.wp P Q a w
  | .skip, st, a, w, ρ, K, Q, he, h, hK => wp_skip (hK .normal _ _ _ _ he h)
  | .region id ops draw, st, a, w, ρ, K, Q, he, h, hK => by
    have e1 : ops = ops.toList.toArray := by simp
    cases draw with
    | true =>
      rw [e1]
      change evDraw E id ops.toList st (K .normal) at he
      exact evDraw_sound hP h he fun st' a' w' ρ' hk hr => hK .normal _ _ _ _ hk hr
    | false =>
      change evOps E ops ops.toList st (K .normal) at he
      exact wp_region_list (evOps_sound hP (fun st' a' w' ρ' hk hr => hK .normal _ _ _ _ hk hr) _ _ _ _ _ he h)
  | .seq x y, st, a, w, ρ, K, Q, he, h, hK => by
    obtain ⟨tm, rg⟩ := st
    change (match E.cuts x with
      | true => forgetK x tm (fun tm' => evC E x ⟨tm, rg⟩ (fun e st' => match e with | .normal => Le st' ⟨tm', rg⟩ | e => K e st') ∧ evC E y ⟨tm', rg⟩ K)
      | false => evC E x ⟨tm, rg⟩ (fun e st => match e with | .normal => evC E y st K | e => K e st)) at he
    split at he
    · obtain ⟨tm', h1, h2⟩ := forgetK_some x tm _ he
      refine wp_seq (evC_sound hP x ⟨tm, rg⟩ a w ρ _ _ h1 h fun e st' a' w' ρ' hk hr => ?_)
      cases e with
      | normal =>
        obtain ⟨ρ2, hr2⟩ := hr.le hk
        exact evC_sound hP y ⟨tm', rg⟩ a' w' ρ2 _ _ h2 hr2 hK
      | exit id => exact hK (.exit id) _ _ _ _ hk hr
      | ret => exact hK .ret _ _ _ _ hk hr
    refine wp_seq (evC_sound hP x ⟨tm, rg⟩ a w ρ _ _ he h fun e st' a' w' ρ' hk hr => ?_)
    cases e with
    | normal => exact evC_sound hP y st' a' w' ρ' _ _ hk hr hK
    | exit id => exact hK (.exit id) _ _ _ _ hk hr
    | ret => exact hK .ret _ _ _ _ hk hr
  | .cond c x y, st, a, w, ρ, K, Q, he, h, hK => by
    change (match ev st c with
      | some (.a .tt) => evC E x st K
      | some (.a .ff) => evC E y st K
      | some (.a (.v (.bool t))) => (t = true → evC E x st K) ∧ (t = false → evC E y st K)
      | _ => False) at he
    split at he
    · rename_i hc; exact wp_cond_true (ev_sound h hc) (evC_sound hP x st a w ρ _ _ he h hK)
    · rename_i hc; exact wp_cond_false (ev_sound h hc) (evC_sound hP y st a w ρ _ _ he h hK)
    · rename_i t hc
      have hv : a.eval c = .bool t := (ev_sound h hc).1
      cases t with
      | true => exact wp_cond_true hv (evC_sound hP x st a w ρ _ _ (he.1 rfl) h hK)
      | false => exact wp_cond_false hv (evC_sound hP y st a w ρ _ _ (he.2 rfl) h hK)
    · exact he.elim
  | .block id body, st, a, w, ρ, K, Q, he, h, hK => by
    change evC E body st (fun e st => match e with
      | .exit id' => (match Nat.beq id id' with | true => K .normal st | false => K (.exit id') st)
      | e => K e st) at he
    refine wp_block (evC_sound hP body st a w ρ _ _ he h fun e st' a' w' ρ' hk hr => ?_)
    cases e with
    | normal => exact hK .normal _ _ _ _ hk hr
    | ret => exact hK .ret _ _ _ _ hk hr
    | exit id' =>
      simp only [Ex.exit', Exit.inBlock]
      simp only at hk
      split at hk
      · rename_i hid; rw [if_pos (Nat.eq_of_beq_eq_true hid).symm]; exact hK .normal _ _ _ _ hk hr
      · rename_i hid; rw [if_neg (fun e => by subst e; simp at hid)]; exact hK (.exit id') _ _ _ _ hk hr
  | .loop body, st, a, w, ρ, K, Q, he, h, hK => by
    change evLoop (fun st K => evC E body st K) E.un st K at he
    have inv : ∀ (st : St) (a : Act) (w : World) (ρ : Nat → RI) (K : Ex → St → Prop) (Q : Exit → Act → World → Prop), LoopInv (fun st K => evC E body st K) st K → Rel Γ N0 w0 ρ st a w →
        (∀ e st' a' w' ρ', K e st' → Rel Γ N0 w0 ρ' st' a' w' → Q e.exit' a' w') → (Code.loop body).wp P Q a w := by
      intro st a w ρ K Q he h hK
      obtain ⟨X, I, S, μ, x0, hI0, hle, hround⟩ := he
      obtain ⟨ρ0, h0⟩ := h.le hle
      refine wp_loop_ghost (fun n a w => ∃ x ρ, I x ∧ μ x = n ∧ Rel Γ N0 w0 ρ (S x) a w) (μ x0) ⟨x0, ρ0, hI0, rfl, h0⟩ ?_
      rintro n a1 w1 ⟨x, ρ1, hIx, rfl, hr⟩
      refine evC_sound hP body (S x) a1 w1 ρ1 _ _ (hround x hIx) hr fun e st' a' w' ρ' hk hr' => ?_
      cases e with
      | normal =>
        obtain ⟨x', hI', hle', hlt⟩ := hk
        obtain ⟨ρ2, h2⟩ := hr'.le hle'
        exact ⟨μ x', hlt, x', ρ2, hI', rfl, h2⟩
      | exit id => exact hK (.exit id) _ _ _ _ hk hr'
      | ret => exact hK .ret _ _ _ _ hk hr'
    unfold evLoop at he
    split at he
    · exact inv st a w ρ K Q he h hK
    · rename_i n _
      refine wp_loop_rounds (n + 1) ?_
      generalize n + 1 = m at he
      clear inv
      induction m generalizing st a w ρ with
      | zero => exact he.elim
      | succ m ih =>
        change evC E body st (fun e st' => match e with | .normal => roundsK (fun st K => evC E body st K) m st' K | e => K e st') at he
        refine evC_sound hP body st a w ρ _ _ he h fun e st' a' w' ρ' hk hr => ?_
        cases e with
        | normal => exact ih st' a' w' ρ' hr hk
        | exit id => exact hK (.exit id) _ _ _ _ hk hr
        | ret => exact hK .ret _ _ _ _ hk hr
  | .exit id, st, a, w, ρ, K, Q, he, h, hK => wp_exit (hK (.exit id) _ _ _ _ he h)
  | .ret, st, a, w, ρ, K, Q, he, h, hK => wp_ret (hK .ret _ _ _ _ he h)
  | .rangeFunc .., _, _, _, _, _, _, he, _, _ => he.elim
  | .scope _, _, _, _, _, _, _, he, _, _ => he.elim
  | .label _, _, _, _, _, _, _, he, _, _ => he.elim
  | .goto _, _, _, _, _, _, _, he, _, _ => he.elim
  | .refuse _, _, _, _, _, _, _, he, _, _ => he.elim

/-! ### A function's results -/
def resSem (tmps : Array Value) : ResultVar → Sem Value
  | .tmp t => pure (tmps.getD t undef)
  | .cell a t => do loadVar t (← asAddr (tmps.getD a undef))

theorem evRes1_sound (hE : EnvOk P Γ E) (h : Rel Γ N0 w0 ρ st a w) {r : ResultVar} {q : List Prop} {x : Tm} (he : evRes1 E st r = some (q, x)) (hq : obl q) :
    ∃ y, (resSem a.tmps r).run P w = .ok y w ∧ x.ok st.rg.length ρ y := by
  cases r with
  | tmp t =>
    simp only [evRes1, Option.some.injEq, Prod.mk.injEq] at he
    obtain ⟨rfl, rfl⟩ := he
    exact ⟨_, rfl, getD_ok h t⟩
  | cell ad t =>
    simp only [evRes1] at he
    obtain ⟨y, h1, h2⟩ := evLoad_sound hE h (getD_ok h ad) he hq
    refine ⟨y, ?_, h2⟩
    -- the slot holds an address
    unfold evLoad at he
    split at he
    · rename_i r i j hx
      have hv := getD_ok h ad
      rw [hx] at hv
      obtain ⟨_, hv⟩ := hv
      simp only [resSem]
      rw [hv] at h1 ⊢
      simpa [Instr.loadAt, Instr.sureAddr, asAddr] using h1
    · cases he

theorem c1Of_sound {N : Nat} {x : Tm} {c : C1} {y : Value} (he : c1Of x = some c) (h : x.ok N ρ y) : c.ok N ρ y := by
  cases x <;> simp only [c1Of, Option.some.injEq, reduceCtorEq] at he <;> subst he <;> exact h

theorem evResL_sound (hE : EnvOk P Γ E) (h : Rel Γ N0 w0 ρ st a w) : ∀ {rs : List ResultVar} {q : List Prop} {l : List C1}, evResL E st rs = some (q, l) → obl q →
    ∃ ys : List Value, (rs.mapM (resSem a.tmps)).run P w = .ok ys w ∧ okL (C1.ok st.rg.length ρ) l ys
  | [], q, l, he, hq => by
    simp only [evResL, Option.some.injEq, Prod.mk.injEq] at he
    obtain ⟨rfl, rfl⟩ := he
    exact ⟨[], by simp, trivial⟩
  | r :: rs, q, l, he, hq => by
    simp only [evResL] at he
    split at he
    · rename_i q1 t q2 l2 h1 h2
      split at he
      · rename_i c hc
        simp only [Option.some.injEq, Prod.mk.injEq] at he
        obtain ⟨rfl, rfl⟩ := he
        rw [obl_append] at hq
        obtain ⟨y, r1, k1⟩ := evRes1_sound hE h h1 hq.1
        obtain ⟨ys, r2, k2⟩ := evResL_sound hE h h2 hq.2
        exact ⟨y :: ys, by simp only [List.mapM_cons, Sem.run_bind, r1, r2, Result.andThen_ok, Sem.run_pure], c1Of_sound hc k1, k2⟩
      · cases he
    · cases he

theorem results_eq (fn : Func) (tmps : Array Value) : results fn tmps = (do let vs ← fn.results.mapM (resSem tmps); pure (if h : vs.size = 1 then vs[0] else .tuple vs)) := by
  unfold results
  congr 1

theorem run_results {fn : Func} {rs : List ResultVar} (hr : fn.results = rs.toArray) {ys : List Value} (h : (rs.mapM (resSem a.tmps)).run P w = .ok ys w) :
    (results fn a.tmps).run P w = .ok (match ys with | [y] => y | ys => .tuple ys.toArray) w := by
  rw [results_eq, hr]
  simp only [List.mapM_toArray, Sem.run_bind, Sem.run_map, h, Result.andThen_ok, Sem.run_pure]
  congr 1
  match ys with
  | [] => simp
  | [y] => simp
  | y :: z :: zs => simp

theorem evRes_sound (hE : EnvOk P Γ E) (h : Rel Γ N0 w0 ρ st a w) {fn : Func} {rs : List ResultVar} (hr : fn.results = rs.toArray) {q : List Prop} {x : Tm} (he : evRes E st rs = some (q, x)) (hq : obl q) :
    ∃ y, (results fn a.tmps).run P w = .ok y w ∧ x.ok st.rg.length ρ y := by
  unfold evRes at he
  split at he
  · obtain ⟨y, h1, h2⟩ := evRes1_sound hE h he hq
    exact ⟨y, run_results hr (ys := [y]) (by simp [h1]), h2⟩
  · rename_i hne
    split at he
    · rename_i q' l hl
      simp only [Option.some.injEq, Prod.mk.injEq] at he
      obtain ⟨rfl, rfl⟩ := he
      obtain ⟨ys, h1, h2⟩ := evResL_sound hE h hl hq
      refine ⟨_, run_results hr h1, ?_⟩
      have hlen : ys.length ≠ 1 := by
        intro hh
        have e1 : l.length = 1 := by rw [h2.length, hh]
        match l, e1 with
        | [c], _ =>
          have : rs.length = 1 := by
            clear h1 hr
            have gen : ∀ (rs : List ResultVar) (q : List Prop) (l : List C1), evResL E st rs = some (q, l) → rs.length = l.length := by
              intro rs
              induction rs with
              | nil => intro q l hl; simp only [evResL, Option.some.injEq, Prod.mk.injEq] at hl; obtain ⟨_, rfl⟩ := hl; rfl
              | cons r rs ih =>
                intro q l hl
                simp only [evResL] at hl
                split at hl
                · rename_i h1 h2
                  split at hl
                  · simp only [Option.some.injEq, Prod.mk.injEq] at hl
                    obtain ⟨_, rfl⟩ := hl
                    simp [ih _ _ h2]
                  · cases hl
                · cases hl
            exact gen rs _ _ hl
          match rs, this with
          | [r], _ => exact hne r rfl
      match ys, hlen with
      | [], _ => exact ⟨[], rfl, h2⟩
      | [y], hlen => exact absurd rfl hlen
      | y :: z :: zs, _ => exact ⟨_, rfl, h2⟩
    · cases he

theorem eqA_sound {N : Nat} {x y : At} {v : Value} (he : eqA x y) (h : x.ok N ρ v) : y.ok N ρ v := by
  unfold eqA at he
  split at he
  · exact h
  · exact h
  · subst he; obtain rfl : v = .bool true := h; exact ⟨rfl, rfl⟩
  · subst he; obtain rfl : v = .bool false := h; exact ⟨rfl, rfl⟩
  · subst he; exact h.1
  · subst he; exact h.1
  · trivial
  · obtain ⟨rfl, rfl, rfl⟩ := he; exact h
  · obtain ⟨rfl, rfl, rfl, rfl⟩ := he; exact h
  · obtain ⟨rfl, rfl⟩ := he; exact h
  · exact h
  · obtain ⟨rfl, rfl⟩ := he; exact h
  · subst he; exact h
  · subst he; exact h
  · exact he.elim
theorem eqAs_sound {N : Nat} : ∀ {l l' : List At} {ys : List Value}, eqAs l l' → okL (At.ok N ρ) l ys → okL (At.ok N ρ) l' ys
  | [], [], [], _, _ => trivial
  | _ :: _, _ :: _, _ :: _, he, h => ⟨eqA_sound he.1 h.1, eqAs_sound he.2 h.2⟩
theorem eqC_sound {N : Nat} {x y : C1} {v : Value} (he : eqC x y) (h : x.ok N ρ v) : y.ok N ρ v := by
  cases x <;> cases y <;> first | exact he.elim | skip
  · exact eqA_sound he h
  · obtain ⟨ys, h1, h2⟩ := h; exact ⟨ys, h1, eqAs_sound he h2⟩
theorem eqCs_sound {N : Nat} : ∀ {l l' : List C1} {ys : List Value}, eqCs l l' → okL (C1.ok N ρ) l ys → okL (C1.ok N ρ) l' ys
  | [], [], [], _, _ => trivial
  | _ :: _, _ :: _, _ :: _, he, h => ⟨eqC_sound he.1 h.1, eqCs_sound he.2 h.2⟩
theorem eqT_sound {N : Nat} {x y : Tm} {v : Value} (he : eqT x y) (h : x.ok N ρ v) : y.ok N ρ v := by
  cases x <;> cases y <;> first | exact he.elim | skip
  · exact eqA_sound he h
  · obtain ⟨ys, h1, h2⟩ := h; exact ⟨ys, h1, eqAs_sound he h2⟩
  · obtain ⟨ys, h1, h2⟩ := h; exact ⟨ys, h1, eqCs_sound he h2⟩

/-! ### A function -/
/-- A region as a callee sees it: none of its own. -/
def Reg.ext : Reg → Reg
  | .dead => .dead
  | .box _ l => .box false l
  | .arr te tg xs _ => .arr te tg xs false

theorem Reg.ok.ext {N : Nat} {I : RI} {g : Reg} (h : g.ok N ρ N0 w I) (hl : N0 ≤ w.heap.size) : g.ext.ok N ρ w.heap.size w I := by
  cases g with
  | dead => trivial
  | box o l =>
    obtain ⟨h1, h2, h3, h4⟩ := h
    refine ⟨h1, fun hh => by simp at hh, fun _ => ?_, h4⟩
    cases o with
    | true => exact (h2 rfl).2.1
    | false => exact Nat.lt_of_lt_of_le (h3 rfl) hl
  | arr te tg xs o =>
    obtain ⟨h1, h2, h3, h4, h5⟩ := h
    refine ⟨h1, h2, h3, fun hn => ⟨fun hh => by simp at hh, fun _ => ?_⟩, h5⟩
    cases o with
    | true => exact ((h4 hn).1 rfl).2.1
    | false => exact Nat.lt_of_lt_of_le ((h4 hn).2 rfl) hl
theorem Reg.ext_own {I : RI} {g : Reg} (h : g.ext.own I) : False := by
  cases g with
  | dead => exact h
  | box o l => simp [Reg.ext, Reg.own] at h
  | arr te tg xs o => simp [Reg.ext, Reg.own] at h

/-- The state in which a function's body begins. -/
def entry (n : Nat) (args : List Tm) (rg : List Reg) : St := ⟨args ++ List.replicate (n - args.length) (.a .un), rg.map Reg.ext⟩

theorem Rel.entry {n : Nat} {args : List Tm} {rg : List Reg} {vs : List Value} (hl : N0 ≤ w.heap.size) (hgn : Γ.n ≤ N0) (hgl : Γ.G w) (hargs : okL (Tm.ok rg.length ρ) args vs)
    (hrg : ∀ (r : Nat) (g : Reg), rg[r]? = some g → g.ok rg.length ρ N0 w (ρ r)) :
    Rel Γ w.heap.size w ρ (entry n args rg) { tmps := vs.toArray ++ Array.replicate (n - vs.length) undef, defers := [] } w where
  tm := by
    have : ∀ m, okL (Tm.ok rg.length ρ) (List.replicate m (.a .un)) (List.replicate m undef) := fun m => okL.replicate (x := Tm.a .un) (y := undef) rfl m
    simp only [Sx.entry, List.length_map]
    have h := hargs.append (this (n - args.length))
    rw [hargs.length] at h ⊢
    simpa using h
  df := rfl
  rg := fun r g hg => by
    simp only [Sx.entry, List.getElem?_map, Option.map_eq_some_iff, List.length_map] at hg ⊢
    obtain ⟨g', hg', rfl⟩ := hg
    exact (hrg r g' hg').ext hl
  dj := fun r r' g g' h1 _ o1 _ _ => by
    simp only [Sx.entry, List.getElem?_map, Option.map_eq_some_iff] at h1
    obtain ⟨g1, _, rfl⟩ := h1
    exact (Reg.ext_own o1).elim
  bl := Below.refl _ _
  lo := Nat.le_refl _
  gl := hgl
  gn := Nat.le_trans hgn hl

/-! ### Values that speak of no region -/
def At.plain : At → Bool
  | .p .. | .sl .. | .fn .. => false
  | _ => true
def C1.plain : C1 → Bool
  | .a x => x.plain
  | .agg l => allL At.plain l
def Tm.plain : Tm → Bool
  | .a x => x.plain
  | .agg l => allL At.plain l
  | .tup l => allL C1.plain l
theorem At.plain_ok {N N' : Nat} {ρ ρ' : Nat → RI} {x : At} {y : Value} (hp : x.plain = true) (h : x.ok N ρ y) : x.ok N' ρ' y := by
  cases x <;> first | exact h | simp [At.plain] at hp
theorem okL_all {α : Type} {R R' : α → Value → Prop} {f : α → Bool} (hf : ∀ x y, f x = true → R x y → R' x y) : ∀ {l : List α} {ys : List Value}, allL f l = true → okL R l ys → okL R' l ys
  | [], [], _, _ => trivial
  | x :: l, y :: ys, hs, h => by
    simp only [allL] at hs
    split at hs
    · rename_i hx; exact ⟨hf x y hx h.1, okL_all hf hs h.2⟩
    · cases hs
theorem C1.plain_ok {N N' : Nat} {ρ ρ' : Nat → RI} {x : C1} {y : Value} (hp : x.plain = true) (h : x.ok N ρ y) : x.ok N' ρ' y := by
  cases x with
  | a x => exact At.plain_ok hp h
  | agg l => obtain ⟨ys, h1, h2⟩ := h; exact ⟨ys, h1, okL_all (fun _ _ => At.plain_ok) hp h2⟩
theorem Tm.plain_ok {N N' : Nat} {ρ ρ' : Nat → RI} {x : Tm} {y : Value} (hp : x.plain = true) (h : x.ok N ρ y) : x.ok N' ρ' y := by
  cases x with
  | a x => exact At.plain_ok hp h
  | agg l => obtain ⟨ys, h1, h2⟩ := h; exact ⟨ys, h1, okL_all (fun _ _ => At.plain_ok) hp h2⟩
  | tup l => obtain ⟨ys, h1, h2⟩ := h; exact ⟨ys, h1, okL_all (fun _ _ => C1.plain_ok) hp h2⟩

/-- **A function that has a functional contract.** -/
theorem Ctr.fn_ok (hP : ProgOk P Γ E) {f : FuncId} {fn : Func} {c : Code} {rs : List ResultVar} {n : Nat} (hf : P.funcs[f]? = some fn) (hb : fn.body = some c) (hn : fn.ntmps = n) (hr : fn.results = rs.toArray)
    {F : List Tm → List Reg → Option (List Prop × Tm)}
    (H : ∀ args rg q t, F args rg = some (q, t) → obl q → t.plain = true ∧ evFn E rs c (Sx.entry n args rg) t) : Ctr.Ok P Γ f (.fn F) := by
  intro args rg q t hF hq N0 ρ w vs hl hgn hgl hargs hrg _
  obtain ⟨hp, hev⟩ := H args rg q t hF hq
  refine calls_of_wp hf hb ?_
  rw [hn]
  have hrel := Rel.entry (n := n) hl hgn hgl hargs hrg
  rw [show vs.toArray.size = vs.length by simp]
  refine evC_sound hP c _ _ _ _ _ _ hev hrel fun e st' a' w' ρ' hk hr' => ?_
  have fin : (match evRes E st' rs with | some (q, x) => oblige q (eqT x t) | none => False) → ∃ v, (results fn a'.tmps).run P w' = .ok v w' ∧ t.ok st'.rg.length ρ' v := by
    intro hk
    split at hk
    · rename_i q' x hx
      rw [oblige_iff] at hk
      obtain ⟨y, h1, h2⟩ := evRes_sound hP.env hr' hr hx hk.1
      exact ⟨y, h1, eqT_sound hk.2 h2⟩
    · exact hk.elim
  cases e with
  | exit id => exact hk.elim
  | normal => obtain ⟨v, h1, h2⟩ := fin hk; exact ⟨hr'.df, v, h1, v, rfl, Tm.plain_ok hp h2, hr'.bl⟩
  | ret => obtain ⟨v, h1, h2⟩ := fin hk; exact ⟨hr'.df, v, h1, v, rfl, Tm.plain_ok hp h2, hr'.bl⟩

/-- A state's slots: nothing known but these. -/
def slots (n : Nat) : List (Nat × Tm) → List Tm
  | [] => List.replicate n (.a .any)
  | (i, x) :: l => (slots n l).set i x

/-- **A function that has a functional contract**, whose arguments speak of no region. -/
theorem Ctr.fn_ok0 (hP : ProgOk P Γ E) {f : FuncId} {fn : Func} {c : Code} {rs : List ResultVar} {n : Nat} (hf : P.funcs[f]? = some fn) (hb : fn.body = some c) (hn : fn.ntmps = n) (hr : fn.results = rs.toArray)
    {G : List Tm → Option (List Prop × Tm)}
    (H : ∀ args q t, G args = some (q, t) → obl q → t.plain = true ∧ allL Tm.plain args = true ∧ evFn E rs c (Sx.entry n args []) t) : Ctr.Ok P Γ f (.fn fun args _ => G args) := by
  intro args rg q t hF hq N0 ρ w vs hl hgn hgl hargs hrg _
  obtain ⟨hp, hpa, hev⟩ := H args q t hF hq
  refine calls_of_wp hf hb ?_
  rw [hn]
  have hargs0 : okL (Tm.ok ([] : List Reg).length ρ) args vs := okL_all (R := Tm.ok rg.length ρ) (f := Tm.plain) (fun _ _ h h2 => Tm.plain_ok h h2) hpa hargs
  have hrel := Rel.entry (n := n) (rg := []) hl hgn hgl hargs0 (fun r g h => by simp at h)
  rw [show vs.toArray.size = vs.length by simp]
  refine evC_sound hP c _ _ _ _ _ _ hev hrel fun e st' a' w' ρ' hk hr' => ?_
  have fin : (match evRes E st' rs with | some (q, x) => oblige q (eqT x t) | none => False) → ∃ v, (results fn a'.tmps).run P w' = .ok v w' ∧ t.ok st'.rg.length ρ' v := by
    intro hk
    split at hk
    · rename_i q' x hx
      rw [oblige_iff] at hk
      obtain ⟨y, h1, h2⟩ := evRes_sound hP.env hr' hr hx hk.1
      exact ⟨y, h1, eqT_sound hk.2 h2⟩
    · exact hk.elim
  cases e with
  | exit id => exact hk.elim
  | normal => obtain ⟨v, h1, h2⟩ := fin hk; exact ⟨hr'.df, v, h1, v, rfl, Tm.plain_ok hp h2, hr'.bl⟩
  | ret => obtain ⟨v, h1, h2⟩ := fin hk; exact ⟨hr'.df, v, h1, v, rfl, Tm.plain_ok hp h2, hr'.bl⟩

end

/-! ### For the closed facts of a program's types -/
def structAs (P : Program) (t : TypeId) : Option (List (Nat × Nat)) :=
  match P.underlying t with
  | some (.struct fields) => fields.toList.mapM (fun f => (P.info? f.type).map fun i => (f.offset, i.size))
  | _ => none
theorem structAs_spec {P : Program} {t : TypeId} {fs : List (Nat × Nat)} (h : structAs P t = some fs) :
    ∃ fields, P.underlying t = some (.struct fields) ∧ fields.toList.mapM (fun f => (P.info? f.type).map fun i => (f.offset, i.size)) = some fs := by
  unfold structAs at h
  split at h
  · rename_i fields hu; exact ⟨fields, hu, h⟩
  · cases h
theorem wordAs_spec {P : Program} {t : TypeId} (h : (P.underlying t).map plainD = some true) : ∃ d, P.underlying t = some d ∧ plainD d = true := by
  simpa using h

/-! ### Tables of contracts -/
structure LOk (P : Program) (Γ : Glob) (l : List (Nat × Ctr)) : Prop where
  h : ∀ f c, look l f = some c → FnOk P f ∧ Ctr.Ok P Γ f c
theorem LOk.nil {P : Program} {Γ : Glob} : LOk P Γ [] := ⟨fun _ _ h => by simp [look] at h⟩
theorem LOk.cons {P : Program} {Γ : Glob} {l : List (Nat × Ctr)} (hl : LOk P Γ l) {f : FuncId} {c : Ctr} (hf : FnOk P f) (hc : Ctr.Ok P Γ f c) : LOk P Γ ((f, c) :: l) := ⟨fun g c' h => by
  simp only [look] at h
  split at h
  · rename_i he
    obtain rfl := Nat.eq_of_beq_eq_true he
    obtain rfl := Option.some.inj h
    exact ⟨hf, hc⟩
  · exact hl.h g c' h⟩
theorem FnOk.of {P : Program} {f : FuncId} {fn : Func} (h : P.funcs[f]? = some fn) (h2 : (fn.name == "runtime.NumGoroutine") = false) (h3 : fn.body.isNone = false) : FnOk P f := ⟨fn, h, h2, h3⟩
end Go.Sx
