/-
  Plain laws: texts of numbers, read.
-/
import Derived.Test.YtoggkjobihlohaaDoorF16
import Derived.Test.YtoggkjobihlohaaDoorP12
import Derived.Laws.BytesArg
namespace Go.Proofs.YtoggkjobihlohaaDoor
open Go

theorem toList_loop (b : ByteArray) : ∀ (k i : Nat) (r : List UInt8), b.size - i = k → ByteArray.toList.loop b i r = r.reverse ++ b.data.toList.drop i := by
  have e : b.data.toList.length = b.size := Array.length_toList
  intro k
  induction k with
  | zero =>
    intro i r h
    unfold ByteArray.toList.loop
    rw [if_neg (by omega), List.drop_eq_nil_of_le (by omega), List.append_nil]
  | succ k ih =>
    intro i r h
    unfold ByteArray.toList.loop
    have hi : i < b.data.toList.length := by omega
    rw [if_pos (by omega), ih (i + 1) _ (by omega), List.drop_eq_getElem_cons hi]
    have : b.get! i = b.data.toList[i] := by
      simp only [ByteArray.get!]
      rw [Array.getElem_toList]
      exact getElem!_pos b.data i (by simpa using hi)
    simp [this]
theorem toList_eq (b : ByteArray) : b.toList = b.data.toList := by
  unfold ByteArray.toList
  rw [toList_loop b _ 0 [] rfl]
  simp
theorem toList_beq {a b : ByteArray} : (a.toList == b.toList) = true ↔ a = b := by
  rw [beq_iff_eq, toList_eq, toList_eq]
  constructor
  · intro h
    cases a; cases b
    congr 1
    exact Array.toList_inj.1 h
  · rintro rfl; rfl

theorem bs_append (a b : List UInt8) : bs a ++ bs b = bs (a ++ b) := by
  apply ByteArray.ext
  show (bs a ++ bs b).data = _
  rw [ByteArray.data_append]
  simp [bs]
theorem bs_data (l : List UInt8) : (bs l).data.toList = l := by simp [bs]
theorem bs_eta (b : ByteArray) : bs b.data.toList = b := by cases b; simp [bs]
theorem bs_inj {a b : List UInt8} (h : bs a = bs b) : a = b := by have := congrArg (fun x => x.data.toList) h; simpa [bs_data] using this
theorem printT_list (n d : Int) : printT n d = bs (if d = 1 then Lib.itoa n else Lib.itoa n ++ 47 :: Lib.itoa d) := by
  unfold printT
  split
  · rfl
  · rw [show (⟨#[47]⟩ : ByteArray) = bs [47] from rfl, bs_append, bs_append]; rfl

/-! ### Parse -/
/-- What is read counts if it prints as the text. -/
def finT (n d : Int) (t : ByteArray) : Int × Int × Int := if valid n d = true ∧ printT n d = t then (n, d, 0) else (0, 0, 7)
def parseO (t : ByteArray) : Int × Int × Int :=
  match Lib.atoiAll (Lib.cut t.data.toList [47]).1 with
  | .ok n => (match (Lib.cut t.data.toList [47]).2.2 with
    | true => (match Lib.atoiAll (Lib.cut t.data.toList [47]).2.1 with
      | .ok d => finT n d t
      | _ => (0, 0, 7))
    | false => finT n 1 t)
  | _ => (0, 0, 7)
/-- A reader of texts that prints what it read. -/
structure Reads (f : ByteArray → Int × Int × Int) : Prop where
  back : ∀ t, f t = (0, 0, 7) ∨ ∃ n d, f t = (n, d, 0) ∧ valid n d = true ∧ printT n d = t
  fwd : ∀ n d, valid n d = true → f (printT n d) = (n, d, 0)
theorem Reads.eq {f g : ByteArray → Int × Int × Int} (hf : Reads f) (hg : Reads g) (t : ByteArray) : f t = g t := by
  rcases hf.back t with h | ⟨n, d, h, h1, h2⟩
  · rcases hg.back t with h' | ⟨n', d', h', h1', h2'⟩
    · rw [h, h']
    · rw [← h2', hf.fwd n' d' h1'] at h
      have := congrArg (fun x => x.2.2) h
      cases this
  · rw [h, ← h2, hg.fwd n d h1]
theorem finT_back (n d : Int) (t : ByteArray) : finT n d t = (0, 0, 7) ∨ ∃ n' d', finT n d t = (n', d', 0) ∧ valid n' d' = true ∧ printT n' d' = t := by
  unfold finT
  split
  · rename_i h; exact .inr ⟨n, d, rfl, h.1, h.2⟩
  · exact .inl rfl
theorem parseO_reads : Reads parseO where
  back t := by
    unfold parseO
    split
    · split
      · split
        · exact finT_back ..
        · exact .inl rfl
      · exact finT_back ..
    · exact .inl rfl
  fwd n d h := by
    have v := valid_iff.1 h
    have a1 := atoi_itoa n (by omega)
    have a2 := atoi_itoa d (by omega)
    unfold parseO
    rw [printT_list, bs_data]
    split <;> rename_i hc <;> (by_cases hd : d = 1 <;> simp only [hd, if_true, if_false] at hc ⊢)
    · rw [cut_noslash _ (itoa_noslash n)] at hc ⊢
      simp only at hc ⊢
      rw [a1] at hc
      obtain rfl := Lib.NumEnd.ok.inj hc
      unfold finT
      rw [if_pos ⟨by rw [← hd]; exact h, by rw [printT_list, if_pos rfl]⟩]
    · rw [cut_slash _ _ (itoa_noslash n)] at hc ⊢
      simp only at hc ⊢
      rw [a1] at hc
      obtain rfl := Lib.NumEnd.ok.inj hc
      rw [a2]
      simp only
      unfold finT
      rw [if_pos ⟨h, by rw [printT_list, if_neg hd]⟩]
    · rw [cut_noslash _ (itoa_noslash n)] at hc
      exact absurd a1 (hc n)
    · rw [cut_slash _ _ (itoa_noslash n)] at hc
      exact absurd a1 (hc n)

/-! ### Parse of the specification -/
def isDig (c : UInt8) : Bool := decide (48 ≤ c.toNat) && decide (c.toNat ≤ 57)
/-- The number of at most k digits, and how many there are. -/
def dgs : Nat → Int → List UInt8 → Int × Nat
  | 0, n, _ => (n, 0)
  | _ + 1, n, [] => (n, 0)
  | k + 1, n, c :: r => if isDig c = true then ((dgs k (10 * n + ((c.toNat : Int) - 48)) r).1, (dgs k (10 * n + ((c.toNat : Int) - 48)) r).2 + 1) else (n, 0)
/-- The digits of a numeral are read back. -/
theorem dgs_read : ∀ (l : List UInt8) (k : Nat) (acc a : Nat) (r : List UInt8), (∀ c ∈ l, 48 ≤ c.toNat ∧ c.toNat ≤ 57) → l.length ≤ k → (∀ c r', r = c :: r' → isDig c = false) → Lib.parseUint10 acc l = .ok a → dgs k acc (l ++ r) = ((a : Int), l.length)
  | [], k, acc, a, r, _, hk, hr, hp => by
    simp only [Lib.parseUint10] at hp
    obtain rfl := Lib.NumEnd.ok.inj hp
    cases k with
    | zero => rfl
    | succ k =>
      cases r with
      | nil => rfl
      | cons c r' => simp only [List.nil_append, dgs, hr c r' rfl, Bool.false_eq_true, if_false, List.length_nil]
  | c :: l, k, acc, a, r, hd, hk, hr, hp => by
    cases k with
    | zero => simp at hk
    | succ k =>
      have hc := hd c (by simp)
      have hi : isDig c = true := by simp [isDig, hc.1, hc.2]
      simp only [Lib.parseUint10] at hp
      rw [if_pos hc] at hp
      split at hp
      · cases hp
      · split at hp
        · cases hp
        · have ih := dgs_read l k _ a r (fun x hx => hd x (by simp [hx])) (by simpa using hk) hr hp
          have e : (10 * (acc : Int) + ((c.toNat : Int) - 48)) = ((acc * 10 + (c.toNat - 48) : Nat) : Int) := by omega
          simp only [List.cons_append, dgs, hi, if_true]
          rw [e, ih]
          rfl
theorem dec_len {u : Nat} (h : u ≤ 2147483647) : (Lib.decDigits u).length ≤ 10 := by
  rw [Lib.decDigits_length]
  have h1 : ∀ k, u < 10 ^ (k + 1) → Lib.nDigits u ≤ k + 1 := by
    intro k
    clear h
    induction k generalizing u with
    | zero => intro hu; rw [Lib.nDigits_small (by simpa using hu)]; omega
    | succ k ih =>
      intro hu
      by_cases hs : u < 10
      · rw [Lib.nDigits_small hs]; omega
      · rw [Lib.nDigits_big hs]
        have := ih (u := u / 10) (by rw [Nat.pow_succ] at hu; omega)
        omega
  exact h1 9 (by omega)
theorem dgs_dec (u : Nat) (h : u ≤ 2147483647) (r : List UInt8) (hr : ∀ c r', r = c :: r' → isDig c = false) : dgs 10 0 (Lib.decDigits u ++ r) = ((u : Int), (Lib.decDigits u).length) :=
  dgs_read _ 10 0 u r (dec_digits u) (dec_len h) hr (parse_dec u (by omega))
def minusAt (l : List UInt8) : Bool := match l with
  | c :: _ => decide (c.toNat = 45)
  | [] => false
/-- What is read: the sign, the first number, and the second one behind a slash. -/
def parseN (l : List UInt8) : Int × Int :=
  let at0 := if minusAt l = true then 1 else 0
  let x := dgs 10 0 (l.drop at0)
  let n := if minusAt l = true then 0 - x.1 else x.1
  let rest := l.drop (at0 + x.2)
  let d := match rest with
    | c :: r => if c.toNat = 47 then (dgs 10 0 r).1 else 1
    | [] => 1
  (n, d)
def parseR (t : ByteArray) : Int × Int × Int := finT (parseN t.data.toList).1 (parseN t.data.toList).2 t
theorem slash_dig (r : List UInt8) : ∀ c r', (47 : UInt8) :: r = c :: r' → isDig c = false := by
  intro c r' h
  obtain ⟨rfl, _⟩ := List.cons.inj h
  rfl
theorem parseN_num {n d : Int} (h : valid n d = true) : parseN (if d = 1 then Lib.itoa n else Lib.itoa n ++ 47 :: Lib.itoa d) = (n, d) := by
  have v := valid_iff.1 h
  have hd1 : Lib.itoa d = Lib.decDigits d.toNat := by unfold Lib.itoa; rw [if_neg (by omega)]
  have hdd := dgs_dec d.toNat (by omega) [] (fun c r' hh => by cases hh)
  rw [List.append_nil] at hdd
  have tail : ∀ l : List UInt8, (if d = 1 then l else l ++ 47 :: Lib.itoa d) = l ++ (if d = 1 then [] else 47 :: Lib.itoa d) := fun l => by split <;> simp
  have hr : ∀ c r', (if d = 1 then [] else (47 : UInt8) :: Lib.itoa d) = c :: r' → isDig c = false := by
    intro c r' hh
    split at hh
    · cases hh
    · exact slash_dig _ c r' hh
  have hrest : (match (if d = 1 then [] else (47 : UInt8) :: Lib.itoa d) with
      | c :: r => if c.toNat = 47 then (dgs 10 0 r).1 else 1
      | [] => 1) = d := by
    split
    · rename_i hh
      split at hh
      · cases hh
      · obtain ⟨rfl, rfl⟩ := List.cons.inj hh
        rw [if_pos (show UInt8.toNat 47 = 47 from rfl), hd1, hdd]
        simp only; omega
    · rename_i hh
      split at hh
      · omega
      · cases hh
  rw [tail]
  by_cases hn : n < 0
  · have e1 : Lib.itoa n = 45 :: Lib.decDigits n.natAbs := by unfold Lib.itoa; rw [if_pos hn]
    have e2 := dgs_dec n.natAbs (by omega) _ hr
    have e3 : minusAt (Lib.itoa n ++ (if d = 1 then [] else 47 :: Lib.itoa d)) = true := by rw [e1]; rfl
    unfold parseN
    simp only [e3, if_true]
    rw [e1]
    simp only [List.cons_append, List.drop_succ_cons, List.drop_zero]
    rw [e2]
    simp only
    rw [Nat.add_comm 1, List.drop_succ_cons, List.drop_left, hrest]
    simp only [Prod.mk.injEq, and_true]; omega
  · have e1 : Lib.itoa n = Lib.decDigits n.toNat := by unfold Lib.itoa; rw [if_neg hn]
    have e2 := dgs_dec n.toNat (by omega) _ hr
    have e3 : minusAt (Lib.itoa n ++ (if d = 1 then [] else 47 :: Lib.itoa d)) = false := by
      rw [e1]
      have := dec_digits n.toNat
      have hne := dec_ne n.toNat
      revert this hne
      generalize Lib.decDigits n.toNat = l
      intro hl hne
      cases l with
      | nil => exact absurd rfl hne
      | cons c l =>
        have := hl c (by simp)
        exact decide_eq_false (by omega)
    unfold parseN
    simp only [e3, Bool.false_eq_true, if_false]
    rw [e1]
    simp only [List.drop_zero, Nat.zero_add]
    rw [e2]
    simp only
    rw [List.drop_left, hrest]
    simp only [Prod.mk.injEq, and_true]; omega
theorem parseR_reads : Reads parseR where
  back t := finT_back ..
  fwd n d h := by
    unfold parseR
    rw [printT_list, bs_data, parseN_num h]
    unfold finT
    rw [if_pos ⟨h, printT_list n d⟩]
theorem parse_same (t : ByteArray) : parseO t = parseR t := parseO_reads.eq parseR_reads t
end Go.Proofs.YtoggkjobihlohaaDoor
