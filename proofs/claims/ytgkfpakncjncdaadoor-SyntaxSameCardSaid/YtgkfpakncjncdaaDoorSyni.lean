/- Expressions that may be have one text just if they are the same; so have programs. -/
import Derived.Test.YtgkfpakncjncdaaDoorSynh
namespace Go.Proofs.YtgkfpakncjncdaaDoor.Syn
open Go.RowKit Go.Lib Go.Proofs.YtgkfpakncjncdaaDoorW.PrintWords Go.Proofs.YtgkfpakncjncdaaDoorW.PrintLast Go.Proofs.YtgkfpakncjncdaaDoorW.PrintMore Go.Proofs.YtgkfpakncjncdaaDoor.PSyn
set_option linter.unusedVariables false
set_option linter.unusedSimpArgs false

/-! ### what ends where -/
theorem span_unique {p : UInt8 → Prop} : ∀ {a b s t : List UInt8}, (∀ c ∈ a, p c) → (∀ c ∈ b, p c) → (∀ c, s.head? = some c → ¬ p c) → (∀ c, t.head? = some c → ¬ p c) → a ++ s = b ++ t → a = b ∧ s = t
  | [], [], s, t, _, _, _, _, h => ⟨rfl, h⟩
  | [], y :: b, s, t, _, hb, hs, _, h => by
    simp only [List.nil_append, List.cons_append] at h
    subst h
    exact absurd (hb y (by simp)) (hs y rfl)
  | x :: a, [], s, t, ha, _, _, ht, h => by
    simp only [List.nil_append, List.cons_append] at h
    subst h
    exact absurd (ha x (by simp)) (ht x rfl)
  | x :: a, y :: b, s, t, ha, hb, hs, ht, h => by
    simp only [List.cons_append, List.cons.injEq] at h
    obtain ⟨rfl, h⟩ := h
    obtain ⟨rfl, rfl⟩ := span_unique (fun c hc => ha c (by simp [hc])) (fun c hc => hb c (by simp [hc])) hs ht h
    exact ⟨rfl, rfl⟩

def isDig (c : UInt8) : Prop := 48 ≤ c.toNat ∧ c.toNat ≤ 57
def isLow (c : UInt8) : Prop := 97 ≤ c.toNat ∧ c.toNat ≤ 122
theorem dec_dig (u : Nat) : ∀ c ∈ decDigits u, isDig c := by
  induction u using Nat.strongRecOn with
  | _ u ih =>
    intro c hc
    rw [decDigits] at hc
    split at hc
    · simp at hc; subst hc; unfold isDig; simp; omega
    · rcases List.mem_append.1 hc with h | h
      · exact ih (u / 10) (by omega) c h
      · simp at h; subst h; unfold isDig; simp; omega
def valD (l : List UInt8) : Nat := l.foldl (fun a c => 10 * a + (c.toNat - 48)) 0
theorem val_dec (u : Nat) : valD (decDigits u) = u := by
  induction u using Nat.strongRecOn with
  | _ u ih =>
    rw [decDigits]
    split
    · unfold valD; simp; omega
    · have := ih (u / 10) (by omega)
      unfold valD at this ⊢
      rw [List.foldl_append, this]
      simp
      omega
theorem dec_ne (u : Nat) : decDigits u ≠ [] := by
  intro h
  have h1 := decDigits_length u
  rw [h] at h1
  have := nDigits_pos u
  simp at h1
  omega
theorem digits_dig {n : Int} (h : 0 ≤ n) : ∀ c ∈ digits n, isDig c := by
  unfold digits Lib.itoa
  rw [if_neg (by omega)]
  exact dec_dig _
theorem digits_inj {n m : Int} (hn : 0 ≤ n) (hm : 0 ≤ m) (h : digits n = digits m) : n = m := by
  unfold digits Lib.itoa at h
  rw [if_neg (by omega), if_neg (by omega)] at h
  have := congrArg valD h
  rw [val_dec, val_dec] at this
  omega
theorem digits_cons {n : Int} (h : 0 ≤ n) : ∃ c r, digits n = c :: r ∧ isDig c := by
  have h1 := digits_dig h
  have h2 : digits n ≠ [] := by
    unfold digits Lib.itoa
    rw [if_neg (by omega)]
    exact dec_ne _
  match hd : digits n, h2 with
  | c :: r, _ => exact ⟨c, r, rfl, h1 c (by rw [hd]; simp)⟩
theorem digits_unique {n m : Int} {s t : List UInt8} (hn : 0 ≤ n) (hm : 0 ≤ m) (hs : ∀ c, s.head? = some c → ¬ isDig c) (ht : ∀ c, t.head? = some c → ¬ isDig c) (h : digits n ++ s = digits m ++ t) : n = m ∧ s = t := by
  obtain ⟨h1, h2⟩ := span_unique (digits_dig hn) (digits_dig hm) hs ht h
  exact ⟨digits_inj hn hm h1, h2⟩

theorem name_low {s : ByteArray} (h : nameB s = true) : ∀ c ∈ s.data.toList, isLow c := by
  have hb : ¬ badFrom s 0 := by
    intro hb
    have h1 := idx_bad s s.size 0 hb (by omega)
    unfold nameB at h
    split at h
    · simp at h
    · split at h
      · simp at h
      · split at h
        · simp at h
        · unfold Lib.idxFunc at h
          simp at h
          omega
  intro c hc
  obtain ⟨i, hi, rfl⟩ := List.getElem_of_mem hc
  have hi' : i < s.size := by simpa using hi
  have hbt : bt s i = ((s.data.toList[i]).toNat : Int) := by
    unfold bt
    rw [dif_pos (by simpa using hi')]
    rfl
  unfold isLow
  by_cases h1 : 97 ≤ (s.data.toList[i]).toNat ∧ (s.data.toList[i]).toNat ≤ 122
  · exact h1
  · exfalso
    refine hb ⟨i, by omega, hi', ?_⟩
    rw [hbt]
    omega
theorem name_unique {a b : ByteArray} {s t : List UInt8} (ha : nameB a = true) (hb : nameB b = true) (hs : ∀ c, s.head? = some c → ¬ isLow c) (ht : ∀ c, t.head? = some c → ¬ isLow c) (h : a.data.toList ++ s = b.data.toList ++ t) : a = b ∧ s = t := by
  obtain ⟨h1, h2⟩ := span_unique (name_low ha) (name_low hb) hs ht h
  refine ⟨?_, h2⟩
  cases a with | mk a => cases b with | mk b =>
  simp at h1
  rw [h1]

/-- what may stand behind an expression; behind a tight one -/
def Stop0 (s : List UInt8) : Prop := ∀ c, s.head? = some c → c = 59 ∨ c = 41 ∨ c = 44
def Stop1 (s : List UInt8) : Prop := ∀ c, s.head? = some c → c = 59 ∨ c = 41 ∨ c = 44 ∨ c = 32
theorem Stop0.one {s : List UInt8} (h : Stop0 s) : Stop1 s := fun c hc => by rcases h c hc with h | h | h <;> simp [h]
theorem stop_cons {c : UInt8} {s : List UInt8} (h : c = 59 ∨ c = 41 ∨ c = 44) : Stop0 (c :: s) := fun d hd => by simp at hd; subst hd; exact h
theorem stop1_cons {c : UInt8} {s : List UInt8} (h : c = 59 ∨ c = 41 ∨ c = 44 ∨ c = 32) : Stop1 (c :: s) := fun d hd => by simp at hd; subst hd; exact h
theorem Stop1.dig {s : List UInt8} (h : Stop1 s) : ∀ c, s.head? = some c → ¬ isDig c := fun c hc => by rcases h c hc with h | h | h | h <;> subst h <;> unfold isDig <;> decide
theorem Stop1.low {s : List UInt8} (h : Stop1 s) : ∀ c, s.head? = some c → ¬ isLow c := fun c hc => by rcases h c hc with h | h | h | h <;> subst h <;> unfold isLow <;> decide

/-- filters, one behind the other, and a bracket -/
theorem filters_unique : ∀ {fs gs : List S54} {s t : List UInt8}, (∀ f ∈ fs, picksB f = true) → (∀ f ∈ gs, picksB f = true) → fs.flatMap filterT ++ (41 :: s) = gs.flatMap filterT ++ (41 :: t) → fs = gs ∧ s = t
  | [], [], s, t, _, _, h => by simp at h; exact ⟨rfl, h⟩
  | [], g :: gs, s, t, _, _, h => by simp [filterT] at h
  | f :: fs, [], s, t, _, _, h => by simp [filterT] at h
  | f :: fs, g :: gs, s, t, hf, hg, h => by
    have h1 := hf f (by simp)
    have h2 := hg g (by simp)
    have r1 := picks_lt2 h1
    have r2 := picks_lt2 h2
    unfold picksB at h1 h2
    simp only [Bool.and_eq_true] at h1 h2
    simp only [List.flatMap_cons, filterT, List.append_assoc, List.cons_append, List.nil_append, List.cons.injEq, true_and] at h
    obtain ⟨e1, h⟩ := name_unique h1.1.1 h2.1.1 (stop1_cons (by simp)).low (stop1_cons (by simp)).low h
    simp only [List.cons.injEq, true_and] at h
    obtain ⟨e2, h⟩ := h
    have hstop : ∀ (l : List S54) (u : List UInt8), Stop1 (l.flatMap filterT ++ 41 :: u) := by
      intro l u
      cases l with
      | nil => exact stop1_cons (by simp)
      | cons f l => simp only [List.flatMap_cons, filterT, List.append_assoc, List.cons_append, List.nil_append]; exact stop1_cons (by simp)
    obtain ⟨e3, h⟩ := digits_unique r1.2.2.1 r2.2.2.1 (hstop _ _).dig (hstop _ _).dig h
    obtain ⟨e4, h⟩ := filters_unique (fun x hx => hf x (by simp [hx])) (fun x hx => hg x (by simp [hx])) h
    refine ⟨?_, h⟩
    rw [e4]
    congr 1
    have e2' : f.f1 = g.f1 := by
      have := congrArg UInt8.toNat e2
      simp at this
      omega
    obtain ⟨a, b, c⟩ := f
    obtain ⟨a', b', c'⟩ := g
    simp only at e1 e2' e3
    rw [e1, e2', e3]

/-- what a right expression is -/
inductive View : S26 → Prop
  | num (n : Int) (h : numB n = true) : View ⟨1, n, ⟨#[]⟩, [], []⟩
  | ref (n : Int) (h : boxB n = true) : View ⟨2, n, ⟨#[]⟩, [], []⟩
  | tot (fd : ByteArray) (fs : List S54) (h1 : nameB fd = true) (h2 : ∀ f ∈ fs, picksB f = true) : View ⟨3, 0, fd, fs, []⟩
  | bin (k : Int) (hk : k = 4 ∨ k = 5) (a b : S26) (ha : rightB a = true) (hb : rightB b = true) : View ⟨k, 0, ⟨#[]⟩, [], [a, b]⟩
  | neg (a : S26) (ha : rightB a = true) : View ⟨6, 0, ⟨#[]⟩, [], [a]⟩
  | two (k : Int) (hk : k = 7 ∨ k = 8) (a b : S26) (ha : rightB a = true) (hb : rightB b = true) : View ⟨k, 0, ⟨#[]⟩, [], [a, b]⟩
  | clamp (a b c : S26) (ha : rightB a = true) (hb : rightB b = true) (hc : rightB c = true) : View ⟨9, 0, ⟨#[]⟩, [], [a, b, c]⟩
theorem fd_nil {fd : ByteArray} (h : fd.toList = []) : fd = ⟨#[]⟩ := by
  have h1 : fd.data.toList.length = 0 := by
    have := congrArg List.length h
    simpa [ByteArray.toList_eq] using this
  cases fd with | mk d => cases d with | mk l => simp at h1; rw [h1]
theorem view (x : S26) (hr : rightB x = true) : View x := by
  obtain ⟨k, m, fd, fs, ks⟩ := x
  rw [rightB, anyWrong_eq] at hr
  split at hr
  · simp at hr
  · rename_i hk2
    split at hr
    · simp at hr
    · rename_i hl
      have hl : (ks.length : Int) = (kidsN k).1 := by simpa using hl
      have hk2 : (kidsN k).2 = true := by simpa using hk2
      split at hr
      · simp at hr
      · rename_i hx
        have hx' : k ≠ 3 → fd = ⟨#[]⟩ ∧ fs = [] := by
          intro h3
          have : ¬ (fd.toList ≠ [] ∨ 0 < fs.length) := fun h => hx ⟨h3, h⟩
          simp only [not_or] at this
          refine ⟨fd_nil (by simpa using this.1), ?_⟩
          have h2 : fs.length = 0 := by omega
          simpa using h2
        by_cases h1 : k = 1
        · subst h1
          obtain ⟨rfl, rfl⟩ := hx' (by decide)
          have : ks = [] := by simp [kidsN] at hl; exact hl
          subst this
          simp only [if_true] at hr
          exact .num m hr
        by_cases h2 : k = 2
        · subst h2
          obtain ⟨rfl, rfl⟩ := hx' (by decide)
          have : ks = [] := by simp [kidsN] at hl; exact hl
          subst this
          simp only [show ¬ (2 : Int) = 1 from by decide, if_false, if_true] at hr
          exact .ref m hr
        by_cases h3 : k = 3
        · subst h3
          have : ks = [] := by simp [kidsN] at hl; exact hl
          subst this
          simp only [show ¬ (3 : Int) = 1 from by decide, show ¬ (3 : Int) = 2 from by decide, if_false, if_true, Bool.and_eq_true, decide_eq_true_eq, Bool.not_eq_true', List.any_eq_false] at hr
          obtain ⟨⟨⟨rfl, hn⟩, _⟩, hp⟩ := hr
          exact .tot fd fs hn (fun f hf => by simpa using hp f hf)
        obtain ⟨rfl, rfl⟩ := hx' h3
        simp only [if_neg h1, if_neg h2, if_neg h3, Bool.and_eq_true, decide_eq_true_eq, Bool.not_eq_true', List.any_eq_false] at hr
        obtain ⟨rfl, hks⟩ := hr
        have hks : ∀ y ∈ ks, rightB y = true := fun y hy => by simpa using hks y hy
        by_cases h45 : k = 4 ∨ k = 5
        · have e : (kidsN k).1 = 2 := by rcases h45 with rfl | rfl <;> rfl
          rw [e] at hl
          match ks, hl, hks with
          | [a, b], _, hks => exact .bin k h45 a b (hks a (by simp)) (hks b (by simp))
        by_cases h6 : k = 6
        · subst h6
          have e : (kidsN 6).1 = 1 := rfl
          rw [e] at hl
          match ks, hl, hks with
          | [a], _, hks => exact .neg a (hks a (by simp))
        by_cases h78 : k = 7 ∨ k = 8
        · have e : (kidsN k).1 = 2 := by rcases h78 with rfl | rfl <;> rfl
          rw [e] at hl
          match ks, hl, hks with
          | [a, b], _, hks => exact .two k h78 a b (hks a (by simp)) (hks b (by simp))
        by_cases h9 : k = 9
        · subst h9
          have e : (kidsN 9).1 = 3 := rfl
          rw [e] at hl
          match ks, hl, hks with
          | [a, b, c], _, hks => exact .clamp a b c (hks a (by simp)) (hks b (by simp)) (hks c (by simp))
        · exfalso
          simp only [not_or] at h45 h78
          simp [kidsN, h1, h2, h3, h45.1, h45.2, h6, h78.1, h78.2, h9] at hk2
end Go.Proofs.YtgkfpakncjncdaaDoor.Syn
/- Expressions that may be have one text just if they are the same; so have programs. -/
namespace Go.Proofs.YtgkfpakncjncdaaDoor.Syn
open Go.RowKit Go.Lib Go.Proofs.YtgkfpakncjncdaaDoorW.PrintWords Go.Proofs.YtgkfpakncjncdaaDoorW.PrintLast Go.Proofs.YtgkfpakncjncdaaDoorW.PrintMore Go.Proofs.YtgkfpakncjncdaaDoor.PSyn
set_option linter.unusedVariables false
set_option linter.unusedSimpArgs false

def isSum (x : S26) : Prop := x.f0 = 4 ∨ x.f0 = 5
def kindOf (c : UInt8) : Int := if c = 43 then 4 else 5
def unsp (h : S26) (l : List (UInt8 × S26)) : S26 := l.foldl (fun a p => ⟨kindOf p.1, 0, ⟨#[]⟩, [], [a, p.2]⟩) h
def tl (l : List (UInt8 × S26)) : List UInt8 := l.flatMap fun p => [32, p.1, 32] ++ brk p.2.f0 (exprT p.2)

theorem exprT_bin (k : Int) (hk : k = 4 ∨ k = 5) (a b : S26) : exprT ⟨k, 0, ⟨#[]⟩, [], [a, b]⟩ = exprT a ++ ([32, (if k = 4 then 43 else 45), 32] ++ brk b.f0 (exprT b)) := by
  rcases hk with rfl | rfl <;> simp [exprT, exprsT]
theorem exprT_neg (a : S26) : exprT ⟨6, 0, ⟨#[]⟩, [], [a]⟩ = 45 :: brk a.f0 (exprT a) := by simp [exprT, exprsT]
theorem exprT_num (n : Int) : exprT ⟨1, n, ⟨#[]⟩, [], []⟩ = digits n := by simp [exprT]
theorem exprT_ref (n : Int) : exprT ⟨2, n, ⟨#[]⟩, [], []⟩ = 98 :: 111 :: 120 :: 32 :: digits n := by simp [exprT]
theorem exprT_tot (fd : ByteArray) (fs : List S54) : exprT ⟨3, 0, fd, fs, []⟩ = 115 :: 117 :: 109 :: 40 :: (fd.data.toList ++ (fs.flatMap filterT ++ [41])) := by simp [exprT]
theorem exprT_two (k : Int) (hk : k = 7 ∨ k = 8) (a b : S26) : exprT ⟨k, 0, ⟨#[]⟩, [], [a, b]⟩ = 109 :: (if k = 7 then 105 else 97) :: (if k = 7 then 110 else 120) :: 40 :: (exprT a ++ (44 :: 32 :: (exprT b ++ [41]))) := by
  rcases hk with rfl | rfl <;> simp [exprT, exprsT, callT, argsT]
theorem exprT_clamp (a b c : S26) : exprT ⟨9, 0, ⟨#[]⟩, [], [a, b, c]⟩ = 99 :: 108 :: 97 :: 109 :: 112 :: 40 :: (exprT a ++ (44 :: 32 :: (exprT b ++ (44 :: 32 :: (exprT c ++ [41]))))) := by
  simp [exprT, exprsT, callT, argsT]

/-- an expression, taken apart at its sums -/
theorem spine_ex (x : S26) (hr : rightB x = true) : ∃ h l, x = unsp h l ∧ ¬ isSum h ∧ rightB h = true ∧ (∀ p ∈ l, (p.1 = 43 ∨ p.1 = 45) ∧ rightB p.2 = true ∧ SizeOf.sizeOf p.2 < SizeOf.sizeOf x) ∧ SizeOf.sizeOf h ≤ SizeOf.sizeOf x ∧ exprT x = exprT h ++ tl l := by
  suffices hS : ∀ (n : Nat) (x : S26), SizeOf.sizeOf x < n → rightB x = true → ∃ h l, x = unsp h l ∧ ¬ isSum h ∧ rightB h = true ∧ (∀ p ∈ l, (p.1 = 43 ∨ p.1 = 45) ∧ rightB p.2 = true ∧ SizeOf.sizeOf p.2 < SizeOf.sizeOf x) ∧ SizeOf.sizeOf h ≤ SizeOf.sizeOf x ∧ exprT x = exprT h ++ tl l from hS _ x (Nat.lt_succ_self _) hr
  intro n
  induction n with
  | zero => intro x hx; exact absurd hx (Nat.not_lt_zero _)
  | succ n ih =>
    intro x hx hr
    have hat : ¬ isSum x → ∃ h l, x = unsp h l ∧ ¬ isSum h ∧ rightB h = true ∧ (∀ p ∈ l, (p.1 = 43 ∨ p.1 = 45) ∧ rightB p.2 = true ∧ SizeOf.sizeOf p.2 < SizeOf.sizeOf x) ∧ SizeOf.sizeOf h ≤ SizeOf.sizeOf x ∧ exprT x = exprT h ++ tl l :=
      fun h => ⟨x, [], rfl, h, hr, fun p hp => by simp at hp, Nat.le_refl _, by simp [tl]⟩
    cases view x hr with
    | bin k hk a b ha hb =>
      have hsa := size_lt (y := a) (k := k) (m := 0) (fd := ⟨#[]⟩) (fs := []) (ks := [a, b]) (by simp)
      have hsb := size_lt (y := b) (k := k) (m := 0) (fd := ⟨#[]⟩) (fs := []) (ks := [a, b]) (by simp)
      obtain ⟨h, l, e, h1, h2, h3, h4, h5⟩ := ih a (by omega) ha
      refine ⟨h, l ++ [((if k = 4 then 43 else 45), b)], ?_, h1, h2, ?_, by omega, ?_⟩
      · have ek : kindOf (if k = 4 then 43 else 45) = k := by rcases hk with rfl | rfl <;> decide
        unfold unsp at e ⊢
        rw [List.foldl_append, ← e]
        simp only [List.foldl_cons, List.foldl_nil, ek]
      · intro p hp
        rcases List.mem_append.1 hp with hp | hp
        · have := h3 p hp
          exact ⟨this.1, this.2.1, by omega⟩
        · simp at hp
          subst hp
          exact ⟨by rcases hk with rfl | rfl <;> simp, hb, hsb⟩
      · rw [exprT_bin k hk, h5]
        simp [tl]
    | num n h => exact hat (by simp [isSum])
    | ref n h => exact hat (by simp [isSum])
    | tot fd fs h1 h2 => exact hat (by simp [isSum])
    | neg a ha => exact hat (by simp [isSum])
    | two k hk a b ha hb => exact hat (by rcases hk with rfl | rfl <;> simp [isSum])
    | clamp a b c ha hb hc => exact hat (by simp [isSum])

/-- the first letter of what is no sum tells its kind -/
def grp (c : UInt8) : Nat := if c = 98 then 2 else if c = 115 then 3 else if c = 45 then 6 else if c = 109 then 7 else if c = 99 then 9 else 1
theorem grp_dig {c : UInt8} (h : isDig c) : grp c = 1 ∧ c ≠ 40 := by
  have hn : ∀ d : UInt8, d = 98 ∨ d = 115 ∨ d = 45 ∨ d = 109 ∨ d = 99 ∨ d = 40 → c ≠ d := by
    rintro d hd rfl
    rcases hd with h' | h' | h' | h' | h' | h' <;> subst h' <;> unfold isDig at h <;> revert h <;> decide
  unfold grp
  rw [if_neg (hn 98 (by simp)), if_neg (hn 115 (by simp)), if_neg (hn 45 (by simp)), if_neg (hn 109 (by simp)), if_neg (hn 99 (by simp))]
  exact ⟨rfl, hn 40 (by simp)⟩
def kgrp (k : Int) : Nat := if k = 2 then 2 else if k = 3 then 3 else if k = 6 then 6 else if k = 7 ∨ k = 8 then 7 else if k = 9 then 9 else 1
theorem atom_head (x : S26) (hr : rightB x = true) (hs : ¬ isSum x) : ∃ c r, exprT x = c :: r ∧ grp c = kgrp x.f0 ∧ c ≠ 40 := by
  cases view x hr with
  | bin k hk a b ha hb => exact absurd hk hs
  | num n h =>
    obtain ⟨c, r, e, hd⟩ := digits_cons (n := n) (by have := numB_lt h; omega)
    exact ⟨c, r, by rw [exprT_num, e], by rw [(grp_dig hd).1]; simp [kgrp], (grp_dig hd).2⟩
  | ref n h => exact ⟨_, _, exprT_ref n, by simp [grp, kgrp], by decide⟩
  | tot fd fs h1 h2 => exact ⟨_, _, exprT_tot fd fs, by simp [grp, kgrp], by decide⟩
  | neg a ha => exact ⟨_, _, exprT_neg a, by simp [grp, kgrp], by decide⟩
  | two k hk a b ha hb => exact ⟨_, _, exprT_two k hk a b, by rcases hk with rfl | rfl <;> simp [grp, kgrp], by decide⟩
  | clamp a b c ha hb hc => exact ⟨_, _, exprT_clamp a b c, by simp [grp, kgrp], by decide⟩

/-- the law, for expressions no greater than n -/
def Uni (n : Nat) : Prop := ∀ (x y : S26) (s t : List UInt8), SizeOf.sizeOf x < n → rightB x = true → rightB y = true → Stop0 s → Stop0 t → exprT x ++ s = exprT y ++ t → x = y ∧ s = t
def UniA (n : Nat) : Prop := ∀ (x y : S26) (s t : List UInt8), SizeOf.sizeOf x < n → rightB x = true → rightB y = true → ¬ isSum x → ¬ isSum y → Stop1 s → Stop1 t → exprT x ++ s = exprT y ++ t → x = y ∧ s = t
def UniB (n : Nat) : Prop := ∀ (x y : S26) (s t : List UInt8), SizeOf.sizeOf x < n → rightB x = true → rightB y = true → Stop1 s → Stop1 t → brk x.f0 (exprT x) ++ s = brk y.f0 (exprT y) ++ t → x = y ∧ s = t
theorem brk_sum {x : S26} (h : isSum x) : brk x.f0 (exprT x) = 40 :: (exprT x ++ [41]) := by unfold isSum at h; unfold brk; rw [if_pos h]; simp
theorem brk_atom {x : S26} (h : ¬ isSum x) : brk x.f0 (exprT x) = exprT x := by unfold isSum at h; unfold brk; rw [if_neg h]
theorem uniB_of {n : Nat} (hu : Uni n) (ha : UniA n) : UniB n := by
  intro x y s t hx rx ry hs ht h
  by_cases sx : isSum x
  · have ex : brk x.f0 (exprT x) = 40 :: (exprT x ++ [41]) := brk_sum sx
    by_cases sy : isSum y
    · have ey : brk y.f0 (exprT y) = 40 :: (exprT y ++ [41]) := brk_sum sy
      rw [ex, ey] at h
      simp only [List.cons_append, List.cons.injEq, true_and, List.append_assoc] at h
      obtain ⟨e, h⟩ := hu x y _ _ hx rx ry (stop_cons (by simp)) (stop_cons (by simp)) h
      simp at h
      exact ⟨e, h⟩
    · have ey : brk y.f0 (exprT y) = exprT y := brk_atom sy
      obtain ⟨c, r, e, _, hc⟩ := atom_head y ry sy
      rw [ex, ey, e] at h
      simp only [List.cons_append, List.cons.injEq] at h
      exact absurd h.1.symm hc
  · have ex : brk x.f0 (exprT x) = exprT x := brk_atom sx
    by_cases sy : isSum y
    · have ey : brk y.f0 (exprT y) = 40 :: (exprT y ++ [41]) := brk_sum sy
      obtain ⟨c, r, e, _, hc⟩ := atom_head x rx sx
      rw [ex, ey, e] at h
      simp only [List.cons_append, List.cons.injEq] at h
      exact absurd h.1 hc
    · have ey : brk y.f0 (exprT y) = exprT y := brk_atom sy
      rw [ex, ey] at h
      exact ha x y s t hx rx ry sx sy hs ht h
theorem tl_stop (l : List (UInt8 × S26)) (s : List UInt8) (hs : Stop0 s) : Stop1 (tl l ++ s) := by
  cases l with
  | nil => exact hs.one
  | cons p l => simp only [tl, List.flatMap_cons, List.append_assoc, List.cons_append, List.nil_append]; exact stop1_cons (by simp)
theorem tl_unique {n : Nat} (hb : UniB n) : ∀ (l m : List (UInt8 × S26)) (s t : List UInt8), (∀ p ∈ l, (p.1 = 43 ∨ p.1 = 45) ∧ rightB p.2 = true ∧ SizeOf.sizeOf p.2 < n) → (∀ p ∈ m, (p.1 = 43 ∨ p.1 = 45) ∧ rightB p.2 = true) → Stop0 s → Stop0 t → tl l ++ s = tl m ++ t → l = m ∧ s = t
  | [], [], s, t, _, _, _, _, h => ⟨rfl, by simpa [tl] using h⟩
  | [], p :: m, s, t, _, _, hs, _, h => by
    simp only [tl, List.flatMap_nil, List.flatMap_cons, List.nil_append, List.cons_append, List.append_assoc] at h
    rw [h] at hs
    exact absurd (hs 32 rfl) (by decide)
  | p :: l, [], s, t, _, _, _, ht, h => by
    simp only [tl, List.flatMap_nil, List.flatMap_cons, List.nil_append, List.cons_append, List.append_assoc] at h
    rw [← h] at ht
    exact absurd (ht 32 rfl) (by decide)
  | p :: l, q :: m, s, t, hl, hm, hs, ht, h => by
    have h1 := hl p (by simp)
    have h2 := hm q (by simp)
    have e : ∀ (p : UInt8 × S26) (l : List (UInt8 × S26)) (s : List UInt8), tl (p :: l) ++ s = 32 :: p.1 :: 32 :: (brk p.2.f0 (exprT p.2) ++ (tl l ++ s)) := fun p l s => by simp [tl]
    rw [e, e] at h
    simp only [List.cons.injEq, true_and] at h
    obtain ⟨ec, h⟩ := h
    obtain ⟨ex, h⟩ := hb p.2 q.2 _ _ h1.2.2 h1.2.1 h2.2 (tl_stop _ _ hs) (tl_stop _ _ ht) h
    obtain ⟨el, h⟩ := tl_unique hb l m s t (fun r hr => hl r (by simp [hr])) (fun r hr => hm r (by simp [hr])) hs ht h
    refine ⟨?_, h⟩
    rw [el, Prod.ext ec ex]

theorem uniA_of {n : Nat} (hu : Uni n) (hb : UniB n) : UniA (n + 1) := by
  intro x y s t hx rx ry sx sy hs ht h
  obtain ⟨c, r, ex, gx, _⟩ := atom_head x rx sx
  obtain ⟨d, r', ey, gy, _⟩ := atom_head y ry sy
  have hg : kgrp x.f0 = kgrp y.f0 := by
    rw [ex, ey] at h
    simp only [List.cons_append, List.cons.injEq] at h
    rw [← gx, ← gy, h.1]
  clear gx gy ex ey
  cases view x rx with
  | bin k hk a b ha hb => exact absurd hk sx
  | num n1 h1 =>
    cases view y ry with
    | bin k hk a b ha hb => exact absurd hk sy
    | num n2 h2 =>
      rw [exprT_num, exprT_num] at h
      obtain ⟨e, h⟩ := digits_unique (numB_lt h1).1 (numB_lt h2).1 hs.dig ht.dig h
      exact ⟨by rw [e], h⟩
    | ref n2 h2 => simp [kgrp] at hg
    | tot fd fs h1 h2 => simp [kgrp] at hg
    | neg a ha => simp [kgrp] at hg
    | two k hk a b ha hb => rcases hk with rfl | rfl <;> simp [kgrp] at hg
    | clamp a b c ha hb hc => simp [kgrp] at hg
  | ref n1 h1 =>
    cases view y ry with
    | bin k hk a b ha hb => exact absurd hk sy
    | ref n2 h2 =>
      rw [exprT_ref, exprT_ref] at h
      simp only [List.cons_append, List.cons.injEq, true_and] at h
      obtain ⟨e, h⟩ := digits_unique (by have := boxB_lt h1; omega) (by have := boxB_lt h2; omega) hs.dig ht.dig h
      exact ⟨by rw [e], h⟩
    | num n2 h2 => simp [kgrp] at hg
    | tot fd fs h1 h2 => simp [kgrp] at hg
    | neg a ha => simp [kgrp] at hg
    | two k hk a b ha hb => rcases hk with rfl | rfl <;> simp [kgrp] at hg
    | clamp a b c ha hb hc => simp [kgrp] at hg
  | tot fd fs h1 h2 =>
    cases view y ry with
    | bin k hk a b ha hb => exact absurd hk sy
    | tot gd gs g1 g2 =>
      rw [exprT_tot, exprT_tot] at h
      simp only [List.cons_append, List.cons.injEq, true_and, List.append_assoc, List.nil_append] at h
      have hstop : ∀ (l : List S54) (u : List UInt8), Stop1 (l.flatMap filterT ++ 41 :: u) := by
        intro l u
        cases l with
        | nil => exact stop1_cons (by simp)
        | cons f l => simp only [List.flatMap_cons, filterT, List.append_assoc, List.cons_append, List.nil_append]; exact stop1_cons (by simp)
      obtain ⟨e1, h⟩ := name_unique h1 g1 (hstop _ _).low (hstop _ _).low h
      obtain ⟨e2, h⟩ := filters_unique h2 g2 h
      exact ⟨by rw [e1, e2], h⟩
    | num n2 h2 => simp [kgrp] at hg
    | ref n2 h2 => simp [kgrp] at hg
    | neg a ha => simp [kgrp] at hg
    | two k hk a b ha hb => rcases hk with rfl | rfl <;> simp [kgrp] at hg
    | clamp a b c ha hb hc => simp [kgrp] at hg
  | neg a ha =>
    have hsa := size_lt (y := a) (k := 6) (m := 0) (fd := ⟨#[]⟩) (fs := []) (ks := [a]) (by simp)
    cases view y ry with
    | bin k hk a b ha hb => exact absurd hk sy
    | neg b hb' =>
      rw [exprT_neg, exprT_neg] at h
      simp only [List.cons_append, List.cons.injEq, true_and] at h
      obtain ⟨e, h⟩ := hb a b _ _ (by omega) ha hb' hs ht h
      exact ⟨by rw [e], h⟩
    | num n2 h2 => simp [kgrp] at hg
    | ref n2 h2 => simp [kgrp] at hg
    | tot fd fs h1 h2 => simp [kgrp] at hg
    | two k hk a b ha hb => rcases hk with rfl | rfl <;> simp [kgrp] at hg
    | clamp a b c ha hb hc => simp [kgrp] at hg
  | two k hk a b ha hb1 =>
    have hsa := size_lt (y := a) (k := k) (m := 0) (fd := ⟨#[]⟩) (fs := []) (ks := [a, b]) (by simp)
    have hsb := size_lt (y := b) (k := k) (m := 0) (fd := ⟨#[]⟩) (fs := []) (ks := [a, b]) (by simp)
    cases view y ry with
    | bin k hk a b ha hb => exact absurd hk sy
    | two k' hk' a' b' ha' hb' =>
      rw [exprT_two k hk, exprT_two k' hk'] at h
      simp only [List.cons_append, List.cons.injEq, true_and, List.append_assoc, List.nil_append] at h
      obtain ⟨e0, _, h⟩ := h
      have ek : k = k' := by
        rcases hk with rfl | rfl <;> rcases hk' with rfl | rfl <;> first | rfl | (revert e0; decide)
      obtain ⟨e1, h⟩ := hu a a' _ _ (by omega) ha ha' (stop_cons (by simp)) (stop_cons (by simp)) h
      simp only [List.cons.injEq, true_and] at h
      obtain ⟨e2, h⟩ := hu b b' _ _ (by omega) hb1 hb' (stop_cons (by simp)) (stop_cons (by simp)) h
      simp only [List.cons.injEq, true_and] at h
      exact ⟨by rw [ek, e1, e2], h⟩
    | num n2 h2 => rcases hk with rfl | rfl <;> simp [kgrp] at hg
    | ref n2 h2 => rcases hk with rfl | rfl <;> simp [kgrp] at hg
    | tot fd fs h1 h2 => rcases hk with rfl | rfl <;> simp [kgrp] at hg
    | neg a ha => rcases hk with rfl | rfl <;> simp [kgrp] at hg
    | clamp a b c ha hb hc => rcases hk with rfl | rfl <;> simp [kgrp] at hg
  | clamp a b c ha hb1 hc =>
    have hsa := size_lt (y := a) (k := 9) (m := 0) (fd := ⟨#[]⟩) (fs := []) (ks := [a, b, c]) (by simp)
    have hsb := size_lt (y := b) (k := 9) (m := 0) (fd := ⟨#[]⟩) (fs := []) (ks := [a, b, c]) (by simp)
    have hsc := size_lt (y := c) (k := 9) (m := 0) (fd := ⟨#[]⟩) (fs := []) (ks := [a, b, c]) (by simp)
    cases view y ry with
    | bin k hk a b ha hb => exact absurd hk sy
    | clamp a' b' c' ha' hb' hc' =>
      rw [exprT_clamp, exprT_clamp] at h
      simp only [List.cons_append, List.cons.injEq, true_and, List.append_assoc, List.nil_append] at h
      obtain ⟨e1, h⟩ := hu a a' _ _ (by omega) ha ha' (stop_cons (by simp)) (stop_cons (by simp)) h
      simp only [List.cons.injEq, true_and] at h
      obtain ⟨e2, h⟩ := hu b b' _ _ (by omega) hb1 hb' (stop_cons (by simp)) (stop_cons (by simp)) h
      simp only [List.cons.injEq, true_and] at h
      obtain ⟨e3, h⟩ := hu c c' _ _ (by omega) hc hc' (stop_cons (by simp)) (stop_cons (by simp)) h
      simp only [List.cons.injEq, true_and] at h
      exact ⟨by rw [e1, e2, e3], h⟩
    | num n2 h2 => simp [kgrp] at hg
    | ref n2 h2 => simp [kgrp] at hg
    | tot fd fs h1 h2 => simp [kgrp] at hg
    | neg a ha => simp [kgrp] at hg
    | two k hk a b ha hb => rcases hk with rfl | rfl <;> simp [kgrp] at hg

theorem uni_all : ∀ n : Nat, Uni n ∧ UniA n ∧ UniB n
  | 0 => ⟨fun x y s t h => absurd h (Nat.not_lt_zero _), fun x y s t h => absurd h (Nat.not_lt_zero _), fun x y s t h => absurd h (Nat.not_lt_zero _)⟩
  | n + 1 => by
    obtain ⟨hu, ha, hb⟩ := uni_all n
    have ha' := uniA_of hu hb
    have hu' : Uni (n + 1) := by
      intro x y s t hx rx ry hs ht h
      obtain ⟨hx1, lx, ex, sx, rx', px, zx, tx⟩ := spine_ex x rx
      obtain ⟨hy1, ly, ey, sy, ry', py, zy, ty⟩ := spine_ex y ry
      rw [tx, ty, List.append_assoc, List.append_assoc] at h
      obtain ⟨e1, h⟩ := ha' hx1 hy1 _ _ (by omega) rx' ry' sx sy (tl_stop _ _ hs) (tl_stop _ _ ht) h
      obtain ⟨e2, h⟩ := tl_unique hb lx ly s t (fun p hp => by have := px p hp; exact ⟨this.1, this.2.1, by omega⟩) (fun p hp => by have := py p hp; exact ⟨this.1, this.2.1⟩) hs ht h
      exact ⟨by rw [ex, ey, e1, e2], h⟩
    exact ⟨hu', ha', uniB_of hu' ha'⟩
theorem expr_unique {x y : S26} {s t : List UInt8} (rx : rightB x = true) (ry : rightB y = true) (hs : Stop0 s) (ht : Stop0 t) (h : exprT x ++ s = exprT y ++ t) : x = y ∧ s = t :=
  (uni_all (SizeOf.sizeOf x + 1)).1 x y s t (Nat.lt_succ_self _) rx ry hs ht h

theorem lines_unique : ∀ {l m : List S35}, (∀ x ∈ l, mayB x = true) → (∀ x ∈ m, mayB x = true) → l.flatMap lineB = m.flatMap lineB → l = m
  | [], [], _, _, _ => rfl
  | [], y :: m, _, hm, h => by
    have := hm y (by simp)
    simp [lineB, this] at h
  | x :: l, [], hl, _, h => by
    have := hl x (by simp)
    simp [lineB, this] at h
  | x :: l, y :: m, hl, hm, h => by
    have hx := hl x (by simp)
    have hy := hm y (by simp)
    have e : ∀ (x : S35) (r : List UInt8), mayB x = true → lineB x ++ r = 98 :: 111 :: 120 :: 32 :: (digits x.f0 ++ (32 :: 61 :: 32 :: (exprT x.f1 ++ (59 :: 10 :: r)))) := fun x r h => by simp [lineB, h]
    rw [List.flatMap_cons, List.flatMap_cons, e x _ hx, e y _ hy] at h
    simp only [List.cons.injEq, true_and] at h
    unfold mayB goodB at hx hy
    simp only [Bool.and_eq_true] at hx hy
    obtain ⟨e1, h⟩ := digits_unique (by have := boxB_lt hx.1; omega) (by have := boxB_lt hy.1; omega) (stop1_cons (by simp)).dig (stop1_cons (by simp)).dig h
    simp only [List.cons.injEq, true_and] at h
    obtain ⟨e2, h⟩ := expr_unique hx.2.2 hy.2.2 (stop_cons (by simp)) (stop_cons (by simp)) h
    simp only [List.cons.injEq, true_and] at h
    rw [lines_unique (fun z hz => hl z (by simp [hz])) (fun z hz => hm z (by simp [hz])) h]
    congr 1
    obtain ⟨a, b⟩ := x
    obtain ⟨c, d⟩ := y
    simp only at e1 e2
    rw [e1, e2]
end Go.Proofs.YtgkfpakncjncdaaDoor.Syn
