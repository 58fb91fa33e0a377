/- The document's names and its right expressions are the program's. -/
import Derived.Test.YtgkfpakncjncdaaDoorSynb
namespace Go.Proofs.YtgkfpakncjncdaaDoor.Syn
open Go.RowKit Go.Lib Go.Proofs.YtgkfpakncjncdaaDoorW.PrintWords Go.Proofs.YtgkfpakncjncdaaDoorW.PrintLast Go.Proofs.YtgkfpakncjncdaaDoorW.PrintMore Go.Proofs.YtgkfpakncjncdaaDoor.PSyn
set_option linter.unusedVariables false
set_option linter.unusedSimpArgs false

theorem lowP_bad {n : Nat} (h : n < 97 ∨ 122 < n) : lowP n = true := by unfold lowP; rcases h with h | h <;> simp [h]
theorem lowP_good {n : Nat} (h1 : 97 ≤ n) (h2 : n ≤ 122) : lowP n = false := by
  unfold lowP; rw [decide_eq_false (by omega), decide_eq_false (by omega)]; rfl

theorem decode_low (s : ByteArray) (i : Nat) (h : (s.get! i).toNat < 128) : Utf8.decode s i = ((s.get! i).toNat, 1) := by
  unfold Utf8.decode
  simp only [Nat.add_zero]
  rw [if_pos h]
theorem decode_high (s : ByteArray) (i : Nat) (h : 128 ≤ (s.get! i).toNat) : 128 ≤ (Utf8.decode s i).1 := by
  unfold Utf8.decode
  simp only [Nat.add_zero]
  rw [if_neg (by omega)]
  have hr : 128 ≤ Utf8.runeError := by decide
  split
  · split
    · simp only [ge_iff_le] at *; omega
    · exact hr
  · split
    · split
      · rename_i h2; simp only [ge_iff_le, Bool.and_eq_true, decide_eq_true_eq] at h2; simp only; omega
      · exact hr
    · split
      · split
        · rename_i h2; simp only [ge_iff_le, Bool.and_eq_true, decide_eq_true_eq] at h2; simp only; omega
        · exact hr
      · exact hr

theorem get_bang (s : ByteArray) (i : Nat) (h : i < s.size) : ((s.get! i).toNat : Int) = bt s i := by
  unfold bt
  rw [dif_pos (by simpa using h)]
  have : s.get! i = s[i] := by
    show s.data[i]! = s.data[i]
    rw [getElem!_pos]
  simp [this]

theorem decode_bad (s : ByteArray) (i : Nat) (h : i < s.size) (hb : bt s i < 97 ∨ 122 < bt s i) : lowP (Utf8.decode s i).1 = true := by
  rw [← get_bang s i h] at hb
  by_cases hl : (s.get! i).toNat < 128
  · rw [decode_low s i hl]; exact lowP_bad (by omega)
  · exact lowP_bad (.inr (by have := decode_high s i (by omega); omega))
theorem decode_good (s : ByteArray) (i : Nat) (h : i < s.size) (h1 : 97 ≤ bt s i) (h2 : bt s i ≤ 122) : lowP (Utf8.decode s i).1 = false ∧ (Utf8.decode s i).2 = 1 := by
  rw [← get_bang s i h] at h1 h2
  rw [decode_low s i (by omega)]
  exact ⟨lowP_good (by omega) (by omega), rfl⟩

/-- From a byte on: has the text a rune that is no small letter? -/
def badFrom (s : ByteArray) (i : Nat) : Prop := ∃ j, i ≤ j ∧ j < s.size ∧ (bt s j < 97 ∨ 122 < bt s j)
theorem idx_good (s : ByteArray) : ∀ (f i : Nat), ¬ badFrom s i → Lib.idxFuncFrom lowP true s f i = -1
  | 0, i, h => rfl
  | f + 1, i, h => by
    unfold Lib.idxFuncFrom
    by_cases hi : i < s.size
    · have hg : ¬ (bt s i < 97 ∨ 122 < bt s i) := fun hb => h ⟨i, Nat.le_refl _, hi, hb⟩
      have hd := decode_good s i hi (by omega) (by omega)
      rw [if_pos hi, hd.1, if_neg (by simp), hd.2]
      exact idx_good s f (i + 1) (fun ⟨j, hj, r⟩ => h ⟨j, by omega, r⟩)
    · rw [if_neg hi]
theorem idx_bad (s : ByteArray) : ∀ (f i : Nat), badFrom s i → s.size ≤ i + f → 0 ≤ Lib.idxFuncFrom lowP true s f i
  | 0, i, ⟨j, h1, h2, _⟩, hf => by omega
  | f + 1, i, h, hf => by
    unfold Lib.idxFuncFrom
    obtain ⟨j, h1, h2, h3⟩ := h
    rw [if_pos (by omega)]
    by_cases hb : bt s i < 97 ∨ 122 < bt s i
    · rw [decode_bad s i (by omega) hb, if_pos rfl]; omega
    · have hd := decode_good s i (by omega) (by omega) (by omega)
      rw [hd.1, if_neg (by simp), hd.2]
      refine idx_bad s f (i + 1) ⟨j, ?_, h2, h3⟩ (by omega)
      rcases Nat.eq_or_lt_of_le h1 with e | e
      · subst e; exact absurd h3 hb
      · exact e

theorem kw_ref (s : ByteArray) : octroiref30_Keyword.f s = some (kwB s) := by
  unfold kwB lexer_Keyword.f octroiref30_Keyword.f
  repeat' split
  all_goals first | rfl | simp_all

theorem nameL_ev (s : ByteArray) (hs : s.size ≤ 1000000) : ∀ (d i : Nat), s.size - i = d → i ≤ s.size → Ev (fun k => octroiref31_Name.l0 k s (i : Int)) (if decide (0 ≤ Lib.idxFuncFrom lowP true s (s.size - i) i) then false else if s.size < 1 then false else if 32 < s.size then false else !kwB s) := by
  intro d
  induction d with
  | zero =>
    intro i hd hi
    have e : i = s.size := by omega
    subst e
    rw [Nat.sub_self]
    simp only [Lib.idxFuncFrom, show ¬ (0 : Int) ≤ -1 from by decide, decide_false, Bool.false_eq_true, if_false]
    refine Ev.step (f := fun _ => some (if s.size < 1 then false else if 32 < s.size then false else !kwB s)) (fun k => ?_) (Ev.now _)
    simp only [octroiref31_Name.l0]
    rw [if_neg (by omega), kw_ref]
    by_cases h1 : s.size < 1
    · rw [if_neg (by omega), if_pos h1]
    · rw [if_pos (by omega), if_neg h1]
      by_cases h2 : 32 < s.size
      · rw [if_neg (by omega), if_pos h2]
      · rw [if_pos (by omega), if_neg h2]; rfl
  | succ d ih =>
    intro i hd hi
    have hlt : i < s.size := by omega
    obtain ⟨f, hf⟩ : ∃ f, s.size - i = f + 1 := ⟨d, by omega⟩
    have hfd : f = s.size - (i + 1) := by omega
    by_cases hb : bt s i < 97 ∨ 122 < bt s i
    · have hbad : decide (0 ≤ Lib.idxFuncFrom lowP true s (s.size - i) i) = true := decide_eq_true (idx_bad s _ i ⟨i, Nat.le_refl _, hlt, hb⟩ (by omega))
      rw [hbad, if_pos rfl]
      refine Ev.step (f := fun _ => some false) (fun k => ?_) (Ev.now _)
      simp only [octroiref31_Name.l0]
      rw [if_pos (by omega), if_pos (by omega)]
      rcases hb with hb | hb
      · rw [if_pos hb]
      · by_cases h0 : bt s i < 97
        · rw [if_pos h0]
        · rw [if_neg h0, if_pos hb]
    · have hd' := decode_good s i hlt (by omega) (by omega)
      have hn : Lib.idxFuncFrom lowP true s (s.size - i) i = Lib.idxFuncFrom lowP true s (s.size - (i + 1)) (i + 1) := by
        rw [hf, ← hfd]
        conv => lhs; unfold Lib.idxFuncFrom
        rw [if_pos hlt, hd'.1, if_neg (by simp), hd'.2]
      rw [hn]
      refine Ev.step (f := fun k => octroiref31_Name.l0 k s ((i + 1 : Nat) : Int)) (fun k => ?_) (ih (i + 1) (by omega) (by omega))
      simp only [octroiref31_Name.l0]
      rw [if_pos (by omega), if_pos (by omega), if_neg (by omega), if_neg (by omega), wrap_small (by omega) (by omega)]
      rfl

theorem name_ev (s : ByteArray) (hs : s.size ≤ 1000000) : Ev (fun k => octroiref31_Name.f k s) (nameB s) := by
  have h := nameL_ev s hs _ 0 rfl (Nat.zero_le _)
  have e : nameB s = (if decide (0 ≤ Lib.idxFuncFrom lowP true s (s.size - 0) 0) then false else if s.size < 1 then false else if 32 < s.size then false else !kwB s) := by
    unfold nameB Lib.idxFunc
    rw [Nat.sub_zero]
    by_cases h1 : s.size < 1
    · simp [h1]
    by_cases h2 : 32 < s.size
    · simp [h1, h2]
    cases kwB s <;> simp [h1, h2]
  rw [e]
  exact h
end Go.Proofs.YtgkfpakncjncdaaDoor.Syn
/- The document's right expressions are the program's. -/
namespace Go.Proofs.YtgkfpakncjncdaaDoor.Syn
open Go.RowKit Go.Lib Go.Proofs.YtgkfpakncjncdaaDoorW.PrintWords Go.Proofs.YtgkfpakncjncdaaDoorW.PrintLast Go.Proofs.YtgkfpakncjncdaaDoorW.PrintMore Go.Proofs.YtgkfpakncjncdaaDoor.PSyn
set_option linter.unusedVariables false
set_option linter.unusedSimpArgs false

mutual
def shortB : S26 → Bool
  | ⟨_, _, fd, fs, ks⟩ => decide (fd.size ≤ 100) && fs.all (fun f => decide (f.f0.size ≤ 100)) && shortL ks
def shortL : List S26 → Bool
  | [] => true
  | x :: l => shortB x && shortL l
end
theorem shortL_eq (l : List S26) : shortL l = l.all shortB := by
  induction l with
  | nil => simp [shortL]
  | cons x l ih => simp [shortL, ih]

def manyN (a : Int) : Int := if (kidsN a).2 then (kidsN a).1 else -1
theorem many_ev (a : Int) : Ev (fun k => octroiref31_many.f k a) (manyN a) := by
  refine ⟨2, fun n hn => ?_⟩
  obtain ⟨k, rfl⟩ : ∃ k, n = k + 2 := ⟨n - 2, by omega⟩
  unfold octroiref31_many.f octroiref31_many.j0 octroiref31_many.j1 manyN kidsN
  by_cases h1 : a = 1
  · subst h1; rfl
  by_cases h2 : a = 2
  · subst h2; rfl
  by_cases h3 : a = 3
  · subst h3; rfl
  by_cases h6 : a = 6
  · subst h6; rfl
  by_cases h4 : a = 4
  · subst h4; rfl
  by_cases h5 : a = 5
  · subst h5; rfl
  by_cases h7 : a = 7
  · subst h7; rfl
  by_cases h8 : a = 8
  · subst h8; rfl
  by_cases h9 : a = 9
  · subst h9; rfl
  simp [h1, h2, h3, h4, h5, h6, h7, h8, h9]

theorem num_ref (n : Int) : octroiref31_number.f n = some (numB n) := by unfold numB octroiref31_number.f; split <;> rfl
theorem box_ref (n : Int) : octroiref31_BoxNumber.f n = some (boxB n) := by unfold boxB octroiref31_BoxNumber.f; split <;> rfl
theorem rd_fi {l : List S54} {i : Nat} (h : i < l.length) : rd_T54 l (i : Int) = l[i] := by simp [rd_T54, List.getD_eq_getElem?_getD, h]

/-- the loop over the filters, and what stands behind it -/
theorem rightF_ev (k0 n : Int) (fd : ByteArray) (fs : List S54) (ks : List S26) (hlen : fs.length ≤ 9223372036854775807) (hfd : fd.size ≤ 1000000) (hfs : ∀ f ∈ fs, f.f0.size ≤ 1000000) :
    ∀ (d i : Nat), fs.length - i = d → i ≤ fs.length → Ev (fun k => octroiref31_right.l0 k (i : Int) k0 n fd fs ks) (!((fs.drop i).any fun f => !picksB f) && (decide (n = 0) && nameB fd && decide (fs.length ≤ 16))) := by
  intro d
  induction d with
  | zero =>
    intro i hd hi
    rw [List.drop_eq_nil_of_le (by omega)]
    simp only [List.any_nil, Bool.not_false, Bool.true_and]
    by_cases hn : n = 0
    · subst hn
      rw [decide_eq_true rfl]
      simp only [Bool.true_and]
      refine Ev.step (f := fun k => (octroiref31_Name.f k fd).bind fun t => if t = true then some (decide ((fs.length : Int) ≤ 16)) else some false) (fun k => ?_) ?_
      · simp only [octroiref31_right.l0]
        rw [if_neg (by omega), if_pos trivial]
      · refine Ev.bind (name_ev fd hfd) ?_
        cases nameB fd
        · exact Ev.now _
        · simp only [Bool.true_and, if_true]
          have e : decide ((fs.length : Int) ≤ 16) = decide (fs.length ≤ 16) := by
            by_cases h : fs.length ≤ 16
            · rw [decide_eq_true h, decide_eq_true (by omega)]
            · rw [decide_eq_false h, decide_eq_false (by omega)]
          rw [e]
          exact Ev.now _
    · rw [decide_eq_false hn]
      simp only [Bool.false_and]
      refine Ev.step (f := fun _ => some false) (fun k => ?_) (Ev.now _)
      simp only [octroiref31_right.l0]
      rw [if_neg (by omega), if_neg hn]
  | succ d ih =>
    intro i hd hi
    have hlt : i < fs.length := by omega
    have ih' := ih (i + 1) (by omega) (by omega)
    rw [List.drop_eq_getElem_cons hlt, List.any_cons]
    have hname := name_ev fs[i].f0 (hfs _ (List.getElem_mem hlt))
    refine Ev.step (f := fun k => (octroiref31_Name.f k fs[i].f0).bind fun t178 => (if t178 = true then (if fs[i].f1 = 61 then ((octroiref31_number.f fs[i].f2).bind fun t179 => (if t179 = true then (octroiref31_right.l0 k ((i + 1 : Nat) : Int) k0 n fd fs ks) else (some false))) else (if fs[i].f1 = 60 then ((octroiref31_number.f fs[i].f2).bind fun t180 => (if t180 = true then (octroiref31_right.l0 k ((i + 1 : Nat) : Int) k0 n fd fs ks) else (some false))) else (if fs[i].f1 = 62 then ((octroiref31_number.f fs[i].f2).bind fun t181 => (if t181 = true then (octroiref31_right.l0 k ((i + 1 : Nat) : Int) k0 n fd fs ks) else (some false))) else (some false)))) else (some false))) (fun k => ?_) ?_
    · simp only [octroiref31_right.l0]
      rw [if_pos (by omega), if_pos (by omega), rd_fi hlt, wrap_small (by omega) (by omega)]
      rfl
    · refine Ev.bind hname ?_
      generalize fs[i] = f at *
      generalize (List.drop (i + 1) fs).any (fun f => !picksB f) = rest at ih' ⊢
      unfold picksB signB
      rw [num_ref]
      cases nameB f.f0
      · simp only [Bool.false_eq_true, if_false, Bool.false_and, Bool.not_false, Bool.true_or, Bool.not_true]
        exact Ev.now _
      · simp only [if_true, Bool.true_and, Option.bind_some]
        cases numB f.f2
        · simp only [Bool.false_eq_true, if_false, Bool.and_false, Bool.not_false, Bool.true_or, Bool.not_true, Bool.false_and]
          have : (fun _ : Nat => if f.f1 = 61 then some false else if f.f1 = 60 then some false else if f.f1 = 62 then some false else some false) = fun _ => some false := by funext _; simp only [ite_self]
          rw [this]
          exact Ev.now _
        · simp only [if_true, Bool.and_true]
          by_cases h1 : f.f1 = 61
          · rw [h1]; simpa using ih'
          by_cases h2 : f.f1 = 60
          · rw [h2]; simpa using ih'
          by_cases h3 : f.f1 = 62
          · rw [h3]; simpa using ih'
          simp only [h1, h2, h3, if_false]
          have e1 : (f.f1 == 61) = false := beq_eq_false_iff_ne.mpr h1
          have e2 : (f.f1 == 60) = false := beq_eq_false_iff_ne.mpr h2
          have e3 : (f.f1 == 62) = false := beq_eq_false_iff_ne.mpr h3
          rw [e1, e2, e3]
          exact Ev.now _

/-- the loop over the Kids, and what stands behind it -/
theorem rightK_ev (k0 n : Int) (fd : ByteArray) (fs : List S54) (ks : List S26) (hlen : ks.length ≤ 9223372036854775807) (hks : ∀ y ∈ ks, Ev (fun k => octroiref31_right.f k y.f0 y.f1 y.f2 y.f3 y.f4) (rightB y)) :
    ∀ (d i : Nat), ks.length - i = d → i ≤ ks.length → Ev (fun k => octroiref31_right.l1 k (i : Int) k0 n fd fs ks) (!((ks.drop i).any fun f => !rightB f) && decide (n = 0)) := by
  intro d
  induction d with
  | zero =>
    intro i hd hi
    rw [List.drop_eq_nil_of_le (by omega)]
    simp only [List.any_nil, Bool.not_false, Bool.true_and]
    refine Ev.step (f := fun _ => some (n == 0)) (fun k => ?_) (by rw [show decide (n = 0) = (n == 0) from by by_cases h : n = 0 <;> simp [h]]; exact Ev.now _)
    simp only [octroiref31_right.l1]
    rw [if_neg (by omega)]
  | succ d ih =>
    intro i hd hi
    have hlt : i < ks.length := by omega
    have ih' := ih (i + 1) (by omega) (by omega)
    rw [List.drop_eq_getElem_cons hlt, List.any_cons]
    refine Ev.step (f := fun k => (octroiref31_right.f k ks[i].f0 ks[i].f1 ks[i].f2 ks[i].f3 ks[i].f4).bind fun t => if t = true then octroiref31_right.l1 k ((i + 1 : Nat) : Int) k0 n fd fs ks else some false) (fun k => ?_) ?_
    · simp only [octroiref31_right.l1]
      rw [if_pos (by omega), if_pos (by omega), rd_at hlt, wrap_small (by omega) (by omega)]
      rfl
    · refine Ev.bind (hks _ (List.getElem_mem hlt)) ?_
      generalize ks[i] = y at *
      cases rightB y
      · simp only [Bool.false_eq_true, if_false, Bool.not_false, Bool.true_or, Bool.not_true, Bool.false_and]
        exact Ev.now _
      · simpa using ih'

theorem right_step_ev (k0 n : Int) (fd : ByteArray) (fs : List S54) (ks : List S26) (hlen : fs.length ≤ 9223372036854775807) (hlen2 : ks.length ≤ 9223372036854775807) (hfd : fd.size ≤ 1000000) (hfs : ∀ f ∈ fs, f.f0.size ≤ 1000000)
    (hks : ∀ y ∈ ks, Ev (fun k => octroiref31_right.f k y.f0 y.f1 y.f2 y.f3 y.f4) (rightB y)) :
    Ev (fun k => octroiref31_right.f k k0 n fd fs ks) (rightB ⟨k0, n, fd, fs, ks⟩) := by
  have hF := rightF_ev k0 n fd fs ks hlen hfd hfs _ 0 rfl (Nat.zero_le _)
  have hK := rightK_ev k0 n fd fs ks hlen2 hks _ 0 rfl (Nat.zero_le _)
  rw [List.drop_zero] at hF hK
  rw [rightB, anyWrong_eq]
  have hj : ∀ b, Ev (fun k => octroiref31_right.j0 k b k0 n fd fs ks) (if b = true then false else if k0 = 1 then numB n else if k0 = 2 then boxB n
    else if k0 = 3 then decide (n = 0) && nameB fd && decide (fs.length ≤ 16) && !(fs.any fun f => !picksB f)
    else decide (n = 0) && !(ks.any fun f => !rightB f)) := by
    intro b
    refine Ev.step (f := fun k => (if b = true then (some false) else (if k0 = 1 then ((octroiref31_number.f n).bind fun t173 => (some t173)) else (if k0 = 2 then ((octroiref31_BoxNumber.f n).bind fun t174 => (some t174)) else (if k0 = 3 then (octroiref31_right.l0 k 0 k0 n fd fs ks) else (octroiref31_right.l1 k 0 k0 n fd fs ks)))))) (fun k => by simp only [octroiref31_right.j0]) ?_
    rw [num_ref, box_ref]
    cases b
    · simp only [Bool.false_eq_true, if_false, Option.bind_some]
      by_cases h1 : k0 = 1
      · simp only [h1, if_true]; exact Ev.now _
      by_cases h2 : k0 = 2
      · simp only [h2, if_true, show ¬ (2 : Int) = 1 from by decide, if_false]; exact Ev.now _
      by_cases h3 : k0 = 3
      · simp only [h1, h2, h3, if_true, if_false, show ¬ (3 : Int) = 1 from by decide, show ¬ (3 : Int) = 2 from by decide]
        rw [Bool.and_comm]
        rw [h3] at hF
        exact hF
      · simp only [h1, h2, h3, if_false]
        rw [Bool.and_comm]
        exact hK
    · simp only [if_true]; exact Ev.now _
  refine Ev.step (f := fun k => (octroiref31_many.f k k0).bind fun t172 => (if (ks.length : Int) = t172 then (if k0 = 3 then (octroiref31_right.j0 k false k0 n fd fs ks) else (if fd.toList = ([] : List UInt8) then (octroiref31_right.j0 k (decide ((fs.length : Int) > 0)) k0 n fd fs ks) else (octroiref31_right.j0 k true k0 n fd fs ks))) else (octroiref31_right.j0 k true k0 n fd fs ks))) (fun k => by simp only [octroiref31_right.f]) ?_
  refine Ev.bind (many_ev k0) ?_
  unfold manyN
  by_cases hok : (kidsN k0).2 = false
  · rw [if_pos hok, hok]
    simp only [Bool.false_eq_true, if_false, show ¬ ((ks.length : Int) = -1) from by omega]
    exact hj true
  · rw [if_neg hok]
    have hok' : (kidsN k0).2 = true := by simpa using hok
    rw [hok']
    simp only [if_true]
    by_cases hm : (ks.length : Int) = (kidsN k0).1
    · rw [if_neg (by simpa using hm)]
      simp only [if_pos hm]
      by_cases h3 : k0 = 3
      · simp only [if_pos h3]
        rw [if_neg (by simp [h3])]
        have := hj false
        simp only [Bool.false_eq_true, if_false, if_pos h3] at this
        exact this
      · simp only [if_neg h3]
        by_cases hf : fd.toList = []
        · simp only [if_pos hf]
          by_cases h0 : 0 < fs.length
          · rw [if_pos ⟨h3, Or.inr h0⟩]
            simp only [decide_eq_true (show (fs.length : Int) > 0 from by omega)]
            exact hj true
          · rw [if_neg (by rintro ⟨_, h | h⟩ <;> contradiction)]
            simp only [decide_eq_false (show ¬ (fs.length : Int) > 0 from by omega)]
            have := hj false
            simp only [Bool.false_eq_true, if_false, if_neg h3] at this
            exact this
        · simp only [if_neg hf]
          rw [if_pos ⟨h3, Or.inl hf⟩]
          exact hj true
    · rw [if_pos hm]
      simp only [if_neg hm]
      exact hj true

theorem right_ev (x : S26) (hx : Lies x) (hs : shortB x = true) : Ev (fun k => octroiref31_right.f k x.f0 x.f1 x.f2 x.f3 x.f4) (rightB x) := by
  suffices h : ∀ (n : Nat) (x : S26), SizeOf.sizeOf x < n → Lies x → shortB x = true → Ev (fun k => octroiref31_right.f k x.f0 x.f1 x.f2 x.f3 x.f4) (rightB x) from h _ x (Nat.lt_succ_self _) hx hs
  intro n
  induction n with
  | zero => intro x hx; exact absurd hx (Nat.not_lt_zero _)
  | succ n ih =>
    intro x hn hx hs
    obtain ⟨k, m, fd, fs, ks⟩ := x
    rw [shortB, shortL_eq] at hs
    simp only [Bool.and_eq_true, decide_eq_true_eq, List.all_eq_true] at hs
    refine right_step_ev k m fd fs ks hx.filters hx.kids.1 (by omega) (fun f hf => by have := hs.1.2 f hf; omega) (fun y hy => ih y ?_ (hx.kids.2 y hy) (hs.2 y hy))
    have h1 : SizeOf.sizeOf y < SizeOf.sizeOf ks := List.sizeOf_lt_of_mem hy
    have h2 : SizeOf.sizeOf (S26.mk k m fd fs ks) = 1 + SizeOf.sizeOf k + SizeOf.sizeOf m + SizeOf.sizeOf fd + SizeOf.sizeOf fs + SizeOf.sizeOf ks := by simp
    omega

theorem goodref_ev (x : S26) (hx : Lies x) (hs : shortB x = true) : Ev (fun k => octroiref31_GoodExpr.f k x.f0 x.f1 x.f2 x.f3 x.f4) (goodB x) := by
  unfold octroiref31_GoodExpr.f goodB
  refine Ev.bind (deep_ev 64 x (by omega) hx) ?_
  by_cases h : depthN 64 x ≤ 64
  · rw [decide_eq_true h]
    simp only [if_pos h, Bool.true_and]
    exact Ev.bind (right_ev x hx hs) (Ev.now _)
  · rw [decide_eq_false h]
    simp only [if_neg h, Bool.false_and]
    exact Ev.now _
end Go.Proofs.YtgkfpakncjncdaaDoor.Syn
