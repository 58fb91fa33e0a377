/- merged -/
import Derived.Test.YtgkfpakncjncdaaDoorPSynx3
import Derived.Test.YtgkfpakncjncdaaDoorPSynx5
import Derived.Test.YtgkfpakncjncdaaDoorPSynx8
import Derived.Test.YtgkfpakncjncdaaDoorPSynx9
import Derived.Shelf.GgClosure.StringsIndexFuncTop
namespace Go.Proofs.YtgkfpakncjncdaaDoor.Syn
open Go.RowKit Go.Lib Go.Proofs.YtgkfpakncjncdaaDoorW.PrintWords Go.Proofs.YtgkfpakncjncdaaDoorW.PrintLast Go.Proofs.YtgkfpakncjncdaaDoorW.PrintMore Go.Proofs.YtgkfpakncjncdaaDoor.PSyn
set_option linter.unusedVariables false
set_option linter.unusedSimpArgs false

def kwB (s : ByteArray) : Bool := (lexer_Keyword.f s).getD false
theorem kwB_eq (s : ByteArray) : lexer_Keyword.f s = some (kwB s) := by
  unfold kwB lexer_Keyword.f
  repeat' split
  all_goals rfl

def lowP (r : Nat) : Bool := decide (r < 97) || decide (122 < r)
def nameB (s : ByteArray) : Bool := if s.size < 1 then false else if 32 < s.size then false else if kwB s then false else !decide (0 ≤ Lib.idxFunc lowP true s)

theorem drawn_below {w w' : World} (h : Drawn0 w w') : Below w.heap.size w w' := h.below

theorem name1_at (w : World) : PredAt Tryd.prog 64 #[] encR lowP w := fun W r _ => by
  unfold FnGives
  by_cases h1 : r < 97 <;> by_cases h2 : 122 < r
  all_goals
    have z1 : (r : Int) < 97 ↔ r < 97 := by omega
    have z2 : (122 : Int) < (r : Int) ↔ 122 < r := by omega
    go_enter Tryd.func64, Tryd.ntmps64
    go_wp2
    all_goals first | (exfalso; omega) | (go_ret; exact ⟨by simp [lowP, h1, h2], 0, rfl⟩)

/-- what is left of name: that strings.ContainsFunc is the library's -/
def CFn : Prop := ∀ (s : ByteArray) (w : World), Calls Tryd.prog 63 #[.string s, .func (.func 64) #[] #[]] w fun e w' => e = .returned (.bool (decide (0 ≤ Lib.idxFunc lowP true s))) ∧ Below w.heap.size w w'

theorem name_calls (hcf : CFn) (s : ByteArray) (w : World) :
    Calls Tryd.prog 53 #[.string s] w fun e w' => e = .returned (.bool (nameB s)) ∧ Below w.heap.size w w' := by
  unfold nameB
  by_cases h1 : s.size < 1
  · rw [if_pos h1]
    have b1 : decide ((s.size : Int) < 1) = true := decide_eq_true (by omega)
    go_enter Tryd.func53, Tryd.ntmps53
    go_wp2_with fail
    go_ret
    exact ⟨rfl, Below.refl _ _⟩
  · rw [if_neg h1]
    have b1 : decide ((s.size : Int) < 1) = false := decide_eq_false (by omega)
    by_cases h2 : 32 < s.size
    · rw [if_pos h2]
      have b2 : decide ((32 : Int) < (s.size : Int)) = true := decide_eq_true (by omega)
      go_enter Tryd.func53, Tryd.ntmps53
      go_wp2_with fail
      go_ret
      exact ⟨rfl, Below.refl _ _⟩
    · rw [if_neg h2]
      have b2 : decide ((32 : Int) < (s.size : Int)) = false := decide_eq_false (by omega)
      have hk := lexer_Keyword.calls s (kwB s) w (kwB_eq s)
      generalize kwB s = kb at hk ⊢
      obtain ⟨I, hI⟩ : ∃ I, decide (0 ≤ Lib.idxFunc lowP true s) = I := ⟨_, rfl⟩
      have HC : ∀ W, Calls Tryd.prog 63 #[.string s, .func (.func 64) #[] #[]] W fun e w' => e = .returned (.bool I) ∧ Below W.heap.size W w' := fun W => hI ▸ hcf s W
      have HC := Aside0.mk HC
      rw [hI]
      clear hI
      cases kb
      · go_enter Tryd.func53, Tryd.ntmps53
        go_wp2_with (first | (go_at_call 62; refine hk.mono ?_; rintro e w' ⟨rfl, hd⟩) | (go_at_call 63; refine (HC.out _).mono ?_; rintro e w' ⟨rfl, hb⟩))
        go_ret
        exact ⟨rfl, hd.below.trans (hb.mono hd.below.size)⟩
      · go_enter Tryd.func53, Tryd.ntmps53
        go_wp2_with (first | (go_at_call 62; refine hk.mono ?_; rintro e w' ⟨rfl, hd⟩))
        go_ret
        exact ⟨rfl, hd.below⟩
end Go.Proofs.YtgkfpakncjncdaaDoor.Syn
/- slices.IndexFunc and slices.ContainsFunc over filters and expressions, at whatever predicate that keeps to its list. -/
namespace Go.Proofs.YtgkfpakncjncdaaDoor.Syn
open Go.RowKit Go.Lib Go.Proofs.YtgkfpakncjncdaaDoorW.PrintWords Go.Proofs.YtgkfpakncjncdaaDoorW.PrintLast Go.Proofs.YtgkfpakncjncdaaDoorW.PrintMore Go.Proofs.YtgkfpakncjncdaaDoor.PSyn
set_option linter.unusedVariables false
set_option linter.unusedSimpArgs false

/-- what is asked of a predicate over elements that read as the members of a list -/
def PredK {α : Type} (d : Kd α) (g : Nat) (lb : Array Value) (p : α → Bool) (l : List α) (w : World) : Prop :=
  ∀ x ∈ l, ∀ (W : World) (cs : List Value), Below w.heap.size w W → d.K W x cs → Calls Tryd.prog g (#[.agg cs.toArray] ++ lb) W fun e w' => e = .returned (.bool (p x)) ∧ Below W.heap.size W w'

/-- where the first is, of which p holds; -1 -/
def idxP {α : Type} (p : α → Bool) : List α → Nat → Int
  | [], _ => -1
  | x :: l, k => if p x then (k : Int) else idxP p l (k + 1)
theorem idxP_any {α : Type} (p : α → Bool) : ∀ (l : List α) (k : Nat), decide (0 ≤ idxP p l k) = l.any p
  | [], k => by simp [idxP]
  | x :: l, k => by
    unfold idxP
    by_cases h : p x = true
    · rw [if_pos h]; simp [h]
    · rw [if_neg h, idxP_any p l (k + 1)]; simp [h]
theorem idxP_drop {α : Type} (p : α → Bool) (l : List α) (k : Nat) (h : k < l.length) : idxP p (l.drop k) k = if p l[k] then (k : Int) else idxP p (l.drop (k + 1)) (k + 1) := by
  rw [List.drop_eq_getElem_cons h, idxP]

set_option maxHeartbeats 2000000 in
/-- slices.IndexFunc at octroi/api.Expr: where the first element is of which p holds. -/
theorem indexFuncEx (g : Nat) (lb : Array Value) (eg : ∀ args w, (callFunc g args).run Tryd.prog w = .ok (.enter g args) w) (p : S26 → Bool) (l : List S26) (A : Option Addr) (c : Nat) (w : World)
    (hr : Kd.C k26 w A l.length l) (hp : PredK k26 g lb p l w) :
    Calls Tryd.prog 66 #[.slice A l.length c, .func (.func g) #[] lb] w fun e w' => e = .returned (.int .i64 (idxP p l 0)) ∧ Below w.heap.size w w' := by
  have hbig : l.length ≤ 9223372036854775807 := hr.2.1
  have HR := Aside0.mk hr
  have HP := Aside0.mk hp
  clear hr hp
  go_enter Tryd.func66, Tryd.ntmps66
  go_wp2
  go_loopg [5, 8] l.length (fun gg _ s8 wr => ∃ kk : Nat, kk ≤ l.length ∧ l.length - kk ≤ gg ∧ s8 = .int .i64 kk ∧ Aside (Below w.heap.size w wr) ∧ Aside (idxP p (l.drop kk) kk = idxP p l 0))
  case atStart => exact ⟨0, Nat.zero_le _, by omega, rfl, Below.refl _ w, rfl⟩
  case round =>
    obtain ⟨kk, hkk, hg, rfl, BW, HI⟩ := hrel
    by_cases hlt : kk < l.length
    · have hltz : (kk : Int) < (l.length : Int) := by omega
      have hI2 := HI.out
      rw [idxP_drop p l kk hlt] at hI2
      obtain ⟨ad, A3, c3, A4, c4, hA, h0, h1, h2, h3, h4, hl3, hi3, hl4, hi4⟩ := at_T26 HR.out (kk : Int) (by omega) hltz
      have hx : rd_T26 l (kk : Int) = l[kk] := by simp [rd_T26, List.getD_eq_getElem?_getD, hlt]
      rw [hx] at h0 h1 h2 h3 h4 hl3 hi3 hl4 hi4
      simp only [Int.toNat_natCast] at h0 h1 h2 h3 h4
      have hcall := HP.out l[kk] (List.getElem_mem hlt) wr _ BW.out (k26.K_below (BW.out.mono (Nat.le_refl _)) (k26_mk w l[kk] hl3 hi3 hl4 hi4))
      replace h0 := (BW.out.cell (World.block_lt_of_cell? w _ h0)).trans h0
      replace h1 := (BW.out.cell (World.block_lt_of_cell? w _ h1)).trans h1
      replace h2 := (BW.out.cell (World.block_lt_of_cell? w _ h2)).trans h2
      replace h3 := (BW.out.cell (World.block_lt_of_cell? w _ h3)).trans h3
      replace h4 := (BW.out.cell (World.block_lt_of_cell? w _ h4)).trans h4
      subst hA
      clear hx
      generalize l[kk] = y at *
      have HI := Aside0.mk hI2
      clear hI2
      have HL := Aside0.mk (And.intro hi3 hi4)
      clear hi3 hi4
      cases hq : p y with
      | true =>
        rw [hq] at hcall
        have HQ := Aside0.mk hq
        clear hq
        go_wp2_with (go_at_fn g; refine hcall.mono ?_; rintro e w' ⟨rfl, hb'⟩)
        go_ret
        refine ⟨?_, BW.out.trans (hb'.mono BW.out.size)⟩
        have := HI.out
        rw [HQ.out] at this
        rw [← this]; rfl
      | false =>
        rw [hq] at hcall
        have HQ := Aside0.mk hq
        clear hq
        go_wp2_with (go_at_fn g; refine hcall.mono ?_; rintro e w' ⟨rfl, hb'⟩)
        go_roundg (l.length - (kk + 1))
        case measure => omega
        case rel =>
          refine ⟨kk + 1, by omega, by omega, by go_num, BW.out.trans (hb'.mono BW.out.size), ?_⟩
          have := HI.out
          rw [HQ.out] at this
          exact this
    · have hltz : ¬ (kk : Int) < (l.length : Int) := by omega
      go_wp2
      go_ret
      refine ⟨?_, BW.out⟩
      have := HI.out
      rw [List.drop_eq_nil_of_le (by omega)] at this
      rw [← this]; rfl

/-- slices.ContainsFunc at octroi/api.Expr: is there an element of which p holds? -/
theorem containsFuncEx (g : Nat) (lb : Array Value) (eg : ∀ args w, (callFunc g args).run Tryd.prog w = .ok (.enter g args) w) (p : S26 → Bool) (l : List S26) (A : Option Addr) (c : Nat) (w : World)
    (hr : Kd.C k26 w A l.length l) (hp : PredK k26 g lb p l w) :
    Calls Tryd.prog 56 #[.slice A l.length c, .func (.func g) #[] lb] w fun e w' => e = .returned (.bool (l.any p)) ∧ Below w.heap.size w w' := by
  have hI := indexFuncEx g lb eg p l A c w hr hp
  rw [← idxP_any p l 0]
  generalize idxP p l 0 = I at hI ⊢
  clear eg hr hp
  go_enter Tryd.func56, Tryd.ntmps56
  go_wp2_with (go_at_call 66; refine hI.mono ?_; rintro e w' ⟨rfl, hb⟩)
  go_ret
  exact ⟨rfl, hb⟩


set_option maxHeartbeats 2000000 in
/-- slices.IndexFunc at octroi/api.Filter: where the first element is of which p holds. -/
theorem indexFuncFi (g : Nat) (lb : Array Value) (eg : ∀ args w, (callFunc g args).run Tryd.prog w = .ok (.enter g args) w) (p : S54 → Bool) (l : List S54) (A : Option Addr) (c : Nat) (w : World)
    (hr : Kd.C k54 w A l.length l) (hp : PredK k54 g lb p l w) :
    Calls Tryd.prog 65 #[.slice A l.length c, .func (.func g) #[] lb] w fun e w' => e = .returned (.int .i64 (idxP p l 0)) ∧ Below w.heap.size w w' := by
  have hbig : l.length ≤ 9223372036854775807 := hr.2.1
  have HR := Aside0.mk hr
  have HP := Aside0.mk hp
  clear hr hp
  go_enter Tryd.func65, Tryd.ntmps65
  go_wp2
  go_loopg [5, 8] l.length (fun gg _ s8 wr => ∃ kk : Nat, kk ≤ l.length ∧ l.length - kk ≤ gg ∧ s8 = .int .i64 kk ∧ Aside (Below w.heap.size w wr) ∧ Aside (idxP p (l.drop kk) kk = idxP p l 0))
  case atStart => exact ⟨0, Nat.zero_le _, by omega, rfl, Below.refl _ w, rfl⟩
  case round =>
    obtain ⟨kk, hkk, hg, rfl, BW, HI⟩ := hrel
    by_cases hlt : kk < l.length
    · have hltz : (kk : Int) < (l.length : Int) := by omega
      have hI2 := HI.out
      rw [idxP_drop p l kk hlt] at hI2
      obtain ⟨ad, hA, h0, h1, h2⟩ := at_T54 HR.out (kk : Int) (by omega) hltz
      have hx : rd_T54 l (kk : Int) = l[kk] := by simp [rd_T54, List.getD_eq_getElem?_getD, hlt]
      rw [hx] at h0 h1 h2
      simp only [Int.toNat_natCast] at h0 h1 h2
      have hcall := HP.out l[kk] (List.getElem_mem hlt) wr _ BW.out (k54.K_below (BW.out.mono (Nat.le_refl _)) (k54_mk w l[kk] ))
      replace h0 := (BW.out.cell (World.block_lt_of_cell? w _ h0)).trans h0
      replace h1 := (BW.out.cell (World.block_lt_of_cell? w _ h1)).trans h1
      replace h2 := (BW.out.cell (World.block_lt_of_cell? w _ h2)).trans h2
      subst hA
      clear hx
      generalize l[kk] = y at *
      have HI := Aside0.mk hI2
      clear hI2
      cases hq : p y with
      | true =>
        rw [hq] at hcall
        have HQ := Aside0.mk hq
        clear hq
        go_wp2_with (go_at_fn g; refine hcall.mono ?_; rintro e w' ⟨rfl, hb'⟩)
        go_ret
        refine ⟨?_, BW.out.trans (hb'.mono BW.out.size)⟩
        have := HI.out
        rw [HQ.out] at this
        rw [← this]; rfl
      | false =>
        rw [hq] at hcall
        have HQ := Aside0.mk hq
        clear hq
        go_wp2_with (go_at_fn g; refine hcall.mono ?_; rintro e w' ⟨rfl, hb'⟩)
        go_roundg (l.length - (kk + 1))
        case measure => omega
        case rel =>
          refine ⟨kk + 1, by omega, by omega, by go_num, BW.out.trans (hb'.mono BW.out.size), ?_⟩
          have := HI.out
          rw [HQ.out] at this
          exact this
    · have hltz : ¬ (kk : Int) < (l.length : Int) := by omega
      go_wp2
      go_ret
      refine ⟨?_, BW.out⟩
      have := HI.out
      rw [List.drop_eq_nil_of_le (by omega)] at this
      rw [← this]; rfl

/-- slices.ContainsFunc at octroi/api.Filter: is there an element of which p holds? -/
theorem containsFuncFi (g : Nat) (lb : Array Value) (eg : ∀ args w, (callFunc g args).run Tryd.prog w = .ok (.enter g args) w) (p : S54 → Bool) (l : List S54) (A : Option Addr) (c : Nat) (w : World)
    (hr : Kd.C k54 w A l.length l) (hp : PredK k54 g lb p l w) :
    Calls Tryd.prog 54 #[.slice A l.length c, .func (.func g) #[] lb] w fun e w' => e = .returned (.bool (l.any p)) ∧ Below w.heap.size w w' := by
  have hI := indexFuncFi g lb eg p l A c w hr hp
  rw [← idxP_any p l 0]
  generalize idxP p l 0 = I at hI ⊢
  clear eg hr hp
  go_enter Tryd.func54, Tryd.ntmps54
  go_wp2_with (go_at_call 65; refine hI.mono ?_; rintro e w' ⟨rfl, hb⟩)
  go_ret
  exact ⟨rfl, hb⟩

end Go.Proofs.YtgkfpakncjncdaaDoor.Syn
/- syntax.picks, syntax.right, syntax.GoodExpr, syntax.may: what they answer, as plain functions. -/
namespace Go.Proofs.YtgkfpakncjncdaaDoor.Syn
open Go.RowKit Go.Lib Go.Proofs.YtgkfpakncjncdaaDoorW.PrintWords Go.Proofs.YtgkfpakncjncdaaDoorW.PrintLast Go.Proofs.YtgkfpakncjncdaaDoorW.PrintMore Go.Proofs.YtgkfpakncjncdaaDoor.PSyn
set_option linter.unusedVariables false
set_option linter.unusedSimpArgs false

def numB (n : Int) : Bool := if n ≥ 0 then decide (n ≤ 999999999999999999) else false
theorem numB_eq (n : Int) : syntax_number.f n = some (numB n) := by unfold numB syntax_number.f; split <;> rfl
def boxB (n : Int) : Bool := if n ≥ 1 then decide (n ≤ 9999) else false
theorem boxB_eq (n : Int) : syntax_boxed.f n = some (boxB n) := by unfold boxB syntax_boxed.f; split <;> rfl

def signB (s : Int) : Bool := s == 61 || s == 60 || s == 62
def picksB (f : S54) : Bool := nameB f.f0 && signB f.f1 && numB f.f2

def kidsN (a : Int) : Int × Bool :=
  if a = 1 ∨ a = 2 ∨ a = 3 then (0, true) else if a = 6 then (1, true) else if a = 4 ∨ a = 5 ∨ a = 7 ∨ a = 8 then (2, true) else if a = 9 then (3, true) else (0, false)
theorem kidsN_eq (a : Int) : syntax_kids.f 2 a = some ((kidsN a).1, (kidsN a).2) := by
  unfold syntax_kids.f syntax_kids.j0 syntax_kids.j1 kidsN
  by_cases h1 : a = 1
  · subst h1; rfl
  by_cases h2 : a = 2
  · subst h2; rfl
  by_cases h3 : a = 3
  · subst h3; rfl
  by_cases h6 : a = 6
  · subst h6; rfl
  by_cases h4 : a = 4
  · subst h4; rfl
  by_cases h5 : a = 5
  · subst h5; rfl
  by_cases h7 : a = 7
  · subst h7; rfl
  by_cases h8 : a = 8
  · subst h8; rfl
  by_cases h9 : a = 9
  · subst h9; rfl
  simp [h1, h2, h3, h4, h5, h6, h7, h8, h9]

mutual
def rightB : S26 → Bool
  | ⟨k, n, fd, fs, ks⟩ =>
    if (kidsN k).2 = false then false else if (ks.length : Int) ≠ (kidsN k).1 then false
    else if k ≠ 3 ∧ (fd.toList ≠ [] ∨ 0 < fs.length) then false
    else if k = 1 then numB n else if k = 2 then boxB n
    else if k = 3 then decide (n = 0) && nameB fd && decide (fs.length ≤ 16) && !(fs.any fun f => !picksB f)
    else decide (n = 0) && !anyWrong ks
def anyWrong : List S26 → Bool
  | [] => false
  | x :: l => (!rightB x) || anyWrong l
end
theorem anyWrong_eq (l : List S26) : anyWrong l = l.any (fun x => !rightB x) := by
  induction l with
  | nil => simp [anyWrong]
  | cons x l ih => simp [anyWrong, ih]

theorem bcell {W w1 : World} (hb : Below W.heap.size W w1) : (∀ b o, b < W.heap.size → w1.cell? ⟨b, o, none⟩ = W.cell? ⟨b, o, none⟩) ∧ (∀ b o, b < W.heap.size → w1.frozen? ⟨b, o, none⟩ = W.frozen? ⟨b, o, none⟩) :=
  ⟨fun b o h => hb.cell (p := ⟨b, o, none⟩) h, fun b o h => hb.frozen (p := ⟨b, o, none⟩) h⟩

theorem picks_calls (hcf : CFn) (f : S54) (w : World) :
    Calls Tryd.prog 52 #[.agg #[.string f.f0, .int .u8 f.f1, .int .i64 f.f2]] w fun e w' => e = .returned (.bool (picksB f)) ∧ Below w.heap.size w w' := by
  obtain ⟨t, s, n⟩ := f
  simp only
  have hn := fun W => name_calls hcf t W
  have hnum := fun W => syntax_number.calls n (numB n) W (numB_eq n)
  unfold picksB signB
  simp only
  generalize nameB t = nb at hn ⊢
  generalize numB n = mb at hnum ⊢
  have HN := Aside0.mk hn
  have HM := Aside0.mk hnum
  clear hn hnum
  cases nb
  · go_enter Tryd.func52, Tryd.ntmps52
    go_wp2_with (first | (go_at_call 53; refine (HN.out _).mono ?_; rintro e w' ⟨rfl, hb⟩; have hbc := bcell hb))
    go_ret
    exact ⟨rfl, ((Below.refl _ _).alloc (Nat.le_refl _) _).trans (hb.mono (by simp))⟩
  · cases h1 : (s == 61) <;> cases h2 : (s == 60) <;> cases h3 : (s == 62)
    all_goals
      cases mb
    all_goals
      go_enter Tryd.func52, Tryd.ntmps52
      go_wp2_with (first | (go_at_call 53; refine (HN.out _).mono ?_; rintro e w' ⟨rfl, hb⟩; have hbc := bcell hb) | (go_at_call 50; refine (HM.out _).mono ?_; rintro e w2 ⟨rfl, hd⟩))
      go_ret
      first
        | exact ⟨rfl, ((Below.refl _ _).alloc (Nat.le_refl _) _).trans (hb.mono (by simp))⟩
        | exact ⟨rfl, (((Below.refl _ _).alloc (Nat.le_refl _) _).trans (hb.mono (by simp))).trans (hd.below.mono (by have := hb.size; simp at this; omega))⟩

theorem wrong1_calls (hcf : CFn) (f : S54) (w : World) :
    Calls Tryd.prog 51 #[.agg #[.string f.f0, .int .u8 f.f1, .int .i64 f.f2]] w fun e w' => e = .returned (.bool (!picksB f)) ∧ Below w.heap.size w w' := by
  have hn := fun W => picks_calls hcf f W
  generalize picksB f = nb at hn ⊢
  obtain ⟨t, s, n⟩ := f
  simp only at hn ⊢
  have HN := Aside0.mk hn
  clear hn
  go_enter Tryd.func51, Tryd.ntmps51
  go_wp2_with (first | (go_at_call 52; refine (HN.out _).mono ?_; rintro e w' ⟨rfl, hb⟩; have hbc := bcell hb))
  go_ret
  exact ⟨rfl, ((Below.refl _ _).alloc (Nat.le_refl _) _).trans (hb.mono (by simp))⟩
end Go.Proofs.YtgkfpakncjncdaaDoor.Syn
