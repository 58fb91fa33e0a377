/- slices.Equal, slices.EqualFunc, same: two expressions are compared. -/
import Derived.Test.YtgkfpakncjncdaaDoorSynh
import Derived.Test.YtgkfpakncjncdaaDoorSyni
namespace Go.Proofs.YtgkfpakncjncdaaDoor.Syn
open Go.RowKit Go.Lib Go.Proofs.YtgkfpakncjncdaaDoorW.PrintWords Go.Proofs.YtgkfpakncjncdaaDoorW.PrintLast Go.Proofs.YtgkfpakncjncdaaDoorW.PrintMore Go.Proofs.YtgkfpakncjncdaaDoor.PSyn
set_option linter.unusedVariables false
set_option linter.unusedSimpArgs false

/-- two filters are the same -/
def sameF (f g : S54) : Bool := (f.f0.toList == g.f0.toList) && ((f.f1 == g.f1) && (f.f2 == g.f2))
def allEq {α : Type} (r : α → α → Bool) : List α → List α → Bool
  | [], [] => true
  | x :: l, y :: m => r x y && allEq r l m
  | _, _ => false

theorem allEq_len {α : Type} (r : α → α → Bool) : ∀ {l m : List α}, l.length ≠ m.length → allEq r l m = false
  | [], [], h => absurd rfl h
  | [], y :: m, _ => rfl
  | x :: l, [], _ => rfl
  | x :: l, y :: m, h => by rw [allEq, allEq_len r (by simpa using h), Bool.and_false]
theorem allEq_step {α : Type} (r : α → α → Bool) (l m : List α) (i : Nat) (h1 : i < l.length) (h2 : i < m.length) : allEq r (l.drop i) (m.drop i) = (r l[i] m[i] && allEq r (l.drop (i + 1)) (m.drop (i + 1))) := by
  rw [List.drop_eq_getElem_cons h1, List.drop_eq_getElem_cons h2, allEq]
theorem allEq_iff {α : Type} (r : α → α → Bool) : ∀ {l m : List α}, (∀ x ∈ l, ∀ y, r x y = true ↔ x = y) → (allEq r l m = true ↔ l = m)
  | [], [], _ => by simp [allEq]
  | [], y :: m, _ => by simp [allEq]
  | x :: l, [], _ => by simp [allEq]
  | x :: l, y :: m, h => by
    rw [allEq, Bool.and_eq_true, h x (by simp), allEq_iff r (fun z hz => h z (by simp [hz]))]
    simp
theorem toList_inj {a b : ByteArray} (h : a.toList = b.toList) : a = b := by
  rw [ByteArray.toList_eq, ByteArray.toList_eq] at h
  cases a with | mk a => cases b with | mk b =>
  congr 1
  exact Array.ext' h
theorem sameF_iff (f g : S54) : sameF f g = true ↔ f = g := by
  unfold sameF
  simp only [Bool.and_eq_true, beq_iff_eq]
  constructor
  · rintro ⟨h1, h2, h3⟩
    have h1 := toList_inj h1
    cases f; cases g
    simp only at h1 h2 h3
    rw [h1, h2, h3]
  · rintro rfl; exact ⟨rfl, rfl, rfl⟩
theorem eqA_fi (d : Nat) (w : World) (x y : S54) :
    (Op.equalIn (d + 2) 54 (.agg #[.string x.f0, .int .u8 x.f1, .int .i64 x.f2]) (.agg #[.string y.f0, .int .u8 y.f1, .int .i64 y.f2])).run Tryd.prog w = .ok (sameF x y) w := by
  have e : sameF x y = (x.f0.toList == y.f0.toList && (x.f1 == y.f1 && (x.f2 == y.f2))) := rfl
  rw [e]
  refine eqA_of Tryd.underlying54 (by kernel_rfl) ?_
  refine eqf_cons (by rfl) (by go_simp; rfl) (by go_simp; rfl) (by go_simp) ?_
  refine eqf_cons (by rfl) (by go_simp; rfl) (by go_simp; rfl) (by go_simp) ?_
  exact eqf_last (by rfl) (by go_simp; rfl) (by go_simp; rfl) (by go_simp)

attribute [local go_sem high] eqA_fi
set_option maxHeartbeats 4000000 in
theorem equalF_calls (fs gs : List S54) (A B : Option Addr) (c d : Nat) (W : World) (hf : Kd.C k54 W A fs.length fs) (hg : Kd.C k54 W B gs.length gs) :
    Calls Tryd.prog 46 #[.slice A fs.length c, .slice B gs.length d] W fun e w' => e = .returned (.bool (allEq sameF fs gs)) ∧ Below W.heap.size W w' := by
  have hbig : fs.length ≤ 9223372036854775807 := hf.2.1
  have hbig' : gs.length ≤ 9223372036854775807 := hg.2.1
  have HF := Aside0.mk hf
  have HG := Aside0.mk hg
  clear hf hg
  by_cases hne : fs.length = gs.length
  · have hb : ((fs.length : Int) != (gs.length : Int)) = false := by simp; omega
    go_enter Tryd.func46, Tryd.ntmps46
    go_wp2_with fail
    go_loopg [13] fs.length (fun gg s13 wr => ∃ kk : Nat, kk ≤ fs.length ∧ fs.length - kk ≤ gg ∧ s13 = .int .i64 kk ∧ Aside (allEq sameF fs gs = allEq sameF (fs.drop kk) (gs.drop kk)) ∧ Aside (Below W.heap.size W wr))
    case atStart => exact ⟨0, Nat.zero_le _, by omega, rfl, (by rw [List.drop_zero, List.drop_zero] : allEq sameF fs gs = _), Below.refl _ _⟩
    case round =>
      obtain ⟨kk, hkk, hgg, rfl, EW, BW⟩ := hrel
      by_cases hlt : kk < fs.length
      · have hltz : (kk : Int) < (fs.length : Int) := by omega
        have hltz' : (kk : Int) < (gs.length : Int) := by omega
        obtain ⟨a1, hA, hc1⟩ := filter_at HF.out kk hlt
        obtain ⟨a2, hB, hc2⟩ := filter_at HG.out kk (by omega)
        subst hA
        subst hB
        have hst := EW.out.trans (allEq_step sameF fs gs kk hlt (by omega))
        have HST := Aside0.mk hst
        clear hst
        generalize hxx : fs[kk] = x at *
        generalize hyy : gs[kk]'(by omega) = y at *
        have HC := Aside0.mk (fun (w' : World) (hb : Below W.heap.size W w') => (And.intro (hc1 w' hb).1 (And.intro (hc1 w' hb).2.1 (And.intro (hc1 w' hb).2.2 (hc2 w' hb)))))
        clear hc1 hc2 hxx hyy
        cases hr : sameF x y
        · rw [hr, Bool.false_and] at HST
          go_wp2_with fail
          refine start_ (n := 9) (S := fun w' => Below W.heap.size W w' ∧ w'.cell? (a1.add (kk * 3)) = some (.string x.f0) ∧ w'.cell? ⟨(a1.add (kk * 3)).block, (a1.add (kk * 3)).off + 1, none⟩ = some (.int .u8 x.f1) ∧ w'.cell? ⟨(a1.add (kk * 3)).block, (a1.add (kk * 3)).off + 2, none⟩ = some (.int .i64 x.f2) ∧ w'.cell? (a2.add (kk * 3)) = some (.string y.f0) ∧ w'.cell? ⟨(a2.add (kk * 3)).block, (a2.add (kk * 3)).off + 1, none⟩ = some (.int .u8 y.f1) ∧ w'.cell? ⟨(a2.add (kk * 3)).block, (a2.add (kk * 3)).off + 2, none⟩ = some (.int .i64 y.f2)) (ds := []) #[false, false, false, false, false, false, false, false, false] (by kernel_rfl) rfl rfl ⟨BW.out.drew, (HC.out _ BW.out.drew)⟩ (fun hHeld => ?_)
          refine pure_ (i := 0) (N := some 16) (v := ?_) (a' := ?_) #[true, false, false, false, false, false, false, false, false] rfl rfl (by kernel_rfl) (fun _ _ _ h => h) (Or.inl ⟨by rfl, ?_⟩) ?_ ?_
          rotate_left
          · intro w'
            go_simp
            with_reducible rfl
          rotate_left
          · simp only [Act.put, List.setIfInBounds_toArray, List.set_cons_zero, List.set_cons_succ, i64_w, i32_w]
            rfl
          refine pure_ (i := 1) (N := some 17) (v := ?_) (a' := ?_) #[true, true, false, false, false, false, false, false, false] rfl rfl (by kernel_rfl) (fun _ _ _ h => h) (Or.inl ⟨by rfl, ?_⟩) ?_ ?_
          rotate_left
          · intro w'
            go_simp
            with_reducible rfl
          rotate_left
          · simp only [Act.put, List.setIfInBounds_toArray, List.set_cons_zero, List.set_cons_succ, i64_w, i32_w]
            rfl
          refine pure_ (i := 2) (N := some 18) (v := ?_) (a' := ?_) #[true, true, true, false, false, false, false, false, false] rfl rfl (by kernel_rfl) (fun _ _ _ h => h) (Or.inl ⟨by rfl, ?_⟩) ?_ ?_
          rotate_left
          · intro w'
            go_simp
            with_reducible rfl
          rotate_left
          · simp only [Act.put, List.setIfInBounds_toArray, List.set_cons_zero, List.set_cons_succ, i64_w, i32_w]
            rfl
          refine pure_ (i := 4) (N := some 20) (v := ?_) (a' := ?_) #[true, true, true, false, true, false, false, false, false] rfl rfl (by kernel_rfl) (fun _ _ _ h => h) (Or.inl ⟨by rfl, ?_⟩) ?_ ?_
          rotate_left
          · intro w'
            go_simp
            with_reducible rfl
          rotate_left
          · simp only [Act.put, List.setIfInBounds_toArray, List.set_cons_zero, List.set_cons_succ, i64_w, i32_w]
            rfl
          refine pure_ (i := 5) (N := some 21) (v := ?_) (a' := ?_) #[true, true, true, false, true, true, false, false, false] rfl rfl (by kernel_rfl) (fun _ _ _ h => h) (Or.inl ⟨by rfl, ?_⟩) ?_ ?_
          rotate_left
          · intro w'
            go_simp
            with_reducible rfl
          rotate_left
          · simp only [Act.put, List.setIfInBounds_toArray, List.set_cons_zero, List.set_cons_succ, i64_w, i32_w]
            rfl
          refine pure_ (i := 6) (N := some 22) (v := ?_) (a' := ?_) #[true, true, true, false, true, true, true, false, false] rfl rfl (by kernel_rfl) (fun _ _ _ h => h) (Or.inl ⟨by rfl, ?_⟩) ?_ ?_
          rotate_left
          · intro w'
            go_simp
            with_reducible rfl
          rotate_left
          · simp only [Act.put, List.setIfInBounds_toArray, List.set_cons_zero, List.set_cons_succ, i64_w, i32_w]
            rfl
          refine take_ (i := 3) (N := some 19) (v := ?_) (a' := ?_) #[true, true, true, true, true, true, true, false, false] rfl rfl (by kernel_rfl) (fun _ _ _ h => h) (Or.inl ⟨by rfl, ?_⟩) hHeld ?_ ?_
          rotate_left
          · rintro w' ⟨s0, s1, s2, s3, s4, s5, s6⟩
            go_simp
            with_reducible rfl
          rotate_left
          · simp only [Act.put, List.setIfInBounds_toArray, List.set_cons_zero, List.set_cons_succ, i64_w, i32_w]
            rfl
          refine take_ (i := 7) (N := some 23) (v := ?_) (a' := ?_) #[true, true, true, true, true, true, true, true, false] rfl rfl (by kernel_rfl) (fun _ _ _ h => h) (Or.inl ⟨by rfl, ?_⟩) hHeld ?_ ?_
          rotate_left
          · rintro w' ⟨s0, s1, s2, s3, s4, s5, s6⟩
            go_simp
            with_reducible rfl
          rotate_left
          · simp only [Act.put, List.setIfInBounds_toArray, List.set_cons_zero, List.set_cons_succ, i64_w, i32_w]
            rfl
          refine pure_ (i := 8) (N := some 24) (v := ?_) (a' := ?_) #[true, true, true, true, true, true, true, true, true] rfl rfl (by kernel_rfl) (fun _ _ _ h => h) (Or.inl ⟨by rfl, ?_⟩) ?_ ?_
          rotate_left
          · intro w'
            go_simp
            with_reducible rfl
          rotate_left
          · simp only [Act.put, List.setIfInBounds_toArray, List.set_cons_zero, List.set_cons_succ, i64_w, i32_w]
            rfl
          refine done_ (by kernel_rfl) ?_

          go_wp2_with fail
          go_ret
          exact ⟨by rw [HST.out]; rfl, BW.out.drew⟩
        · rw [hr, Bool.true_and] at HST
          go_wp2_with fail
          refine start_ (n := 9) (S := fun w' => Below W.heap.size W w' ∧ w'.cell? (a1.add (kk * 3)) = some (.string x.f0) ∧ w'.cell? ⟨(a1.add (kk * 3)).block, (a1.add (kk * 3)).off + 1, none⟩ = some (.int .u8 x.f1) ∧ w'.cell? ⟨(a1.add (kk * 3)).block, (a1.add (kk * 3)).off + 2, none⟩ = some (.int .i64 x.f2) ∧ w'.cell? (a2.add (kk * 3)) = some (.string y.f0) ∧ w'.cell? ⟨(a2.add (kk * 3)).block, (a2.add (kk * 3)).off + 1, none⟩ = some (.int .u8 y.f1) ∧ w'.cell? ⟨(a2.add (kk * 3)).block, (a2.add (kk * 3)).off + 2, none⟩ = some (.int .i64 y.f2)) (ds := []) #[false, false, false, false, false, false, false, false, false] (by kernel_rfl) rfl rfl ⟨BW.out.drew, (HC.out _ BW.out.drew)⟩ (fun hHeld => ?_)
          refine pure_ (i := 0) (N := some 16) (v := ?_) (a' := ?_) #[true, false, false, false, false, false, false, false, false] rfl rfl (by kernel_rfl) (fun _ _ _ h => h) (Or.inl ⟨by rfl, ?_⟩) ?_ ?_
          rotate_left
          · intro w'
            go_simp
            with_reducible rfl
          rotate_left
          · simp only [Act.put, List.setIfInBounds_toArray, List.set_cons_zero, List.set_cons_succ, i64_w, i32_w]
            rfl
          refine pure_ (i := 1) (N := some 17) (v := ?_) (a' := ?_) #[true, true, false, false, false, false, false, false, false] rfl rfl (by kernel_rfl) (fun _ _ _ h => h) (Or.inl ⟨by rfl, ?_⟩) ?_ ?_
          rotate_left
          · intro w'
            go_simp
            with_reducible rfl
          rotate_left
          · simp only [Act.put, List.setIfInBounds_toArray, List.set_cons_zero, List.set_cons_succ, i64_w, i32_w]
            rfl
          refine pure_ (i := 2) (N := some 18) (v := ?_) (a' := ?_) #[true, true, true, false, false, false, false, false, false] rfl rfl (by kernel_rfl) (fun _ _ _ h => h) (Or.inl ⟨by rfl, ?_⟩) ?_ ?_
          rotate_left
          · intro w'
            go_simp
            with_reducible rfl
          rotate_left
          · simp only [Act.put, List.setIfInBounds_toArray, List.set_cons_zero, List.set_cons_succ, i64_w, i32_w]
            rfl
          refine pure_ (i := 4) (N := some 20) (v := ?_) (a' := ?_) #[true, true, true, false, true, false, false, false, false] rfl rfl (by kernel_rfl) (fun _ _ _ h => h) (Or.inl ⟨by rfl, ?_⟩) ?_ ?_
          rotate_left
          · intro w'
            go_simp
            with_reducible rfl
          rotate_left
          · simp only [Act.put, List.setIfInBounds_toArray, List.set_cons_zero, List.set_cons_succ, i64_w, i32_w]
            rfl
          refine pure_ (i := 5) (N := some 21) (v := ?_) (a' := ?_) #[true, true, true, false, true, true, false, false, false] rfl rfl (by kernel_rfl) (fun _ _ _ h => h) (Or.inl ⟨by rfl, ?_⟩) ?_ ?_
          rotate_left
          · intro w'
            go_simp
            with_reducible rfl
          rotate_left
          · simp only [Act.put, List.setIfInBounds_toArray, List.set_cons_zero, List.set_cons_succ, i64_w, i32_w]
            rfl
          refine pure_ (i := 6) (N := some 22) (v := ?_) (a' := ?_) #[true, true, true, false, true, true, true, false, false] rfl rfl (by kernel_rfl) (fun _ _ _ h => h) (Or.inl ⟨by rfl, ?_⟩) ?_ ?_
          rotate_left
          · intro w'
            go_simp
            with_reducible rfl
          rotate_left
          · simp only [Act.put, List.setIfInBounds_toArray, List.set_cons_zero, List.set_cons_succ, i64_w, i32_w]
            rfl
          refine take_ (i := 3) (N := some 19) (v := ?_) (a' := ?_) #[true, true, true, true, true, true, true, false, false] rfl rfl (by kernel_rfl) (fun _ _ _ h => h) (Or.inl ⟨by rfl, ?_⟩) hHeld ?_ ?_
          rotate_left
          · rintro w' ⟨s0, s1, s2, s3, s4, s5, s6⟩
            go_simp
            with_reducible rfl
          rotate_left
          · simp only [Act.put, List.setIfInBounds_toArray, List.set_cons_zero, List.set_cons_succ, i64_w, i32_w]
            rfl
          refine take_ (i := 7) (N := some 23) (v := ?_) (a' := ?_) #[true, true, true, true, true, true, true, true, false] rfl rfl (by kernel_rfl) (fun _ _ _ h => h) (Or.inl ⟨by rfl, ?_⟩) hHeld ?_ ?_
          rotate_left
          · rintro w' ⟨s0, s1, s2, s3, s4, s5, s6⟩
            go_simp
            with_reducible rfl
          rotate_left
          · simp only [Act.put, List.setIfInBounds_toArray, List.set_cons_zero, List.set_cons_succ, i64_w, i32_w]
            rfl
          refine pure_ (i := 8) (N := some 24) (v := ?_) (a' := ?_) #[true, true, true, true, true, true, true, true, true] rfl rfl (by kernel_rfl) (fun _ _ _ h => h) (Or.inl ⟨by rfl, ?_⟩) ?_ ?_
          rotate_left
          · intro w'
            go_simp
            with_reducible rfl
          rotate_left
          · simp only [Act.put, List.setIfInBounds_toArray, List.set_cons_zero, List.set_cons_succ, i64_w, i32_w]
            rfl
          refine done_ (by kernel_rfl) ?_

          go_wp2_with fail
          go_roundg (fs.length - (kk + 1))
          case measure => omega
          case rel => exact ⟨kk + 1, by omega, by omega, by go_num, HST.out, BW.out.drew⟩
      · go_wp2_with fail
        go_ret
        have e : allEq sameF fs gs = true := by
          rw [EW.out, List.drop_eq_nil_of_le (by omega), List.drop_eq_nil_of_le (by omega)]; rfl
        exact ⟨by rw [e]; rfl, BW.out⟩
  · have hb : ((fs.length : Int) != (gs.length : Int)) = true := by simp; omega
    have e := allEq_len sameF hne
    rw [e]
    go_enter Tryd.func46, Tryd.ntmps46
    go_wp2_with fail
    go_ret
    exact ⟨rfl, Below.refl _ _⟩
end Go.Proofs.YtgkfpakncjncdaaDoor.Syn
/- slices.EqualFunc, same: two expressions are compared. -/
namespace Go.Proofs.YtgkfpakncjncdaaDoor.Syn
open Go.RowKit Go.Lib Go.Proofs.YtgkfpakncjncdaaDoorW.PrintWords Go.Proofs.YtgkfpakncjncdaaDoorW.PrintLast Go.Proofs.YtgkfpakncjncdaaDoorW.PrintMore Go.Proofs.YtgkfpakncjncdaaDoor.PSyn
set_option linter.unusedVariables false
set_option linter.unusedSimpArgs false

mutual
def sameB : S26 → S26 → Bool
  | ⟨k, n, fd, fs, ks⟩, y => (k == y.f0) && ((n == y.f1) && ((fd.toList == y.f2.toList) && (allEq sameF fs y.f3 && sameL ks y.f4)))
def sameL : List S26 → List S26 → Bool
  | [], [] => true
  | x :: l, y :: m => sameB x y && sameL l m
  | _, _ => false
end
theorem sameL_eq : ∀ (l m : List S26), sameL l m = allEq sameB l m
  | [], [] => by rw [sameL, allEq]
  | [], y :: m => by rw [sameL, allEq] <;> simp
  | x :: l, [] => by rw [sameL, allEq] <;> simp
  | x :: l, y :: m => by rw [sameL, allEq, sameL_eq l m]
theorem sameB_iff (x y : S26) : sameB x y = true ↔ x = y := by
  suffices hS : ∀ (n : Nat) (x y : S26), SizeOf.sizeOf x < n → (sameB x y = true ↔ x = y) from hS _ x y (Nat.lt_succ_self _)
  intro n
  induction n with
  | zero => intro x y hx; exact absurd hx (Nat.not_lt_zero _)
  | succ n ih =>
    intro x y hx
    obtain ⟨k, m, fd, fs, ks⟩ := x
    obtain ⟨k', m', fd', fs', ks'⟩ := y
    rw [sameB, sameL_eq]
    simp only [Bool.and_eq_true, beq_iff_eq]
    rw [allEq_iff sameF (fun x _ y => sameF_iff x y), allEq_iff sameB (fun z hz w => ih z w (by have := size_lt (k := k) (m := m) (fd := fd) (fs := fs) hz; omega))]
    constructor
    · rintro ⟨h1, h2, h3, h4, h5⟩
      rw [h1, h2, toList_inj h3, h4, h5]
    · intro h
      injection h with h1 h2 h3 h4 h5
      exact ⟨h1, h2, by rw [h3], h4, h5⟩

def SameAt (x : S26) : Prop := ∀ (y : S26) (W : World) (cs ds : List Value), k26.K W x cs → k26.K W y ds → Calls Tryd.prog 32 #[.agg cs.toArray, .agg ds.toArray] W fun e w' => e = .returned (.bool (sameB x y)) ∧ Below W.heap.size W w'

set_option maxHeartbeats 4000000 in
theorem equalE_calls (fs gs : List S26) (A B : Option Addr) (c d : Nat) (W : World) (hf : Kd.C k26 W A fs.length fs) (hg : Kd.C k26 W B gs.length gs) (hr : ∀ x ∈ fs, SameAt x) :
    Calls Tryd.prog 47 #[.slice A fs.length c, .slice B gs.length d, .func (.func 32) #[] #[]] W fun e w' => e = .returned (.bool (allEq sameB fs gs)) ∧ Below W.heap.size W w' := by
  have hbig : fs.length ≤ 9223372036854775807 := hf.2.1
  have hbig' : gs.length ≤ 9223372036854775807 := hg.2.1
  have HF := Aside0.mk hf
  have HG := Aside0.mk hg
  have HR := Aside0.mk hr
  clear hf hg hr
  by_cases hne : fs.length = gs.length
  · have hb : ((fs.length : Int) != (gs.length : Int)) = false := by simp; omega
    have HNE := Aside0.mk hne
    clear hne
    go_enter Tryd.func47, Tryd.ntmps47
    go_wp2_with fail
    go_loopg [17] fs.length (fun gg s17 wr => ∃ kk : Nat, kk ≤ fs.length ∧ fs.length - kk ≤ gg ∧ s17 = .int .i64 kk ∧ Aside (allEq sameB fs gs = allEq sameB (fs.drop kk) (gs.drop kk)) ∧ Aside (Below W.heap.size W wr))
    case atStart => exact ⟨0, Nat.zero_le _, by omega, rfl, (by rw [List.drop_zero, List.drop_zero] : allEq sameB fs gs = _), Below.refl _ _⟩
    case round =>
      obtain ⟨kk, hkk, hgg, rfl, EW, BW⟩ := hrel
      by_cases hlt : kk < fs.length
      · have hltz : (kk : Int) < (fs.length : Int) := by omega
        have hltz' : (kk : Int) < (gs.length : Int) := by have := HNE.out; omega
        obtain ⟨a1, p0, p1, p2, p3, p4, hA, hK1, hc1⟩ := kid_at HF.out kk hlt
        obtain ⟨a2, q0, q1, q2, q3, q4, hB, hK2, hc2⟩ := kid_at HG.out kk (by have := HNE.out; omega)
        obtain ⟨e0, e1, e2, e3, e4⟩ := hc1 wr BW.out
        subst hA
        subst hB
        have HST := Aside0.mk (EW.out.trans (allEq_step sameB fs gs kk hlt (by have := HNE.out; omega)))
        have HX := Aside0.mk (fun (w' : World) (hb : Below W.heap.size W w') => HR.out fs[kk] (List.getElem_mem hlt) (gs[kk]'(by have := HNE.out; omega)) w' _ _ (k26.K_below hb hK1) (k26.K_below hb hK2))
        generalize hxx : fs[kk] = x at *
        generalize hyy : gs[kk]'(by have := HNE.out; omega) = y at *
        obtain ⟨A3, c3, A4, c4, hk5, _, _, _, _⟩ := k26_open hK1
        cases hk5
        obtain ⟨B3, d3, B4, d4, hk5, _, _, _, _⟩ := k26_open hK2
        cases hk5
        have HC := Aside0.mk hc2
        clear hc1 hc2 hxx hyy hK1 hK2
        have BW2 := Aside0.mk (BW.out.alloc BW.out.size (.cells #[.int .i64 x.f0, .int .i64 x.f1, .string x.f2, .slice A3 x.f3.length c3, .slice A4 x.f4.length c4] 26))
        cases hr : sameB x y
        · rw [hr, Bool.false_and] at HST
          rw [hr] at HX
          obtain ⟨f0, f1, f2, f3, f4⟩ := HC.out _ BW2.out
          go_wp2_with fail
          refine (HX.out _ (BW2.out.alloc BW2.out.size _)).mono ?_
          rintro e w1 ⟨rfl, hd⟩
          have HB := Aside0.mk (below_step (BW2.out.alloc BW2.out.size (.cells #[.int .i64 y.f0, .int .i64 y.f1, .string y.f2, .slice B3 y.f3.length d3, .slice B4 y.f4.length d4] 26)) hd)
          clear hd e0 e1 e2 e3 e4 f0 f1 f2 f3 f4
          go_wp2_with fail
          go_ret
          exact ⟨by rw [HST.out]; rfl, HB.out⟩
        · rw [hr, Bool.true_and] at HST
          rw [hr] at HX
          obtain ⟨f0, f1, f2, f3, f4⟩ := HC.out _ BW2.out
          go_wp2_with fail
          refine (HX.out _ (BW2.out.alloc BW2.out.size _)).mono ?_
          rintro e w1 ⟨rfl, hd⟩
          have HB := Aside0.mk (below_step (BW2.out.alloc BW2.out.size (.cells #[.int .i64 y.f0, .int .i64 y.f1, .string y.f2, .slice B3 y.f3.length d3, .slice B4 y.f4.length d4] 26)) hd)
          clear hd e0 e1 e2 e3 e4 f0 f1 f2 f3 f4
          go_wp2_with fail
          go_roundg (fs.length - (kk + 1))
          case measure => omega
          case rel => exact ⟨kk + 1, by omega, by omega, by go_num, HST.out, HB.out⟩
      · go_wp2_with fail
        go_ret
        have e : allEq sameB fs gs = true := by
          rw [EW.out, List.drop_eq_nil_of_le (by omega), List.drop_eq_nil_of_le (by have := HNE.out; omega)]; rfl
        exact ⟨by rw [e]; rfl, BW.out⟩
  · have hb : ((fs.length : Int) != (gs.length : Int)) = true := by simp; omega
    have e := allEq_len sameB hne
    rw [e]
    go_enter Tryd.func47, Tryd.ntmps47
    go_wp2_with fail
    go_ret
    exact ⟨rfl, Below.refl _ _⟩

theorem same_of (x : S26) (hx : ∀ y ∈ x.f4, SameAt y) : SameAt x := by
  intro y W cs ds hk hk'
  obtain ⟨A3, c3, A4, c4, rfl, l3, g3, l4, g4⟩ := k26_open hk
  obtain ⟨B3, d3, B4, d4, rfl, m3, h3, m4, h4⟩ := k26_open hk'
  have HE := Aside0.mk (fun (w' : World) (hb : Below W.heap.size W w') => equalF_calls x.f3 y.f3 A3 B3 c3 d3 w' (Kd.C_below g3 hb) (Kd.C_below h3 hb))
  have HK := Aside0.mk (fun (w' : World) (hb : Below W.heap.size W w') => equalE_calls x.f4 y.f4 A4 B4 c4 d4 w' (Kd.C_below g4 hb) (Kd.C_below h4 hb) hx)
  clear hx hk hk' g3 g4 h3 h4
  have HB := Aside0.mk (Below.refl W.heap.size W)
  obtain ⟨k, n, fd, fs, ks⟩ := x
  obtain ⟨k', n', fd', fs', ks'⟩ := y
  rw [sameB, sameL_eq]
  simp only at HE HK ⊢
  generalize allEq sameF fs fs' = b3 at *
  generalize allEq sameB ks ks' = b4 at *
  generalize fs.length = n3 at *
  generalize ks.length = n4 at *
  generalize fs'.length = q3 at *
  generalize ks'.length = q4 at *
  cases b3 <;> cases b4
  all_goals
    go_enter Tryd.func32, Tryd.ntmps32
    go_wp2_with (first | (go_at_call 46; refine (HE.out _ (by repeat (first | exact HB.out | apply below_alloc))).mono ?_; rintro e w1 ⟨rfl, hd⟩; have hb1 := bcell hd; have HB := Aside0.mk (below_step (by repeat (first | exact HB.out | apply below_alloc)) hd); clear hd) | (go_at_call 47; refine (HK.out _ (by repeat (first | exact HB.out | apply below_alloc))).mono ?_; rintro e w1 ⟨rfl, hd⟩; have hb1 := bcell hd; have HB := Aside0.mk (below_step (by repeat (first | exact HB.out | apply below_alloc)) hd); clear hd))
    all_goals go_ret
    all_goals exact ⟨by simp [*], by repeat (first | exact HB.out | apply below_alloc)⟩
theorem same_all (x : S26) : SameAt x := by
  suffices hS : ∀ (n : Nat) (x : S26), SizeOf.sizeOf x < n → SameAt x from hS _ x (Nat.lt_succ_self _)
  intro n
  induction n with
  | zero => intro x hx; exact absurd hx (Nat.not_lt_zero _)
  | succ n ih =>
    intro x hx
    obtain ⟨k, m, fd, fs, ks⟩ := x
    exact same_of _ (fun y hy => ih y (by have := size_lt (k := k) (m := m) (fd := fd) (fs := fs) (ks := ks) hy; omega))
end Go.Proofs.YtgkfpakncjncdaaDoor.Syn
/- slices.EqualFunc of boxes, Same: two programs are compared. -/
namespace Go.Proofs.YtgkfpakncjncdaaDoor.Syn
open Go.RowKit Go.Lib Go.Proofs.YtgkfpakncjncdaaDoorW.PrintWords Go.Proofs.YtgkfpakncjncdaaDoorW.PrintLast Go.Proofs.YtgkfpakncjncdaaDoorW.PrintMore Go.Proofs.YtgkfpakncjncdaaDoor.PSyn
set_option linter.unusedVariables false
set_option linter.unusedSimpArgs false

def sameX (x y : S35) : Bool := (x.f0 == y.f0) && sameB x.f1 y.f1
theorem sameX_iff (x y : S35) : sameX x y = true ↔ x = y := by
  unfold sameX
  rw [Bool.and_eq_true, beq_iff_eq, sameB_iff]
  constructor
  · rintro ⟨h1, h2⟩
    cases x; cases y
    simp only at h1 h2
    rw [h1, h2]
  · rintro rfl; exact ⟨rfl, rfl⟩

set_option maxHeartbeats 4000000 in
theorem same1_calls (x y : S35) (W : World) (cs ds : List Value) (hk : k35.K W x cs) (hk' : k35.K W y ds) : Calls Tryd.prog 31 #[.agg cs.toArray, .agg ds.toArray] W fun e w' => e = .returned (.bool (sameX x y)) ∧ Below W.heap.size W w' := by
  obtain ⟨A4, c4, A5, c5, rfl, l4, g4, l5, g5⟩ := k35_open hk
  obtain ⟨B4, d4, B5, d5, rfl, m4, h4, m5, h5⟩ := k35_open hk'
  have HS := Aside0.mk (fun (w' : World) (hb : Below W.heap.size W w') => same_all x.f1 y.f1 w' _ _ (k26.K_below hb (k26_mk W x.f1 l4 g4 l5 g5)) (k26.K_below hb (k26_mk W y.f1 m4 h4 m5 h5)))
  have HB := Aside0.mk (Below.refl W.heap.size W)
  clear hk hk' g4 g5 h4 h5 l4 l5 m4 m5
  obtain ⟨m, k, n, fd, fs, ks⟩ := x
  obtain ⟨m', k', n', fd', fs', ks'⟩ := y
  unfold sameX
  simp only at HS ⊢
  generalize sameB ⟨k, n, fd, fs, ks⟩ ⟨k', n', fd', fs', ks'⟩ = b at *
  generalize fs.length = n3 at *
  generalize ks.length = n4 at *
  generalize fs'.length = q3 at *
  generalize ks'.length = q4 at *
  cases b
  all_goals
    go_enter Tryd.func31, Tryd.ntmps31
    go_wp2_with (first | (go_at_call 32; refine (HS.out _ (by repeat (first | exact HB.out | apply below_alloc))).mono ?_; rintro e w1 ⟨rfl, hd⟩; have HB := Aside0.mk (below_step (by repeat (first | exact HB.out | apply below_alloc)) hd); clear hd))
    all_goals go_ret
    all_goals exact ⟨by simp [*], by repeat (first | exact HB.out | apply below_alloc)⟩

set_option maxHeartbeats 4000000 in
theorem equalX_calls (fs gs : List S35) (A B : Option Addr) (c d : Nat) (W : World) (hf : Kd.C k35 W A fs.length fs) (hg : Kd.C k35 W B gs.length gs) :
    Calls Tryd.prog 30 #[.slice A fs.length c, .slice B gs.length d, .func (.func 31) #[] #[]] W fun e w' => e = .returned (.bool (allEq sameX fs gs)) ∧ Below W.heap.size W w' := by
  have hbig : fs.length ≤ 9223372036854775807 := hf.2.1
  have hbig' : gs.length ≤ 9223372036854775807 := hg.2.1
  have HF := Aside0.mk hf
  have HG := Aside0.mk hg
  clear hf hg
  by_cases hne : fs.length = gs.length
  · have hb : ((fs.length : Int) != (gs.length : Int)) = false := by simp; omega
    have HNE := Aside0.mk hne
    clear hne
    go_enter Tryd.func30, Tryd.ntmps30
    go_wp2_with fail
    go_loopg [17] fs.length (fun gg s17 wr => ∃ kk : Nat, kk ≤ fs.length ∧ fs.length - kk ≤ gg ∧ s17 = .int .i64 kk ∧ Aside (allEq sameX fs gs = allEq sameX (fs.drop kk) (gs.drop kk)) ∧ Aside (Below W.heap.size W wr))
    case atStart => exact ⟨0, Nat.zero_le _, by omega, rfl, (by rw [List.drop_zero, List.drop_zero] : allEq sameX fs gs = _), Below.refl _ _⟩
    case round =>
      obtain ⟨kk, hkk, hgg, rfl, EW, BW⟩ := hrel
      by_cases hlt : kk < fs.length
      · have hltz : (kk : Int) < (fs.length : Int) := by omega
        have hltz' : (kk : Int) < (gs.length : Int) := by have := HNE.out; omega
        obtain ⟨a1, p0, p1, p2, p3, p4, p5, hA, hK1, hc1⟩ := box_at HF.out kk hlt
        obtain ⟨a2, q0, q1, q2, q3, q4, q5, hB, hK2, hc2⟩ := box_at HG.out kk (by have := HNE.out; omega)
        obtain ⟨e0, e1, e2, e3, e4, e5⟩ := hc1 wr BW.out
        subst hA
        subst hB
        have HST := Aside0.mk (EW.out.trans (allEq_step sameX fs gs kk hlt (by have := HNE.out; omega)))
        have HX := Aside0.mk (fun (w' : World) (hb : Below W.heap.size W w') => same1_calls fs[kk] (gs[kk]'(by have := HNE.out; omega)) w' _ _ (k35.K_below hb hK1) (k35.K_below hb hK2))
        generalize hxx : fs[kk] = x at *
        generalize hyy : gs[kk]'(by have := HNE.out; omega) = y at *
        obtain ⟨A3, c3, A4, c4, hk5, _, _, _, _⟩ := k35_open hK1
        cases hk5
        obtain ⟨B3, d3, B4, d4, hk5, _, _, _, _⟩ := k35_open hK2
        cases hk5
        have HC := Aside0.mk hc2
        clear hc1 hc2 hxx hyy hK1 hK2
        have BW2 := Aside0.mk (BW.out.alloc BW.out.size (.cells #[.int .i64 x.f0, .int .i64 x.f1.f0, .int .i64 x.f1.f1, .string x.f1.f2, .slice A3 x.f1.f3.length c3, .slice A4 x.f1.f4.length c4] 35))
        cases hr : sameX x y
        · rw [hr, Bool.false_and] at HST
          rw [hr] at HX
          obtain ⟨f0, f1, f2, f3, f4, f5⟩ := HC.out _ BW2.out
          go_wp2_with fail
          refine (HX.out _ (BW2.out.alloc BW2.out.size _)).mono ?_
          rintro e w1 ⟨rfl, hd⟩
          have HB := Aside0.mk (below_step (BW2.out.alloc BW2.out.size (.cells #[.int .i64 y.f0, .int .i64 y.f1.f0, .int .i64 y.f1.f1, .string y.f1.f2, .slice B3 y.f1.f3.length d3, .slice B4 y.f1.f4.length d4] 35)) hd)
          clear hd e0 e1 e2 e3 e4 e5 f0 f1 f2 f3 f4 f5
          go_wp2_with fail
          go_ret
          exact ⟨by rw [HST.out]; rfl, HB.out⟩
        · rw [hr, Bool.true_and] at HST
          rw [hr] at HX
          obtain ⟨f0, f1, f2, f3, f4, f5⟩ := HC.out _ BW2.out
          go_wp2_with fail
          refine (HX.out _ (BW2.out.alloc BW2.out.size _)).mono ?_
          rintro e w1 ⟨rfl, hd⟩
          have HB := Aside0.mk (below_step (BW2.out.alloc BW2.out.size (.cells #[.int .i64 y.f0, .int .i64 y.f1.f0, .int .i64 y.f1.f1, .string y.f1.f2, .slice B3 y.f1.f3.length d3, .slice B4 y.f1.f4.length d4] 35)) hd)
          clear hd e0 e1 e2 e3 e4 e5 f0 f1 f2 f3 f4 f5
          go_wp2_with fail
          go_roundg (fs.length - (kk + 1))
          case measure => omega
          case rel => exact ⟨kk + 1, by omega, by omega, by go_num, HST.out, HB.out⟩
      · go_wp2_with fail
        go_ret
        have e : allEq sameX fs gs = true := by
          rw [EW.out, List.drop_eq_nil_of_le (by omega), List.drop_eq_nil_of_le (by have := HNE.out; omega)]; rfl
        exact ⟨by rw [e]; rfl, BW.out⟩
  · have hb : ((fs.length : Int) != (gs.length : Int)) = true := by simp; omega
    have e := allEq_len sameX hne
    rw [e]
    go_enter Tryd.func30, Tryd.ntmps30
    go_wp2_with fail
    go_ret
    exact ⟨rfl, Below.refl _ _⟩

set_option maxHeartbeats 4000000 in
theorem same_calls (l m : List S35) (A B : Option Addr) (c d : Nat) (W : World) (hf : Kd.C k35 W A l.length l) (hg : Kd.C k35 W B m.length m) :
    Calls Tryd.prog 13 #[.slice A l.length c, .slice B m.length d] W fun e w' => e = .returned (.bool (allEq sameX l m)) ∧ Below W.heap.size W w' := by
  have HE := Aside0.mk (fun (w' : World) (hb : Below W.heap.size W w') => equalX_calls l m A B c d w' (Kd.C_below hf hb) (Kd.C_below hg hb))
  have HB := Aside0.mk (Below.refl W.heap.size W)
  clear hf hg
  generalize allEq sameX l m = b at *
  go_enter Tryd.func13, Tryd.ntmps13
  go_wp2_with (first | (go_at_call 30; refine (HE.out _ (by repeat (first | exact HB.out | apply below_alloc))).mono ?_; rintro e w1 ⟨rfl, hd⟩; have HB := Aside0.mk (below_step (by repeat (first | exact HB.out | apply below_alloc)) hd); clear hd))
  go_ret
  exact ⟨rfl, HB.out⟩
end Go.Proofs.YtgkfpakncjncdaaDoor.Syn
