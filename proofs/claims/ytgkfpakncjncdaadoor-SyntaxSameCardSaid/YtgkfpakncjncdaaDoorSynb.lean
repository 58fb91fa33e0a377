/- syntax.right, syntax.GoodExpr, syntax.may: what they answer, as plain functions. -/
import Derived.Test.YtgkfpakncjncdaaDoorSyna
namespace Go.Proofs.YtgkfpakncjncdaaDoor.Syn
open Go.RowKit Go.Lib Go.Proofs.YtgkfpakncjncdaaDoorW.PrintWords Go.Proofs.YtgkfpakncjncdaaDoorW.PrintLast Go.Proofs.YtgkfpakncjncdaaDoorW.PrintMore Go.Proofs.YtgkfpakncjncdaaDoor.PSyn
set_option linter.unusedVariables false
set_option linter.unusedSimpArgs false

/-- what right and its literals answer of one expression -/
def RightAt (x : S26) : Prop := ∀ (W : World) (cs : List Value), k26.K W x cs → Calls Tryd.prog 34 #[.agg cs.toArray] W fun e w' => e = .returned (.bool (rightB x)) ∧ Below W.heap.size W w'

theorem wrong2_calls (x : S26) (hx : RightAt x) (W : World) (cs : List Value) (hk : k26.K W x cs) :
    Calls Tryd.prog 55 #[.agg cs.toArray] W fun e w' => e = .returned (.bool (!rightB x)) ∧ Below W.heap.size W w' := by
  have hk2 := fun (W' : World) (hb : Below W.heap.size W W') => hx W' cs (k26.K_below hb hk)
  obtain ⟨A3, c3, A4, c4, rfl, l3, g3, l4, g4⟩ := k26_open hk
  generalize rightB x = nb at hk2 ⊢
  have HN := Aside0.mk hk2
  clear hk2 hx l3 g3 l4 g4 hk
  obtain ⟨k, n, fd, fs, ks⟩ := x
  simp only at HN ⊢
  generalize fs.length = n3 at HN ⊢
  generalize ks.length = n4 at HN ⊢
  go_enter Tryd.func55, Tryd.ntmps55
  go_wp2_with (first | (go_at_call 34; refine (HN.out _ ((Below.refl _ _).alloc (Nat.le_refl _) _)).mono ?_; rintro e w' ⟨rfl, hb⟩; have hbc := bcell hb))
  go_ret
  exact ⟨rfl, ((Below.refl _ _).alloc (Nat.le_refl _) _).trans (hb.mono (by simp))⟩

/-- right, in one world, of an expression whose parts are told. -/
theorem right_step (hcf : CFn) (k n : Int) (fd : ByteArray) (fs : List S54) (ks : List S26) (A3 A4 : Option Addr) (c3 c4 : Nat) (w : World)
    (g3 : k54.C w A3 fs.length fs) (g4 : k26.C w A4 ks.length ks) (hks : ∀ y ∈ ks, RightAt y) :
    Calls Tryd.prog 34 #[.agg #[.int .i64 k, .int .i64 n, .string fd, .slice A3 fs.length c3, .slice A4 ks.length c4]] w fun e w' => e = .returned (.bool (rightB ⟨k, n, fd, fs, ks⟩)) ∧ Below w.heap.size w w' := by
  have HK := Aside0.mk (fun W => syntax_kids.calls 2 k (kidsN k).1 (kidsN k).2 W (kidsN_eq k))
  have HNUM := Aside0.mk (fun W => syntax_number.calls n (numB n) W (numB_eq n))
  have HBOX := Aside0.mk (fun W => syntax_boxed.calls n (boxB n) W (boxB_eq n))
  have HNAME := Aside0.mk (fun W => name_calls hcf fd W)
  have HC3 := Aside0.mk (fun (W : World) (hb : Below w.heap.size w W) => containsFuncFi 51 #[] (enters_of Tryd.func51 (by kernel_rfl) rfl) (fun f => !picksB f) fs A3 c3 W (g3.imp_ hb (fun _ _ h => k54.K_below hb h))
    (fun x _ W' cs _ hk => by rw [k54_open hk]; exact wrong1_calls hcf x W'))
  have HC4 := Aside0.mk (fun (W : World) (hb : Below w.heap.size w W) => containsFuncEx 55 #[] (enters_of Tryd.func55 (by kernel_rfl) rfl) (fun f => !rightB f) ks A4 c4 W (g4.imp_ hb (fun _ _ h => k26.K_below hb h))
    (fun x hx W' cs _ hk => wrong2_calls x (hks x hx) W' cs hk))
  clear g3 g4 hks hcf
  rw [rightB, anyWrong_eq]
  generalize (kidsN k).1 = m at HK ⊢
  generalize (kidsN k).2 = ok at HK ⊢
  generalize numB n = nb at HNUM ⊢
  generalize boxB n = bb at HBOX ⊢
  generalize nameB fd = fb at HNAME ⊢
  generalize (fs.any fun f => !picksB f) = a3 at HC3 ⊢
  generalize (ks.any fun f => !rightB f) = a4 at HC4 ⊢
  generalize fs.length = n3 at HC3 ⊢
  generalize ks.length = n4 at HC4 ⊢
  have HB := Aside0.mk (Below.refl w.heap.size w)
  cases ok
  · simp only [if_true]
    go_enter Tryd.func34, Tryd.ntmps34
    go_wp2_with (first | (go_at_call 49; refine (HK.out _).mono ?_; rintro e w1 ⟨rfl, hd⟩; have hb1 := bcell hd.below; have hz : w.heap.size < w1.heap.size := (by have hz0 := (hd.below).size; (try simp at hz0); omega); have HB := Aside0.mk (below_step (by repeat (first | exact HB.out | apply below_alloc)) hd.below); clear hd) | (go_at_call 50; refine (HNUM.out _).mono ?_; rintro e w1 ⟨rfl, hd⟩; have hb1 := bcell hd.below; have hz : w.heap.size < w1.heap.size := (by have hz0 := (hd.below).size; (try simp at hz0); omega); have HB := Aside0.mk (below_step (by repeat (first | exact HB.out | apply below_alloc)) hd.below); clear hd) | (go_at_call 42; refine (HBOX.out _).mono ?_; rintro e w1 ⟨rfl, hd⟩; have hb1 := bcell hd.below; have hz : w.heap.size < w1.heap.size := (by have hz0 := (hd.below).size; (try simp at hz0); omega); have HB := Aside0.mk (below_step (by repeat (first | exact HB.out | apply below_alloc)) hd.below); clear hd) | (go_at_call 53; refine (HNAME.out _).mono ?_; rintro e w1 ⟨rfl, hd⟩; have hb1 := bcell hd; have hz : w.heap.size < w1.heap.size := (by have hz0 := (hd).size; (try simp at hz0); omega); have HB := Aside0.mk (below_step (by repeat (first | exact HB.out | apply below_alloc)) hd); clear hd) | (go_at_call 54; refine (HC3.out _ (by repeat (first | exact HB.out | apply below_alloc))).mono ?_; rintro e w1 ⟨rfl, hd⟩; have hb1 := bcell hd; have hz : w.heap.size < w1.heap.size := (by have hz0 := (hd).size; (try simp at hz0); omega); have HB := Aside0.mk (below_step (by repeat (first | exact HB.out | apply below_alloc)) hd); clear hd) | (go_at_call 56; refine (HC4.out _ (by repeat (first | exact HB.out | apply below_alloc))).mono ?_; rintro e w1 ⟨rfl, hd⟩; have hb1 := bcell hd; have hz : w.heap.size < w1.heap.size := (by have hz0 := (hd).size; (try simp at hz0); omega); have HB := Aside0.mk (below_step (by repeat (first | exact HB.out | apply below_alloc)) hd); clear hd))
    go_ret
    exact ⟨by first | rfl | simp, (by repeat (first | exact HB.out | apply below_alloc))⟩
  · simp only [Bool.true_eq_false, if_false]
    by_cases hm : (n4 : Int) = m
    · subst hm
      have bm : ((n4 : Int) != (n4 : Int)) = false := by simp
      rw [if_neg (by simp)]
      by_cases h3 : k = 3
      · subst h3
        simp only [ne_eq, not_true_eq_false, false_and, if_false, show ¬ (3 : Int) = 1 from by decide, show ¬ (3 : Int) = 2 from by decide, if_true]
        by_cases hn : n = 0
        · subst hn
          simp only [decide_true, Bool.true_and]
          cases fb
          · simp only [Bool.false_and]
            go_enter Tryd.func34, Tryd.ntmps34
            go_wp2_with (first | (go_at_call 49; refine (HK.out _).mono ?_; rintro e w1 ⟨rfl, hd⟩; have hb1 := bcell hd.below; have hz : w.heap.size < w1.heap.size := (by have hz0 := (hd.below).size; (try simp at hz0); omega); have HB := Aside0.mk (below_step (by repeat (first | exact HB.out | apply below_alloc)) hd.below); clear hd) | (go_at_call 50; refine (HNUM.out _).mono ?_; rintro e w1 ⟨rfl, hd⟩; have hb1 := bcell hd.below; have hz : w.heap.size < w1.heap.size := (by have hz0 := (hd.below).size; (try simp at hz0); omega); have HB := Aside0.mk (below_step (by repeat (first | exact HB.out | apply below_alloc)) hd.below); clear hd) | (go_at_call 42; refine (HBOX.out _).mono ?_; rintro e w1 ⟨rfl, hd⟩; have hb1 := bcell hd.below; have hz : w.heap.size < w1.heap.size := (by have hz0 := (hd.below).size; (try simp at hz0); omega); have HB := Aside0.mk (below_step (by repeat (first | exact HB.out | apply below_alloc)) hd.below); clear hd) | (go_at_call 53; refine (HNAME.out _).mono ?_; rintro e w1 ⟨rfl, hd⟩; have hb1 := bcell hd; have hz : w.heap.size < w1.heap.size := (by have hz0 := (hd).size; (try simp at hz0); omega); have HB := Aside0.mk (below_step (by repeat (first | exact HB.out | apply below_alloc)) hd); clear hd) | (go_at_call 54; refine (HC3.out _ (by repeat (first | exact HB.out | apply below_alloc))).mono ?_; rintro e w1 ⟨rfl, hd⟩; have hb1 := bcell hd; have hz : w.heap.size < w1.heap.size := (by have hz0 := (hd).size; (try simp at hz0); omega); have HB := Aside0.mk (below_step (by repeat (first | exact HB.out | apply below_alloc)) hd); clear hd) | (go_at_call 56; refine (HC4.out _ (by repeat (first | exact HB.out | apply below_alloc))).mono ?_; rintro e w1 ⟨rfl, hd⟩; have hb1 := bcell hd; have hz : w.heap.size < w1.heap.size := (by have hz0 := (hd).size; (try simp at hz0); omega); have HB := Aside0.mk (below_step (by repeat (first | exact HB.out | apply below_alloc)) hd); clear hd))
            go_ret
            exact ⟨by first | rfl | simp, (by repeat (first | exact HB.out | apply below_alloc))⟩
          · simp only [Bool.true_and]
            by_cases h16 : n3 ≤ 16
            · have b16 : decide ((n3 : Int) ≤ 16) = true := decide_eq_true (by omega)
              rw [decide_eq_true h16]
              go_enter Tryd.func34, Tryd.ntmps34
              go_wp2_with (first | (go_at_call 49; refine (HK.out _).mono ?_; rintro e w1 ⟨rfl, hd⟩; have hb1 := bcell hd.below; have hz : w.heap.size < w1.heap.size := (by have hz0 := (hd.below).size; (try simp at hz0); omega); have HB := Aside0.mk (below_step (by repeat (first | exact HB.out | apply below_alloc)) hd.below); clear hd) | (go_at_call 50; refine (HNUM.out _).mono ?_; rintro e w1 ⟨rfl, hd⟩; have hb1 := bcell hd.below; have hz : w.heap.size < w1.heap.size := (by have hz0 := (hd.below).size; (try simp at hz0); omega); have HB := Aside0.mk (below_step (by repeat (first | exact HB.out | apply below_alloc)) hd.below); clear hd) | (go_at_call 42; refine (HBOX.out _).mono ?_; rintro e w1 ⟨rfl, hd⟩; have hb1 := bcell hd.below; have hz : w.heap.size < w1.heap.size := (by have hz0 := (hd.below).size; (try simp at hz0); omega); have HB := Aside0.mk (below_step (by repeat (first | exact HB.out | apply below_alloc)) hd.below); clear hd) | (go_at_call 53; refine (HNAME.out _).mono ?_; rintro e w1 ⟨rfl, hd⟩; have hb1 := bcell hd; have hz : w.heap.size < w1.heap.size := (by have hz0 := (hd).size; (try simp at hz0); omega); have HB := Aside0.mk (below_step (by repeat (first | exact HB.out | apply below_alloc)) hd); clear hd) | (go_at_call 54; refine (HC3.out _ (by repeat (first | exact HB.out | apply below_alloc))).mono ?_; rintro e w1 ⟨rfl, hd⟩; have hb1 := bcell hd; have hz : w.heap.size < w1.heap.size := (by have hz0 := (hd).size; (try simp at hz0); omega); have HB := Aside0.mk (below_step (by repeat (first | exact HB.out | apply below_alloc)) hd); clear hd) | (go_at_call 56; refine (HC4.out _ (by repeat (first | exact HB.out | apply below_alloc))).mono ?_; rintro e w1 ⟨rfl, hd⟩; have hb1 := bcell hd; have hz : w.heap.size < w1.heap.size := (by have hz0 := (hd).size; (try simp at hz0); omega); have HB := Aside0.mk (below_step (by repeat (first | exact HB.out | apply below_alloc)) hd); clear hd))
              go_ret
              exact ⟨by first | rfl | simp, (by repeat (first | exact HB.out | apply below_alloc))⟩
            · have b16 : decide ((n3 : Int) ≤ 16) = false := decide_eq_false (by omega)
              rw [decide_eq_false h16]
              go_enter Tryd.func34, Tryd.ntmps34
              go_wp2_with (first | (go_at_call 49; refine (HK.out _).mono ?_; rintro e w1 ⟨rfl, hd⟩; have hb1 := bcell hd.below; have hz : w.heap.size < w1.heap.size := (by have hz0 := (hd.below).size; (try simp at hz0); omega); have HB := Aside0.mk (below_step (by repeat (first | exact HB.out | apply below_alloc)) hd.below); clear hd) | (go_at_call 50; refine (HNUM.out _).mono ?_; rintro e w1 ⟨rfl, hd⟩; have hb1 := bcell hd.below; have hz : w.heap.size < w1.heap.size := (by have hz0 := (hd.below).size; (try simp at hz0); omega); have HB := Aside0.mk (below_step (by repeat (first | exact HB.out | apply below_alloc)) hd.below); clear hd) | (go_at_call 42; refine (HBOX.out _).mono ?_; rintro e w1 ⟨rfl, hd⟩; have hb1 := bcell hd.below; have hz : w.heap.size < w1.heap.size := (by have hz0 := (hd.below).size; (try simp at hz0); omega); have HB := Aside0.mk (below_step (by repeat (first | exact HB.out | apply below_alloc)) hd.below); clear hd) | (go_at_call 53; refine (HNAME.out _).mono ?_; rintro e w1 ⟨rfl, hd⟩; have hb1 := bcell hd; have hz : w.heap.size < w1.heap.size := (by have hz0 := (hd).size; (try simp at hz0); omega); have HB := Aside0.mk (below_step (by repeat (first | exact HB.out | apply below_alloc)) hd); clear hd) | (go_at_call 54; refine (HC3.out _ (by repeat (first | exact HB.out | apply below_alloc))).mono ?_; rintro e w1 ⟨rfl, hd⟩; have hb1 := bcell hd; have hz : w.heap.size < w1.heap.size := (by have hz0 := (hd).size; (try simp at hz0); omega); have HB := Aside0.mk (below_step (by repeat (first | exact HB.out | apply below_alloc)) hd); clear hd) | (go_at_call 56; refine (HC4.out _ (by repeat (first | exact HB.out | apply below_alloc))).mono ?_; rintro e w1 ⟨rfl, hd⟩; have hb1 := bcell hd; have hz : w.heap.size < w1.heap.size := (by have hz0 := (hd).size; (try simp at hz0); omega); have HB := Aside0.mk (below_step (by repeat (first | exact HB.out | apply below_alloc)) hd); clear hd))
              go_ret
              exact ⟨by first | rfl | simp, (by repeat (first | exact HB.out | apply below_alloc))⟩
        · have bn : (n == 0) = false := beq_eq_false_iff_ne.mpr hn
          rw [decide_eq_false hn]
          simp only [Bool.false_and]
          go_enter Tryd.func34, Tryd.ntmps34
          go_wp2_with (first | (go_at_call 49; refine (HK.out _).mono ?_; rintro e w1 ⟨rfl, hd⟩; have hb1 := bcell hd.below; have hz : w.heap.size < w1.heap.size := (by have hz0 := (hd.below).size; (try simp at hz0); omega); have HB := Aside0.mk (below_step (by repeat (first | exact HB.out | apply below_alloc)) hd.below); clear hd) | (go_at_call 50; refine (HNUM.out _).mono ?_; rintro e w1 ⟨rfl, hd⟩; have hb1 := bcell hd.below; have hz : w.heap.size < w1.heap.size := (by have hz0 := (hd.below).size; (try simp at hz0); omega); have HB := Aside0.mk (below_step (by repeat (first | exact HB.out | apply below_alloc)) hd.below); clear hd) | (go_at_call 42; refine (HBOX.out _).mono ?_; rintro e w1 ⟨rfl, hd⟩; have hb1 := bcell hd.below; have hz : w.heap.size < w1.heap.size := (by have hz0 := (hd.below).size; (try simp at hz0); omega); have HB := Aside0.mk (below_step (by repeat (first | exact HB.out | apply below_alloc)) hd.below); clear hd) | (go_at_call 53; refine (HNAME.out _).mono ?_; rintro e w1 ⟨rfl, hd⟩; have hb1 := bcell hd; have hz : w.heap.size < w1.heap.size := (by have hz0 := (hd).size; (try simp at hz0); omega); have HB := Aside0.mk (below_step (by repeat (first | exact HB.out | apply below_alloc)) hd); clear hd) | (go_at_call 54; refine (HC3.out _ (by repeat (first | exact HB.out | apply below_alloc))).mono ?_; rintro e w1 ⟨rfl, hd⟩; have hb1 := bcell hd; have hz : w.heap.size < w1.heap.size := (by have hz0 := (hd).size; (try simp at hz0); omega); have HB := Aside0.mk (below_step (by repeat (first | exact HB.out | apply below_alloc)) hd); clear hd) | (go_at_call 56; refine (HC4.out _ (by repeat (first | exact HB.out | apply below_alloc))).mono ?_; rintro e w1 ⟨rfl, hd⟩; have hb1 := bcell hd; have hz : w.heap.size < w1.heap.size := (by have hz0 := (hd).size; (try simp at hz0); omega); have HB := Aside0.mk (below_step (by repeat (first | exact HB.out | apply below_alloc)) hd); clear hd))
          go_ret
          exact ⟨by first | rfl | simp, (by repeat (first | exact HB.out | apply below_alloc))⟩
      · have b3 : (k != 3) = true := bne_iff_ne.mpr h3
        have b3' : (k == 3) = false := beq_eq_false_iff_ne.mpr h3
        by_cases hf : fd.toList = []
        · have bf : fd.toList.isEmpty = true := by rw [hf]; rfl
          by_cases h0 : 0 < n3
          · rw [if_pos ⟨h3, Or.inr h0⟩]
            have b0 : decide ((0 : Int) < (n3 : Int)) = true := decide_eq_true (by omega)
            clear hf
            go_enter Tryd.func34, Tryd.ntmps34
            go_wp2_with (first | (go_at_call 49; refine (HK.out _).mono ?_; rintro e w1 ⟨rfl, hd⟩; have hb1 := bcell hd.below; have hz : w.heap.size < w1.heap.size := (by have hz0 := (hd.below).size; (try simp at hz0); omega); have HB := Aside0.mk (below_step (by repeat (first | exact HB.out | apply below_alloc)) hd.below); clear hd) | (go_at_call 50; refine (HNUM.out _).mono ?_; rintro e w1 ⟨rfl, hd⟩; have hb1 := bcell hd.below; have hz : w.heap.size < w1.heap.size := (by have hz0 := (hd.below).size; (try simp at hz0); omega); have HB := Aside0.mk (below_step (by repeat (first | exact HB.out | apply below_alloc)) hd.below); clear hd) | (go_at_call 42; refine (HBOX.out _).mono ?_; rintro e w1 ⟨rfl, hd⟩; have hb1 := bcell hd.below; have hz : w.heap.size < w1.heap.size := (by have hz0 := (hd.below).size; (try simp at hz0); omega); have HB := Aside0.mk (below_step (by repeat (first | exact HB.out | apply below_alloc)) hd.below); clear hd) | (go_at_call 53; refine (HNAME.out _).mono ?_; rintro e w1 ⟨rfl, hd⟩; have hb1 := bcell hd; have hz : w.heap.size < w1.heap.size := (by have hz0 := (hd).size; (try simp at hz0); omega); have HB := Aside0.mk (below_step (by repeat (first | exact HB.out | apply below_alloc)) hd); clear hd) | (go_at_call 54; refine (HC3.out _ (by repeat (first | exact HB.out | apply below_alloc))).mono ?_; rintro e w1 ⟨rfl, hd⟩; have hb1 := bcell hd; have hz : w.heap.size < w1.heap.size := (by have hz0 := (hd).size; (try simp at hz0); omega); have HB := Aside0.mk (below_step (by repeat (first | exact HB.out | apply below_alloc)) hd); clear hd) | (go_at_call 56; refine (HC4.out _ (by repeat (first | exact HB.out | apply below_alloc))).mono ?_; rintro e w1 ⟨rfl, hd⟩; have hb1 := bcell hd; have hz : w.heap.size < w1.heap.size := (by have hz0 := (hd).size; (try simp at hz0); omega); have HB := Aside0.mk (below_step (by repeat (first | exact HB.out | apply below_alloc)) hd); clear hd))
            go_ret
            exact ⟨by first | rfl | simp, (by repeat (first | exact HB.out | apply below_alloc))⟩
          · rw [if_neg (by rintro ⟨_, h | h⟩ <;> contradiction)]
            have b0 : decide ((0 : Int) < (n3 : Int)) = false := decide_eq_false (by omega)
            clear hf
            by_cases h1 : k = 1
            · subst h1
              simp only [if_true]
              go_enter Tryd.func34, Tryd.ntmps34
              go_wp2_with (first | (go_at_call 49; refine (HK.out _).mono ?_; rintro e w1 ⟨rfl, hd⟩; have hb1 := bcell hd.below; have hz : w.heap.size < w1.heap.size := (by have hz0 := (hd.below).size; (try simp at hz0); omega); have HB := Aside0.mk (below_step (by repeat (first | exact HB.out | apply below_alloc)) hd.below); clear hd) | (go_at_call 50; refine (HNUM.out _).mono ?_; rintro e w1 ⟨rfl, hd⟩; have hb1 := bcell hd.below; have hz : w.heap.size < w1.heap.size := (by have hz0 := (hd.below).size; (try simp at hz0); omega); have HB := Aside0.mk (below_step (by repeat (first | exact HB.out | apply below_alloc)) hd.below); clear hd) | (go_at_call 42; refine (HBOX.out _).mono ?_; rintro e w1 ⟨rfl, hd⟩; have hb1 := bcell hd.below; have hz : w.heap.size < w1.heap.size := (by have hz0 := (hd.below).size; (try simp at hz0); omega); have HB := Aside0.mk (below_step (by repeat (first | exact HB.out | apply below_alloc)) hd.below); clear hd) | (go_at_call 53; refine (HNAME.out _).mono ?_; rintro e w1 ⟨rfl, hd⟩; have hb1 := bcell hd; have hz : w.heap.size < w1.heap.size := (by have hz0 := (hd).size; (try simp at hz0); omega); have HB := Aside0.mk (below_step (by repeat (first | exact HB.out | apply below_alloc)) hd); clear hd) | (go_at_call 54; refine (HC3.out _ (by repeat (first | exact HB.out | apply below_alloc))).mono ?_; rintro e w1 ⟨rfl, hd⟩; have hb1 := bcell hd; have hz : w.heap.size < w1.heap.size := (by have hz0 := (hd).size; (try simp at hz0); omega); have HB := Aside0.mk (below_step (by repeat (first | exact HB.out | apply below_alloc)) hd); clear hd) | (go_at_call 56; refine (HC4.out _ (by repeat (first | exact HB.out | apply below_alloc))).mono ?_; rintro e w1 ⟨rfl, hd⟩; have hb1 := bcell hd; have hz : w.heap.size < w1.heap.size := (by have hz0 := (hd).size; (try simp at hz0); omega); have HB := Aside0.mk (below_step (by repeat (first | exact HB.out | apply below_alloc)) hd); clear hd))
              go_ret
              exact ⟨by first | rfl | simp, (by repeat (first | exact HB.out | apply below_alloc))⟩
            by_cases h2 : k = 2
            · subst h2
              simp only [if_true, show ¬ (2 : Int) = 1 from by decide, if_false]
              go_enter Tryd.func34, Tryd.ntmps34
              go_wp2_with (first | (go_at_call 49; refine (HK.out _).mono ?_; rintro e w1 ⟨rfl, hd⟩; have hb1 := bcell hd.below; have hz : w.heap.size < w1.heap.size := (by have hz0 := (hd.below).size; (try simp at hz0); omega); have HB := Aside0.mk (below_step (by repeat (first | exact HB.out | apply below_alloc)) hd.below); clear hd) | (go_at_call 50; refine (HNUM.out _).mono ?_; rintro e w1 ⟨rfl, hd⟩; have hb1 := bcell hd.below; have hz : w.heap.size < w1.heap.size := (by have hz0 := (hd.below).size; (try simp at hz0); omega); have HB := Aside0.mk (below_step (by repeat (first | exact HB.out | apply below_alloc)) hd.below); clear hd) | (go_at_call 42; refine (HBOX.out _).mono ?_; rintro e w1 ⟨rfl, hd⟩; have hb1 := bcell hd.below; have hz : w.heap.size < w1.heap.size := (by have hz0 := (hd.below).size; (try simp at hz0); omega); have HB := Aside0.mk (below_step (by repeat (first | exact HB.out | apply below_alloc)) hd.below); clear hd) | (go_at_call 53; refine (HNAME.out _).mono ?_; rintro e w1 ⟨rfl, hd⟩; have hb1 := bcell hd; have hz : w.heap.size < w1.heap.size := (by have hz0 := (hd).size; (try simp at hz0); omega); have HB := Aside0.mk (below_step (by repeat (first | exact HB.out | apply below_alloc)) hd); clear hd) | (go_at_call 54; refine (HC3.out _ (by repeat (first | exact HB.out | apply below_alloc))).mono ?_; rintro e w1 ⟨rfl, hd⟩; have hb1 := bcell hd; have hz : w.heap.size < w1.heap.size := (by have hz0 := (hd).size; (try simp at hz0); omega); have HB := Aside0.mk (below_step (by repeat (first | exact HB.out | apply below_alloc)) hd); clear hd) | (go_at_call 56; refine (HC4.out _ (by repeat (first | exact HB.out | apply below_alloc))).mono ?_; rintro e w1 ⟨rfl, hd⟩; have hb1 := bcell hd; have hz : w.heap.size < w1.heap.size := (by have hz0 := (hd).size; (try simp at hz0); omega); have HB := Aside0.mk (below_step (by repeat (first | exact HB.out | apply below_alloc)) hd); clear hd))
              go_ret
              exact ⟨by first | rfl | simp, (by repeat (first | exact HB.out | apply below_alloc))⟩
            rw [if_neg h1, if_neg h2, if_neg h3]
            have b1 : (k == 1) = false := beq_eq_false_iff_ne.mpr h1
            have b2 : (k == 2) = false := beq_eq_false_iff_ne.mpr h2
            by_cases hn : n = 0
            · subst hn
              simp only [decide_true, Bool.true_and]
              go_enter Tryd.func34, Tryd.ntmps34
              go_wp2_with (first | (go_at_call 49; refine (HK.out _).mono ?_; rintro e w1 ⟨rfl, hd⟩; have hb1 := bcell hd.below; have hz : w.heap.size < w1.heap.size := (by have hz0 := (hd.below).size; (try simp at hz0); omega); have HB := Aside0.mk (below_step (by repeat (first | exact HB.out | apply below_alloc)) hd.below); clear hd) | (go_at_call 50; refine (HNUM.out _).mono ?_; rintro e w1 ⟨rfl, hd⟩; have hb1 := bcell hd.below; have hz : w.heap.size < w1.heap.size := (by have hz0 := (hd.below).size; (try simp at hz0); omega); have HB := Aside0.mk (below_step (by repeat (first | exact HB.out | apply below_alloc)) hd.below); clear hd) | (go_at_call 42; refine (HBOX.out _).mono ?_; rintro e w1 ⟨rfl, hd⟩; have hb1 := bcell hd.below; have hz : w.heap.size < w1.heap.size := (by have hz0 := (hd.below).size; (try simp at hz0); omega); have HB := Aside0.mk (below_step (by repeat (first | exact HB.out | apply below_alloc)) hd.below); clear hd) | (go_at_call 53; refine (HNAME.out _).mono ?_; rintro e w1 ⟨rfl, hd⟩; have hb1 := bcell hd; have hz : w.heap.size < w1.heap.size := (by have hz0 := (hd).size; (try simp at hz0); omega); have HB := Aside0.mk (below_step (by repeat (first | exact HB.out | apply below_alloc)) hd); clear hd) | (go_at_call 54; refine (HC3.out _ (by repeat (first | exact HB.out | apply below_alloc))).mono ?_; rintro e w1 ⟨rfl, hd⟩; have hb1 := bcell hd; have hz : w.heap.size < w1.heap.size := (by have hz0 := (hd).size; (try simp at hz0); omega); have HB := Aside0.mk (below_step (by repeat (first | exact HB.out | apply below_alloc)) hd); clear hd) | (go_at_call 56; refine (HC4.out _ (by repeat (first | exact HB.out | apply below_alloc))).mono ?_; rintro e w1 ⟨rfl, hd⟩; have hb1 := bcell hd; have hz : w.heap.size < w1.heap.size := (by have hz0 := (hd).size; (try simp at hz0); omega); have HB := Aside0.mk (below_step (by repeat (first | exact HB.out | apply below_alloc)) hd); clear hd))
              go_ret
              exact ⟨by first | rfl | simp, (by repeat (first | exact HB.out | apply below_alloc))⟩
            · have bn : (n == 0) = false := beq_eq_false_iff_ne.mpr hn
              rw [decide_eq_false hn]
              simp only [Bool.false_and]
              go_enter Tryd.func34, Tryd.ntmps34
              go_wp2_with (first | (go_at_call 49; refine (HK.out _).mono ?_; rintro e w1 ⟨rfl, hd⟩; have hb1 := bcell hd.below; have hz : w.heap.size < w1.heap.size := (by have hz0 := (hd.below).size; (try simp at hz0); omega); have HB := Aside0.mk (below_step (by repeat (first | exact HB.out | apply below_alloc)) hd.below); clear hd) | (go_at_call 50; refine (HNUM.out _).mono ?_; rintro e w1 ⟨rfl, hd⟩; have hb1 := bcell hd.below; have hz : w.heap.size < w1.heap.size := (by have hz0 := (hd.below).size; (try simp at hz0); omega); have HB := Aside0.mk (below_step (by repeat (first | exact HB.out | apply below_alloc)) hd.below); clear hd) | (go_at_call 42; refine (HBOX.out _).mono ?_; rintro e w1 ⟨rfl, hd⟩; have hb1 := bcell hd.below; have hz : w.heap.size < w1.heap.size := (by have hz0 := (hd.below).size; (try simp at hz0); omega); have HB := Aside0.mk (below_step (by repeat (first | exact HB.out | apply below_alloc)) hd.below); clear hd) | (go_at_call 53; refine (HNAME.out _).mono ?_; rintro e w1 ⟨rfl, hd⟩; have hb1 := bcell hd; have hz : w.heap.size < w1.heap.size := (by have hz0 := (hd).size; (try simp at hz0); omega); have HB := Aside0.mk (below_step (by repeat (first | exact HB.out | apply below_alloc)) hd); clear hd) | (go_at_call 54; refine (HC3.out _ (by repeat (first | exact HB.out | apply below_alloc))).mono ?_; rintro e w1 ⟨rfl, hd⟩; have hb1 := bcell hd; have hz : w.heap.size < w1.heap.size := (by have hz0 := (hd).size; (try simp at hz0); omega); have HB := Aside0.mk (below_step (by repeat (first | exact HB.out | apply below_alloc)) hd); clear hd) | (go_at_call 56; refine (HC4.out _ (by repeat (first | exact HB.out | apply below_alloc))).mono ?_; rintro e w1 ⟨rfl, hd⟩; have hb1 := bcell hd; have hz : w.heap.size < w1.heap.size := (by have hz0 := (hd).size; (try simp at hz0); omega); have HB := Aside0.mk (below_step (by repeat (first | exact HB.out | apply below_alloc)) hd); clear hd))
              go_ret
              exact ⟨by first | rfl | simp, (by repeat (first | exact HB.out | apply below_alloc))⟩
        · have bf : fd.toList.isEmpty = false := by simpa using hf
          rw [if_pos ⟨h3, Or.inl hf⟩]
          go_enter Tryd.func34, Tryd.ntmps34
          go_wp2_with (first | (go_at_call 49; refine (HK.out _).mono ?_; rintro e w1 ⟨rfl, hd⟩; have hb1 := bcell hd.below; have hz : w.heap.size < w1.heap.size := (by have hz0 := (hd.below).size; (try simp at hz0); omega); have HB := Aside0.mk (below_step (by repeat (first | exact HB.out | apply below_alloc)) hd.below); clear hd) | (go_at_call 50; refine (HNUM.out _).mono ?_; rintro e w1 ⟨rfl, hd⟩; have hb1 := bcell hd.below; have hz : w.heap.size < w1.heap.size := (by have hz0 := (hd.below).size; (try simp at hz0); omega); have HB := Aside0.mk (below_step (by repeat (first | exact HB.out | apply below_alloc)) hd.below); clear hd) | (go_at_call 42; refine (HBOX.out _).mono ?_; rintro e w1 ⟨rfl, hd⟩; have hb1 := bcell hd.below; have hz : w.heap.size < w1.heap.size := (by have hz0 := (hd.below).size; (try simp at hz0); omega); have HB := Aside0.mk (below_step (by repeat (first | exact HB.out | apply below_alloc)) hd.below); clear hd) | (go_at_call 53; refine (HNAME.out _).mono ?_; rintro e w1 ⟨rfl, hd⟩; have hb1 := bcell hd; have hz : w.heap.size < w1.heap.size := (by have hz0 := (hd).size; (try simp at hz0); omega); have HB := Aside0.mk (below_step (by repeat (first | exact HB.out | apply below_alloc)) hd); clear hd) | (go_at_call 54; refine (HC3.out _ (by repeat (first | exact HB.out | apply below_alloc))).mono ?_; rintro e w1 ⟨rfl, hd⟩; have hb1 := bcell hd; have hz : w.heap.size < w1.heap.size := (by have hz0 := (hd).size; (try simp at hz0); omega); have HB := Aside0.mk (below_step (by repeat (first | exact HB.out | apply below_alloc)) hd); clear hd) | (go_at_call 56; refine (HC4.out _ (by repeat (first | exact HB.out | apply below_alloc))).mono ?_; rintro e w1 ⟨rfl, hd⟩; have hb1 := bcell hd; have hz : w.heap.size < w1.heap.size := (by have hz0 := (hd).size; (try simp at hz0); omega); have HB := Aside0.mk (below_step (by repeat (first | exact HB.out | apply below_alloc)) hd); clear hd))
          go_ret
          exact ⟨by first | rfl | simp, (by repeat (first | exact HB.out | apply below_alloc))⟩
    · rw [if_pos hm]
      have bm : ((n4 : Int) != m) = true := bne_iff_ne.mpr hm
      go_enter Tryd.func34, Tryd.ntmps34
      go_wp2_with (first | (go_at_call 49; refine (HK.out _).mono ?_; rintro e w1 ⟨rfl, hd⟩; have hb1 := bcell hd.below; have hz : w.heap.size < w1.heap.size := (by have hz0 := (hd.below).size; (try simp at hz0); omega); have HB := Aside0.mk (below_step (by repeat (first | exact HB.out | apply below_alloc)) hd.below); clear hd) | (go_at_call 50; refine (HNUM.out _).mono ?_; rintro e w1 ⟨rfl, hd⟩; have hb1 := bcell hd.below; have hz : w.heap.size < w1.heap.size := (by have hz0 := (hd.below).size; (try simp at hz0); omega); have HB := Aside0.mk (below_step (by repeat (first | exact HB.out | apply below_alloc)) hd.below); clear hd) | (go_at_call 42; refine (HBOX.out _).mono ?_; rintro e w1 ⟨rfl, hd⟩; have hb1 := bcell hd.below; have hz : w.heap.size < w1.heap.size := (by have hz0 := (hd.below).size; (try simp at hz0); omega); have HB := Aside0.mk (below_step (by repeat (first | exact HB.out | apply below_alloc)) hd.below); clear hd) | (go_at_call 53; refine (HNAME.out _).mono ?_; rintro e w1 ⟨rfl, hd⟩; have hb1 := bcell hd; have hz : w.heap.size < w1.heap.size := (by have hz0 := (hd).size; (try simp at hz0); omega); have HB := Aside0.mk (below_step (by repeat (first | exact HB.out | apply below_alloc)) hd); clear hd) | (go_at_call 54; refine (HC3.out _ (by repeat (first | exact HB.out | apply below_alloc))).mono ?_; rintro e w1 ⟨rfl, hd⟩; have hb1 := bcell hd; have hz : w.heap.size < w1.heap.size := (by have hz0 := (hd).size; (try simp at hz0); omega); have HB := Aside0.mk (below_step (by repeat (first | exact HB.out | apply below_alloc)) hd); clear hd) | (go_at_call 56; refine (HC4.out _ (by repeat (first | exact HB.out | apply below_alloc))).mono ?_; rintro e w1 ⟨rfl, hd⟩; have hb1 := bcell hd; have hz : w.heap.size < w1.heap.size := (by have hz0 := (hd).size; (try simp at hz0); omega); have HB := Aside0.mk (below_step (by repeat (first | exact HB.out | apply below_alloc)) hd); clear hd))
      go_ret
      exact ⟨by first | rfl | simp, (by repeat (first | exact HB.out | apply below_alloc))⟩
end Go.Proofs.YtgkfpakncjncdaaDoor.Syn
/- syntax.right at every expression; how deep one is, by the program and by the document; syntax.GoodExpr, syntax.may. -/
namespace Go.Proofs.YtgkfpakncjncdaaDoor.Syn
open Go.RowKit Go.Lib Go.Proofs.YtgkfpakncjncdaaDoorW.PrintWords Go.Proofs.YtgkfpakncjncdaaDoorW.PrintLast Go.Proofs.YtgkfpakncjncdaaDoorW.PrintMore Go.Proofs.YtgkfpakncjncdaaDoor.PSyn
set_option linter.unusedVariables false
set_option linter.unusedSimpArgs false

theorem right_all (hcf : CFn) (x : S26) : RightAt x := by
  suffices h : ∀ (n : Nat) (x : S26), SizeOf.sizeOf x < n → RightAt x from h _ x (Nat.lt_succ_self _)
  intro n
  induction n with
  | zero => intro x hx; exact absurd hx (Nat.not_lt_zero _)
  | succ n ih =>
    intro x hx W cs hk
    obtain ⟨A3, c3, A4, c4, rfl, l3, g3, l4, g4⟩ := k26_open hk
    obtain ⟨k, m, fd, fs, ks⟩ := x
    refine right_step hcf k m fd fs ks A3 A4 c3 c4 W g3 g4 (fun y hy => ih y ?_)
    have h1 : SizeOf.sizeOf y < SizeOf.sizeOf ks := List.sizeOf_lt_of_mem hy
    have h2 : SizeOf.sizeOf (S26.mk k m fd fs ks) = 1 + SizeOf.sizeOf k + SizeOf.sizeOf m + SizeOf.sizeOf fd + SizeOf.sizeOf fs + SizeOf.sizeOf ks := by simp
    omega

/-- how deep an expression is, as far as so many. -/
def depthN : Nat → S26 → Int
  | 0, _ => 1
  | m + 1, x => x.f4.foldl (fun a y => mx a (1 + depthN m y)) 1

theorem mx_le {a b c : Int} (h1 : a ≤ c) (h2 : b ≤ c) : mx a b ≤ c := by unfold mx; split <;> assumption
theorem mx_ge {a b c : Int} (h1 : c ≤ a) : c ≤ mx a b := by unfold mx; split <;> omega
theorem fold_bd (d : S26 → Int) (B : Int) (hd : ∀ y, d y ≤ B) : ∀ (l : List S26) (a : Int), 1 ≤ a → a ≤ 1 + B → 1 ≤ l.foldl (fun a y => mx a (1 + d y)) a ∧ l.foldl (fun a y => mx a (1 + d y)) a ≤ 1 + B
  | [], a, h1, h2 => ⟨h1, h2⟩
  | y :: l, a, h1, h2 => by
    simp only [List.foldl_cons]
    exact fold_bd d B hd l _ (mx_ge h1) (mx_le h2 (by have := hd y; omega))
theorem depthN_bd : ∀ (m : Nat) (x : S26), 1 ≤ depthN m x ∧ depthN m x ≤ m + 1
  | 0, x => by simp [depthN]
  | m + 1, x => by
    have := fold_bd (depthN m) (m + 1) (fun y => (depthN_bd m y).2) x.f4 1 (by omega) (by omega)
    rw [depthN]
    constructor
    · exact this.1
    · have := this.2; push_cast; omega

theorem wrap_small {i : Int} (h0 : -9223372036854775808 ≤ i) (h1 : i ≤ 9223372036854775807) : wrap64 i = i := by unfold wrap64; omega
theorem rd_at {l : List S26} {i : Nat} (h : i < l.length) : rd_T26 l (i : Int) = l[i] := by simp [rd_T26, List.getD_eq_getElem?_getD, h]

/-- An expression that lies somewhere in memory. -/
def Lies (x : S26) : Prop := ∃ w cs, k26.K w x cs
theorem C_mem {α : Type} {d : Kd α} {w : World} {A : Option Addr} {l : List α} (h : Kd.C d w A l.length l) {y : α} (hy : y ∈ l) : ∃ cs, d.K w y cs := by
  obtain ⟨j, hj, rfl⟩ := List.getElem_of_mem hy
  obtain ⟨ad, _, hc⟩ := h.2.2 (by omega)
  obtain ⟨c, _, hr, _⟩ := hc j l[j] (List.getElem?_eq_getElem hj)
  exact ⟨c, hr⟩
theorem Lies.kids {x : S26} (h : Lies x) : x.f4.length ≤ 9223372036854775807 ∧ ∀ y ∈ x.f4, Lies y := by
  obtain ⟨w, cs, hk⟩ := h
  obtain ⟨A3, c3, A4, c4, rfl, l3, g3, l4, g4⟩ := k26_open hk
  exact ⟨g4.2.1, fun y hy => let ⟨cs, hc⟩ := C_mem g4 hy; ⟨w, cs, hc⟩⟩
theorem Lies.filters {x : S26} (h : Lies x) : x.f3.length ≤ 9223372036854775807 := by
  obtain ⟨w, cs, hk⟩ := h
  obtain ⟨A3, c3, A4, c4, rfl, l3, g3, l4, g4⟩ := k26_open hk
  exact g3.2.1

theorem depthL_ev (m : Nat) (hm : m ≤ 1000) (ks : List S26) (hlen : ks.length ≤ 9223372036854775807) (ih : ∀ y ∈ ks, Ev (fun k => syntax_depth.f k y.f0 y.f1 y.f2 y.f3 y.f4 (m : Int)) (depthN m y)) :
    ∀ (d i : Nat) (a : Int), ks.length - i = d → i ≤ ks.length → 1 ≤ a → a ≤ 2000 →
      Ev (fun k => syntax_depth.l0 k ((m : Int) + 1) a ks (ks.length : Int) (i : Int)) ((ks.drop i).foldl (fun a y => mx a (1 + depthN m y)) a) := by
  intro d
  induction d with
  | zero =>
    intro i a hd hi h1 h2
    rw [List.drop_eq_nil_of_le (by omega)]
    refine Ev.step (f := fun _ => some a) (fun k => ?_) (Ev.now a)
    simp only [syntax_depth.l0]
    rw [if_neg (by omega)]
  | succ d ihd =>
    intro i a hd hi h1 h2
    have hlt : i < ks.length := by omega
    have hb := depthN_bd m ks[i]
    rw [List.drop_eq_getElem_cons hlt, List.foldl_cons]
    refine Ev.step (f := fun k => (syntax_depth.f k ks[i].f0 ks[i].f1 ks[i].f2 ks[i].f3 ks[i].f4 (m : Int)).bind fun t => syntax_depth.l0 k ((m : Int) + 1) (mx a (wrap64 (1 + t))) ks (ks.length : Int) ((i : Int) + 1)) (fun k => ?_) ?_
    · simp only [syntax_depth.l0]
      rw [if_pos (by omega), if_pos (by omega), if_pos (by omega), if_neg (by omega), rd_at hlt, wrap_small (by omega) (by omega), wrap_small (i := (i : Int) + 1) (by omega) (by omega), show (m : Int) + 1 - 1 = (m : Int) from by omega]
    · refine Ev.bind (ih _ (List.getElem_mem hlt)) ?_
      have := ihd (i + 1) (mx a (1 + depthN m ks[i])) (by omega) (by omega) (mx_ge h1) (mx_le h2 (by omega))
      rw [wrap_small (by omega) (by omega)]
      exact this

theorem depth_ev : ∀ (m : Nat) (x : S26), m ≤ 1000 → Lies x → Ev (fun k => syntax_depth.f k x.f0 x.f1 x.f2 x.f3 x.f4 (m : Int)) (depthN m x)
  | 0, x, hm, hx => by
    refine Ev.step (f := fun k => syntax_depth.l0 k 0 1 x.f4 (x.f4.length : Int) 0) (fun k => by simp only [syntax_depth.f]; rfl) ?_
    refine Ev.step (f := fun _ => some 1) (fun k => ?_) (Ev.now 1)
    simp only [syntax_depth.l0]
    by_cases h : (0 : Int) < (x.f4.length : Int)
    · rw [if_pos h, if_pos (Int.le_refl _), if_pos h, if_pos trivial]
    · rw [if_neg h]
  | m + 1, x, hm, hx => by
    refine Ev.step (f := fun k => syntax_depth.l0 k ((m : Int) + 1) 1 x.f4 (x.f4.length : Int) 0) (fun k => by simp only [syntax_depth.f]; rfl) ?_
    have := depthL_ev m (by omega) x.f4 hx.kids.1 (fun y hy => depth_ev m y (by omega) (hx.kids.2 y hy)) _ 0 1 rfl (Nat.zero_le _) (by omega) (by omega)
    rw [depthN]
    exact this

theorem deepL_ev (m : Nat) (hm : m ≤ 1000) (ks : List S26) (p q : Int) (s : ByteArray) (fs : List S54) (hlen : ks.length ≤ 9223372036854775807) (ih : ∀ y ∈ ks, Ev (fun k => octroiref31_Deep.f k y.f0 y.f1 y.f2 y.f3 y.f4 (m : Int)) (depthN m y)) :
    ∀ (d i : Nat) (a : Int), ks.length - i = d → i ≤ ks.length → 1 ≤ a → a ≤ 2000 →
      Ev (fun k => octroiref31_Deep.l0 k ((m : Int) + 1) a (i : Int) p q s fs ks) ((ks.drop i).foldl (fun a y => mx a (1 + depthN m y)) a) := by
  intro d
  induction d with
  | zero =>
    intro i a hd hi h1 h2
    rw [List.drop_eq_nil_of_le (by omega)]
    refine Ev.step (f := fun _ => some a) (fun k => ?_) (Ev.now a)
    simp only [octroiref31_Deep.l0]
    rw [if_neg (by omega)]
  | succ d ihd =>
    intro i a hd hi h1 h2
    have hlt : i < ks.length := by omega
    have hb := depthN_bd m ks[i]
    rw [List.drop_eq_getElem_cons hlt, List.foldl_cons]
    refine Ev.step (f := fun k => (octroiref31_Deep.f k ks[i].f0 ks[i].f1 ks[i].f2 ks[i].f3 ks[i].f4 (m : Int)).bind fun t => octroiref31_Deep.l0 k ((m : Int) + 1) (mx a (wrap64 (1 + t))) ((i : Int) + 1) p q s fs ks) (fun k => ?_) ?_
    · simp only [octroiref31_Deep.l0]
      rw [if_pos (by omega), if_pos (by omega), if_pos (by omega), rd_at hlt, wrap_small (by omega) (by omega), wrap_small (i := (i : Int) + 1) (by omega) (by omega), show (m : Int) + 1 - 1 = (m : Int) from by omega]
    · refine Ev.bind (ih _ (List.getElem_mem hlt)) ?_
      have := ihd (i + 1) (mx a (1 + depthN m ks[i])) (by omega) (by omega) (mx_ge h1) (mx_le h2 (by omega))
      rw [wrap_small (by omega) (by omega)]
      exact this

theorem deep_ev : ∀ (m : Nat) (x : S26), m ≤ 1000 → Lies x → Ev (fun k => octroiref31_Deep.f k x.f0 x.f1 x.f2 x.f3 x.f4 (m : Int)) (depthN m x)
  | 0, x, hm, hx => by
    refine Ev.step (f := fun k => octroiref31_Deep.l0 k 0 1 0 x.f0 x.f1 x.f2 x.f3 x.f4) (fun k => by simp only [octroiref31_Deep.f]; rfl) ?_
    refine Ev.step (f := fun _ => some 1) (fun k => ?_) (Ev.now 1)
    simp only [octroiref31_Deep.l0]
    by_cases h : (0 : Int) < (x.f4.length : Int)
    · rw [if_pos h, if_neg (by omega)]
    · rw [if_neg h]
  | m + 1, x, hm, hx => by
    refine Ev.step (f := fun k => octroiref31_Deep.l0 k ((m : Int) + 1) 1 0 x.f0 x.f1 x.f2 x.f3 x.f4) (fun k => by simp only [octroiref31_Deep.f]; rfl) ?_
    have := deepL_ev m (by omega) x.f4 x.f0 x.f1 x.f2 x.f3 hx.kids.1 (fun y hy => deep_ev m y (by omega) (hx.kids.2 y hy)) _ 0 1 rfl (Nat.zero_le _) (by omega) (by omega)
    rw [depthN]
    exact this

/-- may an expression be? -/
def goodB (x : S26) : Bool := decide (depthN 64 x ≤ 64) && rightB x

theorem good_calls (hcf : CFn) (x : S26) (W : World) (cs : List Value) (hk : k26.K W x cs) :
    Calls Tryd.prog 19 #[.agg cs.toArray] W fun e w' => e = .returned (.bool (goodB x)) ∧ Below W.heap.size W w' := by
  have hL : Lies x := ⟨W, cs, hk⟩
  obtain ⟨kk, hkk⟩ := (Ev.bind (f := fun _ t => some t) (depth_ev 64 x (by omega) hL) (Ev.now _)).rounds
  have hD : ∀ W', Below W.heap.size W W' → Calls Tryd.prog 33 #[.agg cs.toArray] W' fun e w' => e = .returned (.int .i64 (depthN 64 x)) ∧ Below W'.heap.size W' w' := by
    intro W' hb
    obtain ⟨A3, c3, A4, c4, rfl, l3, g3, l4, g4⟩ := k26_open (k26.K_below hb hk)
    exact syntax_Deep.calls kk _ _ _ A3 c3 _ A4 c4 _ _ W' g3 l3 g4 l4 hkk
  have hR : ∀ W', Below W.heap.size W W' → Calls Tryd.prog 34 #[.agg cs.toArray] W' fun e w' => e = .returned (.bool (rightB x)) ∧ Below W'.heap.size W' w' := fun W' hb => right_all hcf x W' cs (k26.K_below hb hk)
  obtain ⟨A3, c3, A4, c4, rfl, -, -, -, -⟩ := k26_open hk
  unfold goodB
  have hbd := depthN_bd 64 x
  generalize depthN 64 x = D at *
  generalize rightB x = R at *
  have HD := Aside0.mk hD
  have HR := Aside0.mk hR
  clear hD hR hL hkk hcf hk
  obtain ⟨k, n, fd, fs, ks⟩ := x
  simp only at HD HR ⊢
  generalize fs.length = n3 at HD HR ⊢
  generalize ks.length = n4 at HD HR ⊢
  have HB := Aside0.mk (Below.refl W.heap.size W)
  by_cases h64 : D ≤ 64
  · rw [decide_eq_true h64]
    have b64 : decide (D ≤ 64) = true := decide_eq_true h64
    cases R
    all_goals
      go_enter Tryd.func19, Tryd.ntmps19
      go_wp2_with (first | (go_at_call 33; refine (HD.out _ (by repeat (first | exact HB.out | apply below_alloc))).mono ?_; rintro e w1 ⟨rfl, hd⟩; have hb1 := bcell hd; have HB := Aside0.mk (below_step (by repeat (first | exact HB.out | apply below_alloc)) hd); clear hd) | (go_at_call 34; refine (HR.out _ (by repeat (first | exact HB.out | apply below_alloc))).mono ?_; rintro e w1 ⟨rfl, hd⟩; have HB := Aside0.mk (below_step (by repeat (first | exact HB.out | apply below_alloc)) hd); clear hd))
      go_ret
      exact ⟨rfl, by repeat (first | exact HB.out | apply below_alloc)⟩
  · rw [decide_eq_false h64]
    have b64 : decide (D ≤ 64) = false := decide_eq_false h64
    go_enter Tryd.func19, Tryd.ntmps19
    go_wp2_with (first | (go_at_call 33; refine (HD.out _ (by repeat (first | exact HB.out | apply below_alloc))).mono ?_; rintro e w1 ⟨rfl, hd⟩; have hb1 := bcell hd; have HB := Aside0.mk (below_step (by repeat (first | exact HB.out | apply below_alloc)) hd); clear hd))
    go_ret
    exact ⟨by simp, by repeat (first | exact HB.out | apply below_alloc)⟩
end Go.Proofs.YtgkfpakncjncdaaDoor.Syn
