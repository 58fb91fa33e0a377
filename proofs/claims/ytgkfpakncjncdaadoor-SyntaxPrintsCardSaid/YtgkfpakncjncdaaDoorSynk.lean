/- lives, and the law SyntaxPrints. -/
import Derived.Test.YtgkfpakncjncdaaDoorSynj
namespace Go.Proofs.YtgkfpakncjncdaaDoor.Syn
open Go.RowKit Go.Lib Go.Proofs.YtgkfpakncjncdaaDoorW.PrintWords Go.Proofs.YtgkfpakncjncdaaDoorW.PrintLast Go.Proofs.YtgkfpakncjncdaaDoorW.PrintMore Go.Proofs.YtgkfpakncjncdaaDoor.PSyn
set_option linter.unusedVariables false
set_option linter.unusedSimpArgs false

theorem num_calls (n : Int) (W : World) :
    Calls Tryd.prog 18 #[.int .i64 n] W fun e w' => e = .returned (.agg #[.int .i64 1, .int .i64 n, .string ⟨#[]⟩, .slice none 0 0, .slice none 0 0]) ∧ Below W.heap.size W w' := by
  go_enter Tryd.func18, Tryd.ntmps18
  go_wp2
  refine bodyPost_ret (results_cell_row rfl _ _ W.heap.size 26 #[.int .i64 1, .int .i64 n, .string ⟨#[]⟩, .slice none 0 0, .slice none 0 0] (0, 0) _ rfl (heap_alloc_new W _) Tryd.underlying26 rfl (by kernel_rfl)) rfl ⟨rfl, below_alloc (Below.refl _ _) _⟩

def one (n : Int) : S26 := ⟨1, n, ⟨#[]⟩, [], []⟩
def sumX : S26 := ⟨4, 0, ⟨#[]⟩, [], [one 2, one 3]⟩
def livX : S26 := ⟨5, 0, ⟨#[]⟩, [], [one 1, sumX]⟩
theorem nilC {α : Type} (d : Kd α) (w : World) : Kd.C d w none ([] : List α).length [] := ⟨rfl, by simp, fun h => absurd h (by simp)⟩
theorem one_K (n : Int) (w : World) : k26.K w (one n) [.int .i64 1, .int .i64 n, .string ⟨#[]⟩, .slice none 0 0, .slice none 0 0] :=
  k26_mk w (one n) (Nat.le_refl _) (nilC _ w) (Nat.le_refl _) (nilC _ w)
theorem two_C {w : World} {g : Nat} {x y : S26} {a0 a1 a2 a3 a4 b0 b1 b2 b3 b4 : Value} (hx : k26.K w x [a0, a1, a2, a3, a4]) (hy : k26.K w y [b0, b1, b2, b3, b4]) (h : w.heap[g]? = some (.cells #[a0, a1, a2, a3, a4, b0, b1, b2, b3, b4] 26 (0, 0))) :
    Kd.C k26 w (some ⟨g, 0, none⟩) 2 [x, y] := by
  have hc : ∀ i, w.cell? (Addr.add ⟨g, 0, none⟩ i) = (#[a0, a1, a2, a3, a4, b0, b1, b2, b3, b4] : Array Value)[i]? := fun i => by
    have := Lib.cell_of_heap h i
    rw [show Addr.add ⟨g, 0, none⟩ i = ⟨g, i, none⟩ from by unfold Addr.add; split <;> simp_all]
    exact this
  refine ⟨rfl, by omega, fun _ => ⟨⟨g, 0, none⟩, rfl, fun j p hj => ?_⟩⟩
  match j, hj with
  | 0, hj =>
    simp at hj; subst hj
    refine ⟨_, rfl, hx, fun i u hi => ?_⟩
    rw [show 0 * k26.sz + i = i from by omega, hc]
    have : i < 5 := (List.getElem?_eq_some_iff.1 hi).1
    match i, hi with
    | 0, hi => exact hi
    | 1, hi => exact hi
    | 2, hi => exact hi
    | 3, hi => exact hi
    | 4, hi => exact hi
  | 1, hj =>
    simp at hj; subst hj
    refine ⟨_, rfl, hy, fun i u hi => ?_⟩
    rw [show 1 * k26.sz + i = 5 + i from by rw [show k26.sz = 5 from rfl], hc]
    have : i < 5 := (List.getElem?_eq_some_iff.1 hi).1
    match i, hi with
    | 0, hi => exact hi
    | 1, hi => exact hi
    | 2, hi => exact hi
    | 3, hi => exact hi
    | 4, hi => exact hi
  | j + 2, hj => simp at hj
theorem livX_text : textB livX = [49, 32, 45, 32, 40, 50, 32, 43, 32, 51, 41] := by
  have h1 : digits 1 = [49] := by unfold digits Lib.itoa; rw [if_neg (by omega), decDigits_one (by decide)]; rfl
  have h2 : digits 2 = [50] := by unfold digits Lib.itoa; rw [if_neg (by omega), decDigits_one (by decide)]; rfl
  have h3 : digits 3 = [51] := by unfold digits Lib.itoa; rw [if_neg (by omega), decDigits_one (by decide)]; rfl
  have hg : goodB livX = true := by decide +kernel
  unfold textB
  rw [if_pos hg]
  unfold livX sumX one
  simp [exprT, exprsT, brk, h1, h2, h3]
theorem livX_calls (w : World) (ht : Tab w) (gA g : Nat) (hA : w.heap[gA]? = some (.cells #[.int .i64 1, .int .i64 1, .string ⟨#[]⟩, .slice none 0 0, .slice none 0 0, .int .i64 4, .int .i64 0, .string ⟨#[]⟩, .slice none 0 0, .slice (some ⟨g, 0, none⟩) 2 2] 26 (0, 0)))
    (hg : w.heap[g]? = some (.cells #[.int .i64 1, .int .i64 2, .string ⟨#[]⟩, .slice none 0 0, .slice none 0 0, .int .i64 1, .int .i64 3, .string ⟨#[]⟩, .slice none 0 0, .slice none 0 0] 26 (0, 0))) :
    Calls Tryd.prog 8 #[.agg #[.int .i64 5, .int .i64 0, .string ⟨#[]⟩, .slice none 0 0, .slice (some ⟨gA, 0, none⟩) 2 2]] w fun e w' => e = .returned (.string ⟨#[49, 32, 45, 32, 40, 50, 32, 43, 32, 51, 41]⟩) ∧ Below w.heap.size w w' := by
  have hs : k26.K w sumX [.int .i64 4, .int .i64 0, .string ⟨#[]⟩, .slice none 0 0, .slice (some ⟨g, 0, none⟩) 2 2] := k26_mk w sumX (Nat.le_refl _) (nilC _ w) (Nat.le_refl _) (two_C (one_K 2 w) (one_K 3 w) hg)
  have hK : k26.K w livX [.int .i64 5, .int .i64 0, .string ⟨#[]⟩, .slice none 0 0, .slice (some ⟨gA, 0, none⟩) 2 2] := k26_mk w livX (Nat.le_refl _) (nilC _ w) (Nat.le_refl _) (two_C (one_K 1 w) hs hA)
  refine (text_calls cfn livX w _ hK ht (fun h => ?_)).mono ?_
  · have := livX_text
    unfold textB at this
    rw [if_pos h] at this
    rw [this]; decide
  · rintro e w' ⟨rfl, hb⟩
    rw [livX_text]
    exact ⟨rfl, hb⟩

set_option maxHeartbeats 4000000 in
theorem lives_calls (W : World) (ht : Tab W) :
    Calls Tryd.prog 7 #[] W fun e w' => e = .returned (.bool true) ∧ Below W.heap.size W w' := by
  have HN := Aside0.mk num_calls
  have HT := Aside0.mk ht
  have HB := Aside0.mk (Below.refl W.heap.size W)
  clear ht
  go_enter Tryd.func7, Tryd.ntmps7
  go_wp2_with (first | (go_at_call 18; refine (HN.out _ _).mono ?_; rintro e w1 ⟨rfl, hd⟩; have hb1 := bcell hd; have HB := Aside0.mk (below_step (by repeat (first | exact HB.out | apply below_alloc)) hd); have HD := Aside0.mk hd; clear hd))
  have HB2 := Aside0.mk (by repeat (first | exact HB.out | apply below_alloc) : Below W.heap.size W ((w1.alloc (.cells #[.int .i64 1, .int .i64 2, .string ⟨#[]⟩, .slice none 0 0, .slice none 0 0, .int .i64 1, .int .i64 3, .string ⟨#[]⟩, .slice none 0 0, .slice none 0 0] 26)).alloc (.cells #[.int .i64 4, .int .i64 0, .string ⟨#[]⟩, .slice none 0 0, .slice (some ⟨w1.heap.size, 0, none⟩) 2 2] 26)))
  have HG := Aside0.mk ((below_alloc (Below.refl (w1.alloc (.cells #[.int .i64 1, .int .i64 2, .string ⟨#[]⟩, .slice none 0 0, .slice none 0 0, .int .i64 1, .int .i64 3, .string ⟨#[]⟩, .slice none 0 0, .slice none 0 0] 26)).heap.size _) (.cells #[.int .i64 4, .int .i64 0, .string ⟨#[]⟩, .slice none 0 0, .slice (some ⟨w1.heap.size, 0, none⟩) 2 2] 26)).block w1.heap.size (by simp) |>.trans (heap_alloc_new w1 _))
  have HS := Aside0.mk (Lib.cell_of_heap (heap_alloc_new (w1.alloc (.cells #[.int .i64 1, .int .i64 2, .string ⟨#[]⟩, .slice none 0 0, .slice none 0 0, .int .i64 1, .int .i64 3, .string ⟨#[]⟩, .slice none 0 0, .slice none 0 0] 26)) (.cells #[.int .i64 4, .int .i64 0, .string ⟨#[]⟩, .slice none 0 0, .slice (some ⟨w1.heap.size, 0, none⟩) 2 2] 26)))
  generalize hW2 : (w1.alloc (.cells #[.int .i64 1, .int .i64 2, .string ⟨#[]⟩, .slice none 0 0, .slice none 0 0, .int .i64 1, .int .i64 3, .string ⟨#[]⟩, .slice none 0 0, .slice none 0 0] 26)).alloc (.cells #[.int .i64 4, .int .i64 0, .string ⟨#[]⟩, .slice none 0 0, .slice (some ⟨w1.heap.size, 0, none⟩) 2 2] 26) = W2 at *
  have hsz : (w1.alloc (.cells #[.int .i64 1, .int .i64 2, .string ⟨#[]⟩, .slice none 0 0, .slice none 0 0, .int .i64 1, .int .i64 3, .string ⟨#[]⟩, .slice none 0 0, .slice none 0 0] 26)).heap.size = w1.heap.size + 1 := by simp
  rw [hsz] at HS
  have hgs : w1.heap.size + 1 < W2.heap.size := by subst hW2; simp
  clear hW2 hsz
  generalize w1.heap.size = g at *
  have HC := Aside0.mk (fun (w' : World) (hb : Below W2.heap.size W2 w') => (And.intro ((hb.cell (p := ⟨g + 1, 0, none⟩) hgs).trans (HS.out 0)) (And.intro ((hb.cell (p := ⟨g + 1, 1, none⟩) hgs).trans (HS.out 1)) (And.intro ((hb.cell (p := ⟨g + 1, 2, none⟩) hgs).trans (HS.out 2)) (And.intro ((hb.cell (p := ⟨g + 1, 3, none⟩) hgs).trans (HS.out 3)) ((hb.cell (p := ⟨g + 1, 4, none⟩) hgs).trans (HS.out 4))))) : w'.cell? ⟨g + 1, 0, none⟩ = some (.int .i64 4) ∧ w'.cell? ⟨g + 1, 1, none⟩ = some (.int .i64 0) ∧ w'.cell? ⟨g + 1, 2, none⟩ = some (.string ⟨#[]⟩) ∧ w'.cell? ⟨g + 1, 3, none⟩ = some (.slice none 0 0) ∧ w'.cell? ⟨g + 1, 4, none⟩ = some (.slice (some ⟨g, 0, none⟩) 2 2)))
  have HX := Aside0.mk (fun (w' : World) (gA : Nat) (hb : Below W2.heap.size W2 w') hA => livX_calls w' (HT.out.later (HB2.out.trans (hb.mono HB2.out.size))) gA g hA ((hb.block g (by omega)).trans HG.out))
  refine start_ (n := 7) (S := fun w' => Below W2.heap.size W2 w' ∧ w'.cell? ⟨g + 1, 0, none⟩ = some (.int .i64 4) ∧ w'.cell? ⟨g + 1, 1, none⟩ = some (.int .i64 0) ∧ w'.cell? ⟨g + 1, 2, none⟩ = some (.string ⟨#[]⟩) ∧ w'.cell? ⟨g + 1, 3, none⟩ = some (.slice none 0 0) ∧ w'.cell? ⟨g + 1, 4, none⟩ = some (.slice (some ⟨g, 0, none⟩) 2 2)) (ds := []) #[false, false, false, false, false, false, false] (by kernel_rfl) rfl rfl ⟨(Below.refl _ _).drew, (HC.out _ (Below.refl _ _).drew)⟩ (fun hHeld => ?_)
  refine take_ (i := 1) (N := some 7) (v := ?_) (a' := ?_) #[false, true, false, false, false, false, false] rfl rfl (by kernel_rfl) (fun _ _ _ h => h) (Or.inl ⟨by rfl, ?_⟩) hHeld ?_ ?_
  rotate_left
  · rintro w' ⟨s0, s1, s2, s3, s4, s5⟩
    go_simp
    with_reducible rfl
  rotate_left
  · simp only [Act.put, List.setIfInBounds_toArray, List.set_cons_zero, List.set_cons_succ, i64_w, i32_w]
    rfl
  refine one_ (i := 0) (N := some 6) #[true, true, false, false, false, false, false] rfl rfl (by kernel_rfl) (by decide) (fun K hK => ?_)
  refine goes_ Tryd.func18 (by kernel_rfl) rfl #[.int .i64 1] (by rfl) rfl rfl (by simp only [List.map_toArray, List.map_cons, List.map_nil]; rfl) ?_
  refine (HN.out 1 _).mono ?_
  rintro e w3 ⟨rfl, hb⟩
  refine ⟨_, rfl, ?_⟩
  have hB3 := hHeld.1.trans (hb.mono hHeld.1.size)
  refine hK.out _ _ ⟨hB3, (HC.out _ hB3)⟩ (fun hHeld => ?_)
  clear hK K
  refine norm_ (a' := ?_) ?_ ?_
  rotate_left
  · show Act.put _ (some 6) _ = _
    simp only [Act.put, List.setIfInBounds_toArray, List.set_cons_zero, List.set_cons_succ, i64_w, i32_w]
    rfl
  refine one_ (i := 2) (N := some 8) #[true, true, true, false, false, false, false] rfl rfl (by kernel_rfl) (by decide) (fun K hK => ?_)
  have hA := heap_alloc_new w3 (.cells #[.int .i64 1, .int .i64 1, .string ⟨#[]⟩, .slice none 0 0, .slice none 0 0, .int .i64 4, .int .i64 0, .string ⟨#[]⟩, .slice none 0 0, .slice (some ⟨g, 0, none⟩) 2 2] 26)
  have hB4 := hHeld.1.alloc hHeld.1.size (.cells #[.int .i64 1, .int .i64 1, .string ⟨#[]⟩, .slice none 0 0, .slice none 0 0, .int .i64 4, .int .i64 0, .string ⟨#[]⟩, .slice none 0 0, .slice (some ⟨g, 0, none⟩) 2 2] 26)
  refine value_ (w1 := ?_) (v := ?_) (by rfl) rfl ?_ ?_
  rotate_left 2
  · go_simp
    constructor
    · rfl
    · rfl
  refine hK.out _ _ ⟨hB4, (HC.out _ hB4)⟩ (fun hHeld => ?_)
  clear hK K
  refine norm_ (a' := ?_) ?_ ?_
  rotate_left
  · show Act.put _ (some 8) _ = _
    simp only [Act.put, List.setIfInBounds_toArray, List.set_cons_zero, List.set_cons_succ, i64_w, i32_w]
    rfl
  refine pure_ (i := 3) (N := some 9) (v := ?_) (a' := ?_) #[true, true, true, true, false, false, false] rfl rfl (by kernel_rfl) (fun _ _ _ h => h) (Or.inl ⟨by rfl, ?_⟩) ?_ ?_
  rotate_left
  · intro w'
    go_simp
    with_reducible rfl
  rotate_left
  · simp only [Act.put, List.setIfInBounds_toArray, List.set_cons_zero, List.set_cons_succ, i64_w, i32_w]
    rfl
  refine one_ (i := 4) (N := some 10) #[true, true, true, true, true, false, false] rfl rfl (by kernel_rfl) (by decide) (fun K hK => ?_)
  refine goes_ Tryd.func8 (by kernel_rfl) rfl #[.agg #[.int .i64 5, .int .i64 0, .string ⟨#[]⟩, .slice none 0 0, .slice (some ⟨w3.heap.size, 0, none⟩) 2 2]] (by rfl) rfl rfl (by simp only [List.map_toArray, List.map_cons, List.map_nil]; rfl) ?_
  refine (HX.out _ w3.heap.size hHeld.1 hA).mono ?_
  rintro e w5 ⟨rfl, hb⟩
  refine ⟨_, rfl, ?_⟩
  have hB5 := hHeld.1.trans (hb.mono hHeld.1.size)
  refine hK.out _ _ ⟨hB5, (HC.out _ hB5)⟩ (fun hHeld => ?_)
  clear hK K
  refine norm_ (a' := ?_) ?_ ?_
  rotate_left
  · show Act.put _ (some 10) _ = _
    simp only [Act.put, List.setIfInBounds_toArray, List.set_cons_zero, List.set_cons_succ, i64_w, i32_w]
    rfl
  refine pure_ (i := 5) (N := some 11) (v := ?_) (a' := ?_) #[true, true, true, true, true, true, false] rfl rfl (by kernel_rfl) (fun _ _ _ h => h) (Or.inl ⟨by rfl, ?_⟩) ?_ ?_
  rotate_left
  · intro w'
    go_simp
    with_reducible rfl
  rotate_left
  · simp only [Act.put, List.setIfInBounds_toArray, List.set_cons_zero, List.set_cons_succ, i64_w, i32_w]
    rfl
  refine pure_ (i := 6) (N := some 0) (v := ?_) (a' := ?_) #[true, true, true, true, true, true, true] rfl rfl (by kernel_rfl) (fun _ _ _ h => h) (Or.inl ⟨by rfl, ?_⟩) ?_ ?_
  rotate_left
  · intro w'
    go_simp
    with_reducible rfl
  rotate_left
  · simp only [Act.put, List.setIfInBounds_toArray, List.set_cons_zero, List.set_cons_succ, i64_w, i32_w]
    rfl
  refine done_ (by kernel_rfl) ?_

  go_wp2_with fail
  go_ret
  exact ⟨rfl, HB2.out.trans (hHeld.1.mono HB2.out.size)⟩
end Go.Proofs.YtgkfpakncjncdaaDoor.Syn
/- The law SyntaxPrints answers true. -/
namespace Go.Proofs.YtgkfpakncjncdaaDoor.Syn
open Go.RowKit Go.Lib Go.Proofs.YtgkfpakncjncdaaDoorW.PrintWords Go.Proofs.YtgkfpakncjncdaaDoorW.PrintLast Go.Proofs.YtgkfpakncjncdaaDoorW.PrintMore Go.Proofs.YtgkfpakncjncdaaDoor.PSyn
set_option linter.unusedVariables false
set_option linter.unusedSimpArgs false

set_option maxHeartbeats 4000000 in
theorem prints_calls (l : List S35) (A : Option Addr) (c : Nat) (x : S26) (cs : List Value) (W : World) (ht : Tab W) (hc : l.length ≤ c) (hr : Kd.C k35 W A l.length l) (hf : ∀ y ∈ l, Fine y.f1) (hk : k26.K W x cs) (hfx : Fine x) :
    Calls Tryd.prog 3 #[.slice A l.length c, .agg cs.toArray] W fun e w' => e = .returned (.bool true) ∧ Below W.heap.size W w' := by
  have HFew := Aside0.mk (fun (w : World) (hb : Below W.heap.size W w) => Few_calls l hf w A c hc (Kd.C_below hr hb))
  have Hfew := Aside0.mk (fun (w : World) (hb : Below W.heap.size W w) => few_calls x hfx w cs (k26.K_below hb hk))
  have HLV := Aside0.mk (fun (w : World) (hb : Below W.heap.size W w) => lives_calls w (ht.later hb))
  have HTX := Aside0.mk (fun (hfw : fewB x = true) (w : World) (hb : Below W.heap.size W w) => text_calls cfn x w cs (k26.K_below hb hk) (ht.later hb) (fun hg => by have := (few_spec hfw).2 hg; omega))
  have HRT := Aside0.mk (fun (hfw : fewB x = true) (w : World) (hb : Below W.heap.size W w) => reftext_calls x (few_spec hfw).1 w cs (k26.K_below hb hk) (fun hg => by have := (few_spec hfw).2 hg; omega))
  have HPR := Aside0.mk (fun (hfw : FewB l = true) (w : World) (hb : Below W.heap.size W w) => print_calls cfn A c l w (Kd.C_below hr hb) (ht.later hb) (by have := (Few_spec hfw).2; omega))
  have HRP := Aside0.mk (fun (hfw : FewB l = true) (w : World) (hb : Below W.heap.size W w) => refprint_calls A c l (Few_spec hfw).1 w (Kd.C_below hr hb) (by have := (Few_spec hfw).2; omega))
  obtain ⟨A3, c3, A4, c4, rfl, -, -, -, -⟩ := k26_open hk
  clear hk hr hf hfx ht hc
  have HB := Aside0.mk (Below.refl W.heap.size W)
  unfold str at HRT HRP
  generalize l.flatMap lineB = lt at *
  generalize textB x = tx at *
  cases hF : FewB l
  · rw [hF] at HFew
    clear HTX HRT HPR HRP Hfew
    go_enter Tryd.func3, Tryd.ntmps3
    go_wp2_with (first | (go_at_call 5; refine (HFew.out _ (by repeat (first | exact HB.out | apply below_alloc))).mono ?_; rintro e w1 ⟨rfl, hd⟩; have hb1 := bcell hd; have HB := Aside0.mk (below_step (by repeat (first | exact HB.out | apply below_alloc)) hd); clear hd) | (go_at_call 6; refine (Hfew.out _ (by repeat (first | exact HB.out | apply below_alloc))).mono ?_; rintro e w1 ⟨rfl, hd⟩; have hb1 := bcell hd; have HB := Aside0.mk (below_step (by repeat (first | exact HB.out | apply below_alloc)) hd); clear hd) | (go_at_call 7; refine (HLV.out _ (by repeat (first | exact HB.out | apply below_alloc))).mono ?_; rintro e w1 ⟨rfl, hd⟩; have hb1 := bcell hd; have HB := Aside0.mk (below_step (by repeat (first | exact HB.out | apply below_alloc)) hd); clear hd))
    go_ret
    exact ⟨rfl, HB.out⟩
  · rw [hF] at HFew
    have HPR := Aside0.mk (HPR.out hF)
    have HRP := Aside0.mk (HRP.out hF)
    cases hf : fewB x
    · rw [hf] at Hfew
      clear HTX HRT HPR HRP
      go_enter Tryd.func3, Tryd.ntmps3
      go_wp2_with (first | (go_at_call 5; refine (HFew.out _ (by repeat (first | exact HB.out | apply below_alloc))).mono ?_; rintro e w1 ⟨rfl, hd⟩; have hb1 := bcell hd; have HB := Aside0.mk (below_step (by repeat (first | exact HB.out | apply below_alloc)) hd); clear hd) | (go_at_call 6; refine (Hfew.out _ (by repeat (first | exact HB.out | apply below_alloc))).mono ?_; rintro e w1 ⟨rfl, hd⟩; have hb1 := bcell hd; have HB := Aside0.mk (below_step (by repeat (first | exact HB.out | apply below_alloc)) hd); clear hd) | (go_at_call 7; refine (HLV.out _ (by repeat (first | exact HB.out | apply below_alloc))).mono ?_; rintro e w1 ⟨rfl, hd⟩; have hb1 := bcell hd; have HB := Aside0.mk (below_step (by repeat (first | exact HB.out | apply below_alloc)) hd); clear hd))
      go_ret
      exact ⟨rfl, HB.out⟩
    · rw [hf] at Hfew
      have HTX := Aside0.mk (HTX.out hf)
      have HRT := Aside0.mk (HRT.out hf)
      go_enter Tryd.func3, Tryd.ntmps3
      go_wp2_with fail
      have HC0 := Aside0.mk (fun (w' : World) (hb : Below (W.alloc (.cells #[.int .i64 x.f0, .int .i64 x.f1, .string x.f2, .slice A3 x.f3.length c3, .slice A4 x.f4.length c4] 26)).heap.size (W.alloc (.cells #[.int .i64 x.f0, .int .i64 x.f1, .string x.f2, .slice A3 x.f3.length c3, .slice A4 x.f4.length c4] 26)) w') => (And.intro ((hb.cell (p := ⟨W.heap.size, 0, none⟩) (by simp)).trans (Lib.cell_of_heap (heap_alloc_new W _) 0)) (And.intro ((hb.cell (p := ⟨W.heap.size, 1, none⟩) (by simp)).trans (Lib.cell_of_heap (heap_alloc_new W _) 1)) (And.intro ((hb.cell (p := ⟨W.heap.size, 2, none⟩) (by simp)).trans (Lib.cell_of_heap (heap_alloc_new W _) 2)) (And.intro ((hb.cell (p := ⟨W.heap.size, 3, none⟩) (by simp)).trans (Lib.cell_of_heap (heap_alloc_new W _) 3)) ((hb.cell (p := ⟨W.heap.size, 4, none⟩) (by simp)).trans (Lib.cell_of_heap (heap_alloc_new W _) 4))))) : w'.cell? ⟨W.heap.size, 0, none⟩ = some (.int .i64 x.f0) ∧ w'.cell? ⟨W.heap.size, 1, none⟩ = some (.int .i64 x.f1) ∧ w'.cell? ⟨W.heap.size, 2, none⟩ = some (.string x.f2) ∧ w'.cell? ⟨W.heap.size, 3, none⟩ = some (.slice A3 x.f3.length c3) ∧ w'.cell? ⟨W.heap.size, 4, none⟩ = some (.slice A4 x.f4.length c4)))
      have HB1 := Aside0.mk (below_alloc (Below.refl _ _) (.cells #[.int .i64 x.f0, .int .i64 x.f1, .string x.f2, .slice A3 x.f3.length c3, .slice A4 x.f4.length c4] 26) : Below W.heap.size W _)
      generalize (W.alloc (.cells #[.int .i64 x.f0, .int .i64 x.f1, .string x.f2, .slice A3 x.f3.length c3, .slice A4 x.f4.length c4] 26)) = W1 at *
      refine (HFew.out _ HB1.out).mono ?_
      rintro e w1 ⟨rfl, hd⟩
      have HB2 := Aside0.mk hd
      clear hd
      obtain ⟨e0, e1, e2, e3, e4⟩ := HC0.out w1 HB2.out
      go_wp2_with fail
      refine (Hfew.out _ (HB1.out.trans (HB2.out.mono HB1.out.size))).mono ?_
      rintro e w2 ⟨rfl, hd⟩
      have HB3 := Aside0.mk (HB2.out.trans (hd.mono HB2.out.size))
      clear hd e0 e1 e2 e3 e4
      go_wp2_with fail
      have HB := Aside0.mk (HB1.out.trans (HB3.out.mono HB1.out.size))
      have HC := Aside0.mk (fun (w' : World) (hb : Below w2.heap.size w2 w') => HC0.out w' (HB3.out.trans (hb.mono HB3.out.size)))
      have HT := HB.out.size
      generalize hg : W.heap.size = g at *
      refine start_ (n := 16) (S := fun w' => Below w2.heap.size w2 w' ∧ w'.cell? ⟨g, 0, none⟩ = some (.int .i64 x.f0) ∧ w'.cell? ⟨g, 1, none⟩ = some (.int .i64 x.f1) ∧ w'.cell? ⟨g, 2, none⟩ = some (.string x.f2) ∧ w'.cell? ⟨g, 3, none⟩ = some (.slice A3 x.f3.length c3) ∧ w'.cell? ⟨g, 4, none⟩ = some (.slice A4 x.f4.length c4)) (ds := []) #[false, false, false, false, false, false, false, false, false, false, false, false, false, false, false, false] (by kernel_rfl) rfl rfl ⟨(Below.refl _ _).drew, (HC.out _ (Below.refl _ _).drew)⟩ (fun hHeld => ?_)
      refine take_ (i := 0) (N := some 14) (v := ?_) (a' := ?_) #[true, false, false, false, false, false, false, false, false, false, false, false, false, false, false, false] rfl rfl (by kernel_rfl) (fun _ _ _ h => h) (Or.inl ⟨by rfl, ?_⟩) hHeld ?_ ?_
      rotate_left
      · rintro w' ⟨s0, s1, s2, s3, s4, s5⟩
        go_simp
        with_reducible rfl
      rotate_left
      · simp only [Act.put, List.setIfInBounds_toArray, List.set_cons_zero, List.set_cons_succ, i64_w, i32_w]
        rfl
      refine take_ (i := 2) (N := some 16) (v := ?_) (a' := ?_) #[true, false, true, false, false, false, false, false, false, false, false, false, false, false, false, false] rfl rfl (by kernel_rfl) (fun _ _ _ h => h) (Or.inl ⟨by rfl, ?_⟩) hHeld ?_ ?_
      rotate_left
      · rintro w' ⟨s0, s1, s2, s3, s4, s5⟩
        go_simp
        with_reducible rfl
      rotate_left
      · simp only [Act.put, List.setIfInBounds_toArray, List.set_cons_zero, List.set_cons_succ, i64_w, i32_w]
        rfl
      refine one_ (i := 1) (N := some 15) #[true, true, true, false, false, false, false, false, false, false, false, false, false, false, false, false] rfl rfl (by kernel_rfl) (by decide) (fun K hK => ?_)
      refine goes_ Tryd.func8 (by kernel_rfl) rfl #[.agg #[.int .i64 x.f0, .int .i64 x.f1, .string x.f2, .slice A3 x.f3.length c3, .slice A4 x.f4.length c4]] (by rfl) rfl rfl (by first | (simp only [List.map_toArray, List.map_cons, List.map_nil]; done) | (simp only [List.map_toArray, List.map_cons, List.map_nil]; rfl)) ?_
      refine (HTX.out _ (HB.out.trans (hHeld.1.mono HT))).mono ?_
      rintro e w3 ⟨rfl, hb⟩
      refine ⟨_, rfl, ?_⟩
      have hB3 := hHeld.1.trans (hb.mono hHeld.1.size)
      refine hK.out _ _ ⟨hB3, (HC.out _ hB3)⟩ (fun hHeld => ?_)
      clear hK K
      refine norm_ (a' := ?_) ?_ ?_
      rotate_left
      · show Act.put _ (some 15) _ = _
        simp only [Act.put, List.setIfInBounds_toArray, List.set_cons_zero, List.set_cons_succ, i64_w, i32_w]
        rfl
      refine one_ (i := 3) (N := some 17) #[true, true, true, true, false, false, false, false, false, false, false, false, false, false, false, false] rfl rfl (by kernel_rfl) (by decide) (fun K hK => ?_)
      refine goes_ Tryd.func9 (by kernel_rfl) rfl #[.agg #[.int .i64 x.f0, .int .i64 x.f1, .string x.f2, .slice A3 x.f3.length c3, .slice A4 x.f4.length c4]] (by rfl) rfl rfl (by first | (simp only [List.map_toArray, List.map_cons, List.map_nil]; done) | (simp only [List.map_toArray, List.map_cons, List.map_nil]; rfl)) ?_
      refine (HRT.out _ (HB.out.trans (hHeld.1.mono HT))).mono ?_
      rintro e w3 ⟨rfl, hb⟩
      refine ⟨_, rfl, ?_⟩
      have hB3 := hHeld.1.trans (hb.mono hHeld.1.size)
      refine hK.out _ _ ⟨hB3, (HC.out _ hB3)⟩ (fun hHeld => ?_)
      clear hK K
      refine norm_ (a' := ?_) ?_ ?_
      rotate_left
      · show Act.put _ (some 17) _ = _
        simp only [Act.put, List.setIfInBounds_toArray, List.set_cons_zero, List.set_cons_succ, i64_w, i32_w]
        rfl
      refine pure_ (i := 4) (N := some 18) (v := ?_) (a' := ?_) #[true, true, true, true, true, false, false, false, false, false, false, false, false, false, false, false] rfl rfl (by kernel_rfl) (fun _ _ _ h => h) (Or.inl ⟨by rfl, ?_⟩) ?_ ?_
      rotate_left
      · intro w'
        go_simp
        with_reducible rfl
      rotate_left
      · simp only [Act.put, List.setIfInBounds_toArray, List.set_cons_zero, List.set_cons_succ, i64_w, i32_w]
        rfl
      refine pure_ (i := 5) (N := some 19) (v := ?_) (a' := ?_) #[true, true, true, true, true, true, false, false, false, false, false, false, false, false, false, false] rfl rfl (by kernel_rfl) (fun _ _ _ h => h) (Or.inl ⟨by rfl, ?_⟩) ?_ ?_
      rotate_left
      · intro w'
        go_simp
        with_reducible rfl
      rotate_left
      · simp only [Act.put, List.setIfInBounds_toArray, List.set_cons_zero, List.set_cons_succ, i64_w, i32_w]
        rfl
      refine pure_ (i := 6) (N := some 20) (v := ?_) (a' := ?_) #[true, true, true, true, true, true, true, false, false, false, false, false, false, false, false, false] rfl rfl (by kernel_rfl) (fun _ _ _ h => h) (Or.inl ⟨by rfl, ?_⟩) ?_ ?_
      rotate_left
      · intro w'
        go_simp
        with_reducible rfl
      rotate_left
      · simp only [Act.put, List.setIfInBounds_toArray, List.set_cons_zero, List.set_cons_succ, i64_w, i32_w]
        rfl
      refine pure_ (i := 8) (N := some 22) (v := ?_) (a' := ?_) #[true, true, true, true, true, true, true, false, true, false, false, false, false, false, false, false] rfl rfl (by kernel_rfl) (fun _ _ _ h => h) (Or.inl ⟨by rfl, ?_⟩) ?_ ?_
      rotate_left
      · intro w'
        go_simp
        with_reducible rfl
      rotate_left
      · simp only [Act.put, List.setIfInBounds_toArray, List.set_cons_zero, List.set_cons_succ, i64_w, i32_w]
        rfl
      refine one_ (i := 7) (N := some 21) #[true, true, true, true, true, true, true, true, true, false, false, false, false, false, false, false] rfl rfl (by kernel_rfl) (by decide) (fun K hK => ?_)
      refine goes_ Tryd.func10 (by kernel_rfl) rfl #[.slice A l.length c] (by rfl) rfl rfl (by first | (simp only [List.map_toArray, List.map_cons, List.map_nil]; done) | (simp only [List.map_toArray, List.map_cons, List.map_nil]; rfl)) ?_
      refine (HPR.out _ (HB.out.trans (hHeld.1.mono HT))).mono ?_
      rintro e w3 ⟨rfl, hb⟩
      refine ⟨_, rfl, ?_⟩
      have hB3 := hHeld.1.trans (hb.mono hHeld.1.size)
      refine hK.out _ _ ⟨hB3, (HC.out _ hB3)⟩ (fun hHeld => ?_)
      clear hK K
      refine norm_ (a' := ?_) ?_ ?_
      rotate_left
      · show Act.put _ (some 21) _ = _
        simp only [Act.put, List.setIfInBounds_toArray, List.set_cons_zero, List.set_cons_succ, i64_w, i32_w]
        rfl
      refine one_ (i := 9) (N := some 23) #[true, true, true, true, true, true, true, true, true, true, false, false, false, false, false, false] rfl rfl (by kernel_rfl) (by decide) (fun K hK => ?_)
      refine goes_ Tryd.func11 (by kernel_rfl) rfl #[.slice A l.length c] (by rfl) rfl rfl (by first | (simp only [List.map_toArray, List.map_cons, List.map_nil]; done) | (simp only [List.map_toArray, List.map_cons, List.map_nil]; rfl)) ?_
      refine (HRP.out _ (HB.out.trans (hHeld.1.mono HT))).mono ?_
      rintro e w3 ⟨rfl, hb⟩
      refine ⟨_, rfl, ?_⟩
      have hB3 := hHeld.1.trans (hb.mono hHeld.1.size)
      refine hK.out _ _ ⟨hB3, (HC.out _ hB3)⟩ (fun hHeld => ?_)
      clear hK K
      refine norm_ (a' := ?_) ?_ ?_
      rotate_left
      · show Act.put _ (some 23) _ = _
        simp only [Act.put, List.setIfInBounds_toArray, List.set_cons_zero, List.set_cons_succ, i64_w, i32_w]
        rfl
      refine pure_ (i := 10) (N := some 24) (v := ?_) (a' := ?_) #[true, true, true, true, true, true, true, true, true, true, true, false, false, false, false, false] rfl rfl (by kernel_rfl) (fun _ _ _ h => h) (Or.inl ⟨by rfl, ?_⟩) ?_ ?_
      rotate_left
      · intro w'
        go_simp
        with_reducible rfl
      rotate_left
      · simp only [Act.put, List.setIfInBounds_toArray, List.set_cons_zero, List.set_cons_succ, i64_w, i32_w]
        rfl
      refine pure_ (i := 11) (N := some 25) (v := ?_) (a' := ?_) #[true, true, true, true, true, true, true, true, true, true, true, true, false, false, false, false] rfl rfl (by kernel_rfl) (fun _ _ _ h => h) (Or.inl ⟨by rfl, ?_⟩) ?_ ?_
      rotate_left
      · intro w'
        go_simp
        with_reducible rfl
      rotate_left
      · simp only [Act.put, List.setIfInBounds_toArray, List.set_cons_zero, List.set_cons_succ, i64_w, i32_w]
        rfl
      refine pure_ (i := 12) (N := some 26) (v := ?_) (a' := ?_) #[true, true, true, true, true, true, true, true, true, true, true, true, true, false, false, false] rfl rfl (by kernel_rfl) (fun _ _ _ h => h) (Or.inl ⟨by rfl, ?_⟩) ?_ ?_
      rotate_left
      · intro w'
        go_simp
        with_reducible rfl
      rotate_left
      · simp only [Act.put, List.setIfInBounds_toArray, List.set_cons_zero, List.set_cons_succ, i64_w, i32_w]
        rfl
      refine one_ (i := 13) (N := some 27) #[true, true, true, true, true, true, true, true, true, true, true, true, true, true, false, false] rfl rfl (by kernel_rfl) (by decide) (fun K hK => ?_)
      refine goes_ Tryd.func7 (by kernel_rfl) rfl #[] (by rfl) rfl rfl (by first | (simp only [List.map_toArray, List.map_cons, List.map_nil]; done) | (simp only [List.map_toArray, List.map_cons, List.map_nil]; rfl)) ?_
      refine (HLV.out _ (HB.out.trans (hHeld.1.mono HT))).mono ?_
      rintro e w3 ⟨rfl, hb⟩
      refine ⟨_, rfl, ?_⟩
      have hB3 := hHeld.1.trans (hb.mono hHeld.1.size)
      refine hK.out _ _ ⟨hB3, (HC.out _ hB3)⟩ (fun hHeld => ?_)
      clear hK K
      refine norm_ (a' := ?_) ?_ ?_
      rotate_left
      · show Act.put _ (some 27) _ = _
        simp only [Act.put, List.setIfInBounds_toArray, List.set_cons_zero, List.set_cons_succ, i64_w, i32_w]
        rfl
      refine pure_ (i := 14) (N := some 28) (v := ?_) (a' := ?_) #[true, true, true, true, true, true, true, true, true, true, true, true, true, true, true, false] rfl rfl (by kernel_rfl) (fun _ _ _ h => h) (Or.inl ⟨by rfl, ?_⟩) ?_ ?_
      rotate_left
      · intro w'
        go_simp
        with_reducible rfl
      rotate_left
      · simp only [Act.put, List.setIfInBounds_toArray, List.set_cons_zero, List.set_cons_succ, i64_w, i32_w]
        rfl
      refine pure_ (i := 15) (N := some 4) (v := ?_) (a' := ?_) #[true, true, true, true, true, true, true, true, true, true, true, true, true, true, true, true] rfl rfl (by kernel_rfl) (fun _ _ _ h => h) (Or.inl ⟨by rfl, ?_⟩) ?_ ?_
      rotate_left
      · intro w'
        go_simp
        with_reducible rfl
      rotate_left
      · simp only [Act.put, List.setIfInBounds_toArray, List.set_cons_zero, List.set_cons_succ, i64_w, i32_w]
        rfl
      refine done_ (by kernel_rfl) ?_

      go_wp2_with fail
      go_ret
      exact ⟨rfl, by rw [hg]; exact HB.out.trans (hHeld.1.mono HT)⟩
end Go.Proofs.YtgkfpakncjncdaaDoor.Syn
