/- syntax's writer: expr at every right expression. -/
import Derived.Test.YtgkfpakncjncdaaDoorSynf
namespace Go.Proofs.YtgkfpakncjncdaaDoor.Syn
open Go.RowKit Go.Lib Go.Proofs.YtgkfpakncjncdaaDoorW.PrintWords Go.Proofs.YtgkfpakncjncdaaDoorW.PrintLast Go.Proofs.YtgkfpakncjncdaaDoorW.PrintMore Go.Proofs.YtgkfpakncjncdaaDoor.PSyn
set_option linter.unusedVariables false
set_option linter.unusedSimpArgs false

theorem numB_lt {n : Int} (h : numB n = true) : 0 ≤ n ∧ n ≤ 999999999999999999 := by unfold numB at h; split at h <;> simp_all
theorem boxB_lt {n : Int} (h : boxB n = true) : 1 ≤ n ∧ n ≤ 9999 := by unfold boxB at h; split at h <;> simp_all
theorem picks_lt {f : S54} (h : picksB f = true) : 0 ≤ f.f1 ∧ f.f1 ≤ 255 ∧ -9223372036854775808 ≤ f.f2 ∧ f.f2 ≤ 9223372036854775807 := by
  unfold picksB signB at h
  simp only [Bool.and_eq_true, Bool.or_eq_true, beq_iff_eq] at h
  have := numB_lt h.2
  omega

theorem picks_lt2 {f : S54} (h : picksB f = true) : 0 ≤ f.f1 ∧ f.f1 ≤ 255 ∧ 0 ≤ f.f2 ∧ f.f2 ≤ 999999999999999999 := by
  unfold picksB signB at h
  simp only [Bool.and_eq_true, Bool.or_eq_true, beq_iff_eq] at h
  have := numB_lt h.2
  omega

set_option maxHeartbeats 1000000 in
theorem expr_all (x : S26) (hr : rightB x = true) : ExprAt x := by
  suffices hS : ∀ (n : Nat) (x : S26), SizeOf.sizeOf x < n → rightB x = true → ExprAt x from hS _ x (Nat.lt_succ_self _) hr
  intro n
  induction n with
  | zero => intro x hx; exact absurd hx (Nat.not_lt_zero _)
  | succ n ih =>
    intro x hx hr w0 w cs b out hk ht hb h hlen
    obtain ⟨A3, c3, A4, c4, rfl, l3, g3, l4, g4⟩ := k26_open hk
    obtain ⟨k, m, fd, fs, ks⟩ := x
    have hkid : ∀ y ∈ ks, rightB y = true → ExprAt y := fun y hy hy' => ih y (by
      have h1 : SizeOf.sizeOf y < SizeOf.sizeOf ks := List.sizeOf_lt_of_mem hy
      have h2 : SizeOf.sizeOf (S26.mk k m fd fs ks) = 1 + SizeOf.sizeOf k + SizeOf.sizeOf m + SizeOf.sizeOf fd + SizeOf.sizeOf fs + SizeOf.sizeOf ks := by simp
      omega) hy'
    have hE : ∀ (o : List UInt8) (w' : World), (Wr w0.heap.size b o w' ∧ Below w0.heap.size w w' ∧ Wrote b w w') → (Wr w0.heap.size b o w' ∧ Below w0.heap.size w0 w' ∧ Wrote b w w') := fun o w' h => ⟨h.1, hb.trans h.2.1, h.2.2⟩
    rw [rightB, anyWrong_eq] at hr
    rw [exprT, exprsT_eq] at hlen ⊢
    simp only at g3 g4 ⊢
    by_cases h1 : k = 1
    · subst h1
      simp only [kidsN, true_or, if_true, Bool.true_eq_false, if_false] at hr hlen ⊢
      have hn : numB m = true := by split at hr <;> simp_all
      have hn' := numB_lt hn
      exact (expr_num m fd _ _ w0.heap.size b out w h (ht.later (hb.mono (Nat.le_refl _))) (by omega) (by omega) hlen).mono (fun e w' hh => ⟨hh.1, hE _ _ hh.2⟩)
    by_cases h2 : k = 2
    · subst h2
      simp only [kidsN, or_true, true_or, if_true, Bool.true_eq_false, if_false, show ¬ (2 : Int) = 1 from by decide] at hr hlen ⊢
      have hn : boxB m = true := by split at hr <;> simp_all
      have hn' := boxB_lt hn
      exact (expr_ref m fd _ _ w0.heap.size b out w h (ht.later (hb.mono (Nat.le_refl _))) (by omega) (by omega) (by simp at hlen; omega)).mono (fun e w' hh => ⟨hh.1, hE _ _ hh.2⟩)
    by_cases h3 : k = 3
    · subst h3
      simp only [kidsN, or_true, true_or, if_true, Bool.true_eq_false, if_false, show ¬ (3 : Int) = 1 from by decide, show ¬ (3 : Int) = 2 from by decide] at hr hlen ⊢
      have hn : ∀ x ∈ fs, picksB x = true := by
        split at hr
        · simp at hr
        · split at hr
          · simp at hr
          · simp only [Bool.and_eq_true, Bool.not_eq_true', List.any_eq_false] at hr
            intro x hx
            simpa using hr.2 x hx
      exact expr_total m fd A3 c3 _ fs b out w0 w g3 (fun x hx => picks_lt (hn x hx)) ht hb h hlen
    have hks : ks.length = (kidsN k).1 ∧ (kidsN k).2 = true ∧ ∀ y ∈ ks, ExprAt y := by
      simp only [if_neg h1, if_neg h2, if_neg h3] at hr
      split at hr
      · simp at hr
      · rename_i hk2
        split at hr
        · simp at hr
        · rename_i hl
          split at hr
          · simp at hr
          · simp only [Bool.and_eq_true, Bool.not_eq_true', List.any_eq_false] at hr
            refine ⟨by simpa using hl, by simpa using hk2, fun y hy => hkid y hy (by simpa using hr.2 y hy)⟩
    clear hr hkid
    obtain ⟨hl, hk2, hks⟩ := hks
    by_cases h45 : k = 4 ∨ k = 5
    · have e : (kidsN k).1 = 2 := by rcases h45 with rfl | rfl <;> rfl
      rw [e] at hl
      obtain ⟨x, y, rfl⟩ : ∃ x y, ks = [x, y] := by
        match ks, hl with
        | [x, y], _ => exact ⟨x, y, rfl⟩
      have := expr_bin k h45 m fd (.slice A3 fs.length c3) A4 c4 x y b out w0 w g4 (hks x (by simp)) (hks y (by simp)) ht hb h
      rcases h45 with rfl | rfl
      · simp only [show ¬ (4 : Int) = 1 from by decide, show ¬ (4 : Int) = 2 from by decide, show ¬ (4 : Int) = 3 from by decide, if_true, if_false] at this hlen ⊢
        exact this hlen
      · simp only [show ¬ (5 : Int) = 1 from by decide, show ¬ (5 : Int) = 2 from by decide, show ¬ (5 : Int) = 3 from by decide, show ¬ (5 : Int) = 4 from by decide, if_true, if_false] at this hlen ⊢
        exact this hlen
    by_cases h6 : k = 6
    · subst h6
      have e : (kidsN 6).1 = 1 := rfl
      rw [e] at hl
      obtain ⟨x, rfl⟩ : ∃ x, ks = [x] := by
        match ks, hl with
        | [x], _ => exact ⟨x, rfl⟩
      simp only [show ¬ (6 : Int) = 1 from by decide, show ¬ (6 : Int) = 2 from by decide, show ¬ (6 : Int) = 3 from by decide, show ¬ (6 : Int) = 4 from by decide, show ¬ (6 : Int) = 5 from by decide, if_true, if_false] at hlen ⊢
      exact expr_neg m fd (.slice A3 fs.length c3) A4 c4 x b out w0 w g4 (hks x (by simp)) ht hb h hlen
    by_cases h789 : k = 7 ∨ k = 8 ∨ k = 9
    · have := expr_call k h789 m fd (.slice A3 fs.length c3) A4 c4 ks b out w0 w g4 hks ht hb h
      have e4 : ¬ k = 4 := fun e => h45 (.inl e)
      have e5 : ¬ k = 5 := fun e => h45 (.inr e)
      simp only [if_neg h1, if_neg h2, if_neg h3, if_neg e4, if_neg e5, if_neg h6] at hlen ⊢
      rcases h789 with rfl | rfl | rfl
      · exact this hlen
      · simp only [show ¬ (8 : Int) = 7 from by decide, if_true, if_false] at this hlen ⊢
        exact this hlen
      · simp only [show ¬ (9 : Int) = 7 from by decide, show ¬ (9 : Int) = 8 from by decide, if_true, if_false] at this hlen ⊢
        exact this hlen
    · exfalso
      unfold kidsN at hk2
      have e4 : ¬ k = 4 := fun e => h45 (.inl e)
      have e5 : ¬ k = 5 := fun e => h45 (.inr e)
      simp only [not_or] at h789
      simp [h1, h2, h3, e4, e5, h6, h789.1, h789.2.1, h789.2.2] at hk2
end Go.Proofs.YtgkfpakncjncdaaDoor.Syn
/- syntax.Text, syntax.Print: their texts. -/
namespace Go.Proofs.YtgkfpakncjncdaaDoor.Syn
open Go.RowKit Go.Lib Go.Proofs.YtgkfpakncjncdaaDoorW.PrintWords Go.Proofs.YtgkfpakncjncdaaDoorW.PrintLast Go.Proofs.YtgkfpakncjncdaaDoorW.PrintMore Go.Proofs.YtgkfpakncjncdaaDoor.PSyn
set_option linter.unusedVariables false
set_option linter.unusedSimpArgs false

def textB (x : S26) : List UInt8 := if goodB x then exprT x else []

theorem Wr.fresh (w : World) : Wr w.heap.size w.heap.size [] (w.alloc (.cells #[.pointer none, .slice none 0 0] 43)) :=
  ⟨Or.inl ⟨Nat.le_refl _, .slice none 0 0, heap_alloc_new w _, World.ownsRow_nil _ _ _ _, by simp [Value.ownBlock]⟩, by simp⟩

set_option maxHeartbeats 2000000 in
theorem text_calls (hcf : CFn) (x : S26) (W : World) (cs : List Value) (hk : k26.K W x cs) (ht : Tab W) (hlen : goodB x = true → (exprT x).length ≤ 140737488355328) :
    Calls Tryd.prog 8 #[.agg cs.toArray] W fun e w' => e = .returned (.string ⟨(textB x).toArray⟩) ∧ Below W.heap.size W w' := by
  have hG := fun W' hb => good_calls hcf x W' cs (k26.K_below hb hk)
  have hE := fun (hg : goodB x = true) => expr_all x (by unfold goodB at hg; simp at hg; exact hg.2)
  have HG := Aside0.mk (show ∀ W', Below W.heap.size W W' → _ from hG)
  unfold textB
  have HK := Aside0.mk hk
  obtain ⟨A3, c3, A4, c4, rfl, -, -, -, -⟩ := k26_open hk
  clear hk hG
  have HB := Aside0.mk (Below.refl W.heap.size W)
  cases hg : goodB x
  · rw [hg] at HG
    simp only [Bool.false_eq_true, if_false]
    clear hE hlen HK
    obtain ⟨k, n, fd, fs, ks⟩ := x
    simp only at HG ⊢
    generalize fs.length = n3 at HG ⊢
    generalize ks.length = n4 at HG ⊢
    go_enter Tryd.func8, Tryd.ntmps8
    go_wp2_with fail
    refine (HG.out _ (HB.out.alloc (Nat.le_refl _) _)).mono ?_
    rintro e w1 ⟨rfl, hd⟩
    have HB1 := Aside0.mk ((HB.out.alloc (Nat.le_refl _) (.cells #[.int .i64 k, .int .i64 n, .string fd, .slice A3 n3 c3, .slice A4 n4 c4] 26)).trans (hd.mono (by simp)))
    clear hd
    go_wp2_with fail
    go_ret
    exact ⟨rfl, HB1.out⟩
  · rw [hg] at HG
    simp only [if_true]
    have HE := Aside0.mk (hE hg)
    have HL := Aside0.mk (hlen hg)
    have HT := Aside0.mk ht
    clear hE hlen ht
    have HX := Aside0.mk (show ∀ (w0 : World) (hb : Below W.heap.size W w0) (b : Nat) (w : World), Below w0.heap.size w0 w → Wr w0.heap.size b [] w → Calls Tryd.prog 20 #[.pointer (some ⟨b, 0, none⟩), .agg [.int .i64 x.f0, .int .i64 x.f1, .string x.f2, .slice A3 x.f3.length c3, .slice A4 x.f4.length c4].toArray] w fun e w' => e = .returned (.tuple #[]) ∧ Wr w0.heap.size b (exprT x) w' ∧ Below w0.heap.size w0 w' from
      fun w0 hb b w hb2 hw => (HE.out w0 w _ b [] (k26.K_below hb HK.out) (HT.out.later hb) hb2 hw (by simpa using HL.out)).mono (fun e w' h => ⟨h.1, h.2.1, h.2.2.1⟩))
    clear HE HK HT
    generalize exprT x = tx at *
    obtain ⟨k, n, fd, fs, ks⟩ := x
    simp only at HG HX ⊢
    generalize fs.length = n3 at HG HX ⊢
    generalize ks.length = n4 at HG HX ⊢
    go_enter Tryd.func8, Tryd.ntmps8
    go_wp2_with fail
    refine (HG.out _ (HB.out.alloc (Nat.le_refl _) _)).mono ?_
    rintro e w1 ⟨rfl, hd⟩
    have HB1 := Aside0.mk ((HB.out.alloc (Nat.le_refl _) (.cells #[.int .i64 k, .int .i64 n, .string fd, .slice A3 n3 c3, .slice A4 n4 c4] 26)).trans (hd.mono (by simp)))
    have hbc := box_cells (b := w1.heap.size) (heap_alloc_new W _) (by have := hd.size; simp at this; omega) (by decide) (Wrote.of_below hd)
    have hbc2 : ∀ i, (w1.alloc (.cells #[.pointer none, .slice none 0 0] 43)).cell? ⟨W.heap.size, i, none⟩ = _ := fun i => ((below_alloc (Below.refl w1.heap.size w1) _).cell (p := ⟨W.heap.size, i, none⟩) (by have := hd.size; simp at this; show W.heap.size < _; omega)).trans (hbc i)
    clear hd
    go_wp2_with fail
    refine (HX.out w1 HB1.out _ _ (below_alloc (Below.refl _ _) _) (Wr.fresh w1)).mono ?_
    rintro e w2 ⟨rfl, h2, h3⟩
    have N := Aside0.mk (And.intro h2 h3)
    clear h2 h3 hbc hbc2
    go_wp2_with fail
    refine (bstr_String_any 43 w1.heap.size w1.heap.size tx w2 N.out.1.1 N.out.1.2).mono ?_
    rintro e w3 ⟨rfl, h4⟩
    have N4 := Aside0.mk h4
    clear h4
    go_wp2_with fail
    go_ret
    exact ⟨rfl, HB1.out.trans ((N.out.2.trans N4.out).mono HB1.out.size)⟩

/-- may a box be? -/
def mayB (x : S35) : Bool := boxB x.f0 && goodB x.f1
def lineB (x : S35) : List UInt8 := if mayB x then [98, 111, 120, 32] ++ digits x.f0 ++ [32, 61, 32] ++ exprT x.f1 ++ [59, 10] else []

set_option maxHeartbeats 2000000 in
theorem may_calls (hcf : CFn) (x : S35) (W : World) (cs : List Value) (hk : k35.K W x cs) :
    Calls Tryd.prog 24 #[.agg cs.toArray] W fun e w' => e = .returned (.bool (mayB x)) ∧ Below W.heap.size W w' := by
  obtain ⟨A4, c4, A5, c5, rfl, l4, g4, l5, g5⟩ := k35_open hk
  have hG := fun W' (hb : Below W.heap.size W W') => good_calls hcf x.f1 W' _ (k26.K_below hb (k26_mk W x.f1 l4 g4 l5 g5))
  have HG := Aside0.mk hG
  have HBX := Aside0.mk (fun W => syntax_boxed.calls x.f0 _ W (boxB_eq x.f0))
  have HB := Aside0.mk (Below.refl W.heap.size W)
  clear hG hk l4 g4 l5 g5
  unfold mayB
  generalize goodB x.f1 = G at *
  generalize boxB x.f0 = X at *
  obtain ⟨m, k, n, fd, fs, ks⟩ := x
  simp only at HG HBX ⊢
  generalize fs.length = n3 at HG ⊢
  generalize ks.length = n4 at HG ⊢
  cases X
  · go_enter Tryd.func24, Tryd.ntmps24
    go_wp2_with (first | (go_at_call 42; refine (HBX.out _).mono ?_; rintro e w1 ⟨rfl, hd⟩; have hb1 := bcell hd.below; have HB := Aside0.mk (below_step (by repeat (first | exact HB.out | apply below_alloc)) hd.below); clear hd))
    go_ret
    exact ⟨by simp, HB.out⟩
  · cases G
    all_goals
      go_enter Tryd.func24, Tryd.ntmps24
      go_wp2_with (first | (go_at_call 42; refine (HBX.out _).mono ?_; rintro e w1 ⟨rfl, hd⟩; have hb1 := bcell hd.below; have HB := Aside0.mk (below_step (by repeat (first | exact HB.out | apply below_alloc)) hd.below); clear hd) | (go_at_call 19; refine (HG.out _ (by repeat (first | exact HB.out | apply below_alloc))).mono ?_; rintro e w2 ⟨rfl, hd⟩; have HB := Aside0.mk (below_step (by repeat (first | exact HB.out | apply below_alloc)) hd); clear hd))
      go_ret
      exact ⟨by simp, HB.out⟩

theorem box_at {w0 : World} {A : Option Addr} {l : List S35} (h : Kd.C k35 w0 A l.length l) (i : Nat) (hi : i < l.length) :
    ∃ ad c0 c1 c2 c3 c4 c5, A = some ad ∧ k35.K w0 l[i] [c0, c1, c2, c3, c4, c5] ∧ ∀ w, Below w0.heap.size w0 w →
      w.cell? (ad.add (i * 6)) = some c0 ∧ w.cell? ⟨(ad.add (i * 6)).block, (ad.add (i * 6)).off + 1, none⟩ = some c1 ∧ w.cell? ⟨(ad.add (i * 6)).block, (ad.add (i * 6)).off + 2, none⟩ = some c2 ∧ w.cell? ⟨(ad.add (i * 6)).block, (ad.add (i * 6)).off + 3, none⟩ = some c3 ∧ w.cell? ⟨(ad.add (i * 6)).block, (ad.add (i * 6)).off + 4, none⟩ = some c4 ∧ w.cell? ⟨(ad.add (i * 6)).block, (ad.add (i * 6)).off + 5, none⟩ = some c5 := by
  obtain ⟨ad, A3, c3, A4, c4, hA, h0, h1, h2, h3, h4, h5, hl3, hi3, hl4, hi4⟩ := at_T35 h (i : Int) (by omega) (by omega)
  have e : rd_T35 l (i : Int) = l[i] := by simp [rd_T35, List.getD_eq_getElem?_getD, hi]
  rw [e] at h0 h1 h2 h3 h4 h5 hl3 hi3 hl4 hi4
  simp only [Int.toNat_natCast] at h0 h1 h2 h3 h4 h5
  refine ⟨ad, _, _, _, _, _, _, hA, k35_mk w0 l[i] hl3 hi3 hl4 hi4, fun w hb => ⟨?_, ?_, ?_, ?_, ?_, ?_⟩⟩
  · exact (hb.cell (World.block_lt_of_cell? w0 _ h0)).trans h0
  · exact (hb.cell (World.block_lt_of_cell? w0 _ h1)).trans h1
  · exact (hb.cell (World.block_lt_of_cell? w0 _ h2)).trans h2
  · exact (hb.cell (World.block_lt_of_cell? w0 _ h3)).trans h3
  · exact (hb.cell (World.block_lt_of_cell? w0 _ h4)).trans h4
  · exact (hb.cell (World.block_lt_of_cell? w0 _ h5)).trans h5
theorem line_take (l : List S35) (k : Nat) (h : k < l.length) : (l.take (k + 1)).flatMap lineB = (l.take k).flatMap lineB ++ lineB l[k] := by
  rw [List.take_succ_eq_append_getElem h, List.flatMap_append, List.flatMap_cons, List.flatMap_nil, List.append_nil]
theorem line_len (l : List S35) (k : Nat) : ((l.take k).flatMap lineB).length ≤ (l.flatMap lineB).length := by
  have h : l.flatMap lineB = (l.take k).flatMap lineB ++ (l.drop k).flatMap lineB := by rw [← List.flatMap_append, List.take_append_drop]
  rw [h, List.length_append]
  omega

set_option maxRecDepth 100000 in
set_option maxHeartbeats 4000000 in
theorem print_calls (hcf : CFn) (A : Option Addr) (c : Nat) (l : List S35) (W : World) (hr : Kd.C k35 W A l.length l) (ht : Tab W) (hlen : (l.flatMap lineB).length ≤ 140737488355328) :
    Calls Tryd.prog 10 #[.slice A l.length c] W fun e w' => e = .returned (.string ⟨(l.flatMap lineB).toArray⟩) ∧ Below W.heap.size W w' := by
  have hbig : l.length ≤ 9223372036854775807 := hr.2.1
  have HR := Aside0.mk hr
  have HL := Aside0.mk hlen
  have HT := Aside0.mk ht
  have HCF := Aside0.mk hcf
  clear hr hlen ht hcf
  go_enter Tryd.func10, Tryd.ntmps10
  go_wp2_with fail
  go_loopg [8] l.length (fun gg s8 wr => ∃ kk : Nat, kk ≤ l.length ∧ l.length - kk ≤ gg ∧ s8 = .int .i64 kk ∧ Aside (Wr W.heap.size W.heap.size ((l.take kk).flatMap lineB) wr) ∧ Aside (Below W.heap.size W wr))
  case atStart => exact ⟨0, Nat.zero_le _, by omega, rfl, (by show Wr _ _ _ _; exact Wr.fresh W), below_alloc (Below.refl _ _) _⟩
  case round =>
    obtain ⟨kk, hkk, hgg, rfl, HW, BW⟩ := hrel
    by_cases hlt : kk < l.length
    · have hltz : (kk : Int) < (l.length : Int) := by omega
      have HS := Aside0.mk (line_take l kk hlt)
      have HL2 := Aside0.mk (line_len l (kk + 1))
      obtain ⟨ad, k0, k1, k2, k3, k4, k5, hA, hK, hcells⟩ := box_at HR.out kk hlt
      obtain ⟨e0, e1, e2, e3, e4, e5⟩ := hcells wr BW.out
      subst hA
      have HM := Aside0.mk (fun W' (hb : Below W.heap.size W W') => may_calls HCF.out l[kk] W' _ (k35.K_below hb hK))
      generalize l[kk] = x at *
      obtain ⟨A4, c4, A5, c5, hk6, l4, g4, l5, g5⟩ := k35_open hK
      cases hk6
      have HX := Aside0.mk (fun (hm : mayB x = true) (w : World) (out : List UInt8) (hb : Below W.heap.size W w) (hw : Wr W.heap.size W.heap.size out w) (hl : out.length + (exprT x.f1).length ≤ 140737488355328) =>
        (expr_all x.f1 (by unfold mayB goodB at hm; simp at hm; exact hm.2.2)) W w _ W.heap.size out (k26_mk W x.f1 l4 g4 l5 g5) HT.out hb hw hl)
      have hn : mayB x = true → boxB x.f0 = true := fun h => by unfold mayB at h; simp at h; exact h.1
      have HN := Aside0.mk hn
      clear hK hcells hn l4 g4 l5 g5
      cases hm : mayB x
      · have e : lineB x = [] := by unfold lineB; rw [hm]; rfl
        rw [e, List.append_nil] at HS
        rw [hm] at HM
        clear HX HN e
        obtain ⟨m, k, n, fd, fs, ks⟩ := x
        simp only at HM e0 e1 e2 e3 e4 e5
        generalize fs.length = n3 at *
        generalize ks.length = n4 at *
        go_wp2_with fail
        refine (HM.out _ (BW.out.alloc HW.out.2 _)).mono ?_
        rintro e w1 ⟨rfl, hd⟩
        have HB1 := Aside0.mk ((BW.out.alloc HW.out.2 (.cells #[.int .i64 m, .int .i64 k, .int .i64 n, .string fd, .slice A4 n3 c4, .slice A5 n4 c5] 35)).trans (hd.mono (by have := HW.out.2; simp; omega)))
        have HW1 := Aside0.mk ((HW.out.alloc (.cells #[.int .i64 m, .int .i64 k, .int .i64 n, .string fd, .slice A4 n3 c4, .slice A5 n4 c5] 35)).below hd)
        clear hd
        go_wp2_with fail
        go_roundg (l.length - (kk + 1))
        case measure => omega
        case rel =>
          refine ⟨kk + 1, by omega, by omega, by go_num, ?_, HB1.out⟩
          show Wr _ _ _ _
          rw [HS.out]
          exact HW1.out
      · have e : lineB x = [98, 111, 120, 32] ++ digits x.f0 ++ [32, 61, 32] ++ exprT x.f1 ++ [59, 10] := by unfold lineB; rw [hm]; rfl
        rw [e] at HS
        rw [hm] at HM
        have HX := Aside0.mk (HX.out hm)
        have HN := Aside0.mk (boxB_lt (HN.out hm))
        generalize exprT x.f1 = tx at *
        clear e
        obtain ⟨m, k, n, fd, fs, ks⟩ := x
        simp only at HM HX HN HS e0 e1 e2 e3 e4 e5
        generalize fs.length = n3 at *
        generalize ks.length = n4 at *
        go_wp2_with fail
        refine (HM.out _ (BW.out.alloc HW.out.2 _)).mono ?_
        rintro e w1 ⟨rfl, hd⟩
        have HB1 := Aside0.mk ((BW.out.alloc HW.out.2 (.cells #[.int .i64 m, .int .i64 k, .int .i64 n, .string fd, .slice A4 n3 c4, .slice A5 n4 c5] 35)).trans (hd.mono (by have := HW.out.2; simp; omega)))
        have HW1 := Aside0.mk ((HW.out.alloc (.cells #[.int .i64 m, .int .i64 k, .int .i64 n, .string fd, .slice A4 n3 c4, .slice A5 n4 c5] 35)).below hd)
        have hwo := Wrote.of_below (b := W.heap.size) hd
        have hbc := box_cells (b := W.heap.size) (g := wr.heap.size) (heap_alloc_new wr _) (by have := HW.out.lt; omega) (by decide) hwo
        clear hd e0 e1 e2 e3 e4 e5
        go_wp2_with fail
        refine (itoa_calls m (by have := HN.out; omega) (by have := HN.out; omega) _ (HT.out.later (HB1.out))).mono ?_
        rintro e w2 ⟨rfl, hd⟩
        have HB2 := Aside0.mk (HB1.out.trans (hd.mono HW1.out.2))
        have HW2 := Aside0.mk (HW1.out.below hd)
        have hwo2 := hwo.trans (Wrote.of_below (b := W.heap.size) hd)
        have hbc := box_cells (b := W.heap.size) (g := wr.heap.size) (heap_alloc_new wr _) (by have := HW.out.lt; omega) (by decide) hwo2
        clear hd hwo
        go_wp2_with fail
        refine (put_new W.heap.size W.heap.size _ [⟨#[98, 111, 120, 32]⟩, ⟨(digits m).toArray⟩, ⟨#[32, 61, 32]⟩] w2 _ rfl HW2.out (by simp) (by have h1 := HL.out; have h2 := HL2.out; rw [HS.out] at h2; simp [catB] at h1 h2 ⊢; omega)).mono ?_
        rintro e w3 ⟨rfl, h2, h3, h4⟩
        have HB3 := Aside0.mk (HB2.out.trans h3)
        have HW3 := Aside0.mk h2
        have hwo3 := hwo2.trans h4
        have hbc := box_cells (b := W.heap.size) (g := wr.heap.size) (heap_alloc_new wr _) (by have := HW.out.lt; omega) (by decide) hwo3
        clear h2 h3 h4 hwo2
        go_wp2_with fail
        refine (HX.out w3 _ HB3.out HW3.out (by have h1 := HL.out; have h2 := HL2.out; rw [HS.out] at h2; simp [catB] at h1 h2 ⊢; omega)).mono ?_
        rintro e w4 ⟨rfl, h2, h3, h4⟩
        have HB4 := Aside0.mk h3
        have HW4 := Aside0.mk h2
        clear h2 h3 h4 hwo3 hbc
        go_wp2_with fail
        refine (put_new W.heap.size W.heap.size _ [⟨#[59, 10]⟩] w4 _ rfl HW4.out (by simp) (by have h1 := HL.out; have h2 := HL2.out; rw [HS.out] at h2; simp [catB] at h1 h2 ⊢; omega)).mono ?_
        rintro e w5 ⟨rfl, h2, h3, h4⟩
        have HB5 := Aside0.mk (HB4.out.trans h3)
        have HW5 := Aside0.mk h2
        clear h2 h3 h4
        go_wp2_with fail
        go_roundg (l.length - (kk + 1))
        case measure => omega
        case rel =>
          refine ⟨kk + 1, by omega, by omega, by go_num, ?_, HB5.out⟩
          show Wr _ _ _ _
          rw [HS.out]
          have := HW5.out
          simpa [catB] using this
    · go_wp2_with fail
      have e := (List.take_of_length_le (by omega) : l.take kk = l)
      have HW' := HW.out
      rw [e] at HW'
      refine (bstr_String_any 43 W.heap.size W.heap.size _ wr HW'.1 HW'.2).mono ?_
      rintro e w3 ⟨rfl, h4⟩
      have N4 := Aside0.mk h4
      clear h4 HW'
      go_wp2_with fail
      go_ret
      exact ⟨rfl, BW.out.trans N4.out⟩
end Go.Proofs.YtgkfpakncjncdaaDoor.Syn
