/- The document's text of a total; of every expression; of a program. -/
import Derived.Test.YtgkfpakncjncdaaDoorSynh
namespace Go.Proofs.YtgkfpakncjncdaaDoor.Syn
open Go.RowKit Go.Lib Go.Proofs.YtgkfpakncjncdaaDoorW.PrintWords Go.Proofs.YtgkfpakncjncdaaDoorW.PrintLast Go.Proofs.YtgkfpakncjncdaaDoorW.PrintMore Go.Proofs.YtgkfpakncjncdaaDoor.PSyn
set_option linter.unusedVariables false
set_option linter.unusedSimpArgs false

theorem rtot_len (fd : ByteArray) (fs : List S54) (k : Nat) (h : k < fs.length) (hl : ([115, 117, 109, 40] ++ fd.data.toList ++ fs.flatMap filterT ++ [41]).length ≤ 140737488355000) :
    (str ([115, 117, 109, 40] ++ fd.data.toList ++ (fs.take k).flatMap filterT)).size + fs[k].f0.size + (str (digits fs[k].f2)).size + 6 ≤ 140737488355000 := by
  have h1 := flat_len fs (k + 1)
  rw [flat_take fs k h] at h1
  have e : fs[k].f0.size = fs[k].f0.data.toList.length := Array.length_toList.symm
  rw [str_size, str_size, e]
  simp only [List.length_append, filterT] at h1 hl ⊢
  simp only [List.length_cons, List.length_nil] at h1 hl ⊢
  omega
set_option maxRecDepth 100000 in
set_option maxHeartbeats 4000000 in
theorem ref_total (n : Int) (fd : ByteArray) (A3 : Option Addr) (c3 : Nat) (c4v : Value) (fs : List S54) (W : World) (g3 : Kd.C k54 W A3 fs.length fs) (hfs : ∀ x ∈ fs, 0 ≤ x.f1 ∧ x.f1 ≤ 255 ∧ 0 ≤ x.f2 ∧ x.f2 ≤ 999999999999999999)
    (hlen : ([115, 117, 109, 40] ++ fd.data.toList ++ fs.flatMap filterT ++ [41]).length ≤ 140737488355000) :
    Calls Tryd.prog 23 #[.agg #[.int .i64 3, .int .i64 n, .string fd, .slice A3 fs.length c3, c4v]] W fun e w' => e = .returned (.string (str ([115, 117, 109, 40] ++ fd.data.toList ++ fs.flatMap filterT ++ [41]))) ∧ Below W.heap.size W w' := by
  have hbig : fs.length ≤ 9223372036854775807 := g3.2.1
  have HR := Aside0.mk g3
  have HF := Aside0.mk hfs
  have HL := Aside0.mk hlen
  have hz : fd.size ≤ 140737488355000 := by
    have : fd.size = fd.data.toList.length := Array.length_toList.symm
    rw [this]; simp only [List.length_append] at hlen; omega
  clear hlen g3 hfs
  have hT : ∀ T : List UInt8, T = [115, 117, 109, 40] ++ fd.data.toList ++ fs.flatMap filterT ++ [41] →
    Calls Tryd.prog 23 #[.agg #[.int .i64 3, .int .i64 n, .string fd, .slice A3 fs.length c3, c4v]] W fun e w' => e = .returned (.string (str T)) ∧ Below W.heap.size W w' := by
    intro T hT
    have HTT := Aside0.mk hT
    clear hT
    go_enter Tryd.func23, Tryd.ntmps23
    go_wp2_with fail
    have HF1 := Aside0.mk (fun (w' : World) (hb : Below (W.alloc (.cells #[.int .i64 3, .int .i64 n, .string fd, .slice A3 fs.length c3, c4v] 26)).heap.size (W.alloc (.cells #[.int .i64 3, .int .i64 n, .string fd, .slice A3 fs.length c3, c4v] 26)) w') => (hb.cell (p := ⟨W.heap.size, 3, none⟩) (by simp)).trans (Lib.cell_of_heap (heap_alloc_new W _) 3))
    have HB0 := Aside0.mk (below_alloc (Below.refl _ _) (.cells #[.int .i64 3, .int .i64 n, .string fd, .slice A3 fs.length c3, c4v] 26) : Below W.heap.size W _)
    generalize (W.alloc (.cells #[.int .i64 3, .int .i64 n, .string fd, .slice A3 fs.length c3, c4v] 26)) = W1 at *
    generalize hg0 : W.heap.size = g0 at *
    go_loopg [3, 4] fs.length (fun gg s3 s4 wr => ∃ kk : Nat, kk ≤ fs.length ∧ fs.length - kk ≤ gg ∧ s4 = .int .i64 kk ∧ s3 = .string (str ([115, 117, 109, 40] ++ fd.data.toList ++ (fs.take kk).flatMap filterT)) ∧ Aside (Below W1.heap.size W1 wr))
    case atStart =>
      refine ⟨0, Nat.zero_le _, by omega, rfl, ?_, Below.refl _ _⟩
      rw [List.take_zero, List.flatMap_nil, List.append_nil, ← str_add, str_data]
      rfl
    case round =>
      obtain ⟨kk, hkk, hgg, rfl, rfl, BW⟩ := hrel
      have b3 := HF1.out wr BW.out
      simp only [List.getElem?_toArray] at b3
      by_cases hlt : kk < fs.length
      · have hltz : (kk : Int) < (fs.length : Int) := by omega
        obtain ⟨ad, hA, hcells⟩ := filter_at HR.out kk hlt
        obtain ⟨e0, e1, e2⟩ := hcells wr (by rw [hg0]; exact HB0.out.trans (BW.out.mono (by rw [← hg0]; exact HB0.out.size)))
        subst hA
        have HS := Aside0.mk (flat_take fs kk hlt)
        have hL3 := rtot_len fd fs kk hlt HL.out
        have HX := Aside0.mk (HF.out fs[kk] (List.getElem_mem hlt))
        generalize fs[kk] = x at *
        generalize hO : [115, 117, 109, 40] ++ fd.data.toList ++ (fs.take kk).flatMap filterT = ac at *
        have HF2 := Aside0.mk (fun (w' : World) (hb : Below (wr.alloc (.cells #[.string x.f0, .int .u8 x.f1, .int .i64 x.f2] 54)).heap.size (wr.alloc (.cells #[.string x.f0, .int .u8 x.f1, .int .i64 x.f2] 54)) w') => (And.intro ((hb.cell (p := ⟨wr.heap.size, 0, none⟩) (by simp)).trans (Lib.cell_of_heap (heap_alloc_new wr _) 0)) (And.intro ((hb.cell (p := ⟨wr.heap.size, 1, none⟩) (by simp)).trans (Lib.cell_of_heap (heap_alloc_new wr _) 1)) ((hb.cell (p := ⟨wr.heap.size, 2, none⟩) (by simp)).trans (Lib.cell_of_heap (heap_alloc_new wr _) 2))) : w'.cell? ⟨wr.heap.size, 0, none⟩ = some (.string x.f0) ∧ w'.cell? ⟨wr.heap.size, 1, none⟩ = some (.int .u8 x.f1) ∧ w'.cell? ⟨wr.heap.size, 2, none⟩ = some (.int .i64 x.f2)))
        have HB2 := Aside0.mk (BW.out.alloc BW.out.size (.cells #[.string x.f0, .int .u8 x.f1, .int .i64 x.f2] 54))
        go_wp2_with fail
        clear e0 e1 e2 b3
        generalize (wr.alloc (.cells #[.string x.f0, .int .u8 x.f1, .int .i64 x.f2] 54)) = W2 at *
        generalize wr.heap.size = g at *
        have n1 : ¬ 9223372036854775807 < (str ac).size + 2 := by omega
        have n2 : ¬ 9223372036854775807 < (str ac).size + 2 + x.f0.size := by omega
        have n3 : ¬ 9223372036854775807 < (str ac).size + 2 + x.f0.size + 1 := by omega
        have n4 : ¬ 9223372036854775807 < (str ac).size + 2 + x.f0.size + 1 + 1 := by omega
        have n5 : ¬ 9223372036854775807 < (str ac).size + 2 + x.f0.size + 1 + 1 + 1 := by omega
        have n6 : ¬ 9223372036854775807 < (str ac).size + 2 + x.f0.size + 1 + 1 + 1 + (str (digits x.f2)).size := by omega
        refine start_ (n := 17) (S := fun w' => Below W2.heap.size W2 w' ∧ w'.cell? ⟨g, 0, none⟩ = some (.string x.f0) ∧ w'.cell? ⟨g, 1, none⟩ = some (.int .u8 x.f1) ∧ w'.cell? ⟨g, 2, none⟩ = some (.int .i64 x.f2)) (ds := []) #[false, false, false, false, false, false, false, false, false, false, false, false, false, false, false, false, false] (by kernel_rfl) rfl rfl ⟨(Below.refl _ _).drew, (HF2.out _ (Below.refl _ _).drew)⟩ (fun hHeld => ?_)
        refine pure_ (i := 0) (N := some 36) (v := ?_) (a' := ?_) #[true, false, false, false, false, false, false, false, false, false, false, false, false, false, false, false, false] rfl rfl (by kernel_rfl) (fun _ _ _ h => h) (Or.inl ⟨by rfl, ?_⟩) ?_ ?_
        rotate_left
        · intro w'
          go_simp
          with_reducible rfl
        rotate_left
        · simp only [Act.put, List.setIfInBounds_toArray, List.set_cons_zero, List.set_cons_succ, i64_w, i32_w]
          rfl
        refine pure_ (i := 1) (N := some 37) (v := ?_) (a' := ?_) #[true, true, false, false, false, false, false, false, false, false, false, false, false, false, false, false, false] rfl rfl (by kernel_rfl) (fun _ _ _ h => h) (Or.inl ⟨by rfl, ?_⟩) ?_ ?_
        rotate_left
        · intro w'
          go_simp
          with_reducible rfl
        rotate_left
        · simp only [Act.put, List.setIfInBounds_toArray, List.set_cons_zero, List.set_cons_succ, i64_w, i32_w]
          rfl
        refine pure_ (i := 2) (N := some 38) (v := ?_) (a' := ?_) #[true, true, true, false, false, false, false, false, false, false, false, false, false, false, false, false, false] rfl rfl (by kernel_rfl) (fun _ _ _ h => h) (Or.inl ⟨by rfl, ?_⟩) ?_ ?_
        rotate_left
        · intro w'
          go_simp
          with_reducible rfl
        rotate_left
        · simp only [Act.put, List.setIfInBounds_toArray, List.set_cons_zero, List.set_cons_succ, i64_w, i32_w]
          rfl
        refine pure_ (i := 6) (N := some 42) (v := ?_) (a' := ?_) #[true, true, true, false, false, false, true, false, false, false, false, false, false, false, false, false, false] rfl rfl (by kernel_rfl) (fun _ _ _ h => h) (Or.inl ⟨by rfl, ?_⟩) ?_ ?_
        rotate_left
        · intro w'
          go_simp
          with_reducible rfl
        rotate_left
        · simp only [Act.put, List.setIfInBounds_toArray, List.set_cons_zero, List.set_cons_succ, i64_w, i32_w]
          rfl
        refine pure_ (i := 12) (N := some 48) (v := ?_) (a' := ?_) #[true, true, true, false, false, false, true, false, false, false, false, false, true, false, false, false, false] rfl rfl (by kernel_rfl) (fun _ _ _ h => h) (Or.inl ⟨by rfl, ?_⟩) ?_ ?_
        rotate_left
        · intro w'
          go_simp
          with_reducible rfl
        rotate_left
        · simp only [Act.put, List.setIfInBounds_toArray, List.set_cons_zero, List.set_cons_succ, i64_w, i32_w]
          rfl
        refine take_ (i := 3) (N := some 39) (v := ?_) (a' := ?_) #[true, true, true, true, false, false, true, false, false, false, false, false, true, false, false, false, false] rfl rfl (by kernel_rfl) (fun _ _ _ h => h) (Or.inl ⟨by rfl, ?_⟩) hHeld ?_ ?_
        rotate_left
        · rintro w' ⟨s0, s1, s2, s3⟩
          go_simp
          with_reducible rfl
        rotate_left
        · simp only [Act.put, List.setIfInBounds_toArray, List.set_cons_zero, List.set_cons_succ, i64_w, i32_w]
          rfl
        refine pure_ (i := 4) (N := some 40) (v := ?_) (a' := ?_) #[true, true, true, true, true, false, true, false, false, false, false, false, true, false, false, false, false] rfl rfl (by kernel_rfl) (fun _ _ _ h => h) (Or.inl ⟨by rfl, ?_⟩) ?_ ?_
        rotate_left
        · intro w'
          go_simp
          with_reducible rfl
        rotate_left
        · simp only [Act.put, List.setIfInBounds_toArray, List.set_cons_zero, List.set_cons_succ, i64_w, i32_w]
          rfl
        refine pure_ (i := 5) (N := some 41) (v := ?_) (a' := ?_) #[true, true, true, true, true, true, true, false, false, false, false, false, true, false, false, false, false] rfl rfl (by kernel_rfl) (fun _ _ _ h => h) (Or.inl ⟨by rfl, ?_⟩) ?_ ?_
        rotate_left
        · intro w'
          go_simp
          with_reducible rfl
        rotate_left
        · simp only [Act.put, List.setIfInBounds_toArray, List.set_cons_zero, List.set_cons_succ, i64_w, i32_w]
          rfl
        refine take_ (i := 7) (N := some 43) (v := ?_) (a' := ?_) #[true, true, true, true, true, true, true, true, false, false, false, false, true, false, false, false, false] rfl rfl (by kernel_rfl) (fun _ _ _ h => h) (Or.inl ⟨by rfl, ?_⟩) hHeld ?_ ?_
        rotate_left
        · rintro w' ⟨s0, s1, s2, s3⟩
          go_simp
          with_reducible rfl
        rotate_left
        · simp only [Act.put, List.setIfInBounds_toArray, List.set_cons_zero, List.set_cons_succ, i64_w, i32_w]
          rfl
        refine take_ (i := 13) (N := some 49) (v := ?_) (a' := ?_) #[true, true, true, true, true, true, true, true, false, false, false, false, true, true, false, false, false] rfl rfl (by kernel_rfl) (fun _ _ _ h => h) (Or.inl ⟨by rfl, ?_⟩) hHeld ?_ ?_
        rotate_left
        · rintro w' ⟨s0, s1, s2, s3⟩
          go_simp
          with_reducible rfl
        rotate_left
        · simp only [Act.put, List.setIfInBounds_toArray, List.set_cons_zero, List.set_cons_succ, i64_w, i32_w]
          rfl
        refine join_ (σ := Nat) 2 #[true, true, true, true, true, true, true, true, true, true, true, true, true, true, true, false, false] (fun g1 => [(44, .slice (some ⟨g1, 0, none⟩) 1 1), (45, .string ⟨#[UInt8.ofNat x.f1.toNat]⟩), (50, .string (str (digits x.f2))), (46, .string (str ac ++ ⟨#[44, 32]⟩ ++ x.f0 ++ ⟨#[32]⟩ ++ ⟨#[UInt8.ofNat x.f1.toNat]⟩)), (47, .string ((str ac ++ ⟨#[44, 32]⟩ ++ x.f0 ++ ⟨#[32]⟩ ++ ⟨#[UInt8.ofNat x.f1.toNat]⟩) ++ ⟨#[32]⟩))]) (fun g1 w' => Below W2.heap.size W2 w') ?_ ?_
        rotate_left
        · intro hCont
          refine two_ (i := 8) (j := 14) (Ni := some 44) (Nj := some 50) #[true, true, true, true, true, true, true, true, true, false, false, false, true, true, false, false, false] #[true, true, true, true, true, true, true, true, false, false, false, false, true, true, true, false, false] rfl rfl rfl rfl (by kernel_rfl) (by decide) (by decide) (fun K hK => ?_) (fun K hK => ?_)
          · skip
            have h5 := heap_alloc_new (W2.drew) (.cells #[.int .u8 x.f1] 5)
            have hB5 := hHeld.1.alloc hHeld.1.size (.cells #[.int .u8 x.f1] 5)
            refine value_ (w1 := ?_) (v := ?_) (by rfl) rfl ?_ ?_
            rotate_left 2
            · go_simp
              constructor
              · rfl
              · rfl
            refine hK.out _ _ ⟨hB5, (HF2.out _ hB5)⟩ (fun hHeld => ?_)
            clear hK K
            refine norm_ (a' := ?_) ?_ ?_
            rotate_left
            · show Act.put _ (some 44) _ = _
              simp only [Act.put, List.setIfInBounds_toArray, List.set_cons_zero, List.set_cons_succ, i64_w, i32_w]
              rfl
            refine two_ (i := 9) (j := 14) (Ni := some 45) (Nj := some 50) #[true, true, true, true, true, true, true, true, true, true, false, false, true, true, false, false, false] #[true, true, true, true, true, true, true, true, true, false, false, false, true, true, true, false, false] rfl rfl rfl rfl (by kernel_rfl) (by decide) (by decide) (fun K hK => ?_) (fun K hK => ?_)
            · skip
              have kc := conv_one (W2.drew.alloc (.cells #[.int .u8 x.f1] 5)) _ _ h5 HX.out.1 HX.out.2.1
              refine value_ (w1 := (W2.drew.alloc (.cells #[.int .u8 x.f1] 5))) (v := .string ⟨#[UInt8.ofNat x.f1.toNat]⟩) (by rfl) rfl ?_ ?_
              · go_simp
                all_goals exact congrArg (fun r : Result Value => r.andThen fun a w' => .ok (Next.value a) w') kc
              refine hK.out _ _ ⟨hHeld.1, (HF2.out _ hHeld.1)⟩ (fun hHeld => ?_)
              clear hK K
              refine norm_ (a' := ?_) ?_ ?_
              rotate_left
              · show Act.put _ (some 45) _ = _
                simp only [Act.put, List.setIfInBounds_toArray, List.set_cons_zero, List.set_cons_succ, i64_w, i32_w]
                rfl
              refine pure_ (i := 10) (N := some 46) (v := ?_) (a' := ?_) #[true, true, true, true, true, true, true, true, true, true, true, false, true, true, false, false, false] rfl rfl (by kernel_rfl) (fun _ _ _ h => h) (Or.inl ⟨by rfl, ?_⟩) ?_ ?_
              rotate_left
              · intro w'
                go_simp
                with_reducible rfl
              rotate_left
              · simp only [Act.put, List.setIfInBounds_toArray, List.set_cons_zero, List.set_cons_succ, i64_w, i32_w]
                rfl
              refine pure_ (i := 11) (N := some 47) (v := ?_) (a' := ?_) #[true, true, true, true, true, true, true, true, true, true, true, true, true, true, false, false, false] rfl rfl (by kernel_rfl) (fun _ _ _ h => h) (Or.inl ⟨by rfl, ?_⟩) ?_ ?_
              rotate_left
              · intro w'
                go_simp
                with_reducible rfl
              rotate_left
              · simp only [Act.put, List.setIfInBounds_toArray, List.set_cons_zero, List.set_cons_succ, i64_w, i32_w]
                rfl
              refine one_ (i := 14) (N := some 50) #[true, true, true, true, true, true, true, true, true, true, true, true, true, true, true, false, false] rfl rfl (by kernel_rfl) (by decide) (fun K hK => ?_)
              refine goes_ Tryd.func28 (by kernel_rfl) rfl #[.int .i64 x.f2] (by rfl) rfl rfl (by simp only [List.map_toArray, List.map_cons, List.map_nil]; rfl) ?_
              refine (decimal_calls x.f2 HX.out.2.2.1 HX.out.2.2.2 _).mono ?_
              rintro e w3 ⟨rfl, hb⟩
              refine ⟨_, rfl, ?_⟩
              have hB3 := hHeld.1.trans (hb.mono hHeld.1.size)
              have h5 := (hb.block _ (by simp)).trans h5
              refine hK.out _ _ ⟨hB3, (HF2.out _ hB3)⟩ (fun hHeld => ?_)
              clear hK K
              refine norm_ (a' := ?_) ?_ ?_
              rotate_left
              · show Act.put _ (some 50) _ = _
                simp only [Act.put, List.setIfInBounds_toArray, List.set_cons_zero, List.set_cons_succ, i64_w, i32_w]
                rfl
              exact norm_ (by first | (simp only [putAll, Act.put, List.setIfInBounds_toArray, List.set_cons_zero, List.set_cons_succ]; done) | (simp only [putAll, Act.put, List.setIfInBounds_toArray, List.set_cons_zero, List.set_cons_succ]; rfl)) (hCont (W2.drew.heap.size) _ hHeld.1)
            · skip
              refine goes_ Tryd.func28 (by kernel_rfl) rfl #[.int .i64 x.f2] (by rfl) rfl rfl (by simp only [List.map_toArray, List.map_cons, List.map_nil]; rfl) ?_
              refine (decimal_calls x.f2 HX.out.2.2.1 HX.out.2.2.2 _).mono ?_
              rintro e w3 ⟨rfl, hb⟩
              refine ⟨_, rfl, ?_⟩
              have hB3 := hHeld.1.trans (hb.mono hHeld.1.size)
              have h5 := (hb.block _ (by simp)).trans h5
              refine hK.out _ _ ⟨hB3, (HF2.out _ hB3)⟩ (fun hHeld => ?_)
              clear hK K
              refine norm_ (a' := ?_) ?_ ?_
              rotate_left
              · show Act.put _ (some 50) _ = _
                simp only [Act.put, List.setIfInBounds_toArray, List.set_cons_zero, List.set_cons_succ, i64_w, i32_w]
                rfl
              refine one_ (i := 9) (N := some 45) #[true, true, true, true, true, true, true, true, true, true, false, false, true, true, true, false, false] rfl rfl (by kernel_rfl) (by decide) (fun K hK => ?_)
              have kc := conv_one w3 _ _ h5 HX.out.1 HX.out.2.1
              refine value_ (w1 := w3) (v := .string ⟨#[UInt8.ofNat x.f1.toNat]⟩) (by rfl) rfl ?_ ?_
              · go_simp
                all_goals exact congrArg (fun r : Result Value => r.andThen fun a w' => .ok (Next.value a) w') kc
              refine hK.out _ _ ⟨hHeld.1, (HF2.out _ hHeld.1)⟩ (fun hHeld => ?_)
              clear hK K
              refine norm_ (a' := ?_) ?_ ?_
              rotate_left
              · show Act.put _ (some 45) _ = _
                simp only [Act.put, List.setIfInBounds_toArray, List.set_cons_zero, List.set_cons_succ, i64_w, i32_w]
                rfl
              refine pure_ (i := 10) (N := some 46) (v := ?_) (a' := ?_) #[true, true, true, true, true, true, true, true, true, true, true, false, true, true, true, false, false] rfl rfl (by kernel_rfl) (fun _ _ _ h => h) (Or.inl ⟨by rfl, ?_⟩) ?_ ?_
              rotate_left
              · intro w'
                go_simp
                with_reducible rfl
              rotate_left
              · simp only [Act.put, List.setIfInBounds_toArray, List.set_cons_zero, List.set_cons_succ, i64_w, i32_w]
                rfl
              refine pure_ (i := 11) (N := some 47) (v := ?_) (a' := ?_) #[true, true, true, true, true, true, true, true, true, true, true, true, true, true, true, false, false] rfl rfl (by kernel_rfl) (fun _ _ _ h => h) (Or.inl ⟨by rfl, ?_⟩) ?_ ?_
              rotate_left
              · intro w'
                go_simp
                with_reducible rfl
              rotate_left
              · simp only [Act.put, List.setIfInBounds_toArray, List.set_cons_zero, List.set_cons_succ, i64_w, i32_w]
                rfl
              exact norm_ (by first | (simp only [putAll, Act.put, List.setIfInBounds_toArray, List.set_cons_zero, List.set_cons_succ]; done) | (simp only [putAll, Act.put, List.setIfInBounds_toArray, List.set_cons_zero, List.set_cons_succ]; rfl)) (hCont (W2.drew.heap.size) _ hHeld.1)
          · skip
            refine goes_ Tryd.func28 (by kernel_rfl) rfl #[.int .i64 x.f2] (by rfl) rfl rfl (by simp only [List.map_toArray, List.map_cons, List.map_nil]; rfl) ?_
            refine (decimal_calls x.f2 HX.out.2.2.1 HX.out.2.2.2 _).mono ?_
            rintro e w3 ⟨rfl, hb⟩
            refine ⟨_, rfl, ?_⟩
            have hB3 := hHeld.1.trans (hb.mono hHeld.1.size)
            refine hK.out _ _ ⟨hB3, (HF2.out _ hB3)⟩ (fun hHeld => ?_)
            clear hK K
            refine norm_ (a' := ?_) ?_ ?_
            rotate_left
            · show Act.put _ (some 50) _ = _
              simp only [Act.put, List.setIfInBounds_toArray, List.set_cons_zero, List.set_cons_succ, i64_w, i32_w]
              rfl
            refine one_ (i := 8) (N := some 44) #[true, true, true, true, true, true, true, true, true, false, false, false, true, true, true, false, false] rfl rfl (by kernel_rfl) (by decide) (fun K hK => ?_)
            have h5 := heap_alloc_new (w3) (.cells #[.int .u8 x.f1] 5)
            have hB5 := hHeld.1.alloc hHeld.1.size (.cells #[.int .u8 x.f1] 5)
            refine value_ (w1 := ?_) (v := ?_) (by rfl) rfl ?_ ?_
            rotate_left 2
            · go_simp
              constructor
              · rfl
              · rfl
            refine hK.out _ _ ⟨hB5, (HF2.out _ hB5)⟩ (fun hHeld => ?_)
            clear hK K
            refine norm_ (a' := ?_) ?_ ?_
            rotate_left
            · show Act.put _ (some 44) _ = _
              simp only [Act.put, List.setIfInBounds_toArray, List.set_cons_zero, List.set_cons_succ, i64_w, i32_w]
              rfl
            refine one_ (i := 9) (N := some 45) #[true, true, true, true, true, true, true, true, true, true, false, false, true, true, true, false, false] rfl rfl (by kernel_rfl) (by decide) (fun K hK => ?_)
            have kc := conv_one (w3.alloc (.cells #[.int .u8 x.f1] 5)) _ _ h5 HX.out.1 HX.out.2.1
            refine value_ (w1 := (w3.alloc (.cells #[.int .u8 x.f1] 5))) (v := .string ⟨#[UInt8.ofNat x.f1.toNat]⟩) (by rfl) rfl ?_ ?_
            · go_simp
              all_goals exact congrArg (fun r : Result Value => r.andThen fun a w' => .ok (Next.value a) w') kc
            refine hK.out _ _ ⟨hHeld.1, (HF2.out _ hHeld.1)⟩ (fun hHeld => ?_)
            clear hK K
            refine norm_ (a' := ?_) ?_ ?_
            rotate_left
            · show Act.put _ (some 45) _ = _
              simp only [Act.put, List.setIfInBounds_toArray, List.set_cons_zero, List.set_cons_succ, i64_w, i32_w]
              rfl
            refine pure_ (i := 10) (N := some 46) (v := ?_) (a' := ?_) #[true, true, true, true, true, true, true, true, true, true, true, false, true, true, true, false, false] rfl rfl (by kernel_rfl) (fun _ _ _ h => h) (Or.inl ⟨by rfl, ?_⟩) ?_ ?_
            rotate_left
            · intro w'
              go_simp
              with_reducible rfl
            rotate_left
            · simp only [Act.put, List.setIfInBounds_toArray, List.set_cons_zero, List.set_cons_succ, i64_w, i32_w]
              rfl
            refine pure_ (i := 11) (N := some 47) (v := ?_) (a' := ?_) #[true, true, true, true, true, true, true, true, true, true, true, true, true, true, true, false, false] rfl rfl (by kernel_rfl) (fun _ _ _ h => h) (Or.inl ⟨by rfl, ?_⟩) ?_ ?_
            rotate_left
            · intro w'
              go_simp
              with_reducible rfl
            rotate_left
            · simp only [Act.put, List.setIfInBounds_toArray, List.set_cons_zero, List.set_cons_succ, i64_w, i32_w]
              rfl
            exact norm_ (by first | (simp only [putAll, Act.put, List.setIfInBounds_toArray, List.set_cons_zero, List.set_cons_succ]; done) | (simp only [putAll, Act.put, List.setIfInBounds_toArray, List.set_cons_zero, List.set_cons_succ]; rfl)) (hCont (w3.heap.size) _ hHeld.1)
        rintro g1 w' hj
        have hHeld : Below W2.heap.size W2 w' ∧ w'.cell? ⟨g, 0, none⟩ = some (.string x.f0) ∧ w'.cell? ⟨g, 1, none⟩ = some (.int .u8 x.f1) ∧ w'.cell? ⟨g, 2, none⟩ = some (.int .i64 x.f2) := ⟨hj, HF2.out _ hj⟩
        refine norm_ (a' := ?_) ?_ ?_
        rotate_left
        · simp only [putAll, Act.put, List.setIfInBounds_toArray, List.set_cons_zero, List.set_cons_succ]
          rfl
        refine pure_ (i := 15) (N := some 51) (v := ?_) (a' := ?_) #[true, true, true, true, true, true, true, true, true, true, true, true, true, true, true, true, false] rfl rfl (by kernel_rfl) (fun _ _ _ h => h) (Or.inl ⟨by rfl, ?_⟩) ?_ ?_
        rotate_left
        · intro w'
          go_simp
          with_reducible rfl
        rotate_left
        · simp only [Act.put, List.setIfInBounds_toArray, List.set_cons_zero, List.set_cons_succ, i64_w, i32_w]
          rfl
        refine pure_ (i := 16) (N := some 3) (v := ?_) (a' := ?_) #[true, true, true, true, true, true, true, true, true, true, true, true, true, true, true, true, true] rfl rfl (by kernel_rfl) (fun _ _ _ h => h) (Or.inl ⟨by rfl, ?_⟩) ?_ ?_
        rotate_left
        · intro w'
          go_simp
          with_reducible rfl
        rotate_left
        · simp only [Act.put, List.setIfInBounds_toArray, List.set_cons_zero, List.set_cons_succ, i64_w, i32_w]
          rfl
        refine done_ (by kernel_rfl) ?_

        go_wp2_with fail
        go_roundg (fs.length - (kk + 1))
        case measure => omega
        case rel =>
          refine ⟨kk + 1, by omega, by omega, by go_num, ?_, HB2.out.trans (hHeld.1.mono HB2.out.size)⟩
          rw [HS.out, ← List.append_assoc, hO]
          have e0 : x.f0 = str x.f0.data.toList := (str_data x.f0).symm
          have : str ac ++ ⟨#[44, 32]⟩ ++ x.f0 ++ ⟨#[32]⟩ ++ ⟨#[UInt8.ofNat x.f1.toNat]⟩ ++ ⟨#[32]⟩ ++ str (digits x.f2) = str (ac ++ filterT x) := by
            have h1 := (((((str_add ac [44, 32]).symm ▸ rfl : str ac ++ str [44, 32] = str (ac ++ [44, 32])))))
            conv => lhs; rw [e0]
            show str ac ++ str [44, 32] ++ str x.f0.data.toList ++ str [32] ++ str [UInt8.ofNat x.f1.toNat] ++ str [32] ++ str (digits x.f2) = _
            simp only [str_add, filterT, List.append_assoc]
          rw [← this]
      · have e := (List.take_of_length_le (by omega) : fs.take kk = fs)
        have hz9 : (str ([115, 117, 109, 40] ++ fd.data.toList ++ (fs.take kk).flatMap filterT)).size ≤ 140737488355000 := by
          have := HL.out
          rw [e, str_size]; simp only [List.length_append] at this ⊢; omega
        rw [e] at hz9 ⊢
        generalize hO : [115, 117, 109, 40] ++ fd.data.toList ++ fs.flatMap filterT = ac at *
        go_wp2_with fail
        go_ret
        refine ⟨ret_eq ((str_add _ [41]).trans ?_), ?_⟩
        · rw [HTT.out]
        · rw [hg0]; exact HB0.out.trans (BW.out.mono (by rw [← hg0]; exact HB0.out.size))
  exact hT _ rfl
end Go.Proofs.YtgkfpakncjncdaaDoor.Syn
/- The document's text of every expression that may be; of a program. -/
namespace Go.Proofs.YtgkfpakncjncdaaDoor.Syn
open Go.RowKit Go.Lib Go.Proofs.YtgkfpakncjncdaaDoorW.PrintWords Go.Proofs.YtgkfpakncjncdaaDoorW.PrintLast Go.Proofs.YtgkfpakncjncdaaDoorW.PrintMore Go.Proofs.YtgkfpakncjncdaaDoor.PSyn
set_option linter.unusedVariables false
set_option linter.unusedSimpArgs false

theorem callT_acc (word : List UInt8) (ks : List S26) (h : ks ≠ []) : word ++ (accT (ks.map exprT) ks.length ++ [41]) = callT word (ks.map exprT) := by
  unfold callT accT
  have hl : ¬ ks.length = 0 := by simpa using h
  rw [if_neg hl, List.take_of_length_le (by simp), argsT_word word _ (by simpa using h), List.append_assoc]

set_option maxRecDepth 100000 in
set_option maxHeartbeats 4000000 in
theorem ref_call (k : Int) (hk : k = 7 ∨ k = 8 ∨ k = 9) (n : Int) (fd : ByteArray) (c3v : Value) (A4 : Option Addr) (c4 : Nat) (ks : List S26) (hne : ks ≠ []) (W : World) (g4 : Kd.C k26 W A4 ks.length ks) (hx : ∀ x ∈ ks, RefAt x)
    (hlen : (callT (if k = 7 then [109, 105, 110] else if k = 8 then [109, 97, 120] else [99, 108, 97, 109, 112]) (ks.map exprT)).length ≤ 140737488355000) :
    Calls Tryd.prog 23 #[.agg #[.int .i64 k, .int .i64 n, .string fd, c3v, .slice A4 ks.length c4]] W fun e w' => e = .returned (.string (str (callT (if k = 7 then [109, 105, 110] else if k = 8 then [109, 97, 120] else [99, 108, 97, 109, 112]) (ks.map exprT)))) ∧ Below W.heap.size W w' := by
  rw [← callT_acc _ ks hne] at hlen ⊢
  have hl : (accT (ks.map exprT) ks.length).length + 1 ≤ 140737488355000 := by simp only [List.length_append] at hlen; simp at hlen; omega
  have HC := Aside0.mk (fun (w1 : World) (hb : Below W.heap.size W w1) => ref_list ks A4 c4 w1 (Kd.C_below g4 hb) hx (by omega))
  have hz : (str (accT (ks.map exprT) ks.length ++ [41])).size ≤ 140737488355000 := by rw [str_size]; simp; omega
  clear hx g4 hlen hl hne
  generalize accT (ks.map exprT) ks.length ++ [41] = ts at *
  generalize ks.length = nn at *
  rcases hk with rfl | rfl | rfl
  all_goals
    simp only [if_true, show ¬ (8 : Int) = 7 from by decide, show ¬ (9 : Int) = 7 from by decide, show ¬ (9 : Int) = 8 from by decide, if_false]
    go_enter Tryd.func23, Tryd.ntmps23
    go_wp2_with fail
    refine (HC.out _ (below_alloc (Below.refl _ _) _)).mono ?_
    rintro e w1 ⟨rfl, hb⟩
    have HB := Aside0.mk (below_step (below_alloc (Below.refl _ _) _) hb)
    clear hb
    go_wp2_with fail
    go_ret
    exact ⟨ret_eq (str_add _ ts), HB.out⟩

theorem picks_lt2 {f : S54} (h : picksB f = true) : 0 ≤ f.f1 ∧ f.f1 ≤ 255 ∧ 0 ≤ f.f2 ∧ f.f2 ≤ 999999999999999999 := by
  unfold picksB signB at h
  simp only [Bool.and_eq_true, Bool.or_eq_true, beq_iff_eq] at h
  have := numB_lt h.2
  omega

set_option maxHeartbeats 1000000 in
theorem ref_all (x : S26) (hr : rightB x = true) : RefAt x := by
  suffices hS : ∀ (n : Nat) (x : S26), SizeOf.sizeOf x < n → rightB x = true → RefAt x from hS _ x (Nat.lt_succ_self _) hr
  intro n
  induction n with
  | zero => intro x hx; exact absurd hx (Nat.not_lt_zero _)
  | succ n ih =>
    intro x hx hr W cs hk hlen
    obtain ⟨A3, c3, A4, c4, rfl, l3, g3, l4, g4⟩ := k26_open hk
    obtain ⟨k, m, fd, fs, ks⟩ := x
    have hkid : ∀ y ∈ ks, rightB y = true → RefAt y := fun y hy hy' => ih y (by
      have h1 : SizeOf.sizeOf y < SizeOf.sizeOf ks := List.sizeOf_lt_of_mem hy
      have h2 : SizeOf.sizeOf (S26.mk k m fd fs ks) = 1 + SizeOf.sizeOf k + SizeOf.sizeOf m + SizeOf.sizeOf fd + SizeOf.sizeOf fs + SizeOf.sizeOf ks := by simp
      omega) hy'
    rw [rightB, anyWrong_eq] at hr
    rw [exprT, exprsT_eq] at hlen ⊢
    simp only at g3 g4 ⊢
    by_cases h1 : k = 1
    · subst h1
      simp only [kidsN, true_or, if_true, Bool.true_eq_false, if_false] at hr hlen ⊢
      have hn : numB m = true := by split at hr <;> simp_all
      have hn' := numB_lt hn
      exact ref_num m fd _ _ W hn'.1 hn'.2
    by_cases h2 : k = 2
    · subst h2
      simp only [kidsN, or_true, true_or, if_true, Bool.true_eq_false, if_false, show ¬ (2 : Int) = 1 from by decide] at hr hlen ⊢
      have hn : boxB m = true := by split at hr <;> simp_all
      have hn' := boxB_lt hn
      exact ref_box m fd _ _ W (by omega) (by omega)
    by_cases h3 : k = 3
    · subst h3
      simp only [kidsN, or_true, true_or, if_true, Bool.true_eq_false, if_false, show ¬ (3 : Int) = 1 from by decide, show ¬ (3 : Int) = 2 from by decide] at hr hlen ⊢
      have hn : ∀ x ∈ fs, picksB x = true := by
        split at hr
        · simp at hr
        · split at hr
          · simp at hr
          · simp only [Bool.and_eq_true, Bool.not_eq_true', List.any_eq_false] at hr
            intro x hx
            simpa using hr.2 x hx
      exact ref_total m fd A3 c3 _ fs W g3 (fun x hx => picks_lt2 (hn x hx)) hlen
    have hks : ks.length = (kidsN k).1 ∧ (kidsN k).2 = true ∧ ∀ y ∈ ks, RefAt y := by
      simp only [if_neg h1, if_neg h2, if_neg h3] at hr
      split at hr
      · simp at hr
      · rename_i hk2
        split at hr
        · simp at hr
        · rename_i hl
          split at hr
          · simp at hr
          · simp only [Bool.and_eq_true, Bool.not_eq_true', List.any_eq_false] at hr
            refine ⟨by simpa using hl, by simpa using hk2, fun y hy => hkid y hy (by simpa using hr.2 y hy)⟩
    clear hr hkid
    obtain ⟨hl, hk2, hks⟩ := hks
    by_cases h45 : k = 4 ∨ k = 5
    · have e : (kidsN k).1 = 2 := by rcases h45 with rfl | rfl <;> rfl
      rw [e] at hl
      obtain ⟨x, y, rfl⟩ : ∃ x y, ks = [x, y] := by
        match ks, hl with
        | [x, y], _ => exact ⟨x, y, rfl⟩
      have := ref_bin k h45 m fd (.slice A3 fs.length c3) A4 c4 x y W g4 (hks x (by simp)) (hks y (by simp))
      rcases h45 with rfl | rfl
      · simp only [show ¬ (4 : Int) = 1 from by decide, show ¬ (4 : Int) = 2 from by decide, show ¬ (4 : Int) = 3 from by decide, if_true, if_false] at this hlen ⊢
        exact this hlen
      · simp only [show ¬ (5 : Int) = 1 from by decide, show ¬ (5 : Int) = 2 from by decide, show ¬ (5 : Int) = 3 from by decide, show ¬ (5 : Int) = 4 from by decide, if_true, if_false] at this hlen ⊢
        exact this hlen
    by_cases h6 : k = 6
    · subst h6
      have e : (kidsN 6).1 = 1 := rfl
      rw [e] at hl
      obtain ⟨x, rfl⟩ : ∃ x, ks = [x] := by
        match ks, hl with
        | [x], _ => exact ⟨x, rfl⟩
      simp only [show ¬ (6 : Int) = 1 from by decide, show ¬ (6 : Int) = 2 from by decide, show ¬ (6 : Int) = 3 from by decide, show ¬ (6 : Int) = 4 from by decide, show ¬ (6 : Int) = 5 from by decide, if_true, if_false] at hlen ⊢
      exact ref_neg m fd (.slice A3 fs.length c3) A4 c4 x W g4 (hks x (by simp)) hlen
    by_cases h789 : k = 7 ∨ k = 8 ∨ k = 9
    · have hne : ks ≠ [] := by
        rintro rfl
        rcases h789 with rfl | rfl | rfl <;> simp [kidsN] at hl
      have := ref_call k h789 m fd (.slice A3 fs.length c3) A4 c4 ks hne W g4 hks
      have e4 : ¬ k = 4 := fun e => h45 (.inl e)
      have e5 : ¬ k = 5 := fun e => h45 (.inr e)
      simp only [if_neg h1, if_neg h2, if_neg h3, if_neg e4, if_neg e5, if_neg h6] at hlen ⊢
      rcases h789 with rfl | rfl | rfl
      · exact this hlen
      · simp only [show ¬ (8 : Int) = 7 from by decide, if_true, if_false] at this hlen ⊢
        exact this hlen
      · simp only [show ¬ (9 : Int) = 7 from by decide, show ¬ (9 : Int) = 8 from by decide, if_true, if_false] at this hlen ⊢
        exact this hlen
    · exfalso
      unfold kidsN at hk2
      have e4 : ¬ k = 4 := fun e => h45 (.inl e)
      have e5 : ¬ k = 5 := fun e => h45 (.inr e)
      simp only [not_or] at h789
      simp [h1, h2, h3, e4, e5, h6, h789.1, h789.2.1, h789.2.2] at hk2

/-- the document's GoodExpr at an expression whose texts are short -/
theorem refgood_calls (x : S26) (hs : shortB x = true) (W : World) (cs : List Value) (hk : k26.K W x cs) :
    Calls Tryd.prog 22 #[.agg cs.toArray] W fun e w' => e = .returned (.bool (goodB x)) ∧ Below W.heap.size W w' := by
  obtain ⟨k, hkk⟩ := (goodref_ev x ⟨W, cs, hk⟩ hs).rounds
  obtain ⟨A3, c3, A4, c4, rfl, l3, g3, l4, g4⟩ := k26_open hk
  exact octroiref31_GoodExpr.calls k _ _ _ A3 c3 _ A4 c4 _ _ W g3 l3 g4 l4 hkk

set_option maxHeartbeats 2000000 in
theorem reftext_calls (x : S26) (hs : shortB x = true) (W : World) (cs : List Value) (hk : k26.K W x cs) (hlen : goodB x = true → (exprT x).length ≤ 140737488355000) :
    Calls Tryd.prog 9 #[.agg cs.toArray] W fun e w' => e = .returned (.string (str (textB x))) ∧ Below W.heap.size W w' := by
  have HG := Aside0.mk (fun W' (hb : Below W.heap.size W W') => refgood_calls x hs W' cs (k26.K_below hb hk))
  have HE := Aside0.mk (fun (hg : goodB x = true) W' (hb : Below W.heap.size W W') => ref_all x (by unfold goodB at hg; simp at hg; exact hg.2) W' cs (k26.K_below hb hk) (hlen hg))
  unfold textB
  obtain ⟨A3, c3, A4, c4, rfl, -, -, -, -⟩ := k26_open hk
  clear hk hlen hs
  have HB := Aside0.mk (Below.refl W.heap.size W)
  cases hg : goodB x
  all_goals
    rw [hg] at HG
    simp only [Bool.false_eq_true, if_false, if_true]
    first | have HE := Aside0.mk (HE.out hg) | skip
    generalize exprT x = tx at *
    obtain ⟨k, n, fd, fs, ks⟩ := x
    simp only at HG HE ⊢
    generalize fs.length = n3 at *
    generalize ks.length = n4 at *
    go_enter Tryd.func9, Tryd.ntmps9
    go_wp2_with (first | (go_at_call 22; refine (HG.out _ (by repeat (first | exact HB.out | apply below_alloc))).mono ?_; rintro e w1 ⟨rfl, hd⟩; have hb1 := bcell hd; have HB := Aside0.mk (below_step (by repeat (first | exact HB.out | apply below_alloc)) hd); clear hd) | (go_at_call 23; refine (HE.out _ (by repeat (first | exact HB.out | apply below_alloc))).mono ?_; rintro e w2 ⟨rfl, hd⟩; have HB := Aside0.mk (below_step (by repeat (first | exact HB.out | apply below_alloc)) hd); clear hd))
    go_ret
    exact ⟨rfl, HB.out⟩

theorem boxnum_calls (n : Int) (W : World) : Calls Tryd.prog 27 #[.int .i64 n] W fun e w' => e = .returned (.bool (boxB n)) ∧ Below W.heap.size W w' :=
  (octroiref31_BoxNumber.calls n _ W (box_ref n)).mono fun e w' h => ⟨h.1, h.2.below⟩

set_option maxRecDepth 100000 in
set_option maxHeartbeats 4000000 in
theorem refprint_calls (A : Option Addr) (c : Nat) (l : List S35) (hs : ∀ x ∈ l, shortB x.f1 = true) (W : World) (hr : Kd.C k35 W A l.length l) (hlen : (l.flatMap lineB).length ≤ 140737488355000) :
    Calls Tryd.prog 11 #[.slice A l.length c] W fun e w' => e = .returned (.string (str (l.flatMap lineB))) ∧ Below W.heap.size W w' := by
  have hbig : l.length ≤ 9223372036854775807 := hr.2.1
  have HR := Aside0.mk hr
  have HL := Aside0.mk hlen
  have HSH := Aside0.mk hs
  clear hr hlen hs
  go_enter Tryd.func11, Tryd.ntmps11
  go_wp2_with fail
  go_loopg [3, 4] l.length (fun gg s3 s4 wr => ∃ kk : Nat, kk ≤ l.length ∧ l.length - kk ≤ gg ∧ s4 = .int .i64 kk ∧ s3 = .string (str ((l.take kk).flatMap lineB)) ∧ Aside (Below W.heap.size W wr))
  case atStart => exact ⟨0, Nat.zero_le _, by omega, rfl, rfl, Below.refl _ _⟩
  case round =>
    obtain ⟨kk, hkk, hgg, rfl, rfl, BW⟩ := hrel
    by_cases hlt : kk < l.length
    · have hltz : (kk : Int) < (l.length : Int) := by omega
      have HS := Aside0.mk (line_take l kk hlt)
      have HL2 := Aside0.mk (line_len l (kk + 1))
      obtain ⟨ad, k0, k1, k2, k3, k4, k5, hA, hK, hcells⟩ := box_at HR.out kk hlt
      subst hA
      have hsx := HSH.out l[kk] (List.getElem_mem hlt)
      generalize l[kk] = x at *
      obtain ⟨A4, c4, A5, c5, hk6, l4, g4, l5, g5⟩ := k35_open hK
      cases hk6
      have HG := Aside0.mk (fun W' (hb : Below W.heap.size W W') => refgood_calls x.f1 hsx W' _ (k26.K_below hb (k26_mk W x.f1 l4 g4 l5 g5)))
      have HC := Aside0.mk hcells
      clear hcells hK
      cases hbx : boxB x.f0
      · have e : lineB x = [] := by unfold lineB mayB; rw [hbx]; rfl
        rw [e, List.append_nil] at HS
        have HBX := Aside0.mk (boxnum_calls x.f0)
        rw [hbx] at HBX
        clear e HG l4 g4 l5 g5
        generalize hac : (l.take kk).flatMap lineB = ac at *
        obtain ⟨m, k, n, fd, fs, ks⟩ := x
        simp only at HBX HC
        generalize fs.length = n3 at *
        generalize ks.length = n4 at *
        obtain ⟨e0, e1, e2, e3, e4, e5⟩ := HC.out wr BW.out
        go_wp2_with fail
        refine (HBX.out _).mono ?_
        rintro e w1 ⟨rfl, hb⟩
        have HB1 := Aside0.mk (below_step BW.out hb)
        clear hb e0 e1 e2 e3 e4 e5
        go_wp2_with fail
        go_roundg (l.length - (kk + 1))
        case measure => omega
        case rel => exact ⟨kk + 1, by omega, by omega, by go_num, by rw [HS.out], HB1.out⟩
      · cases hg : goodB x.f1
        · have e : lineB x = [] := by unfold lineB mayB; rw [hbx, hg]; rfl
          rw [e, List.append_nil] at HS
          have HBX := Aside0.mk (boxnum_calls x.f0)
          rw [hbx] at HBX
          rw [hg] at HG
          clear e l4 g4 l5 g5
          generalize hac : (l.take kk).flatMap lineB = ac at *
          obtain ⟨m, k, n, fd, fs, ks⟩ := x
          simp only at HBX HC HG
          generalize fs.length = n3 at *
          generalize ks.length = n4 at *
          obtain ⟨e0, e1, e2, e3, e4, e5⟩ := HC.out wr BW.out
          go_wp2_with fail
          refine (HBX.out _).mono ?_
          rintro e w1 ⟨rfl, hb⟩
          have HB1 := Aside0.mk (below_step BW.out hb)
          clear hb e0 e1 e2 e3 e4 e5
          obtain ⟨e0, e1, e2, e3, e4, e5⟩ := HC.out w1 HB1.out
          go_wp2_with fail
          refine (HG.out _ HB1.out).mono ?_
          rintro e w2 ⟨rfl, hb⟩
          have HB2 := Aside0.mk (below_step HB1.out hb)
          clear hb e0 e1 e2 e3 e4 e5
          go_wp2_with fail
          go_roundg (l.length - (kk + 1))
          case measure => omega
          case rel => exact ⟨kk + 1, by omega, by omega, by go_num, by rw [HS.out], HB2.out⟩
        · have e : lineB x = [98, 111, 120, 32] ++ digits x.f0 ++ [32, 61, 32] ++ exprT x.f1 ++ [59, 10] := by unfold lineB mayB; rw [hbx, hg]; rfl
          rw [e] at HS
          have hL3 : (str ((l.take kk).flatMap lineB)).size + 4 + (str (digits x.f0)).size + 3 + (str (exprT x.f1)).size + 2 ≤ 140737488355000 := by
            have h1 := HL.out
            have h2 := HL2.out
            rw [HS.out] at h2
            simp only [str_size, List.length_append] at h1 h2 ⊢
            simp only [List.length_cons, List.length_nil] at h2
            omega
          have HE := Aside0.mk (fun W' (hb : Below W.heap.size W W') => ref_all x.f1 (by unfold goodB at hg; simp at hg; exact hg.2) W' _ (k26.K_below hb (k26_mk W x.f1 l4 g4 l5 g5)) (by rw [← str_size]; omega))
          have HBX := Aside0.mk (boxnum_calls x.f0)
          have HN := Aside0.mk (show 0 ≤ x.f0 ∧ x.f0 ≤ 999999999999999999 from by have := boxB_lt hbx; omega)
          rw [hbx] at HBX
          rw [hg] at HG
          clear e l4 g4 l5 g5
          generalize hac : (l.take kk).flatMap lineB = ac at *
          generalize exprT x.f1 = tx at *
          obtain ⟨m, k, n, fd, fs, ks⟩ := x
          simp only at HBX HC HG HE HN HS hL3
          generalize fs.length = n3 at *
          generalize ks.length = n4 at *
          obtain ⟨e0, e1, e2, e3, e4, e5⟩ := HC.out wr BW.out
          go_wp2_with fail
          refine (HBX.out _).mono ?_
          rintro e w1 ⟨rfl, hb⟩
          have HB1 := Aside0.mk (below_step BW.out hb)
          clear hb e0 e1 e2 e3 e4 e5
          obtain ⟨e0, e1, e2, e3, e4, e5⟩ := HC.out w1 HB1.out
          go_wp2_with fail
          refine (HG.out _ HB1.out).mono ?_
          rintro e w2 ⟨rfl, hb⟩
          have BW := Aside0.mk (below_step HB1.out hb)
          clear hb e0 e1 e2 e3 e4 e5
          go_wp2_with fail
          generalize had : ad.add (kk * 6) = ad6 at *
          have n1 : ¬ 9223372036854775807 < (str ac).size + 4 := by omega
          have n2 : ¬ 9223372036854775807 < (str ac).size + 4 + (str (digits m)).size := by omega
          have n3' : ¬ 9223372036854775807 < (str ac).size + 4 + (str (digits m)).size + 3 := by omega
          have n4' : ¬ 9223372036854775807 < (str ac).size + 4 + (str (digits m)).size + 3 + (str tx).size := by omega
          have n5 : ¬ 9223372036854775807 < (str ac).size + 4 + (str (digits m)).size + 3 + (str tx).size + 2 := by omega
          refine start_ (n := 19) (S := fun w' => Below W.heap.size W w' ∧ w'.cell? ad6 = some (.int .i64 m) ∧ w'.cell? ⟨ad6.block, ad6.off + 1, none⟩ = some (.int .i64 k) ∧ w'.cell? ⟨ad6.block, ad6.off + 2, none⟩ = some (.int .i64 n) ∧ w'.cell? ⟨ad6.block, ad6.off + 3, none⟩ = some (.string fd) ∧ w'.cell? ⟨ad6.block, ad6.off + 4, none⟩ = some (.slice A4 n3 c4) ∧ w'.cell? ⟨ad6.block, ad6.off + 5, none⟩ = some (.slice A5 n4 c5)) (ds := []) #[false, false, false, false, false, false, false, false, false, false, false, false, false, false, false, false, false, false, false] (by kernel_rfl) rfl rfl ⟨BW.out.drew, (HC.out _ BW.out.drew)⟩ (fun hHeld => ?_)
          refine pure_ (i := 0) (N := some 25) (v := ?_) (a' := ?_) #[true, false, false, false, false, false, false, false, false, false, false, false, false, false, false, false, false, false, false] rfl rfl (by kernel_rfl) (fun _ _ _ h => h) (Or.inl ⟨by rfl, ?_⟩) ?_ ?_
          rotate_left
          · intro w'
            go_simp
            with_reducible rfl
          rotate_left
          · simp only [Act.put, List.setIfInBounds_toArray, List.set_cons_zero, List.set_cons_succ, i64_w, i32_w]
            rfl
          refine pure_ (i := 1) (N := some 26) (v := ?_) (a' := ?_) #[true, true, false, false, false, false, false, false, false, false, false, false, false, false, false, false, false, false, false] rfl rfl (by kernel_rfl) (fun _ _ _ h => h) (Or.inl ⟨by rfl, ?_⟩) ?_ ?_
          rotate_left
          · intro w'
            go_simp
            with_reducible rfl
          rotate_left
          · simp only [Act.put, List.setIfInBounds_toArray, List.set_cons_zero, List.set_cons_succ, i64_w, i32_w]
            rfl
          refine pure_ (i := 2) (N := some 27) (v := ?_) (a' := ?_) #[true, true, true, false, false, false, false, false, false, false, false, false, false, false, false, false, false, false, false] rfl rfl (by kernel_rfl) (fun _ _ _ h => h) (Or.inl ⟨by rfl, ?_⟩) ?_ ?_
          rotate_left
          · intro w'
            go_simp
            with_reducible rfl
          rotate_left
          · simp only [Act.put, List.setIfInBounds_toArray, List.set_cons_zero, List.set_cons_succ, i64_w, i32_w]
            rfl
          refine pure_ (i := 3) (N := some 28) (v := ?_) (a' := ?_) #[true, true, true, true, false, false, false, false, false, false, false, false, false, false, false, false, false, false, false] rfl rfl (by kernel_rfl) (fun _ _ _ h => h) (Or.inl ⟨by rfl, ?_⟩) ?_ ?_
          rotate_left
          · intro w'
            go_simp
            with_reducible rfl
          rotate_left
          · simp only [Act.put, List.setIfInBounds_toArray, List.set_cons_zero, List.set_cons_succ, i64_w, i32_w]
            rfl
          refine pure_ (i := 4) (N := some 29) (v := ?_) (a' := ?_) #[true, true, true, true, true, false, false, false, false, false, false, false, false, false, false, false, false, false, false] rfl rfl (by kernel_rfl) (fun _ _ _ h => h) (Or.inl ⟨by rfl, ?_⟩) ?_ ?_
          rotate_left
          · intro w'
            go_simp
            with_reducible rfl
          rotate_left
          · simp only [Act.put, List.setIfInBounds_toArray, List.set_cons_zero, List.set_cons_succ, i64_w, i32_w]
            rfl
          refine pure_ (i := 5) (N := some 30) (v := ?_) (a' := ?_) #[true, true, true, true, true, true, false, false, false, false, false, false, false, false, false, false, false, false, false] rfl rfl (by kernel_rfl) (fun _ _ _ h => h) (Or.inl ⟨by rfl, ?_⟩) ?_ ?_
          rotate_left
          · intro w'
            go_simp
            with_reducible rfl
          rotate_left
          · simp only [Act.put, List.setIfInBounds_toArray, List.set_cons_zero, List.set_cons_succ, i64_w, i32_w]
            rfl
          refine pure_ (i := 10) (N := some 35) (v := ?_) (a' := ?_) #[true, true, true, true, true, true, false, false, false, false, true, false, false, false, false, false, false, false, false] rfl rfl (by kernel_rfl) (fun _ _ _ h => h) (Or.inl ⟨by rfl, ?_⟩) ?_ ?_
          rotate_left
          · intro w'
            go_simp
            with_reducible rfl
          rotate_left
          · simp only [Act.put, List.setIfInBounds_toArray, List.set_cons_zero, List.set_cons_succ, i64_w, i32_w]
            rfl
          refine pure_ (i := 11) (N := some 36) (v := ?_) (a' := ?_) #[true, true, true, true, true, true, false, false, false, false, true, true, false, false, false, false, false, false, false] rfl rfl (by kernel_rfl) (fun _ _ _ h => h) (Or.inl ⟨by rfl, ?_⟩) ?_ ?_
          rotate_left
          · intro w'
            go_simp
            with_reducible rfl
          rotate_left
          · simp only [Act.put, List.setIfInBounds_toArray, List.set_cons_zero, List.set_cons_succ, i64_w, i32_w]
            rfl
          refine pure_ (i := 12) (N := some 37) (v := ?_) (a' := ?_) #[true, true, true, true, true, true, false, false, false, false, true, true, true, false, false, false, false, false, false] rfl rfl (by kernel_rfl) (fun _ _ _ h => h) (Or.inl ⟨by rfl, ?_⟩) ?_ ?_
          rotate_left
          · intro w'
            go_simp
            with_reducible rfl
          rotate_left
          · simp only [Act.put, List.setIfInBounds_toArray, List.set_cons_zero, List.set_cons_succ, i64_w, i32_w]
            rfl
          refine pure_ (i := 13) (N := some 38) (v := ?_) (a' := ?_) #[true, true, true, true, true, true, false, false, false, false, true, true, true, true, false, false, false, false, false] rfl rfl (by kernel_rfl) (fun _ _ _ h => h) (Or.inl ⟨by rfl, ?_⟩) ?_ ?_
          rotate_left
          · intro w'
            go_simp
            with_reducible rfl
          rotate_left
          · simp only [Act.put, List.setIfInBounds_toArray, List.set_cons_zero, List.set_cons_succ, i64_w, i32_w]
            rfl
          refine take_ (i := 6) (N := some 31) (v := ?_) (a' := ?_) #[true, true, true, true, true, true, true, false, false, false, true, true, true, true, false, false, false, false, false] rfl rfl (by kernel_rfl) (fun _ _ _ h => h) (Or.inl ⟨by rfl, ?_⟩) hHeld ?_ ?_
          rotate_left
          · rintro w' ⟨s0, s1, s2, s3, s4, s5, s6⟩
            go_simp
            with_reducible rfl
          rotate_left
          · simp only [Act.put, List.setIfInBounds_toArray, List.set_cons_zero, List.set_cons_succ, i64_w, i32_w]
            rfl
          refine take_ (i := 14) (N := some 39) (v := ?_) (a' := ?_) #[true, true, true, true, true, true, true, false, false, false, true, true, true, true, true, false, false, false, false] rfl rfl (by kernel_rfl) (fun _ _ _ h => h) (Or.inl ⟨by rfl, ?_⟩) hHeld ?_ ?_
          rotate_left
          · rintro w' ⟨s0, s1, s2, s3, s4, s5, s6⟩
            go_simp
            with_reducible rfl
          rotate_left
          · simp only [Act.put, List.setIfInBounds_toArray, List.set_cons_zero, List.set_cons_succ, i64_w, i32_w]
            rfl
          refine one_ (i := 7) (N := some 32) #[true, true, true, true, true, true, true, true, false, false, true, true, true, true, true, false, false, false, false] rfl rfl (by kernel_rfl) (by decide) (fun K hK => ?_)
          refine goes_ Tryd.func28 (by kernel_rfl) rfl #[.int .i64 m] (by rfl) rfl rfl (by simp only [List.map_toArray, List.map_cons, List.map_nil]; rfl) ?_
          refine (decimal_calls m HN.out.1 HN.out.2 _).mono ?_
          rintro e w3 ⟨rfl, hb⟩
          refine ⟨_, rfl, ?_⟩
          have hB3 := hHeld.1.trans (hb.mono hHeld.1.size)
          refine hK.out _ _ ⟨hB3, (HC.out _ hB3)⟩ (fun hHeld => ?_)
          clear hK K
          refine norm_ (a' := ?_) ?_ ?_
          rotate_left
          · show Act.put _ (some 32) _ = _
            simp only [Act.put, List.setIfInBounds_toArray, List.set_cons_zero, List.set_cons_succ, i64_w, i32_w]
            rfl
          refine pure_ (i := 8) (N := some 33) (v := ?_) (a' := ?_) #[true, true, true, true, true, true, true, true, true, false, true, true, true, true, true, false, false, false, false] rfl rfl (by kernel_rfl) (fun _ _ _ h => h) (Or.inl ⟨by rfl, ?_⟩) ?_ ?_
          rotate_left
          · intro w'
            go_simp
            with_reducible rfl
          rotate_left
          · simp only [Act.put, List.setIfInBounds_toArray, List.set_cons_zero, List.set_cons_succ, i64_w, i32_w]
            rfl
          refine pure_ (i := 9) (N := some 34) (v := ?_) (a' := ?_) #[true, true, true, true, true, true, true, true, true, true, true, true, true, true, true, false, false, false, false] rfl rfl (by kernel_rfl) (fun _ _ _ h => h) (Or.inl ⟨by rfl, ?_⟩) ?_ ?_
          rotate_left
          · intro w'
            go_simp
            with_reducible rfl
          rotate_left
          · simp only [Act.put, List.setIfInBounds_toArray, List.set_cons_zero, List.set_cons_succ, i64_w, i32_w]
            rfl
          refine one_ (i := 15) (N := some 40) #[true, true, true, true, true, true, true, true, true, true, true, true, true, true, true, true, false, false, false] rfl rfl (by kernel_rfl) (by decide) (fun K hK => ?_)
          refine goes_ Tryd.func23 (by kernel_rfl) rfl #[.agg #[.int .i64 k, .int .i64 n, .string fd, .slice A4 n3 c4, .slice A5 n4 c5]] (by rfl) rfl rfl (by simp only [List.map_toArray, List.map_cons, List.map_nil]; rfl) ?_
          refine (HE.out _ hHeld.1).mono ?_
          rintro e w3 ⟨rfl, hb⟩
          refine ⟨_, rfl, ?_⟩
          have hB3 := hHeld.1.trans (hb.mono hHeld.1.size)
          refine hK.out _ _ ⟨hB3, (HC.out _ hB3)⟩ (fun hHeld => ?_)
          clear hK K
          refine norm_ (a' := ?_) ?_ ?_
          rotate_left
          · show Act.put _ (some 40) _ = _
            simp only [Act.put, List.setIfInBounds_toArray, List.set_cons_zero, List.set_cons_succ, i64_w, i32_w]
            rfl
          refine pure_ (i := 16) (N := some 41) (v := ?_) (a' := ?_) #[true, true, true, true, true, true, true, true, true, true, true, true, true, true, true, true, true, false, false] rfl rfl (by kernel_rfl) (fun _ _ _ h => h) (Or.inl ⟨by rfl, ?_⟩) ?_ ?_
          rotate_left
          · intro w'
            go_simp
            with_reducible rfl
          rotate_left
          · simp only [Act.put, List.setIfInBounds_toArray, List.set_cons_zero, List.set_cons_succ, i64_w, i32_w]
            rfl
          refine pure_ (i := 17) (N := some 42) (v := ?_) (a' := ?_) #[true, true, true, true, true, true, true, true, true, true, true, true, true, true, true, true, true, true, false] rfl rfl (by kernel_rfl) (fun _ _ _ h => h) (Or.inl ⟨by rfl, ?_⟩) ?_ ?_
          rotate_left
          · intro w'
            go_simp
            with_reducible rfl
          rotate_left
          · simp only [Act.put, List.setIfInBounds_toArray, List.set_cons_zero, List.set_cons_succ, i64_w, i32_w]
            rfl
          refine pure_ (i := 18) (N := some 3) (v := ?_) (a' := ?_) #[true, true, true, true, true, true, true, true, true, true, true, true, true, true, true, true, true, true, true] rfl rfl (by kernel_rfl) (fun _ _ _ h => h) (Or.inl ⟨by rfl, ?_⟩) ?_ ?_
          rotate_left
          · intro w'
            go_simp
            with_reducible rfl
          rotate_left
          · simp only [Act.put, List.setIfInBounds_toArray, List.set_cons_zero, List.set_cons_succ, i64_w, i32_w]
            rfl
          refine done_ (by kernel_rfl) ?_

          go_wp2_with fail
          go_roundg (l.length - (kk + 1))
          case measure => omega
          case rel =>
            refine ⟨kk + 1, by omega, by omega, by go_num, ?_, hHeld.1⟩
            rw [HS.out]
            have : str ac ++ str [98, 111, 120, 32] ++ str (digits m) ++ str [32, 61, 32] ++ str tx ++ str [59, 10] = str (ac ++ ([98, 111, 120, 32] ++ digits m ++ [32, 61, 32] ++ tx ++ [59, 10])) := by simp only [str_add, List.append_assoc]
            rw [← this]
            rfl
    · have e := (List.take_of_length_le (by omega) : l.take kk = l)
      rw [e]
      go_wp2_with fail
      go_ret
      exact ⟨rfl, BW.out⟩
end Go.Proofs.YtgkfpakncjncdaaDoor.Syn
