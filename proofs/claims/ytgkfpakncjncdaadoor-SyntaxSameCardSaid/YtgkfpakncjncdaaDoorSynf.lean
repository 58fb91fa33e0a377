/- syntax's writer: expr at least, most, clamp; totals. -/
import Derived.Test.YtgkfpakncjncdaaDoorSyne
namespace Go.Proofs.YtgkfpakncjncdaaDoor.Syn
open Go.RowKit Go.Lib Go.Proofs.YtgkfpakncjncdaaDoorW.PrintWords Go.Proofs.YtgkfpakncjncdaaDoorW.PrintLast Go.Proofs.YtgkfpakncjncdaaDoorW.PrintMore Go.Proofs.YtgkfpakncjncdaaDoor.PSyn
set_option linter.unusedVariables false
set_option linter.unusedSimpArgs false

set_option maxRecDepth 100000 in
set_option maxHeartbeats 4000000 in
theorem expr_call (k : Int) (hk : k = 7 ∨ k = 8 ∨ k = 9) (n : Int) (fd : ByteArray) (c3v : Value) (A4 : Option Addr) (c4 : Nat) (ks : List S26) (b : Nat) (out : List UInt8) (w0 w : World) (g4 : Kd.C k26 w0 A4 ks.length ks) (hx : ∀ x ∈ ks, ExprAt x) (ht : Tab w0) (hb : Below w0.heap.size w0 w) (h : Wr w0.heap.size b out w)
    (hlen : out.length + (callT (if k = 7 then [109, 105, 110] else if k = 8 then [109, 97, 120] else [99, 108, 97, 109, 112]) (ks.map exprT)).length ≤ 140737488355328) :
    Calls Tryd.prog 20 #[.pointer (some ⟨b, 0, none⟩), .agg #[.int .i64 k, .int .i64 n, .string fd, c3v, .slice A4 ks.length c4]] w fun e w' => e = .returned (.tuple #[]) ∧ Wr w0.heap.size b (out ++ callT (if k = 7 then [109, 105, 110] else if k = 8 then [109, 97, 120] else [99, 108, 97, 109, 112]) (ks.map exprT)) w' ∧ Below w0.heap.size w0 w' ∧ Wrote b w w' := by
  have HC := Aside0.mk (fun (word : ByteArray) (hw : word.size ≤ 100) (w1 : World) (out1 : List UInt8) (hb : Below w0.heap.size w0 w1) (hwr : Wr w0.heap.size b out1 w1) hl => call_calls word hw ks A4 c4 b out1 w0 w1 g4 hx ht hb hwr hl)
  have H := Aside0.mk h
  have HL := Aside0.mk hlen
  have HB := Aside0.mk hb
  clear h ht hlen hb hx g4
  generalize ks.map exprT = ts at *
  generalize ks.length = nn at *
  rcases hk with rfl | rfl | rfl
  all_goals
    simp only [if_true, show ¬ (8 : Int) = 7 from by decide, show ¬ (9 : Int) = 7 from by decide, show ¬ (9 : Int) = 8 from by decide, if_false] at HL ⊢
    go_enter Tryd.func20, Tryd.ntmps20
    go_wp2_with fail
    refine (HC.out _ (by decide) _ out (HB.out.alloc H.out.2 _) (H.out.alloc _) HL.out).mono ?_
    rintro e w1 ⟨rfl, h2, h3, h4⟩
    have N := Aside0.mk (And.intro h2 (And.intro h3 h4))
    clear h2 h3 h4
    go_wp2_with fail
    go_end0
    exact ⟨rfl, N.out.1, N.out.2.1, ((Wrote.refl b w).alloc _).trans N.out.2.2⟩

theorem filter_at {w0 : World} {A : Option Addr} {fs : List S54} (h : Kd.C k54 w0 A fs.length fs) (i : Nat) (hi : i < fs.length) :
    ∃ ad, A = some ad ∧ ∀ w, Below w0.heap.size w0 w →
      w.cell? (ad.add (i * 3)) = some (.string fs[i].f0) ∧ w.cell? ⟨(ad.add (i * 3)).block, (ad.add (i * 3)).off + 1, none⟩ = some (.int .u8 fs[i].f1) ∧ w.cell? ⟨(ad.add (i * 3)).block, (ad.add (i * 3)).off + 2, none⟩ = some (.int .i64 fs[i].f2) := by
  obtain ⟨ad, hA, h0, h1, h2⟩ := at_T54 h (i : Int) (by omega) (by omega)
  have e : rd_T54 fs (i : Int) = fs[i] := by simp [rd_T54, List.getD_eq_getElem?_getD, hi]
  rw [e] at h0 h1 h2
  simp only [Int.toNat_natCast] at h0 h1 h2
  refine ⟨ad, hA, fun w hb => ⟨?_, ?_, ?_⟩⟩
  · exact (hb.cell (World.block_lt_of_cell? w0 _ h0)).trans h0
  · exact (hb.cell (World.block_lt_of_cell? w0 _ h1)).trans h1
  · exact (hb.cell (World.block_lt_of_cell? w0 _ h2)).trans h2
theorem flat_take (fs : List S54) (k : Nat) (h : k < fs.length) : (fs.take (k + 1)).flatMap filterT = (fs.take k).flatMap filterT ++ filterT fs[k] := by
  rw [List.take_succ_eq_append_getElem h, List.flatMap_append, List.flatMap_cons, List.flatMap_nil, List.append_nil]
theorem flat_len (fs : List S54) (k : Nat) : ((fs.take k).flatMap filterT).length ≤ (fs.flatMap filterT).length := by
  have h : fs.flatMap filterT = (fs.take k).flatMap filterT ++ (fs.drop k).flatMap filterT := by rw [← List.flatMap_append, List.take_append_drop]
  rw [h, List.length_append]
  omega

theorem tot_len (out : List UInt8) (fd : ByteArray) (fs : List S54) (k : Nat) (h : k < fs.length) (hl : out.length + ([115, 117, 109, 40] ++ fd.data.toList ++ fs.flatMap filterT ++ [41]).length ≤ 140737488355328) :
    (out ++ [115, 117, 109, 40] ++ fd.data.toList ++ (fs.take k).flatMap filterT).length + (catB [⟨#[44, 32]⟩, fs[k].f0, ⟨#[32]⟩, ⟨#[UInt8.ofNat fs[k].f1.toNat]⟩, ⟨#[32]⟩, ⟨(digits fs[k].f2).toArray⟩]).length ≤ 140737488355328 := by
  have h1 := flat_len fs (k + 1)
  rw [flat_take fs k h] at h1
  simp only [List.length_append, filterT, catB] at h1 hl ⊢
  simp at h1 hl ⊢
  omega
/-- what a filter's loop round holds while it puts one text -/
def FS (w0 : World) (b : Nat) (W : World) (g : Nat) (OUT : List UInt8) (x : S54) (w' : World) : Prop :=
  Wr w0.heap.size b OUT w' ∧ Below w0.heap.size w0 w' ∧ Wrote b W w' ∧ W.heap[g]? = some (.cells #[.string x.f0, .int .u8 x.f1, .int .i64 x.f2] 54 (0, 0)) ∧ g ≠ b
section
variable {w0 : World} {b : Nat} {W : World} {g : Nat} {OUT : List UInt8} {x : S54} {w' w'' : World}
theorem FS.alloc (h : FS w0 b W g OUT x w') (o : Obj) : FS w0 b W g OUT x (w'.alloc o) := ⟨h.1.alloc o, h.2.1.alloc h.1.2 o, h.2.2.1.alloc o, h.2.2.2⟩
theorem FS.later (h : FS w0 b W g OUT x w') (hb : Below w'.heap.size w' w'') : FS w0 b W g OUT x w'' := ⟨h.1.below hb, h.2.1.trans (hb.mono h.1.2), h.2.2.1.trans (.of_below hb), h.2.2.2⟩
theorem FS.drew (h : FS w0 b W g OUT x w') : FS w0 b W g OUT x w'.drew := h.later (Below.refl _ _).drew
theorem FS.below0 (h : FS w0 b W g OUT x w') : Below w0.heap.size w0 w' := h.2.1
theorem FS.lt (h : FS w0 b W g OUT x w') : b < w'.heap.size := h.1.lt
theorem FS.cells (h : FS w0 b W g OUT x w') : ∀ i, w'.cell? ⟨g, i, none⟩ = (#[.string x.f0, .int .u8 x.f1, .int .i64 x.f2] : Array Value)[i]? := box_cells h.2.2.2.1 h.2.2.2.2 (by decide) h.2.2.1
theorem FS.c0 (h : FS w0 b W g OUT x w') : w'.cell? ⟨g, 0, none⟩ = some (.string x.f0) := h.cells 0
theorem FS.c1 (h : FS w0 b W g OUT x w') : w'.cell? ⟨g, 1, none⟩ = some (.int .u8 x.f1) := h.cells 1
theorem FS.c2 (h : FS w0 b W g OUT x w') : w'.cell? ⟨g, 2, none⟩ = some (.int .i64 x.f2) := h.cells 2
end
theorem conv_one (w : World) (g : Nat) (n : Int) (h : w.heap[g]? = some (.cells #[.int .u8 n] 5 (0, 0))) (h0 : 0 ≤ n) (h1 : n ≤ 255) : (convert 39 9 (.slice (some ⟨g, 0, none⟩) 1 1)).run Tryd.prog w = .ok (.string ⟨#[UInt8.ofNat n.toNat]⟩) w := by
  refine run_convert_bytes_back w 39 9 5 ⟨g, 0, none⟩ 1 [UInt8.ofNat n.toNat] (by kernel_rfl) (by kernel_rfl) (by kernel_rfl) ?_
  intro j hj
  have e : j = 0 := by simpa using hj
  subst e
  have := Lib.cell_of_heap h 0
  simp only [List.getElem_cons_zero]
  have hn : ((UInt8.ofNat n.toNat).toNat : Int) = n := by simp; omega
  rw [hn]
  exact this
section
variable {P : Program} {ops : Array Oper} {Q : Exit → Act → World → Prop}
/-- a call of a function that a slot holds -/
theorem goesv_ {oi : Oper} {N : Option Tmp} {a : Act} {w : World} {K : Act → World → Prop} {f : FuncId} {fn : Func} {c : Operand} {ar : Array Operand} {ts : Array TypeId} (hf : P.funcs[f]? = some fn) (hname : (fn.name == "runtime.NumGoroutine") = false) (hb : fn.body.isSome = true) (args : Array Value)
    (hw : Region.wanted oi (yielded ops a.tmps) = true) (hN : oi.dst = N) (hop : oi.op = .call { callee := .value c, args := ar, argTypes := ts }) (hc : a.eval c = .func (.func f) #[] #[]) (hargs : ar.map a.eval = args)
    (h : Calls P f args w fun e w' => ∃ v, e = .returned v ∧ K (a.put N v) w') : if Region.wanted oi (yielded ops a.tmps) = true then Oper.wp P oi a w K Q else K (a.put N undef) w := by
  refine call_ f args hw hN ?_ h
  have he := enters_ hf hname hb args w
  unfold execOp
  simp [hop, hc, resolve, Deferred.ofValue, invoke, hargs, he]
end

set_option maxRecDepth 100000 in
set_option maxHeartbeats 4000000 in
theorem expr_total (n : Int) (fd : ByteArray) (A3 : Option Addr) (c3 : Nat) (c4v : Value) (fs : List S54) (b : Nat) (out : List UInt8) (w0 w : World) (g3 : Kd.C k54 w0 A3 fs.length fs) (hfs : ∀ x ∈ fs, 0 ≤ x.f1 ∧ x.f1 ≤ 255 ∧ -9223372036854775808 ≤ x.f2 ∧ x.f2 ≤ 9223372036854775807) (ht : Tab w0) (hb : Below w0.heap.size w0 w) (h : Wr w0.heap.size b out w)
    (hlen : out.length + ([115, 117, 109, 40] ++ fd.data.toList ++ fs.flatMap filterT ++ [41]).length ≤ 140737488355328) :
    Calls Tryd.prog 20 #[.pointer (some ⟨b, 0, none⟩), .agg #[.int .i64 3, .int .i64 n, .string fd, .slice A3 fs.length c3, c4v]] w fun e w' => e = .returned (.tuple #[]) ∧ Wr w0.heap.size b (out ++ ([115, 117, 109, 40] ++ fd.data.toList ++ fs.flatMap filterT ++ [41])) w' ∧ Below w0.heap.size w0 w' ∧ Wrote b w w' := by
  have hbig : fs.length ≤ 9223372036854775807 := g3.2.1
  have HR := Aside0.mk g3
  have HF := Aside0.mk hfs
  have H := Aside0.mk h
  have HT := Aside0.mk ht
  have HL := Aside0.mk hlen
  have HB := Aside0.mk hb
  clear h ht hlen hb g3 hfs
  have hT : ∀ T : List UInt8, T = out ++ ([115, 117, 109, 40] ++ fd.data.toList ++ fs.flatMap filterT ++ [41]) →
    Calls Tryd.prog 20 #[.pointer (some ⟨b, 0, none⟩), .agg #[.int .i64 3, .int .i64 n, .string fd, .slice A3 fs.length c3, c4v]] w fun e w' => e = .returned (.tuple #[]) ∧ Wr w0.heap.size b T w' ∧ Below w0.heap.size w0 w' ∧ Wrote b w w' := by
    intro T hT
    have HTT := Aside0.mk hT
    clear hT
    go_enter Tryd.func20, Tryd.ntmps20
    go_wp2_with fail
    refine (put_new w0.heap.size b out [⟨#[115, 117, 109, 40]⟩, fd] (w.alloc (.cells #[.int .i64 _, .int .i64 n, .string fd, .slice _ _ c3, c4v] 26)) _ (by simp) (H.out.alloc _) (by simp) (by have := HL.out; simp [catB] at this ⊢; omega)).mono ?_
    rintro e w1 ⟨rfl, h2, h3, h4⟩
    have N := Aside0.mk (And.intro h2 (And.intro h3 h4))
    have hbc := box_cells (heap_alloc_new w _) (by have := H.out.lt; omega) (by decide) h4
    have HB1 := Aside0.mk ((HB.out.alloc H.out.2 _).trans h3)
    clear h2 h3 h4
    go_wp2_with fail
    go_loopg [37] fs.length (fun gg s37 wr => ∃ kk : Nat, kk ≤ fs.length ∧ fs.length - kk ≤ gg ∧ s37 = .int .i64 kk ∧ Aside (Wr w0.heap.size b (out ++ [115, 117, 109, 40] ++ fd.data.toList ++ (fs.take kk).flatMap filterT) wr) ∧ Aside (Below w0.heap.size w0 wr) ∧ Aside (Wrote b w wr))
    case atStart =>
      refine ⟨0, Nat.zero_le _, by omega, rfl, ?_, HB1.out, (((Wrote.refl b w).alloc _).trans N.out.2.2)⟩
      show Wr _ _ _ _
      have := N.out.1
      simpa [catB] using this
    case round =>
      obtain ⟨kk, hkk, hgg, rfl, HW, BW, WW⟩ := hrel
      by_cases hlt : kk < fs.length
      · have hltz : (kk : Int) < (fs.length : Int) := by omega
        obtain ⟨ad, hA, hcells⟩ := filter_at HR.out kk hlt
        obtain ⟨e0, e1, e2⟩ := hcells wr BW.out
        subst hA
        have HS := Aside0.mk (flat_take fs kk hlt)
        have HL3 := Aside0.mk (tot_len out fd fs kk hlt HL.out)
        have HX := Aside0.mk (HF.out fs[kk] (List.getElem_mem hlt))
        generalize fs[kk] = x at *
        generalize hO : out ++ [115, 117, 109, 40] ++ fd.data.toList ++ (fs.take kk).flatMap filterT = OUTK at HW HL3
        have hFS0 : FS w0 b (wr.alloc (.cells #[.string x.f0, .int .u8 x.f1, .int .i64 x.f2] 54)) wr.heap.size OUTK x (wr.alloc (.cells #[.string x.f0, .int .u8 x.f1, .int .i64 x.f2] 54)) := ⟨HW.out.alloc _, BW.out.alloc HW.out.2 _, Wrote.refl _ _, heap_alloc_new wr _, by have := HW.out.lt; omega⟩
        have HFS := Aside0.mk hFS0
        clear hFS0
        go_wp2_with fail
        clear e0 e1 e2
        have hFS := HFS.out
        clear HFS
        generalize hW : wr.alloc (.cells #[.string x.f0, .int .u8 x.f1, .int .i64 x.f2] 54) = W at hFS ⊢
        generalize wr.heap.size = g at hFS ⊢
        refine start_ (n := 13) (S := fun w' => FS w0 b W g OUTK x w' ∧ w'.cell? ⟨g, 0, none⟩ = some (.string x.f0) ∧ w'.cell? ⟨g, 1, none⟩ = some (.int .u8 x.f1) ∧ w'.cell? ⟨g, 2, none⟩ = some (.int .i64 x.f2)) (ds := [12]) #[false, false, false, false, false, false, false, false, false, false, false, false, false] (by kernel_rfl) rfl rfl ⟨hFS.drew, hFS.drew.c0, hFS.drew.c1, hFS.drew.c2⟩ (fun hHeld => ?_)
        refine pure_ (i := 0) (N := some 41) (v := ?_) (a' := ?_) #[true, false, false, false, false, false, false, false, false, false, false, false, false] rfl rfl (by kernel_rfl) (fun _ _ _ h => h) (Or.inl ⟨by rfl, ?_⟩) ?_ ?_
        rotate_left
        · intro w'
          go_simp
          with_reducible rfl
        rotate_left
        · simp only [Act.put, List.setIfInBounds_toArray, List.set_cons_zero, List.set_cons_succ, i64_w, i32_w]
          rfl
        refine pure_ (i := 1) (N := some 42) (v := ?_) (a' := ?_) #[true, true, false, false, false, false, false, false, false, false, false, false, false] rfl rfl (by kernel_rfl) (fun _ _ _ h => h) (Or.inl ⟨by rfl, ?_⟩) ?_ ?_
        rotate_left
        · intro w'
          go_simp
          with_reducible rfl
        rotate_left
        · simp only [Act.put, List.setIfInBounds_toArray, List.set_cons_zero, List.set_cons_succ, i64_w, i32_w]
          rfl
        refine pure_ (i := 3) (N := some 44) (v := ?_) (a' := ?_) #[true, true, false, true, false, false, false, false, false, false, false, false, false] rfl rfl (by kernel_rfl) (fun _ _ _ h => h) (Or.inl ⟨by rfl, ?_⟩) ?_ ?_
        rotate_left
        · intro w'
          go_simp
          with_reducible rfl
        rotate_left
        · simp only [Act.put, List.setIfInBounds_toArray, List.set_cons_zero, List.set_cons_succ, i64_w, i32_w]
          rfl
        refine pure_ (i := 7) (N := some 48) (v := ?_) (a' := ?_) #[true, true, false, true, false, false, false, true, false, false, false, false, false] rfl rfl (by kernel_rfl) (fun _ _ _ h => h) (Or.inl ⟨by rfl, ?_⟩) ?_ ?_
        rotate_left
        · intro w'
          go_simp
          with_reducible rfl
        rotate_left
        · simp only [Act.put, List.setIfInBounds_toArray, List.set_cons_zero, List.set_cons_succ, i64_w, i32_w]
          rfl
        refine pure_ (i := 8) (N := some 49) (v := ?_) (a' := ?_) #[true, true, false, true, false, false, false, true, true, false, false, false, false] rfl rfl (by kernel_rfl) (fun _ _ _ h => h) (Or.inl ⟨by rfl, ?_⟩) ?_ ?_
        rotate_left
        · intro w'
          go_simp
          with_reducible rfl
        rotate_left
        · simp only [Act.put, List.setIfInBounds_toArray, List.set_cons_zero, List.set_cons_succ, i64_w, i32_w]
          rfl
        refine take_ (i := 2) (N := some 43) (v := ?_) (a' := ?_) #[true, true, true, true, false, false, false, true, true, false, false, false, false] rfl rfl (by kernel_rfl) (fun _ _ _ h => h) (Or.inl ⟨by rfl, ?_⟩) hHeld ?_ ?_
        rotate_left
        · rintro w' ⟨s0, s1, s2, s3⟩
          go_simp
          with_reducible rfl
        rotate_left
        · simp only [Act.put, List.setIfInBounds_toArray, List.set_cons_zero, List.set_cons_succ, i64_w, i32_w]
          rfl
        refine take_ (i := 4) (N := some 45) (v := ?_) (a' := ?_) #[true, true, true, true, true, false, false, true, true, false, false, false, false] rfl rfl (by kernel_rfl) (fun _ _ _ h => h) (Or.inl ⟨by rfl, ?_⟩) hHeld ?_ ?_
        rotate_left
        · rintro w' ⟨s0, s1, s2, s3⟩
          go_simp
          with_reducible rfl
        rotate_left
        · simp only [Act.put, List.setIfInBounds_toArray, List.set_cons_zero, List.set_cons_succ, i64_w, i32_w]
          rfl
        refine take_ (i := 9) (N := some 50) (v := ?_) (a' := ?_) #[true, true, true, true, true, false, false, true, true, true, false, false, false] rfl rfl (by kernel_rfl) (fun _ _ _ h => h) (Or.inl ⟨by rfl, ?_⟩) hHeld ?_ ?_
        rotate_left
        · rintro w' ⟨s0, s1, s2, s3⟩
          go_simp
          with_reducible rfl
        rotate_left
        · simp only [Act.put, List.setIfInBounds_toArray, List.set_cons_zero, List.set_cons_succ, i64_w, i32_w]
          rfl
        refine join_ (σ := Nat) 2 #[true, true, true, true, true, true, true, true, true, true, true, false, false] (fun g1 => [(46, .slice (some ⟨g1, 0, none⟩) 1 1), (47, .string ⟨#[UInt8.ofNat x.f1.toNat]⟩), (51, .string ⟨(digits x.f2).toArray⟩)]) (fun g1 w' => FS w0 b W g OUTK x w') ?_ ?_
        rotate_left
        · intro hCont
          refine two_ (i := 5) (j := 10) (Ni := some 46) (Nj := some 51) #[true, true, true, true, true, true, false, true, true, true, false, false, false] #[true, true, true, true, true, false, false, true, true, true, true, false, false] rfl rfl rfl rfl (by kernel_rfl) (by decide) (by decide) (fun K hK => ?_) (fun K hK => ?_)
          · skip
            have h5 := heap_alloc_new (W.drew) (.cells #[.int .u8 x.f1] 5)
            have h5g : (W.drew).heap.size ≠ b := by have := hHeld.1.lt; omega
            refine value_ (w1 := ?_) (v := ?_) (by rfl) rfl ?_ ?_
            rotate_left 2
            · go_simp
              constructor
              · rfl
              · rfl
            refine hK.out _ _ ⟨(hHeld.1.alloc (.cells #[.int .u8 x.f1] 5)), (hHeld.1.alloc (.cells #[.int .u8 x.f1] 5)).c0, (hHeld.1.alloc (.cells #[.int .u8 x.f1] 5)).c1, (hHeld.1.alloc (.cells #[.int .u8 x.f1] 5)).c2⟩ (fun hHeld => ?_)
            clear hK K
            refine norm_ (a' := ?_) ?_ ?_
            rotate_left
            · show Act.put _ (some 46) _ = _
              simp only [Act.put, List.setIfInBounds_toArray, List.set_cons_zero, List.set_cons_succ, i64_w, i32_w]
              rfl
            refine two_ (i := 6) (j := 10) (Ni := some 47) (Nj := some 51) #[true, true, true, true, true, true, true, true, true, true, false, false, false] #[true, true, true, true, true, true, false, true, true, true, true, false, false] rfl rfl rfl rfl (by kernel_rfl) (by decide) (by decide) (fun K hK => ?_) (fun K hK => ?_)
            · skip
              have kc := conv_one (W.drew.alloc (.cells #[.int .u8 x.f1] 5)) _ _ h5 HX.out.1 HX.out.2.1
              refine value_ (w1 := (W.drew.alloc (.cells #[.int .u8 x.f1] 5))) (v := .string ⟨#[UInt8.ofNat x.f1.toNat]⟩) (by rfl) rfl ?_ ?_
              · go_simp
                all_goals exact congrArg (fun r : Result Value => r.andThen fun a w' => .ok (Next.value a) w') kc
              refine hK.out _ _ ⟨hHeld.1, hHeld.1.c0, hHeld.1.c1, hHeld.1.c2⟩ (fun hHeld => ?_)
              clear hK K
              refine norm_ (a' := ?_) ?_ ?_
              rotate_left
              · show Act.put _ (some 47) _ = _
                simp only [Act.put, List.setIfInBounds_toArray, List.set_cons_zero, List.set_cons_succ, i64_w, i32_w]
                rfl
              refine one_ (i := 10) (N := some 51) #[true, true, true, true, true, true, true, true, true, true, true, false, false] rfl rfl (by kernel_rfl) (by decide) (fun K hK => ?_)
              refine goesv_ Tryd.func35 (by kernel_rfl) rfl #[.int .i64 x.f2] (by rfl) rfl rfl rfl (by simp only [List.map_toArray, List.map_cons, List.map_nil]; rfl) ?_
              with_reducible refine (digits_calls x.f2 HX.out.2.2.1 HX.out.2.2.2 _ (HT.out.later hHeld.1.below0)).mono ?_
              rintro e w3 ⟨rfl, hb⟩
              refine ⟨_, rfl, ?_⟩
              have h5 := (hb.block _ (by simp)).trans h5
              refine hK.out _ _ ⟨(hHeld.1.later hb), (hHeld.1.later hb).c0, (hHeld.1.later hb).c1, (hHeld.1.later hb).c2⟩ (fun hHeld => ?_)
              clear hK K
              refine norm_ (a' := ?_) ?_ ?_
              rotate_left
              · show Act.put _ (some 51) _ = _
                simp only [Act.put, List.setIfInBounds_toArray, List.set_cons_zero, List.set_cons_succ, i64_w, i32_w]
                rfl
              exact norm_ (by first | (simp only [putAll, Act.put, List.setIfInBounds_toArray, List.set_cons_zero, List.set_cons_succ]; done) | (simp only [putAll, Act.put, List.setIfInBounds_toArray, List.set_cons_zero, List.set_cons_succ]; rfl)) (hCont (W.drew.heap.size) _ hHeld.1)
            · skip
              refine goesv_ Tryd.func35 (by kernel_rfl) rfl #[.int .i64 x.f2] (by rfl) rfl rfl rfl (by simp only [List.map_toArray, List.map_cons, List.map_nil]; rfl) ?_
              with_reducible refine (digits_calls x.f2 HX.out.2.2.1 HX.out.2.2.2 _ (HT.out.later hHeld.1.below0)).mono ?_
              rintro e w3 ⟨rfl, hb⟩
              refine ⟨_, rfl, ?_⟩
              have h5 := (hb.block _ (by simp)).trans h5
              refine hK.out _ _ ⟨(hHeld.1.later hb), (hHeld.1.later hb).c0, (hHeld.1.later hb).c1, (hHeld.1.later hb).c2⟩ (fun hHeld => ?_)
              clear hK K
              refine norm_ (a' := ?_) ?_ ?_
              rotate_left
              · show Act.put _ (some 51) _ = _
                simp only [Act.put, List.setIfInBounds_toArray, List.set_cons_zero, List.set_cons_succ, i64_w, i32_w]
                rfl
              refine one_ (i := 6) (N := some 47) #[true, true, true, true, true, true, true, true, true, true, true, false, false] rfl rfl (by kernel_rfl) (by decide) (fun K hK => ?_)
              have kc := conv_one w3 _ _ h5 HX.out.1 HX.out.2.1
              refine value_ (w1 := w3) (v := .string ⟨#[UInt8.ofNat x.f1.toNat]⟩) (by rfl) rfl ?_ ?_
              · go_simp
                all_goals exact congrArg (fun r : Result Value => r.andThen fun a w' => .ok (Next.value a) w') kc
              refine hK.out _ _ ⟨hHeld.1, hHeld.1.c0, hHeld.1.c1, hHeld.1.c2⟩ (fun hHeld => ?_)
              clear hK K
              refine norm_ (a' := ?_) ?_ ?_
              rotate_left
              · show Act.put _ (some 47) _ = _
                simp only [Act.put, List.setIfInBounds_toArray, List.set_cons_zero, List.set_cons_succ, i64_w, i32_w]
                rfl
              exact norm_ (by first | (simp only [putAll, Act.put, List.setIfInBounds_toArray, List.set_cons_zero, List.set_cons_succ]; done) | (simp only [putAll, Act.put, List.setIfInBounds_toArray, List.set_cons_zero, List.set_cons_succ]; rfl)) (hCont (W.drew.heap.size) _ hHeld.1)
          · skip
            refine goesv_ Tryd.func35 (by kernel_rfl) rfl #[.int .i64 x.f2] (by rfl) rfl rfl rfl (by simp only [List.map_toArray, List.map_cons, List.map_nil]; rfl) ?_
            with_reducible refine (digits_calls x.f2 HX.out.2.2.1 HX.out.2.2.2 _ (HT.out.later hHeld.1.below0)).mono ?_
            rintro e w3 ⟨rfl, hb⟩
            refine ⟨_, rfl, ?_⟩
            refine hK.out _ _ ⟨(hHeld.1.later hb), (hHeld.1.later hb).c0, (hHeld.1.later hb).c1, (hHeld.1.later hb).c2⟩ (fun hHeld => ?_)
            clear hK K
            refine norm_ (a' := ?_) ?_ ?_
            rotate_left
            · show Act.put _ (some 51) _ = _
              simp only [Act.put, List.setIfInBounds_toArray, List.set_cons_zero, List.set_cons_succ, i64_w, i32_w]
              rfl
            refine one_ (i := 5) (N := some 46) #[true, true, true, true, true, true, false, true, true, true, true, false, false] rfl rfl (by kernel_rfl) (by decide) (fun K hK => ?_)
            have h5 := heap_alloc_new (w3) (.cells #[.int .u8 x.f1] 5)
            have h5g : (w3).heap.size ≠ b := by have := hHeld.1.lt; omega
            refine value_ (w1 := ?_) (v := ?_) (by rfl) rfl ?_ ?_
            rotate_left 2
            · go_simp
              constructor
              · rfl
              · rfl
            refine hK.out _ _ ⟨(hHeld.1.alloc (.cells #[.int .u8 x.f1] 5)), (hHeld.1.alloc (.cells #[.int .u8 x.f1] 5)).c0, (hHeld.1.alloc (.cells #[.int .u8 x.f1] 5)).c1, (hHeld.1.alloc (.cells #[.int .u8 x.f1] 5)).c2⟩ (fun hHeld => ?_)
            clear hK K
            refine norm_ (a' := ?_) ?_ ?_
            rotate_left
            · show Act.put _ (some 46) _ = _
              simp only [Act.put, List.setIfInBounds_toArray, List.set_cons_zero, List.set_cons_succ, i64_w, i32_w]
              rfl
            refine one_ (i := 6) (N := some 47) #[true, true, true, true, true, true, true, true, true, true, true, false, false] rfl rfl (by kernel_rfl) (by decide) (fun K hK => ?_)
            have kc := conv_one (w3.alloc (.cells #[.int .u8 x.f1] 5)) _ _ h5 HX.out.1 HX.out.2.1
            refine value_ (w1 := (w3.alloc (.cells #[.int .u8 x.f1] 5))) (v := .string ⟨#[UInt8.ofNat x.f1.toNat]⟩) (by rfl) rfl ?_ ?_
            · go_simp
              all_goals exact congrArg (fun r : Result Value => r.andThen fun a w' => .ok (Next.value a) w') kc
            refine hK.out _ _ ⟨hHeld.1, hHeld.1.c0, hHeld.1.c1, hHeld.1.c2⟩ (fun hHeld => ?_)
            clear hK K
            refine norm_ (a' := ?_) ?_ ?_
            rotate_left
            · show Act.put _ (some 47) _ = _
              simp only [Act.put, List.setIfInBounds_toArray, List.set_cons_zero, List.set_cons_succ, i64_w, i32_w]
              rfl
            exact norm_ (by first | (simp only [putAll, Act.put, List.setIfInBounds_toArray, List.set_cons_zero, List.set_cons_succ]; done) | (simp only [putAll, Act.put, List.setIfInBounds_toArray, List.set_cons_zero, List.set_cons_succ]; rfl)) (hCont ((w3.heap.size)) _ hHeld.1)
        rintro g1 w' hj
        have hHeld : FS w0 b W g OUTK x w' ∧ w'.cell? ⟨g, 0, none⟩ = some (.string x.f0) ∧ w'.cell? ⟨g, 1, none⟩ = some (.int .u8 x.f1) ∧ w'.cell? ⟨g, 2, none⟩ = some (.int .i64 x.f2) := ⟨hj, hj.c0, hj.c1, hj.c2⟩
        refine norm_ (a' := ?_) ?_ ?_
        rotate_left
        · simp only [putAll, Act.put, List.setIfInBounds_toArray, List.set_cons_zero, List.set_cons_succ]
          rfl
        refine one_ (i := 11) (N := some 52) #[true, true, true, true, true, true, true, true, true, true, true, true, false] rfl rfl (by kernel_rfl) (by decide) (fun K hK => ?_)
        refine value_ (w1 := ?_) (v := ?_) (by rfl) rfl ?_ ?_
        rotate_left 2
        · go_simp
          constructor
          · rfl
          · rfl
        refine hK.out _ _ ⟨(hHeld.1.alloc _), (hHeld.1.alloc _).c0, (hHeld.1.alloc _).c1, (hHeld.1.alloc _).c2⟩ (fun hHeld => ?_)
        clear hK K
        refine norm_ (a' := ?_) ?_ ?_
        rotate_left
        · show Act.put _ (some 52) _ = _
          simp only [Act.put, List.setIfInBounds_toArray, List.set_cons_zero, List.set_cons_succ, i64_w, i32_w]
          rfl
        refine last_ (i := 12) (N := some 53) #[true, true, true, true, true, true, true, true, true, true, true, true, true] rfl rfl (by kernel_rfl) (by decide) (fun K hK => ?_)
        refine goes_ Tryd.func25 (by kernel_rfl) rfl #[.pointer (some ⟨b, 0, none⟩), .slice (some ⟨w'.heap.size, 0, none⟩) 6 6] (by rfl) rfl rfl (by simp only [List.map_toArray, List.map_cons, List.map_nil]; rfl) ?_
        refine (put_new w0.heap.size b OUTK [⟨#[44, 32]⟩, x.f0, ⟨#[32]⟩, ⟨#[UInt8.ofNat x.f1.toNat]⟩, ⟨#[32]⟩, ⟨(digits x.f2).toArray⟩] w' _ rfl hj.1 (by simp) HL3.out).mono ?_
        rintro e w4 ⟨rfl, h2, h3, h4⟩
        refine ⟨_, rfl, ?_⟩
        have N := Aside0.mk (And.intro h2 (And.intro h3 h4))
        refine hK.out _ _ ?_
        clear hK K
        refine norm_ (a' := ?_) ?_ ?_
        rotate_left
        · show Act.put _ (some 53) _ = _
          simp only [Act.put, List.setIfInBounds_toArray, List.set_cons_zero, List.set_cons_succ, i64_w, i32_w]
          rfl
        refine done_ (by kernel_rfl) ?_
        go_wp2_with fail
        go_roundg (fs.length - (kk + 1))
        case measure => omega
        case rel =>
          refine ⟨kk + 1, by omega, by omega, by go_num, ?_, ?_, ?_⟩
          · show Wr _ _ _ _
            have := N.out.1
            rw [HS.out, ← List.append_assoc, hO]
            simpa [catB, filterT] using this
          · exact hj.2.1.trans N.out.2.1
          · subst hW
            exact (WW.out.trans ((Wrote.refl b wr).alloc _)).trans (hj.2.2.1.trans N.out.2.2)
      · go_wp2_with fail
        have e := (List.take_of_length_le (by omega) : fs.take kk = fs)
        refine (put_new w0.heap.size b _ [⟨#[41]⟩] wr _ rfl HW.out (by simp) (by have := HL.out; rw [e]; simp [catB] at this ⊢; omega)).mono ?_
        rintro e w1 ⟨rfl, h2, h3, h4⟩
        have N := Aside0.mk (And.intro h2 (And.intro h3 h4))
        clear h2 h3 h4
        go_wp2_with fail
        go_end0
        refine ⟨rfl, ?_, BW.out.trans N.out.2.1, WW.out.trans N.out.2.2⟩
        have h1 := N.out.1
        rw [e] at h1
        rw [HTT.out]
        simpa [catB] using h1
  exact hT _ rfl
end Go.Proofs.YtgkfpakncjncdaaDoor.Syn
