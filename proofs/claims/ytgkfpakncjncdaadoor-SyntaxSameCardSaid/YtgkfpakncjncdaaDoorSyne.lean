/- syntax's writer: expr writes an expression's text: numbers, boxes. -/
import Derived.Test.YtgkfpakncjncdaaDoorSynd
namespace Go.Proofs.YtgkfpakncjncdaaDoor.Syn
open Go.RowKit Go.Lib Go.Proofs.YtgkfpakncjncdaaDoorW.PrintWords Go.Proofs.YtgkfpakncjncdaaDoorW.PrintLast Go.Proofs.YtgkfpakncjncdaaDoorW.PrintMore Go.Proofs.YtgkfpakncjncdaaDoor.PSyn
set_option linter.unusedVariables false
set_option linter.unusedSimpArgs false

/-- a text, in brackets if it is a sum's -/
def brk (k : Int) (t : List UInt8) : List UInt8 := if k = 4 ∨ k = 5 then [40] ++ t ++ [41] else t
/-- texts, with commas between, behind a word and a bracket -/
def argsT (word : List UInt8) : List (List UInt8) → Nat → List UInt8
  | [], _ => []
  | t :: l, i => (if i = 0 then word ++ [40] else [44, 32]) ++ t ++ argsT word l (i + 1)
def callT (word : List UInt8) (l : List (List UInt8)) : List UInt8 := argsT word l 0 ++ [41]
def filterT (f : S54) : List UInt8 := [44, 32] ++ f.f0.data.toList ++ [32] ++ [UInt8.ofNat f.f1.toNat] ++ [32] ++ digits f.f2
mutual
/-- an expression's text -/
def exprT : S26 → List UInt8
  | ⟨k, n, fd, fs, ks⟩ =>
    if k = 1 then digits n else if k = 2 then [98, 111, 120, 32] ++ digits n
    else if k = 3 then [115, 117, 109, 40] ++ fd.data.toList ++ fs.flatMap filterT ++ [41]
    else if k = 4 then (exprsT ks).getD 0 [] ++ [32, 43, 32] ++ brk (ks.getD 1 z26).f0 ((exprsT ks).getD 1 [])
    else if k = 5 then (exprsT ks).getD 0 [] ++ [32, 45, 32] ++ brk (ks.getD 1 z26).f0 ((exprsT ks).getD 1 [])
    else if k = 6 then [45] ++ brk (ks.getD 0 z26).f0 ((exprsT ks).getD 0 [])
    else if k = 7 then callT [109, 105, 110] (exprsT ks)
    else if k = 8 then callT [109, 97, 120] (exprsT ks)
    else if k = 9 then callT [99, 108, 97, 109, 112] (exprsT ks)
    else []
def exprsT : List S26 → List (List UInt8)
  | [] => []
  | x :: l => exprT x :: exprsT l
end
theorem exprsT_eq (l : List S26) : exprsT l = l.map exprT := by
  induction l with
  | nil => simp [exprsT]
  | cons x l ih => simp [exprsT, ih]

/-- what expr does to its writer -/
def ExprAt (x : S26) : Prop := ∀ (w0 w : World) (cs : List Value) (b : Nat) (out : List UInt8), k26.K w0 x cs → Tab w0 → Below w0.heap.size w0 w → Wr w0.heap.size b out w → out.length + (exprT x).length ≤ 140737488355328 →
  Calls Tryd.prog 20 #[.pointer (some ⟨b, 0, none⟩), .agg cs.toArray] w fun e w' => e = .returned (.tuple #[]) ∧ Wr w0.heap.size b (out ++ exprT x) w' ∧ Below w0.heap.size w0 w' ∧ Wrote b w w'

theorem Wr.lt {B b : Nat} {out : List UInt8} {w : World} (h : Wr B b out w) : b < w.heap.size := by
  rcases h.1 with h | h <;> exact h.lt
theorem Wr.alloc {B b : Nat} {out : List UInt8} {w : World} (h : Wr B b out w) (o : Obj) : Wr B b out (w.alloc o) := by
  have h0 : ∀ p, Lib.BuilderAt 43 5 B b p (Lib.byteCells out) w → Lib.BuilderAt 43 5 B b p (Lib.byteCells out) (w.alloc o) := by
    intro p hp
    have hlt := hp.lt
    obtain ⟨hB, v, hb, ho, hn⟩ := hp
    exact ⟨hB, v, (Lib.alloc_old w o b hlt).trans hb, ho.alloc o, hn⟩
  exact ⟨h.1.imp (h0 _) (h0 _), by have := h.2; simp; omega⟩
theorem Wr.below {B b : Nat} {out : List UInt8} {w w' : World} (h : Wr B b out w) (hb : Below w.heap.size w w') : Wr B b out w' := by
  have h0 : ∀ p, Lib.BuilderAt 43 5 B b p (Lib.byteCells out) w → Lib.BuilderAt 43 5 B b p (Lib.byteCells out) w' := by
    intro p hp
    have hlt := hp.lt
    obtain ⟨hB, v, hbk, ho, hn⟩ := hp
    exact ⟨hB, v, (hb.block b hlt).trans hbk, pw_own_below ho hb, hn⟩
  exact ⟨h.1.imp (h0 _) (h0 _), Nat.le_trans h.2 hb.size⟩

/-- put at a list of texts that has just been laid -/
theorem put_new (B b : Nat) (out : List UInt8) (l : List ByteArray) (w : World) (g : Nat) (hg : w.heap.size = g) (h : Wr B b out w) (hl : l.length ≤ 1000) (hlen : out.length + (catB l).length ≤ 140737488355328) :
    Calls Tryd.prog 25 #[.pointer (some ⟨b, 0, none⟩), .slice (some ⟨g, 0, none⟩) l.length l.length] (w.alloc (.cells (l.map Value.string).toArray 9)) fun e w' => e = .returned (.tuple #[]) ∧ Wr B b (out ++ catB l) w' ∧ Below B w w' ∧ Wrote b w w' := by
  subst hg
  refine (put_calls B b w.heap.size out l l.length _ (h.alloc _) (heap_alloc_new w _) (by have := h.lt; omega) hl hlen).mono ?_
  rintro e w' ⟨rfl, h1, h2, h3⟩
  exact ⟨rfl, h1, ((Below.refl B w).alloc h.2 _).trans h2, ((Wrote.refl b w).alloc _).trans h3⟩

theorem box_cells {w w' : World} {g b : Nat} {cs : Array Value} {t : TypeId} (h : w.heap[g]? = some (.cells cs t (0, 0))) (hb : g ≠ b) (ht : t ≠ 5) (hw : Wrote b w w') : ∀ i, w'.cell? ⟨g, i, none⟩ = cs[i]? := fun i => Lib.cell_of_heap (hw.blk h hb ht) i

set_option maxHeartbeats 2000000 in
theorem expr_num (n : Int) (fd : ByteArray) (c3 c4 : Value) (B b : Nat) (out : List UInt8) (w : World) (h : Wr B b out w) (ht : Tab w) (h0 : -9223372036854775808 ≤ n) (h1 : n ≤ 9223372036854775807) (hlen : out.length + (digits n).length ≤ 140737488355328) :
    Calls Tryd.prog 20 #[.pointer (some ⟨b, 0, none⟩), .agg #[.int .i64 1, .int .i64 n, .string fd, c3, c4]] w fun e w' => e = .returned (.tuple #[]) ∧ Wr B b (out ++ digits n) w' ∧ Below B w w' ∧ Wrote b w w' := by
  have H := Aside0.mk h
  have HT := Aside0.mk ht
  have HL := Aside0.mk hlen
  clear h ht hlen
  go_enter Tryd.func20, Tryd.ntmps20
  go_wp2_with fail
  refine (digits_calls n h0 h1 _ (HT.out.later (by repeat (first | exact Below.refl _ _ | apply below_alloc)))).mono ?_
  rintro e w1 ⟨rfl, hb⟩
  have HB := Aside0.mk hb
  clear hb
  go_wp2_with fail
  refine (put_new B b out [⟨(digits n).toArray⟩] w1 _ rfl ((H.out.alloc _).below HB.out) (by simp) (by have := HL.out; simpa [catB] using this)).mono ?_
  rintro e w2 ⟨rfl, h2, h3, h4⟩
  have N := Aside0.mk (And.intro h2 (And.intro h3 h4))
  clear h2 h3 h4
  go_wp2_with fail
  go_end0
  refine ⟨rfl, by simpa [catB] using N.out.1, ?_, ?_⟩
  · exact (((Below.refl B w).alloc H.out.2 _).trans (HB.out.mono (by have := H.out.2; simp; omega))).trans N.out.2.1
  · exact ((Wrote.refl b w).alloc _).trans ((Wrote.of_below HB.out).trans N.out.2.2)

set_option maxHeartbeats 2000000 in
theorem expr_ref (n : Int) (fd : ByteArray) (c3 c4 : Value) (B b : Nat) (out : List UInt8) (w : World) (h : Wr B b out w) (ht : Tab w) (h0 : -9223372036854775808 ≤ n) (h1 : n ≤ 9223372036854775807) (hlen : out.length + (digits n).length + 4 ≤ 140737488355328) :
    Calls Tryd.prog 20 #[.pointer (some ⟨b, 0, none⟩), .agg #[.int .i64 2, .int .i64 n, .string fd, c3, c4]] w fun e w' => e = .returned (.tuple #[]) ∧ Wr B b (out ++ ([98, 111, 120, 32] ++ digits n)) w' ∧ Below B w w' ∧ Wrote b w w' := by
  have H := Aside0.mk h
  have HT := Aside0.mk ht
  have HL := Aside0.mk hlen
  clear h ht hlen
  go_enter Tryd.func20, Tryd.ntmps20
  go_wp2_with fail
  refine (digits_calls n h0 h1 _ (HT.out.later (by repeat (first | exact Below.refl _ _ | apply below_alloc)))).mono ?_
  rintro e w1 ⟨rfl, hb⟩
  have HB := Aside0.mk hb
  clear hb
  go_wp2_with fail
  refine (put_new B b out [⟨#[98, 111, 120, 32]⟩, ⟨(digits n).toArray⟩] w1 _ rfl ((H.out.alloc _).below HB.out) (by simp) (by have := HL.out; simp [catB]; omega)).mono ?_
  rintro e w2 ⟨rfl, h2, h3, h4⟩
  have N := Aside0.mk (And.intro h2 (And.intro h3 h4))
  clear h2 h3 h4
  go_wp2_with fail
  go_end0
  refine ⟨rfl, by simpa [catB] using N.out.1, ?_, ?_⟩
  · exact (((Below.refl B w).alloc H.out.2 _).trans (HB.out.mono (by have := H.out.2; simp; omega))).trans N.out.2.1
  · exact ((Wrote.refl b w).alloc _).trans ((Wrote.of_below HB.out).trans N.out.2.2)

/-- what tight does to its writer -/
def TightAt (x : S26) : Prop := ∀ (w0 w : World) (cs : List Value) (b : Nat) (out : List UInt8), k26.K w0 x cs → Tab w0 → Below w0.heap.size w0 w → Wr w0.heap.size b out w → out.length + (brk x.f0 (exprT x)).length ≤ 140737488355328 →
  Calls Tryd.prog 37 #[.pointer (some ⟨b, 0, none⟩), .agg cs.toArray] w fun e w' => e = .returned (.tuple #[]) ∧ Wr w0.heap.size b (out ++ brk x.f0 (exprT x)) w' ∧ Below w0.heap.size w0 w' ∧ Wrote b w w'

set_option maxHeartbeats 2000000 in
theorem tight_of (x : S26) (hx : ExprAt x) : TightAt x := by
  intro w0 w cs b out hk ht hb0 h hlen
  have hX := fun (w1 : World) (out1 : List UInt8) (hb : Below w0.heap.size w0 w1) (hw : Wr w0.heap.size b out1 w1) (hl : out1.length + (exprT x).length ≤ 140737488355328) => hx w0 w1 cs b out1 hk ht hb hw hl
  clear hx
  obtain ⟨A3, c3, A4, c4, rfl, l3, g3, l4, g4⟩ := k26_open hk
  clear hk l3 g3 l4 g4
  have HX := Aside0.mk hX
  have H := Aside0.mk h
  have HT := Aside0.mk ht
  have HL := Aside0.mk hlen
  have HB := Aside0.mk hb0
  clear h ht hlen hX hb0
  generalize exprT x = tx at *
  obtain ⟨k, n, fd, fs, ks⟩ := x
  simp only at HX HL ⊢
  generalize fs.length = n3 at HX ⊢
  generalize ks.length = n4 at HX ⊢
  by_cases hs : k = 4 ∨ k = 5
  · have e : brk k tx = [40] ++ tx ++ [41] := by unfold brk; rw [if_pos hs]
    rw [e] at HL ⊢
    clear e
    rcases hs with rfl | rfl
    all_goals
      go_enter Tryd.func37, Tryd.ntmps37
      go_wp2_with fail
      refine (put_new w0.heap.size b out [⟨#[40]⟩] (w.alloc (.cells #[.int .i64 _, .int .i64 n, .string fd, .slice A3 n3 c3, .slice A4 n4 c4] 26)) _ (by simp) (H.out.alloc _) (by simp) (by have := HL.out; simp [catB] at this ⊢; omega)).mono ?_
      rintro e w1 ⟨rfl, h2, h3, h4⟩
      have N := Aside0.mk (And.intro h2 (And.intro h3 h4))
      have hbc := box_cells (heap_alloc_new w _) (by have := H.out.lt; omega) (by decide) h4
      clear h2 h3 h4
      go_wp2_with fail
      refine (HX.out w1 _ ((HB.out.alloc H.out.2 _).trans N.out.2.1) N.out.1 (by have := HL.out; simp [catB] at this ⊢; omega)).mono ?_
      rintro e w2 ⟨rfl, h2, h3, h4⟩
      have N2 := Aside0.mk (And.intro h2 (And.intro h3 h4))
      clear h2 h3 h4 hbc
      go_wp2_with fail
      refine (put_new w0.heap.size b _ [⟨#[41]⟩] w2 _ rfl N2.out.1 (by simp) (by have := HL.out; simp [catB] at this ⊢; omega)).mono ?_
      rintro e w3 ⟨rfl, h2, h3, h4⟩
      have N3 := Aside0.mk (And.intro h2 (And.intro h3 h4))
      clear h2 h3 h4
      go_wp2_with fail
      go_end0
      refine ⟨rfl, by simpa [catB] using N3.out.1, ?_, ?_⟩
      · exact N2.out.2.1.trans N3.out.2.1
      · exact (((Wrote.refl b w).alloc _).trans N.out.2.2).trans (N2.out.2.2.trans N3.out.2.2)
  · have e : brk k tx = tx := by unfold brk; rw [if_neg hs]
    rw [e] at HL ⊢
    clear e
    have h4 : (k != 4) = true := bne_iff_ne.mpr (fun e => hs (.inl e))
    have h5 : (k != 5) = true := bne_iff_ne.mpr (fun e => hs (.inr e))
    clear hs
    go_enter Tryd.func37, Tryd.ntmps37
    go_wp2_with fail
    refine (HX.out _ _ (HB.out.alloc H.out.2 _) (H.out.alloc _) (by have := HL.out; simp [catB] at this ⊢; omega)).mono ?_
    rintro e w1 ⟨rfl, h2, h3, h4⟩
    have N := Aside0.mk (And.intro h2 (And.intro h3 h4))
    clear h2 h3 h4
    go_wp2_with fail
    refine bodyPost_ret (results_none rfl _ _ _) rfl ⟨rfl, N.out.1, N.out.2.1, ((Wrote.refl b w).alloc _).trans N.out.2.2⟩
end Go.Proofs.YtgkfpakncjncdaaDoor.Syn
/- syntax's writer: expr writes an expression's text: sums, differences, signs. -/
namespace Go.Proofs.YtgkfpakncjncdaaDoor.Syn
open Go.RowKit Go.Lib Go.Proofs.YtgkfpakncjncdaaDoorW.PrintWords Go.Proofs.YtgkfpakncjncdaaDoorW.PrintLast Go.Proofs.YtgkfpakncjncdaaDoorW.PrintMore Go.Proofs.YtgkfpakncjncdaaDoor.PSyn
set_option linter.unusedVariables false
set_option linter.unusedSimpArgs false

/-- an element of a row of expressions, wherever it is read later -/
theorem kid_at {w0 : World} {A : Option Addr} {ks : List S26} (h : Kd.C k26 w0 A ks.length ks) (i : Nat) (hi : i < ks.length) :
    ∃ ad c0 c1 c2 c3 c4, A = some ad ∧ k26.K w0 ks[i] [c0, c1, c2, c3, c4] ∧ ∀ w, Below w0.heap.size w0 w →
      w.cell? (ad.add (i * 5)) = some c0 ∧ w.cell? ⟨(ad.add (i * 5)).block, (ad.add (i * 5)).off + 1, none⟩ = some c1 ∧ w.cell? ⟨(ad.add (i * 5)).block, (ad.add (i * 5)).off + 2, none⟩ = some c2 ∧ w.cell? ⟨(ad.add (i * 5)).block, (ad.add (i * 5)).off + 3, none⟩ = some c3 ∧ w.cell? ⟨(ad.add (i * 5)).block, (ad.add (i * 5)).off + 4, none⟩ = some c4 := by
  obtain ⟨ad, A3, c3, A4, c4, hA, h0, h1, h2, h3, h4, hl3, hi3, hl4, hi4⟩ := at_T26 h (i : Int) (by omega) (by omega)
  rw [rd_at hi] at h0 h1 h2 h3 h4 hl3 hi3 hl4 hi4
  simp only [Int.toNat_natCast] at h0 h1 h2 h3 h4
  refine ⟨ad, _, _, _, _, _, hA, k26_mk w0 ks[i] hl3 hi3 hl4 hi4, fun w hb => ⟨?_, ?_, ?_, ?_, ?_⟩⟩
  · exact (hb.cell (World.block_lt_of_cell? w0 _ h0)).trans h0
  · exact (hb.cell (World.block_lt_of_cell? w0 _ h1)).trans h1
  · exact (hb.cell (World.block_lt_of_cell? w0 _ h2)).trans h2
  · exact (hb.cell (World.block_lt_of_cell? w0 _ h3)).trans h3
  · exact (hb.cell (World.block_lt_of_cell? w0 _ h4)).trans h4

theorem bit_eq (b : Bool) : syntax_bit.f b = some (if b then 1 else 0) := by unfold syntax_bit.f; cases b <;> rfl

set_option maxHeartbeats 2000000 in
theorem expr_neg (n : Int) (fd : ByteArray) (c3v : Value) (A4 : Option Addr) (c4 : Nat) (x : S26) (b : Nat) (out : List UInt8) (w0 w : World) (g4 : Kd.C k26 w0 A4 1 [x]) (hx : ExprAt x) (ht : Tab w0) (hb : Below w0.heap.size w0 w) (h : Wr w0.heap.size b out w)
    (hlen : out.length + ([45] ++ brk x.f0 (exprT x)).length ≤ 140737488355328) :
    Calls Tryd.prog 20 #[.pointer (some ⟨b, 0, none⟩), .agg #[.int .i64 6, .int .i64 n, .string fd, c3v, .slice A4 1 c4]] w fun e w' => e = .returned (.tuple #[]) ∧ Wr w0.heap.size b (out ++ ([45] ++ brk x.f0 (exprT x))) w' ∧ Below w0.heap.size w0 w' ∧ Wrote b w w' := by
  have hT := tight_of x hx
  obtain ⟨ad, k0, k1, k2, k3, k4, rfl, hK, hcells⟩ := kid_at (ks := [x]) g4 0 (by simp)
  simp only [Nat.zero_mul, Addr.add_zero'] at hcells
  have hX := fun (w1 : World) (out1 : List UInt8) (hb : Below w0.heap.size w0 w1) (hw : Wr w0.heap.size b out1 w1) (hl : out1.length + (brk x.f0 (exprT x)).length ≤ 140737488355328) => hT w0 w1 _ b out1 hK ht hb hw hl
  have HX := Aside0.mk hX
  have HC := Aside0.mk hcells
  have H := Aside0.mk h
  have HT := Aside0.mk ht
  have HL := Aside0.mk hlen
  have HB := Aside0.mk hb
  clear h ht hlen hX hb hcells hT hx hK g4
  (try simp only [List.getElem_cons_zero] at HX)
  generalize brk x.f0 (exprT x) = tx at *
  go_enter Tryd.func20, Tryd.ntmps20
  go_wp2_with fail
  refine (put_new w0.heap.size b out [⟨#[45]⟩] (w.alloc (.cells #[.int .i64 _, .int .i64 n, .string fd, c3v, .slice _ _ c4] 26)) _ (by simp) (H.out.alloc _) (by simp) (by have := HL.out; simp [catB] at this ⊢; omega)).mono ?_
  rintro e w1 ⟨rfl, h2, h3, h4⟩
  have N := Aside0.mk (And.intro h2 (And.intro h3 h4))
  have hbc := box_cells (heap_alloc_new w _) (by have := H.out.lt; omega) (by decide) h4
  have HB1 := Aside0.mk ((HB.out.alloc H.out.2 _).trans h3)
  obtain ⟨e0, e1, e2, e3, e4⟩ := HC.out w1 HB1.out
  clear h2 h3 h4
  go_wp2_with fail
  refine (HX.out w1 _ HB1.out N.out.1 (by have := HL.out; simp [catB] at this ⊢; omega)).mono ?_
  rintro e w2 ⟨rfl, h2, h3, h4⟩
  have N2 := Aside0.mk (And.intro h2 (And.intro h3 h4))
  clear h2 h3 h4 hbc e0 e1 e2 e3 e4
  go_wp2_with fail
  go_end0
  refine ⟨rfl, by simpa [catB] using N2.out.1, N2.out.2.1, ?_⟩
  exact (((Wrote.refl b w).alloc _).trans N.out.2.2).trans N2.out.2.2

set_option maxRecDepth 100000 in
set_option maxHeartbeats 4000000 in
theorem expr_bin (k : Int) (hk : k = 4 ∨ k = 5) (n : Int) (fd : ByteArray) (c3v : Value) (A4 : Option Addr) (c4 : Nat) (x y : S26) (b : Nat) (out : List UInt8) (w0 w : World) (g4 : Kd.C k26 w0 A4 2 [x, y]) (hx : ExprAt x) (hy : ExprAt y) (ht : Tab w0) (hb : Below w0.heap.size w0 w) (h : Wr w0.heap.size b out w)
    (hlen : out.length + (exprT x ++ (if k = 4 then [32, 43, 32] else [32, 45, 32]) ++ brk y.f0 (exprT y)).length ≤ 140737488355328) :
    Calls Tryd.prog 20 #[.pointer (some ⟨b, 0, none⟩), .agg #[.int .i64 k, .int .i64 n, .string fd, c3v, .slice A4 2 c4]] w fun e w' => e = .returned (.tuple #[]) ∧ Wr w0.heap.size b (out ++ (exprT x ++ (if k = 4 then [32, 43, 32] else [32, 45, 32]) ++ brk y.f0 (exprT y))) w' ∧ Below w0.heap.size w0 w' ∧ Wrote b w w' := by
  have hTy := tight_of y hy
  obtain ⟨ad, k0, k1, k2, k3, k4, rfl, hK, hcells⟩ := kid_at (ks := [x, y]) g4 0 (by simp)
  obtain ⟨ad', m0, m1, m2, m3, m4, e', hK', hcells'⟩ := kid_at (ks := [x, y]) g4 1 (by simp)
  cases e'
  simp only [Nat.zero_mul, Addr.add_zero'] at hcells
  simp only [Nat.one_mul, show ad.add 5 = ⟨ad.block, ad.off + 5, none⟩ from rfl] at hcells'
  have hX := fun (w1 : World) (out1 : List UInt8) (hb : Below w0.heap.size w0 w1) (hw : Wr w0.heap.size b out1 w1) (hl : out1.length + (exprT x).length ≤ 140737488355328) => hx w0 w1 _ b out1 hK ht hb hw hl
  have hY := fun (w1 : World) (out1 : List UInt8) (hb : Below w0.heap.size w0 w1) (hw : Wr w0.heap.size b out1 w1) (hl : out1.length + (brk y.f0 (exprT y)).length ≤ 140737488355328) => hTy w0 w1 _ b out1 hK' ht hb hw hl
  have HX := Aside0.mk hX
  have HY := Aside0.mk hY
  have HC := Aside0.mk hcells
  have HC' := Aside0.mk hcells'
  have H := Aside0.mk h
  have HT := Aside0.mk ht
  have HL := Aside0.mk hlen
  have HB := Aside0.mk hb
  have HBIT := Aside0.mk (fun (bb : Bool) W => syntax_bit.calls bb _ W (bit_eq bb))
  clear h ht hlen hX hb hcells hTy hx hK g4 hy hcells' hY hK'
  generalize brk y.f0 (exprT y) = ty at *
  generalize exprT x = tx at *
  obtain ⟨e0, e1, e2, e3, e4⟩ := HC.out (w.alloc (.cells #[.int .i64 k, .int .i64 n, .string fd, c3v, .slice (some ad) 2 c4] 26)) (HB.out.alloc H.out.2 _)
  have i0 : ∀ W, (Instr.index 57 (.agg #[.string ⟨#[32, 45, 32]⟩, .string ⟨#[32, 43, 32]⟩]) (.int .i64 0)).run Tryd.prog W = .ok (.string ⟨#[32, 45, 32]⟩) W := fun _ => by kernel_rfl
  have i1 : ∀ W, (Instr.index 57 (.agg #[.string ⟨#[32, 45, 32]⟩, .string ⟨#[32, 43, 32]⟩]) (.int .i64 1)).run Tryd.prog W = .ok (.string ⟨#[32, 43, 32]⟩) W := fun _ => by kernel_rfl
  rcases hk with rfl | rfl
  all_goals
    simp only [if_true, show ¬ (5 : Int) = 4 from by decide, if_false] at HL ⊢
    go_enter Tryd.func20, Tryd.ntmps20
    go_wp2_with fail
    refine (HX.out _ _ (HB.out.alloc H.out.2 _) (H.out.alloc _) (by have := HL.out; simp at this ⊢; omega)).mono ?_
    rintro e w1 ⟨rfl, h2, h3, h4⟩
    have N := Aside0.mk (And.intro h2 (And.intro h3 h4))
    have hbc := box_cells (heap_alloc_new w _) (by have := H.out.lt; omega) (by decide) h4
    clear h2 h3 h4 e0 e1 e2 e3 e4
    go_wp2_with fail
    refine (HBIT.out _ _).mono ?_
    rintro e w2 ⟨rfl, hd⟩
    have hz := Aside0.mk hd.below
    have hbc2 := box_cells (heap_alloc_new w _) (by have := H.out.lt; omega) (by decide) (N.out.2.2.trans (Wrote.of_below hd.below))
    clear hd hbc
    go_wp2_with fail
    refine (put_new w0.heap.size b _ [⟨#[32, _, 32]⟩] w2 _ rfl (N.out.1.below hz.out) (by simp) (by have := HL.out; simp [catB] at this ⊢; omega)).mono ?_
    rintro e w3 ⟨rfl, h2, h3, h4⟩
    have N3 := Aside0.mk (And.intro h2 (And.intro h3 h4))
    have hW3 := Aside0.mk ((N.out.2.2.trans (Wrote.of_below hz.out)).trans h4)
    have HB3 := Aside0.mk ((N.out.2.1.trans (hz.out.mono N.out.1.2)).trans h3)
    have hbc3 := box_cells (heap_alloc_new w _) (by have := H.out.lt; omega) (by decide) hW3.out
    obtain ⟨e0, e1, e2, e3, e4⟩ := HC'.out w3 HB3.out
    clear h2 h3 h4 hbc2
    go_wp2_with fail
    refine (HY.out w3 _ HB3.out N3.out.1 (by have := HL.out; simp [catB] at this ⊢; omega)).mono ?_
    rintro e w4 ⟨rfl, h2, h3, h4⟩
    have N4 := Aside0.mk (And.intro h2 (And.intro h3 h4))
    clear h2 h3 h4 hbc3 e0 e1 e2 e3 e4
    go_wp2_with fail
    go_end0
    refine ⟨rfl, by simpa [catB] using N4.out.1, N4.out.2.1, ?_⟩
    exact (((Wrote.refl b w).alloc _).trans hW3.out).trans N4.out.2.2
end Go.Proofs.YtgkfpakncjncdaaDoor.Syn
/- syntax's writer: call writes Kids in brackets behind a word. -/
namespace Go.Proofs.YtgkfpakncjncdaaDoor.Syn
open Go.RowKit Go.Lib Go.Proofs.YtgkfpakncjncdaaDoorW.PrintWords Go.Proofs.YtgkfpakncjncdaaDoorW.PrintLast Go.Proofs.YtgkfpakncjncdaaDoorW.PrintMore Go.Proofs.YtgkfpakncjncdaaDoor.PSyn
set_option linter.unusedVariables false
set_option linter.unusedSimpArgs false

theorem argsT_snoc (word : List UInt8) (t : List UInt8) : ∀ (l : List (List UInt8)) (i : Nat), argsT word (l ++ [t]) i = argsT word l i ++ ((if i + l.length = 0 then word ++ [40] else [44, 32]) ++ t)
  | [], i => by simp [argsT]
  | x :: l, i => by
    rw [List.cons_append, argsT, argsT_snoc word t l (i + 1), argsT]
    have e : ¬ (i + 1 + l.length = 0) := by omega
    have e' : ¬ (i + (x :: l).length = 0) := by simp
    rw [if_neg e, if_neg e']
    simp
theorem argsT_take (word : List UInt8) (ks : List S26) (k : Nat) (h : k < ks.length) : argsT word ((ks.take (k + 1)).map exprT) 0 = argsT word ((ks.take k).map exprT) 0 ++ ((if k = 0 then word ++ [40] else [44, 32]) ++ exprT ks[k]) := by
  rw [List.take_succ_eq_append_getElem h, List.map_append, List.map_cons, List.map_nil, argsT_snoc]
  have e : (0 + (List.map exprT (ks.take k)).length = 0) = (k = 0) := by
    rw [List.length_map, List.length_take, Nat.zero_add, Nat.min_eq_left (by omega)]
  simp only [e]
theorem argsT_len (word : List UInt8) : ∀ (l : List (List UInt8)) (k i : Nat), (argsT word (l.take k) i).length ≤ (argsT word l i).length
  | [], k, i => by simp
  | x :: l, 0, i => by simp [argsT]
  | x :: l, k + 1, i => by
    rw [List.take_succ_cons, argsT, argsT]
    have := argsT_len word l k (i + 1)
    simp only [List.length_append]
    omega

theorem idx2_0 (a c : ByteArray) : ∀ W, (Instr.index 57 (.agg #[.string a, .string c]) (.int .i64 0)).run Tryd.prog W = .ok (.string a) W := fun _ => by kernel_rfl
theorem idx2_1 (a c : ByteArray) : ∀ W, (Instr.index 57 (.agg #[.string a, .string c]) (.int .i64 1)).run Tryd.prog W = .ok (.string c) W := fun _ => by kernel_rfl

set_option maxRecDepth 100000 in
set_option maxHeartbeats 4000000 in
theorem call_calls (word : ByteArray) (hw : word.size ≤ 100) (ks : List S26) (A : Option Addr) (c : Nat) (b : Nat) (out : List UInt8) (w0 w : World) (hr : Kd.C k26 w0 A ks.length ks) (hks : ∀ x ∈ ks, ExprAt x) (ht : Tab w0) (hb : Below w0.heap.size w0 w) (h : Wr w0.heap.size b out w)
    (hlen : out.length + (callT word.data.toList (ks.map exprT)).length ≤ 140737488355328) :
    Calls Tryd.prog 38 #[.pointer (some ⟨b, 0, none⟩), .string word, .slice A ks.length c] w fun e w' => e = .returned (.tuple #[]) ∧ Wr w0.heap.size b (out ++ callT word.data.toList (ks.map exprT)) w' ∧ Below w0.heap.size w0 w' ∧ Wrote b w w' := by
  have hbig : ks.length ≤ 9223372036854775807 := hr.2.1
  have HR := Aside0.mk hr
  have HK := Aside0.mk hks
  have H := Aside0.mk h
  have HT := Aside0.mk ht
  have HL := Aside0.mk hlen
  have HB := Aside0.mk hb
  have HBIT := Aside0.mk (fun (bb : Bool) W => syntax_bit.calls bb _ W (bit_eq bb))
  clear hr hks h ht hlen hb
  go_enter Tryd.func38, Tryd.ntmps38
  go_wp2_with fail
  go_loopg [10] ks.length (fun gg s10 wr => ∃ kk : Nat, kk ≤ ks.length ∧ ks.length - kk ≤ gg ∧ s10 = .int .i64 kk ∧ Aside (Wr w0.heap.size b (out ++ argsT word.data.toList ((ks.take kk).map exprT) 0) wr) ∧ Aside (Below w0.heap.size w0 wr) ∧ Aside (Wrote b w wr))
  case atStart => exact ⟨0, Nat.zero_le _, by omega, rfl, (by show Wr _ _ _ _; simpa [argsT] using H.out), HB.out, Wrote.refl _ _⟩
  case round =>
    obtain ⟨kk, hkk, hgg, rfl, HW, BW, WW⟩ := hrel
    by_cases hlt : kk < ks.length
    · have hltz : (kk : Int) < (ks.length : Int) := by omega
      have hstep := argsT_take word.data.toList ks kk hlt
      have hlen2 : (argsT word.data.toList ((ks.take (kk + 1)).map exprT) 0).length + 1 ≤ (callT word.data.toList (ks.map exprT)).length := by
        have := argsT_len word.data.toList (ks.map exprT) (kk + 1) 0
        rw [← List.map_take] at this
        unfold callT
        rw [List.length_append]
        exact Nat.add_le_add_right this 1
      obtain ⟨ad, k0, k1, k2, k3, k4, hA, hK, hcells⟩ := kid_at HR.out kk hlt
      obtain ⟨e0, e1, e2, e3, e4⟩ := hcells wr BW.out
      subst hA
      have hX := fun (w1 : World) (out1 : List UInt8) (hb : Below w0.heap.size w0 w1) (hw : Wr w0.heap.size b out1 w1) (hl : out1.length + (exprT ks[kk]).length ≤ 140737488355328) => HK.out ks[kk] (List.getElem_mem hlt) w0 w1 _ b out1 hK HT.out hb hw hl
      have HX := Aside0.mk hX
      clear hX hcells
      generalize exprT ks[kk] = tx at *
      obtain ⟨A3, c3, A4, c4, hk5, l3, g3, l4, g4⟩ := k26_open hK
      clear hK l3 g3 l4 g4
      cases hk5
      generalize ks[kk].f0 = v0 at *
      generalize ks[kk].f1 = v1 at *
      generalize ks[kk].f2 = v2 at *
      generalize ks[kk].f3.length = v3 at *
      generalize ks[kk].f4.length = v4 at *
      rw [hstep] at hlen2
      have HS := Aside0.mk hstep
      have HL2 := Aside0.mk hlen2
      clear hstep hlen2
      by_cases hz : kk = 0
      · subst hz
        simp only [Nat.zero_mul, Addr.add_zero'] at e0 e1 e2 e3 e4
        go_wp2_with fail
        refine (HBIT.out _ _).mono ?_
        rintro e w1 ⟨rfl, hd⟩
        have hzz := Aside0.mk hd.below
        have hbc := box_cells (b := b) (g := wr.heap.size) (heap_alloc_new wr _) (by have := HW.out.lt; omega) (by decide) (Wrote.of_below hd.below)
        clear hd e0 e1 e2 e3 e4
        have i1 := fun W => idx2_1 ⟨#[44, 32]⟩ (word ++ ⟨#[40]⟩) W
        go_wp2_with fail
        refine (put_new w0.heap.size b _ [word ++ ⟨#[40]⟩] w1 _ rfl ((HW.out.alloc _).below hzz.out) (by simp) (by have := HL.out; have := HL2.out; simp [catB] at this ⊢; omega)).mono ?_
        rintro e w2 ⟨rfl, h2, h3, h4⟩
        have N := Aside0.mk (And.intro h2 (And.intro h3 h4))
        have hW2 := Aside0.mk ((Wrote.of_below hzz.out).trans h4)
        have HB2 := Aside0.mk (((BW.out.alloc HW.out.2 _).trans (hzz.out.mono (by have := HW.out.2; simp; omega))).trans h3)
        have hbc3 := box_cells (b := b) (g := wr.heap.size) (heap_alloc_new wr _) (by have := HW.out.lt; omega) (by decide) hW2.out
        clear h2 h3 h4 hbc
        go_wp2_with fail
        refine (HX.out w2 _ HB2.out N.out.1 (by have := HL.out; have := HL2.out; simp [catB] at this ⊢; omega)).mono ?_
        rintro e w3 ⟨rfl, h2, h3, h4⟩
        have N2 := Aside0.mk (And.intro h2 (And.intro h3 h4))
        clear h2 h3 h4 hbc3
        go_wp2_with fail
        go_roundg (ks.length - (0 + 1))
        case measure => omega
        case rel =>
          refine ⟨0 + 1, by omega, by omega, by go_num, ?_, N2.out.2.1, (((WW.out.trans ((Wrote.refl b wr).alloc _)).trans hW2.out).trans N2.out.2.2)⟩
          show Wr _ _ _ _
          rw [HS.out]
          have := N2.out.1
          simpa [catB] using this
      · have hzb : ((kk : Int) == 0) = false := beq_eq_false_iff_ne.mpr (by omega)
        go_wp2_with fail
        refine (HBIT.out _ _).mono ?_
        rintro e w1 ⟨rfl, hd⟩
        have hzz := Aside0.mk hd.below
        have hbc := box_cells (b := b) (g := wr.heap.size) (heap_alloc_new wr _) (by have := HW.out.lt; omega) (by decide) (Wrote.of_below hd.below)
        clear hd e0 e1 e2 e3 e4
        have hz0 : ¬ kk = 0 := hz
        have i0 := fun W => idx2_0 ⟨#[44, 32]⟩ (word ++ ⟨#[40]⟩) W
        go_wp2_with fail
        refine (put_new w0.heap.size b _ [⟨#[44, 32]⟩] w1 _ rfl ((HW.out.alloc _).below hzz.out) (by simp) (by have := HL.out; have := HL2.out; simp [catB, hz0] at this ⊢; omega)).mono ?_
        rintro e w2 ⟨rfl, h2, h3, h4⟩
        have N := Aside0.mk (And.intro h2 (And.intro h3 h4))
        have hW2 := Aside0.mk ((Wrote.of_below hzz.out).trans h4)
        have HB2 := Aside0.mk (((BW.out.alloc HW.out.2 _).trans (hzz.out.mono (by have := HW.out.2; simp; omega))).trans h3)
        have hbc3 := box_cells (b := b) (g := wr.heap.size) (heap_alloc_new wr _) (by have := HW.out.lt; omega) (by decide) hW2.out
        clear h2 h3 h4 hbc
        go_wp2_with fail
        refine (HX.out w2 _ HB2.out N.out.1 (by have := HL.out; have := HL2.out; simp [catB, hz0] at this ⊢; omega)).mono ?_
        rintro e w3 ⟨rfl, h2, h3, h4⟩
        have N2 := Aside0.mk (And.intro h2 (And.intro h3 h4))
        clear h2 h3 h4 hbc3
        go_wp2_with fail
        go_roundg (ks.length - (kk + 1))
        case measure => omega
        case rel =>
          refine ⟨kk + 1, by omega, by omega, by go_num, ?_, N2.out.2.1, (((WW.out.trans ((Wrote.refl b wr).alloc _)).trans hW2.out).trans N2.out.2.2)⟩
          show Wr _ _ _ _
          rw [HS.out]
          have := N2.out.1
          simpa [catB, hz0] using this
    · go_wp2_with fail
      have e := (List.take_of_length_le (by omega) : ks.take kk = ks)
      refine (put_new w0.heap.size b _ [⟨#[41]⟩] wr _ rfl HW.out (by simp) (by have := HL.out; rw [e]; simp [catB, callT] at this ⊢; omega)).mono ?_
      rintro e w1 ⟨rfl, h2, h3, h4⟩
      have N := Aside0.mk (And.intro h2 (And.intro h3 h4))
      clear h2 h3 h4
      go_wp2_with fail
      go_end0
      refine ⟨rfl, ?_, BW.out.trans (N.out.2.1.mono (by have := HW.out; exact Nat.le_refl _)), WW.out.trans N.out.2.2⟩
      have h1 := N.out.1
      rw [List.take_of_length_le (by omega)] at h1
      simpa [catB, callT] using h1
end Go.Proofs.YtgkfpakncjncdaaDoor.Syn
