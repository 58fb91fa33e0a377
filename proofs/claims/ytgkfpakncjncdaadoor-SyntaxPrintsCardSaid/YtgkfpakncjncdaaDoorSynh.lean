/- strings.ContainsFunc is the library's; the document's decimals are the program's. -/
import Derived.Test.YtgkfpakncjncdaaDoorSyng
import Derived.Lib.LazyBuf
namespace Go.Proofs.YtgkfpakncjncdaaDoor.Syn
open Go.RowKit Go.Lib Go.Proofs.YtgkfpakncjncdaaDoorW.PrintWords Go.Proofs.YtgkfpakncjncdaaDoorW.PrintLast Go.Proofs.YtgkfpakncjncdaaDoorW.PrintMore Go.Proofs.YtgkfpakncjncdaaDoor.PSyn
set_option linter.unusedVariables false
set_option linter.unusedSimpArgs false

theorem cfn : CFn := fun s w => Tryd.strings_ContainsFunc 64 #[] (enters_ Tryd.func64 (by kernel_rfl) rfl) lowP s w (name1_at w)

/-- bytes as numbers -/
def ints (l : List UInt8) : List Int := l.map fun b => (b.toNat : Int)
theorem digit_byte (m : Nat) : (wrap64 (48 + (m % 10 : Nat) : Int)) % 256 = ((UInt8.ofNat (48 + m % 10)).toNat : Int) := by
  rw [wrap_small (by omega) (by omega)]
  simp
theorem low_ev (a0 : Int) (h0 : 0 ≤ a0) (v : ByteArray) : ∀ (c m : Nat) (x3 : List Int), m < c → 0 < m → m ≤ 9223372036854775807 → x3.length + nDigits m ≤ 100000 → Ev (fun k => octroiref25_Decimal.j1 k (x3 ++ ints (decDigits m).reverse)) v →
    Ev (fun k => octroiref25_Decimal.l0 k a0 x3 (m : Int)) v := by
  intro c
  induction c with
  | zero => intro m x3 h; omega
  | succ c ih =>
    intro m x3 hc hm hbig hl hv
    have e1 : Int.tmod (m : Int) 10 = ((m % 10 : Nat) : Int) := by rw [Int.tmod_eq_emod_of_nonneg (by omega)]; omega
    have e2 : Int.tdiv (m : Int) 10 = ((m / 10 : Nat) : Int) := by rw [Int.tdiv_eq_ediv_of_nonneg (by omega)]; omega
    have hp := nDigits_pos m
    refine Ev.step (f := fun k => octroiref25_Decimal.l0 k a0 (x3 ++ [((UInt8.ofNat (48 + m % 10)).toNat : Int)]) ((m / 10 : Nat) : Int)) (fun k => ?_) ?_
    · simp only [octroiref25_Decimal.l0]
      rw [if_neg (by omega), e1, e2, if_neg (by omega), if_pos (by omega), digit_byte, wrap_small (by omega) (by omega)]
    · by_cases h10 : m < 10
      · have e3 : m / 10 = 0 := by omega
        rw [e3]
        refine Ev.step (f := fun k => octroiref25_Decimal.j1 k (x3 ++ [((UInt8.ofNat (48 + m % 10)).toNat : Int)])) (fun k => ?_) ?_
        · simp only [octroiref25_Decimal.l0]
          rw [if_pos (by rfl), if_neg (by omega)]
        · rw [decDigits_one h10] at hv
          have e4 : m % 10 = m := by omega
          rw [e4]
          simpa [ints] using hv
      · refine ih (m / 10) _ (by omega) (by omega) (by omega) (by rw [nDigits_big h10] at hl; simp; omega) ?_
        rw [decDigits, dif_neg h10] at hv
        simpa [ints] using hv

theorem high_ev (x3 : List Int) (hl : x3.length ≤ 100000) : ∀ (i : Nat) (x6 : List Int), i ≤ x3.length → x6.length + i ≤ 100000 → Ev (fun k => octroiref25_Decimal.l1 k x3 x6 ((i : Int) - 1)) (strOfNums (x6 ++ (x3.take i).reverse))
  | 0, x6, hi, hx => by
    refine Ev.step (f := fun _ => some (strOfNums x6)) (fun k => ?_) (by simpa using Ev.now _)
    simp only [octroiref25_Decimal.l1]
    rw [if_neg (by omega)]
  | i + 1, x6, hi, hx => by
    have hlt : i < x3.length := by omega
    have e : rd x3 (((i + 1 : Nat) : Int) - 1) = x3[i] := by
      have : ((((i + 1 : Nat) : Int) - 1)).toNat = i := by omega
      simp [rd, this, List.getD_eq_getElem?_getD, hlt]
    refine Ev.step (f := fun k => octroiref25_Decimal.l1 k x3 (x6 ++ [x3[i]]) ((i : Int) - 1)) (fun k => ?_) ?_
    · simp only [octroiref25_Decimal.l1]
      rw [if_pos (by omega), if_pos (by omega), if_pos (by omega), if_pos (by omega), e, wrap_small (by omega) (by omega)]
      have : ((i + 1 : Nat) : Int) - 1 - 1 = (i : Int) - 1 := by omega
      rw [this]
    · have := high_ev x3 hl i (x6 ++ [x3[i]]) (by omega) (by simp; omega)
      rw [List.take_succ_eq_append_getElem hlt]
      simp only [List.reverse_append, List.reverse_cons, List.reverse_nil, List.nil_append, List.singleton_append, List.append_assoc, List.cons_append] at this ⊢
      exact this

theorem nDigits_le (k u : Nat) (h : u < 10 ^ k) (hk : 1 ≤ k) : nDigits u ≤ k := by
  by_cases hu : u < 10
  · rw [nDigits_small hu]; exact hk
  · have hb := nDigits_big hu
    by_cases hlt : nDigits u ≤ k
    · exact hlt
    · exfalso
      have h1 := decDigits_eq u
      have : ∀ (j u : Nat), u < 10 ^ j → 1 ≤ j → nDigits u ≤ j := by
        intro j
        induction j with
        | zero => intro u _ h; omega
        | succ j ihj =>
          intro u hu hj
          by_cases h10 : u < 10
          · rw [nDigits_small h10]; omega
          · rw [nDigits_big h10]
            have hj1 : 1 ≤ j := by
              rcases j with _ | j
              · simp at hu; omega
              · omega
            have := ihj (u / 10) (by rw [Nat.pow_succ] at hu; omega) hj1
            omega
      exact hlt (this k u h hk)
theorem digits_len {n : Int} (h0 : 0 ≤ n) (h1 : n ≤ 999999999999999999) : (digits n).length ≤ 18 := by
  unfold digits Lib.itoa
  rw [if_neg (by omega), decDigits_length]
  exact nDigits_le 18 _ (by omega) (by decide)

theorem decimal_ev (n : Int) (h0 : 0 ≤ n) (h1 : n ≤ 999999999999999999) : Ev (fun k => octroiref31_decimal.f k n) ⟨(digits n).toArray⟩ := by
  refine Ev.bind (g := fun k => octroiref25_Decimal.f k n) (f := fun _ t => some t) (a := ⟨(digits n).toArray⟩) ?_ (Ev.now _)
  unfold digits Lib.itoa
  rw [if_neg (by omega)]
  by_cases hz : n = 0
  · subst hz
    refine Ev.step (f := fun _ => some ⟨#[48]⟩) (fun k => by simp [octroiref25_Decimal.f]) ?_
    have : decDigits (Int.toNat 0) = [48] := by rw [decDigits]; rfl
    rw [this]
    exact Ev.now _
  · obtain ⟨m, rfl⟩ : ∃ m : Nat, n = m := ⟨n.toNat, by omega⟩
    have hd : nDigits m ≤ 18 := nDigits_le 18 _ (by omega) (by decide)
    have hlen : (decDigits m).length ≤ 18 := by rw [decDigits_length]; exact hd
    have hj : Ev (fun k => octroiref25_Decimal.j1 k ([] ++ ints (decDigits m).reverse)) (strOfNums (ints (decDigits m))) := by
      have := high_ev (ints (decDigits m).reverse) (by simp [ints]; omega) (ints (decDigits m).reverse).length [] (Nat.le_refl _) (by simp [ints]; omega)
      refine Ev.step (f := fun k => octroiref25_Decimal.l1 k (ints (decDigits m).reverse) [] (((ints (decDigits m).reverse).length : Int) - 1)) (fun k => ?_) ?_
      · simp only [octroiref25_Decimal.j1, List.nil_append]
        rw [wrap_small (by simp [ints]; omega) (by simp [ints]; omega)]
      · have e : ([] ++ (List.take (ints (decDigits m).reverse).length (ints (decDigits m).reverse)).reverse) = ints (decDigits m) := by rw [List.take_length, List.nil_append]; simp [ints]
        rw [e] at this
        exact this
    have hL := low_ev (m : Int) h0 _ (m + 1) m [] (by omega) (by omega) (by omega) (by simp; omega) hj
    refine Ev.congr (f := fun k => octroiref25_Decimal.l0 k (m : Int) [] (m : Int)) (fun k => by unfold octroiref25_Decimal.f; rw [if_neg hz]) ?_
    have e : strOfNums (ints (decDigits m)) = ⟨(decDigits m).toArray⟩ := by
      simp only [strOfNums, ints, List.map_map]
      congr 1
      congr 1
      refine (List.map_congr_left (g := id) (fun b _ => ?_)).trans (List.map_id _)
      simp
    rw [Int.toNat_natCast, ← e]
    exact hL
end Go.Proofs.YtgkfpakncjncdaaDoor.Syn
/- The document's text of an expression. -/
namespace Go.Proofs.YtgkfpakncjncdaaDoor.Syn
open Go.RowKit Go.Lib Go.Proofs.YtgkfpakncjncdaaDoorW.PrintWords Go.Proofs.YtgkfpakncjncdaaDoorW.PrintLast Go.Proofs.YtgkfpakncjncdaaDoorW.PrintMore Go.Proofs.YtgkfpakncjncdaaDoor.PSyn
set_option linter.unusedVariables false
set_option linter.unusedSimpArgs false

/-- bytes as a string -/
def str (l : List UInt8) : ByteArray := ⟨l.toArray⟩
theorem str_add (a b : List UInt8) : str a ++ str b = str (a ++ b) := by
  apply ByteArray.ext
  simp [str, ByteArray.data_append]
theorem ret_eq {a b : ByteArray} (h : a = b) : Ending.returned (.string a) = Ending.returned (.string b) := by rw [h]
theorem str_size (l : List UInt8) : (str l).size = l.length := by simp [str, ByteArray.size]
theorem str_data (s : ByteArray) : str s.data.toList = s := by simp [str]

def RefAt (x : S26) : Prop := ∀ (W : World) (cs : List Value), k26.K W x cs → (exprT x).length ≤ 140737488355000 →
  Calls Tryd.prog 23 #[.agg cs.toArray] W fun e w' => e = .returned (.string (str (exprT x))) ∧ Below W.heap.size W w'

theorem decimal_calls (n : Int) (h0 : 0 ≤ n) (h1 : n ≤ 999999999999999999) (W : World) :
    Calls Tryd.prog 28 #[.int .i64 n] W fun e w' => e = .returned (.string (str (digits n))) ∧ Below W.heap.size W w' := by
  obtain ⟨k, hk⟩ := (decimal_ev n h0 h1).rounds
  exact octroiref31_decimal.calls k n _ W hk

set_option maxHeartbeats 2000000 in
theorem ref_num (n : Int) (fd : ByteArray) (c3 c4 : Value) (W : World) (h0 : 0 ≤ n) (h1 : n ≤ 999999999999999999) :
    Calls Tryd.prog 23 #[.agg #[.int .i64 1, .int .i64 n, .string fd, c3, c4]] W fun e w' => e = .returned (.string (str (digits n))) ∧ Below W.heap.size W w' := by
  go_enter Tryd.func23, Tryd.ntmps23
  go_wp2_with fail
  refine (decimal_calls n h0 h1 _).mono ?_
  rintro e w1 ⟨rfl, hb⟩
  have HB := Aside0.mk (below_step (below_alloc (Below.refl _ _) _) hb)
  clear hb
  go_wp2_with fail
  go_ret
  exact ⟨rfl, HB.out⟩

set_option maxHeartbeats 2000000 in
theorem ref_box (n : Int) (fd : ByteArray) (c3 c4 : Value) (W : World) (h0 : 0 ≤ n) (h1 : n ≤ 999999999999999999) :
    Calls Tryd.prog 23 #[.agg #[.int .i64 2, .int .i64 n, .string fd, c3, c4]] W fun e w' => e = .returned (.string (str ([98, 111, 120, 32] ++ digits n))) ∧ Below W.heap.size W w' := by
  have hz : (str (digits n)).size ≤ 18 := by rw [str_size]; exact digits_len h0 h1
  go_enter Tryd.func23, Tryd.ntmps23
  go_wp2_with fail
  refine (decimal_calls n h0 h1 _).mono ?_
  rintro e w1 ⟨rfl, hb⟩
  have HB := Aside0.mk (below_step (below_alloc (Below.refl _ _) _) hb)
  clear hb
  go_wp2_with fail
  go_ret
  exact ⟨ret_eq (str_add [98, 111, 120, 32] (digits n)), HB.out⟩

/-- the document's bracket -/
theorem ref_bracket (x : S26) (hx : RefAt x) (W : World) (cs : List Value) (hk : k26.K W x cs) (hlen : (exprT x).length ≤ 140737488355000) :
    Calls Tryd.prog 40 #[.agg cs.toArray] W fun e w' => e = .returned (.string (str (brk x.f0 (exprT x)))) ∧ Below W.heap.size W w' := by
  have HX := Aside0.mk (fun W' (hb : Below W.heap.size W W') => hx W' cs (k26.K_below hb hk) (by omega))
  obtain ⟨A3, c3, A4, c4, rfl, -, -, -, -⟩ := k26_open hk
  have hz : (str (exprT x)).size ≤ 140737488355000 := by rw [str_size]; exact hlen
  clear hx hk hlen
  generalize exprT x = tx at *
  obtain ⟨k, n, fd, fs, ks⟩ := x
  simp only at HX ⊢
  generalize fs.length = n3 at HX ⊢
  generalize ks.length = n4 at HX ⊢
  by_cases hs : k = 4 ∨ k = 5
  · have e : brk k tx = [40] ++ tx ++ [41] := by unfold brk; rw [if_pos hs]
    rw [e]
    clear e
    rcases hs with rfl | rfl
    all_goals
      go_enter Tryd.func40, Tryd.ntmps40
      go_wp2_with fail
      refine (HX.out _ (below_alloc (Below.refl _ _) _)).mono ?_
      rintro e w1 ⟨rfl, hb⟩
      have HB := Aside0.mk (below_step (below_alloc (Below.refl _ _) _) hb)
      clear hb
      go_wp2_with fail
      go_ret
      exact ⟨ret_eq ((congrArg (· ++ str [41]) (str_add [40] tx)).trans (str_add _ _)), HB.out⟩
  · have e : brk k tx = tx := by unfold brk; rw [if_neg hs]
    rw [e]
    clear e
    have h4 : (k == 4) = false := beq_eq_false_iff_ne.mpr (fun e => hs (.inl e))
    have h5 : (k == 5) = false := beq_eq_false_iff_ne.mpr (fun e => hs (.inr e))
    clear hs
    go_enter Tryd.func40, Tryd.ntmps40
    go_wp2_with fail
    refine (HX.out _ (below_alloc (Below.refl _ _) _)).mono ?_
    rintro e w1 ⟨rfl, hb⟩
    have HB := Aside0.mk (below_step (below_alloc (Below.refl _ _) _) hb)
    clear hb
    go_wp2_with fail
    go_ret
    exact ⟨rfl, HB.out⟩

set_option maxHeartbeats 2000000 in
theorem ref_neg (n : Int) (fd : ByteArray) (c3v : Value) (A4 : Option Addr) (c4 : Nat) (x : S26) (W : World) (g4 : Kd.C k26 W A4 1 [x]) (hx : RefAt x) (hlen : ([45] ++ brk x.f0 (exprT x)).length ≤ 140737488355000) :
    Calls Tryd.prog 23 #[.agg #[.int .i64 6, .int .i64 n, .string fd, c3v, .slice A4 1 c4]] W fun e w' => e = .returned (.string (str ([45] ++ brk x.f0 (exprT x)))) ∧ Below W.heap.size W w' := by
  have hl : (exprT x).length ≤ 140737488355000 := by
    have : (exprT x).length ≤ (brk x.f0 (exprT x)).length := by unfold brk; split <;> simp <;> omega
    simp at hlen; omega
  obtain ⟨ad, k0, k1, k2, k3, k4, rfl, hK, hcells⟩ := kid_at (ks := [x]) g4 0 (by simp)
  simp only [Nat.zero_mul, Addr.add_zero', List.getElem_cons_zero] at hcells hK
  have HX := Aside0.mk (fun W' (hb : Below W.heap.size W W') => ref_bracket x hx W' _ (k26.K_below hb hK) hl)
  have hz : (str (brk x.f0 (exprT x))).size ≤ 140737488355000 := by rw [str_size]; simp at hlen; omega
  clear hx hK g4 hlen hl
  generalize brk x.f0 (exprT x) = tx at *
  obtain ⟨e0, e1, e2, e3, e4⟩ := hcells (w := _) (below_alloc (Below.refl _ _) (.cells #[.int .i64 6, .int .i64 n, .string fd, c3v, .slice (some ad) 1 c4] 26))
  clear hcells
  go_enter Tryd.func23, Tryd.ntmps23
  go_wp2_with fail
  refine (HX.out _ (below_alloc (Below.refl _ _) _)).mono ?_
  rintro e w1 ⟨rfl, hb⟩
  have HB := Aside0.mk (below_step (below_alloc (Below.refl _ _) _) hb)
  clear hb e0 e1 e2 e3 e4
  go_wp2_with fail
  go_ret
  exact ⟨ret_eq (str_add [45] tx), HB.out⟩

set_option maxHeartbeats 2000000 in
theorem ref_bin (k : Int) (hk : k = 4 ∨ k = 5) (n : Int) (fd : ByteArray) (c3v : Value) (A4 : Option Addr) (c4 : Nat) (x y : S26) (W : World) (g4 : Kd.C k26 W A4 2 [x, y]) (hx : RefAt x) (hy : RefAt y)
    (hlen : (exprT x ++ (if k = 4 then [32, 43, 32] else [32, 45, 32]) ++ brk y.f0 (exprT y)).length ≤ 140737488355000) :
    Calls Tryd.prog 23 #[.agg #[.int .i64 k, .int .i64 n, .string fd, c3v, .slice A4 2 c4]] W fun e w' => e = .returned (.string (str (exprT x ++ (if k = 4 then [32, 43, 32] else [32, 45, 32]) ++ brk y.f0 (exprT y)))) ∧ Below W.heap.size W w' := by
  have hl : (exprT x).length ≤ 140737488355000 ∧ (exprT y).length ≤ 140737488355000 ∧ (brk y.f0 (exprT y)).length ≤ 140737488355000 := by
    have : (exprT y).length ≤ (brk y.f0 (exprT y)).length := by unfold brk; split <;> simp <;> omega
    simp only [List.length_append] at hlen; omega
  obtain ⟨ad, k0, k1, k2, k3, k4, rfl, hK, hcells⟩ := kid_at (ks := [x, y]) g4 0 (by simp)
  obtain ⟨ad', m0, m1, m2, m3, m4, e', hK', hcells'⟩ := kid_at (ks := [x, y]) g4 1 (by simp)
  cases e'
  simp only [Nat.zero_mul, Addr.add_zero', List.getElem_cons_zero] at hcells hK
  simp only [Nat.one_mul, show ad.add 5 = ⟨ad.block, ad.off + 5, none⟩ from rfl] at hcells' hK'
  have HX := Aside0.mk (fun W' (hb : Below W.heap.size W W') => hx W' _ (k26.K_below hb hK) (by omega))
  have HY := Aside0.mk (fun W' (hb : Below W.heap.size W W') => ref_bracket y hy W' _ (k26.K_below hb hK') hl.2.1)
  have hz : (str (exprT x)).size ≤ 140737488355000 := by rw [str_size]; omega
  have hz' : (str (brk y.f0 (exprT y))).size ≤ 140737488355000 := by rw [str_size]; omega
  have HC := Aside0.mk hcells
  have HC' := Aside0.mk hcells'
  clear hx hy hK hK' g4 hlen hl hcells hcells'
  generalize brk y.f0 (exprT y) = ty at *
  generalize exprT x = tx at *
  obtain ⟨e0, e1, e2, e3, e4⟩ := HC.out (w := _) (below_alloc (Below.refl _ _) (.cells #[.int .i64 k, .int .i64 n, .string fd, c3v, .slice (some ad) 2 c4] 26))
  have HF0 : ∀ w', Below (W.alloc (.cells #[.int .i64 k, .int .i64 n, .string fd, c3v, .slice (some ad) 2 c4] 26)).heap.size (W.alloc (.cells #[.int .i64 k, .int .i64 n, .string fd, c3v, .slice (some ad) 2 c4] 26)) w' → w'.cell? ⟨W.heap.size, 4, none⟩ = some (.slice (some ad) 2 c4) ∧ w'.cell? ad = some k0 ∧ w'.cell? ⟨ad.block, ad.off + 1, none⟩ = some k1 ∧ w'.cell? ⟨ad.block, ad.off + 2, none⟩ = some k2 ∧ w'.cell? ⟨ad.block, ad.off + 3, none⟩ = some k3 ∧ w'.cell? ⟨ad.block, ad.off + 4, none⟩ = some k4 ∧ w'.cell? ⟨ad.block, ad.off + 5, none⟩ = some m0 ∧ w'.cell? ⟨ad.block, ad.off + 5 + 1, none⟩ = some m1 ∧ w'.cell? ⟨ad.block, ad.off + 5 + 2, none⟩ = some m2 ∧ w'.cell? ⟨ad.block, ad.off + 5 + 3, none⟩ = some m3 ∧ w'.cell? ⟨ad.block, ad.off + 5 + 4, none⟩ = some m4 := by
    intro w' hb
    have hb' : Below W.heap.size W w' := (below_alloc (Below.refl _ _) _).trans (hb.mono (by simp))
    obtain ⟨a0, a1, a2, a3, a4⟩ := HC.out w' hb'
    obtain ⟨b0, b1, b2, b3, b4⟩ := HC'.out w' hb'
    exact ⟨(hb.cell (p := ⟨W.heap.size, 4, none⟩) (by simp)).trans (Lib.cell_of_heap (heap_alloc_new W _) 4), a0, a1, a2, a3, a4, b0, b1, b2, b3, b4⟩
  have HF := Aside0.mk HF0
  have HB0 := Aside0.mk (below_alloc (Below.refl _ _) (.cells #[.int .i64 k, .int .i64 n, .string fd, c3v, .slice (some ad) 2 c4] 26) : Below W.heap.size W _)
  clear HF0 HC HC' e0 e1 e2 e3 e4
  rcases hk with rfl | rfl
  · simp only [if_true]
    go_enter Tryd.func23, Tryd.ntmps23
    go_wp2_with fail
    have HX1 := Aside0.mk (fun (w' : World) (hb : Below (W.alloc (.cells #[.int .i64 4, .int .i64 n, .string fd, c3v, .slice (some ad) 2 c4] 26)).heap.size (W.alloc (.cells #[.int .i64 4, .int .i64 n, .string fd, c3v, .slice (some ad) 2 c4] 26)) w') => HX.out w' (HB0.out.trans (Below.mono hb HB0.out.size)))
    have HY1 := Aside0.mk (fun (w' : World) (hb : Below (W.alloc (.cells #[.int .i64 4, .int .i64 n, .string fd, c3v, .slice (some ad) 2 c4] 26)).heap.size (W.alloc (.cells #[.int .i64 4, .int .i64 n, .string fd, c3v, .slice (some ad) 2 c4] 26)) w') => HY.out w' (HB0.out.trans (Below.mono hb HB0.out.size)))
    clear HX HY
    generalize (W.alloc (.cells #[.int .i64 4, .int .i64 n, .string fd, c3v, .slice (some ad) 2 c4] 26)) = W1 at *
    have hst : W.heap.size ≤ W1.heap.size := HB0.out.size
    generalize hg : W.heap.size = g at *
    have n1 : ¬ 9223372036854775807 < (str tx).size + 3 := by omega
    have n2 : ¬ 9223372036854775807 < (str tx).size + 3 + (str ty).size := by omega
    refine start_ (n := 13) (S := fun w' => Below W1.heap.size W1 w' ∧ w'.cell? ⟨g, 4, none⟩ = some (.slice (some ad) 2 c4) ∧ w'.cell? ad = some k0 ∧ w'.cell? ⟨ad.block, ad.off + 1, none⟩ = some k1 ∧ w'.cell? ⟨ad.block, ad.off + 2, none⟩ = some k2 ∧ w'.cell? ⟨ad.block, ad.off + 3, none⟩ = some k3 ∧ w'.cell? ⟨ad.block, ad.off + 4, none⟩ = some k4 ∧ w'.cell? ⟨ad.block, ad.off + 5, none⟩ = some m0 ∧ w'.cell? ⟨ad.block, ad.off + 5 + 1, none⟩ = some m1 ∧ w'.cell? ⟨ad.block, ad.off + 5 + 2, none⟩ = some m2 ∧ w'.cell? ⟨ad.block, ad.off + 5 + 3, none⟩ = some m3 ∧ w'.cell? ⟨ad.block, ad.off + 5 + 4, none⟩ = some m4) (ds := []) #[false, false, false, false, false, false, false, false, false, false, false, false, false] (by kernel_rfl) rfl rfl ⟨(Below.refl _ _).drew, (HF.out _ (Below.refl _ _).drew)⟩ (fun hHeld => ?_)
    refine pure_ (i := 0) (N := some 56) (v := ?_) (a' := ?_) #[true, false, false, false, false, false, false, false, false, false, false, false, false] rfl rfl (by kernel_rfl) (fun _ _ _ h => h) (Or.inl ⟨by rfl, ?_⟩) ?_ ?_
    rotate_left
    · intro w'
      go_simp
      with_reducible rfl
    rotate_left
    · simp only [Act.put, List.setIfInBounds_toArray, List.set_cons_zero, List.set_cons_succ, i64_w, i32_w]
      rfl
    refine pure_ (i := 6) (N := some 62) (v := ?_) (a' := ?_) #[true, false, false, false, false, false, true, false, false, false, false, false, false] rfl rfl (by kernel_rfl) (fun _ _ _ h => h) (Or.inl ⟨by rfl, ?_⟩) ?_ ?_
    rotate_left
    · intro w'
      go_simp
      with_reducible rfl
    rotate_left
    · simp only [Act.put, List.setIfInBounds_toArray, List.set_cons_zero, List.set_cons_succ, i64_w, i32_w]
      rfl
    refine take_ (i := 1) (N := some 57) (v := ?_) (a' := ?_) #[true, true, false, false, false, false, true, false, false, false, false, false, false] rfl rfl (by kernel_rfl) (fun _ _ _ h => h) (Or.inl ⟨by rfl, ?_⟩) hHeld ?_ ?_
    rotate_left
    · rintro w' ⟨s0, s1, s2, s3, s4, s5, s6, s7, s8, s9, s10, s11⟩
      go_simp
      with_reducible rfl
    rotate_left
    · simp only [Act.put, List.setIfInBounds_toArray, List.set_cons_zero, List.set_cons_succ, i64_w, i32_w]
      rfl
    refine pure_ (i := 2) (N := some 58) (v := ?_) (a' := ?_) #[true, true, true, false, false, false, true, false, false, false, false, false, false] rfl rfl (by kernel_rfl) (fun _ _ _ h => h) (Or.inl ⟨by rfl, ?_⟩) ?_ ?_
    rotate_left
    · intro w'
      go_simp
      with_reducible rfl
    rotate_left
    · simp only [Act.put, List.setIfInBounds_toArray, List.set_cons_zero, List.set_cons_succ, i64_w, i32_w]
      rfl
    refine take_ (i := 3) (N := some 59) (v := ?_) (a' := ?_) #[true, true, true, true, false, false, true, false, false, false, false, false, false] rfl rfl (by kernel_rfl) (fun _ _ _ h => h) (Or.inl ⟨by rfl, ?_⟩) hHeld ?_ ?_
    rotate_left
    · rintro w' ⟨s0, s1, s2, s3, s4, s5, s6, s7, s8, s9, s10, s11⟩
      go_simp
      with_reducible rfl
    rotate_left
    · simp only [Act.put, List.setIfInBounds_toArray, List.set_cons_zero, List.set_cons_succ, i64_w, i32_w]
      rfl
    refine take_ (i := 7) (N := some 63) (v := ?_) (a' := ?_) #[true, true, true, true, false, false, true, true, false, false, false, false, false] rfl rfl (by kernel_rfl) (fun _ _ _ h => h) (Or.inl ⟨by rfl, ?_⟩) hHeld ?_ ?_
    rotate_left
    · rintro w' ⟨s0, s1, s2, s3, s4, s5, s6, s7, s8, s9, s10, s11⟩
      go_simp
      with_reducible rfl
    rotate_left
    · simp only [Act.put, List.setIfInBounds_toArray, List.set_cons_zero, List.set_cons_succ, i64_w, i32_w]
      rfl
    refine pure_ (i := 8) (N := some 64) (v := ?_) (a' := ?_) #[true, true, true, true, false, false, true, true, true, false, false, false, false] rfl rfl (by kernel_rfl) (fun _ _ _ h => h) (Or.inl ⟨by rfl, ?_⟩) ?_ ?_
    rotate_left
    · intro w'
      go_simp
      with_reducible rfl
    rotate_left
    · simp only [Act.put, List.setIfInBounds_toArray, List.set_cons_zero, List.set_cons_succ, i64_w, i32_w]
      rfl
    refine take_ (i := 9) (N := some 65) (v := ?_) (a' := ?_) #[true, true, true, true, false, false, true, true, true, true, false, false, false] rfl rfl (by kernel_rfl) (fun _ _ _ h => h) (Or.inl ⟨by rfl, ?_⟩) hHeld ?_ ?_
    rotate_left
    · rintro w' ⟨s0, s1, s2, s3, s4, s5, s6, s7, s8, s9, s10, s11⟩
      go_simp
      with_reducible rfl
    rotate_left
    · simp only [Act.put, List.setIfInBounds_toArray, List.set_cons_zero, List.set_cons_succ, i64_w, i32_w]
      rfl
    refine one_ (i := 4) (N := some 60) #[true, true, true, true, true, false, true, true, true, true, false, false, false] rfl rfl (by kernel_rfl) (by decide) (fun K hK => ?_)
    refine goes_ Tryd.func23 (by kernel_rfl) rfl #[.agg #[k0, k1, k2, k3, k4]] (by rfl) rfl rfl (by simp only [List.map_toArray, List.map_cons, List.map_nil]; rfl) ?_
    refine (HX1.out _ hHeld.1).mono ?_
    rintro e w3 ⟨rfl, hb⟩
    refine ⟨_, rfl, ?_⟩
    have hB3 := hHeld.1.trans (hb.mono hHeld.1.size)
    refine hK.out _ _ ⟨hB3, (HF.out _ hB3)⟩ (fun hHeld => ?_)
    clear hK K
    refine norm_ (a' := ?_) ?_ ?_
    rotate_left
    · show Act.put _ (some 60) _ = _
      simp only [Act.put, List.setIfInBounds_toArray, List.set_cons_zero, List.set_cons_succ, i64_w, i32_w]
      rfl
    refine pure_ (i := 5) (N := some 61) (v := ?_) (a' := ?_) #[true, true, true, true, true, true, true, true, true, true, false, false, false] rfl rfl (by kernel_rfl) (fun _ _ _ h => h) (Or.inl ⟨by rfl, ?_⟩) ?_ ?_
    rotate_left
    · intro w'
      go_simp
      with_reducible rfl
    rotate_left
    · simp only [Act.put, List.setIfInBounds_toArray, List.set_cons_zero, List.set_cons_succ, i64_w, i32_w]
      rfl
    refine one_ (i := 10) (N := some 66) #[true, true, true, true, true, true, true, true, true, true, true, false, false] rfl rfl (by kernel_rfl) (by decide) (fun K hK => ?_)
    refine goes_ Tryd.func40 (by kernel_rfl) rfl #[.agg #[m0, m1, m2, m3, m4]] (by rfl) rfl rfl (by simp only [List.map_toArray, List.map_cons, List.map_nil]; rfl) ?_
    refine (HY1.out _ hHeld.1).mono ?_
    rintro e w4 ⟨rfl, hb⟩
    refine ⟨_, rfl, ?_⟩
    have hB4 := hHeld.1.trans (hb.mono hHeld.1.size)
    refine hK.out _ _ ⟨hB4, (HF.out _ hB4)⟩ (fun hHeld => ?_)
    clear hK K
    refine norm_ (a' := ?_) ?_ ?_
    rotate_left
    · show Act.put _ (some 66) _ = _
      simp only [Act.put, List.setIfInBounds_toArray, List.set_cons_zero, List.set_cons_succ, i64_w, i32_w]
      rfl
    refine pure_ (i := 11) (N := some 67) (v := ?_) (a' := ?_) #[true, true, true, true, true, true, true, true, true, true, true, true, false] rfl rfl (by kernel_rfl) (fun _ _ _ h => h) (Or.inl ⟨by rfl, ?_⟩) ?_ ?_
    rotate_left
    · intro w'
      go_simp
      with_reducible rfl
    rotate_left
    · simp only [Act.put, List.setIfInBounds_toArray, List.set_cons_zero, List.set_cons_succ, i64_w, i32_w]
      rfl
    refine pure_ (i := 12) (N := some 2) (v := ?_) (a' := ?_) #[true, true, true, true, true, true, true, true, true, true, true, true, true] rfl rfl (by kernel_rfl) (fun _ _ _ h => h) (Or.inl ⟨by rfl, ?_⟩) ?_ ?_
    rotate_left
    · intro w'
      go_simp
      with_reducible rfl
    rotate_left
    · simp only [Act.put, List.setIfInBounds_toArray, List.set_cons_zero, List.set_cons_succ, i64_w, i32_w]
      rfl
    refine done_ (by kernel_rfl) ?_

    go_wp2_with fail
    go_ret
    exact ⟨ret_eq ((congrArg (· ++ str ty) (str_add tx [32, 43, 32])).trans (str_add _ _)), by rw [hg]; exact HB0.out.trans (hHeld.1.mono (by omega))⟩
  · simp only [show ¬ (5 : Int) = 4 from by decide, if_false]
    go_enter Tryd.func23, Tryd.ntmps23
    go_wp2_with fail
    have HX1 := Aside0.mk (fun (w' : World) (hb : Below (W.alloc (.cells #[.int .i64 5, .int .i64 n, .string fd, c3v, .slice (some ad) 2 c4] 26)).heap.size (W.alloc (.cells #[.int .i64 5, .int .i64 n, .string fd, c3v, .slice (some ad) 2 c4] 26)) w') => HX.out w' (HB0.out.trans (Below.mono hb HB0.out.size)))
    have HY1 := Aside0.mk (fun (w' : World) (hb : Below (W.alloc (.cells #[.int .i64 5, .int .i64 n, .string fd, c3v, .slice (some ad) 2 c4] 26)).heap.size (W.alloc (.cells #[.int .i64 5, .int .i64 n, .string fd, c3v, .slice (some ad) 2 c4] 26)) w') => HY.out w' (HB0.out.trans (Below.mono hb HB0.out.size)))
    clear HX HY
    generalize (W.alloc (.cells #[.int .i64 5, .int .i64 n, .string fd, c3v, .slice (some ad) 2 c4] 26)) = W1 at *
    have hst : W.heap.size ≤ W1.heap.size := HB0.out.size
    generalize hg : W.heap.size = g at *
    have n1 : ¬ 9223372036854775807 < (str tx).size + 3 := by omega
    have n2 : ¬ 9223372036854775807 < (str tx).size + 3 + (str ty).size := by omega
    refine start_ (n := 13) (S := fun w' => Below W1.heap.size W1 w' ∧ w'.cell? ⟨g, 4, none⟩ = some (.slice (some ad) 2 c4) ∧ w'.cell? ad = some k0 ∧ w'.cell? ⟨ad.block, ad.off + 1, none⟩ = some k1 ∧ w'.cell? ⟨ad.block, ad.off + 2, none⟩ = some k2 ∧ w'.cell? ⟨ad.block, ad.off + 3, none⟩ = some k3 ∧ w'.cell? ⟨ad.block, ad.off + 4, none⟩ = some k4 ∧ w'.cell? ⟨ad.block, ad.off + 5, none⟩ = some m0 ∧ w'.cell? ⟨ad.block, ad.off + 5 + 1, none⟩ = some m1 ∧ w'.cell? ⟨ad.block, ad.off + 5 + 2, none⟩ = some m2 ∧ w'.cell? ⟨ad.block, ad.off + 5 + 3, none⟩ = some m3 ∧ w'.cell? ⟨ad.block, ad.off + 5 + 4, none⟩ = some m4) (ds := []) #[false, false, false, false, false, false, false, false, false, false, false, false, false] (by kernel_rfl) rfl rfl ⟨(Below.refl _ _).drew, (HF.out _ (Below.refl _ _).drew)⟩ (fun hHeld => ?_)
    refine pure_ (i := 0) (N := some 70) (v := ?_) (a' := ?_) #[true, false, false, false, false, false, false, false, false, false, false, false, false] rfl rfl (by kernel_rfl) (fun _ _ _ h => h) (Or.inl ⟨by rfl, ?_⟩) ?_ ?_
    rotate_left
    · intro w'
      go_simp
      with_reducible rfl
    rotate_left
    · simp only [Act.put, List.setIfInBounds_toArray, List.set_cons_zero, List.set_cons_succ, i64_w, i32_w]
      rfl
    refine pure_ (i := 6) (N := some 76) (v := ?_) (a' := ?_) #[true, false, false, false, false, false, true, false, false, false, false, false, false] rfl rfl (by kernel_rfl) (fun _ _ _ h => h) (Or.inl ⟨by rfl, ?_⟩) ?_ ?_
    rotate_left
    · intro w'
      go_simp
      with_reducible rfl
    rotate_left
    · simp only [Act.put, List.setIfInBounds_toArray, List.set_cons_zero, List.set_cons_succ, i64_w, i32_w]
      rfl
    refine take_ (i := 1) (N := some 71) (v := ?_) (a' := ?_) #[true, true, false, false, false, false, true, false, false, false, false, false, false] rfl rfl (by kernel_rfl) (fun _ _ _ h => h) (Or.inl ⟨by rfl, ?_⟩) hHeld ?_ ?_
    rotate_left
    · rintro w' ⟨s0, s1, s2, s3, s4, s5, s6, s7, s8, s9, s10, s11⟩
      go_simp
      with_reducible rfl
    rotate_left
    · simp only [Act.put, List.setIfInBounds_toArray, List.set_cons_zero, List.set_cons_succ, i64_w, i32_w]
      rfl
    refine pure_ (i := 2) (N := some 72) (v := ?_) (a' := ?_) #[true, true, true, false, false, false, true, false, false, false, false, false, false] rfl rfl (by kernel_rfl) (fun _ _ _ h => h) (Or.inl ⟨by rfl, ?_⟩) ?_ ?_
    rotate_left
    · intro w'
      go_simp
      with_reducible rfl
    rotate_left
    · simp only [Act.put, List.setIfInBounds_toArray, List.set_cons_zero, List.set_cons_succ, i64_w, i32_w]
      rfl
    refine take_ (i := 3) (N := some 73) (v := ?_) (a' := ?_) #[true, true, true, true, false, false, true, false, false, false, false, false, false] rfl rfl (by kernel_rfl) (fun _ _ _ h => h) (Or.inl ⟨by rfl, ?_⟩) hHeld ?_ ?_
    rotate_left
    · rintro w' ⟨s0, s1, s2, s3, s4, s5, s6, s7, s8, s9, s10, s11⟩
      go_simp
      with_reducible rfl
    rotate_left
    · simp only [Act.put, List.setIfInBounds_toArray, List.set_cons_zero, List.set_cons_succ, i64_w, i32_w]
      rfl
    refine take_ (i := 7) (N := some 77) (v := ?_) (a' := ?_) #[true, true, true, true, false, false, true, true, false, false, false, false, false] rfl rfl (by kernel_rfl) (fun _ _ _ h => h) (Or.inl ⟨by rfl, ?_⟩) hHeld ?_ ?_
    rotate_left
    · rintro w' ⟨s0, s1, s2, s3, s4, s5, s6, s7, s8, s9, s10, s11⟩
      go_simp
      with_reducible rfl
    rotate_left
    · simp only [Act.put, List.setIfInBounds_toArray, List.set_cons_zero, List.set_cons_succ, i64_w, i32_w]
      rfl
    refine pure_ (i := 8) (N := some 78) (v := ?_) (a' := ?_) #[true, true, true, true, false, false, true, true, true, false, false, false, false] rfl rfl (by kernel_rfl) (fun _ _ _ h => h) (Or.inl ⟨by rfl, ?_⟩) ?_ ?_
    rotate_left
    · intro w'
      go_simp
      with_reducible rfl
    rotate_left
    · simp only [Act.put, List.setIfInBounds_toArray, List.set_cons_zero, List.set_cons_succ, i64_w, i32_w]
      rfl
    refine take_ (i := 9) (N := some 79) (v := ?_) (a' := ?_) #[true, true, true, true, false, false, true, true, true, true, false, false, false] rfl rfl (by kernel_rfl) (fun _ _ _ h => h) (Or.inl ⟨by rfl, ?_⟩) hHeld ?_ ?_
    rotate_left
    · rintro w' ⟨s0, s1, s2, s3, s4, s5, s6, s7, s8, s9, s10, s11⟩
      go_simp
      with_reducible rfl
    rotate_left
    · simp only [Act.put, List.setIfInBounds_toArray, List.set_cons_zero, List.set_cons_succ, i64_w, i32_w]
      rfl
    refine one_ (i := 4) (N := some 74) #[true, true, true, true, true, false, true, true, true, true, false, false, false] rfl rfl (by kernel_rfl) (by decide) (fun K hK => ?_)
    refine goes_ Tryd.func23 (by kernel_rfl) rfl #[.agg #[k0, k1, k2, k3, k4]] (by rfl) rfl rfl (by simp only [List.map_toArray, List.map_cons, List.map_nil]; rfl) ?_
    refine (HX1.out _ hHeld.1).mono ?_
    rintro e w3 ⟨rfl, hb⟩
    refine ⟨_, rfl, ?_⟩
    have hB3 := hHeld.1.trans (hb.mono hHeld.1.size)
    refine hK.out _ _ ⟨hB3, (HF.out _ hB3)⟩ (fun hHeld => ?_)
    clear hK K
    refine norm_ (a' := ?_) ?_ ?_
    rotate_left
    · show Act.put _ (some 74) _ = _
      simp only [Act.put, List.setIfInBounds_toArray, List.set_cons_zero, List.set_cons_succ, i64_w, i32_w]
      rfl
    refine pure_ (i := 5) (N := some 75) (v := ?_) (a' := ?_) #[true, true, true, true, true, true, true, true, true, true, false, false, false] rfl rfl (by kernel_rfl) (fun _ _ _ h => h) (Or.inl ⟨by rfl, ?_⟩) ?_ ?_
    rotate_left
    · intro w'
      go_simp
      with_reducible rfl
    rotate_left
    · simp only [Act.put, List.setIfInBounds_toArray, List.set_cons_zero, List.set_cons_succ, i64_w, i32_w]
      rfl
    refine one_ (i := 10) (N := some 80) #[true, true, true, true, true, true, true, true, true, true, true, false, false] rfl rfl (by kernel_rfl) (by decide) (fun K hK => ?_)
    refine goes_ Tryd.func40 (by kernel_rfl) rfl #[.agg #[m0, m1, m2, m3, m4]] (by rfl) rfl rfl (by simp only [List.map_toArray, List.map_cons, List.map_nil]; rfl) ?_
    refine (HY1.out _ hHeld.1).mono ?_
    rintro e w4 ⟨rfl, hb⟩
    refine ⟨_, rfl, ?_⟩
    have hB4 := hHeld.1.trans (hb.mono hHeld.1.size)
    refine hK.out _ _ ⟨hB4, (HF.out _ hB4)⟩ (fun hHeld => ?_)
    clear hK K
    refine norm_ (a' := ?_) ?_ ?_
    rotate_left
    · show Act.put _ (some 80) _ = _
      simp only [Act.put, List.setIfInBounds_toArray, List.set_cons_zero, List.set_cons_succ, i64_w, i32_w]
      rfl
    refine pure_ (i := 11) (N := some 81) (v := ?_) (a' := ?_) #[true, true, true, true, true, true, true, true, true, true, true, true, false] rfl rfl (by kernel_rfl) (fun _ _ _ h => h) (Or.inl ⟨by rfl, ?_⟩) ?_ ?_
    rotate_left
    · intro w'
      go_simp
      with_reducible rfl
    rotate_left
    · simp only [Act.put, List.setIfInBounds_toArray, List.set_cons_zero, List.set_cons_succ, i64_w, i32_w]
      rfl
    refine pure_ (i := 12) (N := some 2) (v := ?_) (a' := ?_) #[true, true, true, true, true, true, true, true, true, true, true, true, true] rfl rfl (by kernel_rfl) (fun _ _ _ h => h) (Or.inl ⟨by rfl, ?_⟩) ?_ ?_
    rotate_left
    · intro w'
      go_simp
      with_reducible rfl
    rotate_left
    · simp only [Act.put, List.setIfInBounds_toArray, List.set_cons_zero, List.set_cons_succ, i64_w, i32_w]
      rfl
    refine done_ (by kernel_rfl) ?_

    go_wp2_with fail
    go_ret
    exact ⟨ret_eq ((congrArg (· ++ str ty) (str_add tx [32, 45, 32])).trans (str_add _ _)), by rw [hg]; exact HB0.out.trans (hHeld.1.mono (by omega))⟩

def accT (l : List (List UInt8)) (k : Nat) : List UInt8 := if k = 0 then [40] else argsT [] (l.take k) 0
theorem accT_succ (l : List (List UInt8)) (k : Nat) (h : k < l.length) : accT l (k + 1) = accT l k ++ ((if k = 0 then [] else [44, 32]) ++ l[k]) := by
  unfold accT
  rw [if_neg (by omega), List.take_succ_eq_append_getElem h, argsT_snoc, List.length_take, Nat.zero_add, Nat.min_eq_left (by omega)]
  by_cases hz : k = 0
  · subst hz; simp [argsT]
  · simp [hz]
theorem accT_len (l : List (List UInt8)) : ∀ (k : Nat), k < l.length → (accT l k).length ≤ (accT l l.length).length := by
  suffices h : ∀ (d k : Nat), l.length - k = d → k ≤ l.length → (accT l k).length ≤ (accT l l.length).length from fun k hk => h _ k rfl (by omega)
  intro d
  induction d with
  | zero =>
    intro k h hk
    have : k = l.length := by omega
    rw [this]; exact Nat.le_refl _
  | succ d ih =>
    intro k h hk
    have h1 := ih (k + 1) (by omega) (by omega)
    rw [accT_succ l k (by omega)] at h1
    simp only [List.length_append] at h1
    omega
theorem argsT_word (word : List UInt8) (l : List (List UInt8)) (h : l ≠ []) : argsT word l 0 = word ++ argsT [] l 0 := by
  cases l with
  | nil => exact absurd rfl h
  | cons t l =>
    have : ∀ (l : List (List UInt8)) (i : Nat), 0 < i → argsT word l i = argsT [] l i := by
      intro l
      induction l with
      | nil => intro i _; rfl
      | cons t l ih => intro i hi; rw [argsT, argsT, if_neg (by omega), if_neg (by omega), ih _ (by omega)]
    rw [argsT, argsT, this l 1 (by omega)]
    simp

set_option maxHeartbeats 4000000 in
theorem ref_list (ks : List S26) (A : Option Addr) (c : Nat) (W : World) (hr : Kd.C k26 W A ks.length ks) (hks : ∀ x ∈ ks, RefAt x) (hlen : (accT (ks.map exprT) ks.length).length ≤ 140737488355000) :
    Calls Tryd.prog 41 #[.slice A ks.length c] W fun e w' => e = .returned (.string (str (accT (ks.map exprT) ks.length ++ [41]))) ∧ Below W.heap.size W w' := by
  have hbig : ks.length ≤ 9223372036854775807 := hr.2.1
  have HR := Aside0.mk hr
  have HK := Aside0.mk hks
  have HL := Aside0.mk hlen
  clear hr hks hlen
  go_enter Tryd.func41, Tryd.ntmps41
  go_wp2_with fail
  go_loopg [3, 4] ks.length (fun gg s3 s4 wr => ∃ kk : Nat, kk ≤ ks.length ∧ ks.length - kk ≤ gg ∧ s4 = .int .i64 kk ∧ s3 = .string (str (accT (ks.map exprT) kk)) ∧ Aside (Below W.heap.size W wr))
  case atStart => exact ⟨0, Nat.zero_le _, by omega, rfl, rfl, Below.refl _ _⟩
  case round =>
    obtain ⟨kk, hkk, hgg, rfl, rfl, BW⟩ := hrel
    by_cases hlt : kk < ks.length
    · have hltz : (kk : Int) < (ks.length : Int) := by omega
      have hS := accT_succ (ks.map exprT) kk (by simpa using hlt)
      have hL1 : (accT (ks.map exprT) (kk + 1)).length ≤ 140737488355000 := by
        by_cases h : kk + 1 < ks.length
        · have := accT_len (ks.map exprT) (kk + 1) (by simpa using h)
          have h2 := HL.out
          rw [List.length_map] at this
          omega
        · have e : kk + 1 = ks.length := by omega
          rw [e]; exact HL.out
      rw [List.getElem_map] at hS
      rw [hS] at hL1
      simp only [List.length_append] at hL1
      obtain ⟨ad, k0, k1, k2, k3, k4, hA, hK, hcells⟩ := kid_at HR.out kk hlt
      obtain ⟨e0, e1, e2, e3, e4⟩ := hcells wr BW.out
      subst hA
      have HX := Aside0.mk (fun W' (hb : Below W.heap.size W W') => HK.out ks[kk] (List.getElem_mem hlt) W' _ (k26.K_below hb hK) (by omega))
      have HS := Aside0.mk hS
      have hz1 : (str (accT (ks.map exprT) kk)).size ≤ 140737488355000 := by rw [str_size]; omega
      have hz2 : (str (exprT ks[kk])).size ≤ 140737488355000 := by rw [str_size]; omega
      clear hK hcells hS
      generalize exprT ks[kk] = tx at *
      generalize hacc : accT (ks.map exprT) kk = ac at *
      by_cases hz : kk = 0
      · subst hz
        simp only [Nat.zero_mul, Addr.add_zero'] at e0 e1 e2 e3 e4
        go_wp2_with fail
        refine (HX.out _ BW.out).mono ?_
        rintro e w1 ⟨rfl, hb⟩
        have HB := Aside0.mk (below_step BW.out hb)
        clear hb e0 e1 e2 e3 e4
        go_wp2_with fail
        go_roundg (ks.length - (0 + 1))
        case measure => omega
        case rel =>
          refine ⟨0 + 1, by omega, by omega, by go_num, ?_, HB.out⟩
          rw [HS.out, if_pos trivial]
          rw [List.nil_append, ← str_add]
      · have hkz : (0 : Int) < (kk : Int) := by omega
        have n2 : ¬ 9223372036854775807 < (str ac).size + 2 + (str tx).size := by omega
        go_wp2_with fail
        refine (HX.out _ BW.out).mono ?_
        rintro e w1 ⟨rfl, hb⟩
        have HB := Aside0.mk (below_step BW.out hb)
        clear hb e0 e1 e2 e3 e4
        go_wp2_with fail
        go_roundg (ks.length - (kk + 1))
        case measure => omega
        case rel =>
          refine ⟨kk + 1, by omega, by omega, by go_num, ?_, HB.out⟩
          rw [HS.out, if_neg hz]
          rw [← str_add, ← str_add, ByteArray.append_assoc]; rfl
    · have e : kk = ks.length := by omega
      subst e
      have hz1 : (str (accT (ks.map exprT) ks.length)).size ≤ 140737488355000 := by rw [str_size]; exact HL.out
      go_wp2_with fail
      go_ret
      exact ⟨ret_eq (str_add _ [41]), BW.out⟩
end Go.Proofs.YtgkfpakncjncdaaDoor.Syn
