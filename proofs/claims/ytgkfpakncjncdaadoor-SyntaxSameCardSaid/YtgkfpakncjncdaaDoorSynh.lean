/- strings.ContainsFunc is the library's; the document's decimals are the program's. -/
import Derived.Test.YtgkfpakncjncdaaDoorSyng
import Derived.Lib.LazyBuf
import Derived.Test.YtgkfpakncjncdaaDoorPSynx2
import Derived.Test.YtgkfpakncjncdaaDoorPSynx3
import Derived.ChangeArms
import Derived.ChangeSame
import Derived.SizedLaws
import Derived.DataElems
namespace Go.Proofs.YtgkfpakncjncdaaDoor.Syn
open Go.RowKit Go.Lib Go.Proofs.YtgkfpakncjncdaaDoorW.PrintWords Go.Proofs.YtgkfpakncjncdaaDoorW.PrintLast Go.Proofs.YtgkfpakncjncdaaDoorW.PrintMore Go.Proofs.YtgkfpakncjncdaaDoor.PSyn
set_option linter.unusedVariables false
set_option linter.unusedSimpArgs false

theorem cfn : CFn := fun s w => Tryd.strings_ContainsFunc 64 #[] (enters_ Tryd.func64 (by kernel_rfl) rfl) lowP s w (name1_at w)

/-- bytes as numbers -/
def ints (l : List UInt8) : List Int := l.map fun b => (b.toNat : Int)
theorem digit_byte (m : Nat) : (wrap64 (48 + (m % 10 : Nat) : Int)) % 256 = ((UInt8.ofNat (48 + m % 10)).toNat : Int) := by
  rw [wrap_small (by omega) (by omega)]
  simp
theorem low_ev (a0 : Int) (h0 : 0 ≤ a0) (v : ByteArray) : ∀ (c m : Nat) (x3 : List Int), m < c → 0 < m → m ≤ 9223372036854775807 → x3.length + nDigits m ≤ 100000 → Ev (fun k => octroiref25_Decimal.j1 k (x3 ++ ints (decDigits m).reverse)) v →
    Ev (fun k => octroiref25_Decimal.l0 k a0 x3 (m : Int)) v := by
  intro c
  induction c with
  | zero => intro m x3 h; omega
  | succ c ih =>
    intro m x3 hc hm hbig hl hv
    have e1 : Int.tmod (m : Int) 10 = ((m % 10 : Nat) : Int) := by rw [Int.tmod_eq_emod_of_nonneg (by omega)]; omega
    have e2 : Int.tdiv (m : Int) 10 = ((m / 10 : Nat) : Int) := by rw [Int.tdiv_eq_ediv_of_nonneg (by omega)]; omega
    have hp := nDigits_pos m
    refine Ev.step (f := fun k => octroiref25_Decimal.l0 k a0 (x3 ++ [((UInt8.ofNat (48 + m % 10)).toNat : Int)]) ((m / 10 : Nat) : Int)) (fun k => ?_) ?_
    · simp only [octroiref25_Decimal.l0]
      rw [if_neg (by omega), e1, e2, if_neg (by omega), if_pos (by omega), digit_byte, wrap_small (by omega) (by omega)]
    · by_cases h10 : m < 10
      · have e3 : m / 10 = 0 := by omega
        rw [e3]
        refine Ev.step (f := fun k => octroiref25_Decimal.j1 k (x3 ++ [((UInt8.ofNat (48 + m % 10)).toNat : Int)])) (fun k => ?_) ?_
        · simp only [octroiref25_Decimal.l0]
          rw [if_pos (by rfl), if_neg (by omega)]
        · rw [decDigits_one h10] at hv
          have e4 : m % 10 = m := by omega
          rw [e4]
          simpa [ints] using hv
      · refine ih (m / 10) _ (by omega) (by omega) (by omega) (by rw [nDigits_big h10] at hl; simp; omega) ?_
        rw [decDigits, dif_neg h10] at hv
        simpa [ints] using hv

theorem high_ev (x3 : List Int) (hl : x3.length ≤ 100000) : ∀ (i : Nat) (x6 : List Int), i ≤ x3.length → x6.length + i ≤ 100000 → Ev (fun k => octroiref25_Decimal.l1 k x3 x6 ((i : Int) - 1)) (strOfNums (x6 ++ (x3.take i).reverse))
  | 0, x6, hi, hx => by
    refine Ev.step (f := fun _ => some (strOfNums x6)) (fun k => ?_) (by simpa using Ev.now _)
    simp only [octroiref25_Decimal.l1]
    rw [if_neg (by omega)]
  | i + 1, x6, hi, hx => by
    have hlt : i < x3.length := by omega
    have e : rd x3 (((i + 1 : Nat) : Int) - 1) = x3[i] := by
      have : ((((i + 1 : Nat) : Int) - 1)).toNat = i := by omega
      simp [rd, this, List.getD_eq_getElem?_getD, hlt]
    refine Ev.step (f := fun k => octroiref25_Decimal.l1 k x3 (x6 ++ [x3[i]]) ((i : Int) - 1)) (fun k => ?_) ?_
    · simp only [octroiref25_Decimal.l1]
      rw [if_pos (by omega), if_pos (by omega), if_pos (by omega), if_pos (by omega), e, wrap_small (by omega) (by omega)]
      have : ((i + 1 : Nat) : Int) - 1 - 1 = (i : Int) - 1 := by omega
      rw [this]
    · have := high_ev x3 hl i (x6 ++ [x3[i]]) (by omega) (by simp; omega)
      rw [List.take_succ_eq_append_getElem hlt]
      simp only [List.reverse_append, List.reverse_cons, List.reverse_nil, List.nil_append, List.singleton_append, List.append_assoc, List.cons_append] at this ⊢
      exact this

theorem nDigits_le (k u : Nat) (h : u < 10 ^ k) (hk : 1 ≤ k) : nDigits u ≤ k := by
  by_cases hu : u < 10
  · rw [nDigits_small hu]; exact hk
  · have hb := nDigits_big hu
    by_cases hlt : nDigits u ≤ k
    · exact hlt
    · exfalso
      have h1 := decDigits_eq u
      have : ∀ (j u : Nat), u < 10 ^ j → 1 ≤ j → nDigits u ≤ j := by
        intro j
        induction j with
        | zero => intro u _ h; omega
        | succ j ihj =>
          intro u hu hj
          by_cases h10 : u < 10
          · rw [nDigits_small h10]; omega
          · rw [nDigits_big h10]
            have hj1 : 1 ≤ j := by
              rcases j with _ | j
              · simp at hu; omega
              · omega
            have := ihj (u / 10) (by rw [Nat.pow_succ] at hu; omega) hj1
            omega
      exact hlt (this k u h hk)
theorem digits_len {n : Int} (h0 : 0 ≤ n) (h1 : n ≤ 999999999999999999) : (digits n).length ≤ 18 := by
  unfold digits Lib.itoa
  rw [if_neg (by omega), decDigits_length]
  exact nDigits_le 18 _ (by omega) (by decide)

theorem decimal_ev (n : Int) (h0 : 0 ≤ n) (h1 : n ≤ 999999999999999999) : Ev (fun k => octroiref31_decimal.f k n) ⟨(digits n).toArray⟩ := by
  refine Ev.bind (g := fun k => octroiref25_Decimal.f k n) (f := fun _ t => some t) (a := ⟨(digits n).toArray⟩) ?_ (Ev.now _)
  unfold digits Lib.itoa
  rw [if_neg (by omega)]
  by_cases hz : n = 0
  · subst hz
    refine Ev.step (f := fun _ => some ⟨#[48]⟩) (fun k => by simp [octroiref25_Decimal.f]) ?_
    have : decDigits (Int.toNat 0) = [48] := by rw [decDigits]; rfl
    rw [this]
    exact Ev.now _
  · obtain ⟨m, rfl⟩ : ∃ m : Nat, n = m := ⟨n.toNat, by omega⟩
    have hd : nDigits m ≤ 18 := nDigits_le 18 _ (by omega) (by decide)
    have hlen : (decDigits m).length ≤ 18 := by rw [decDigits_length]; exact hd
    have hj : Ev (fun k => octroiref25_Decimal.j1 k ([] ++ ints (decDigits m).reverse)) (strOfNums (ints (decDigits m))) := by
      have := high_ev (ints (decDigits m).reverse) (by simp [ints]; omega) (ints (decDigits m).reverse).length [] (Nat.le_refl _) (by simp [ints]; omega)
      refine Ev.step (f := fun k => octroiref25_Decimal.l1 k (ints (decDigits m).reverse) [] (((ints (decDigits m).reverse).length : Int) - 1)) (fun k => ?_) ?_
      · simp only [octroiref25_Decimal.j1, List.nil_append]
        rw [wrap_small (by simp [ints]; omega) (by simp [ints]; omega)]
      · have e : ([] ++ (List.take (ints (decDigits m).reverse).length (ints (decDigits m).reverse)).reverse) = ints (decDigits m) := by rw [List.take_length, List.nil_append]; simp [ints]
        rw [e] at this
        exact this
    have hL := low_ev (m : Int) h0 _ (m + 1) m [] (by omega) (by omega) (by omega) (by simp; omega) hj
    refine Ev.congr (f := fun k => octroiref25_Decimal.l0 k (m : Int) [] (m : Int)) (fun k => by unfold octroiref25_Decimal.f; rw [if_neg hz]) ?_
    have e : strOfNums (ints (decDigits m)) = ⟨(decDigits m).toArray⟩ := by
      simp only [strOfNums, ints, List.map_map]
      congr 1
      congr 1
      refine (List.map_congr_left (g := id) (fun b _ => ?_)).trans (List.map_id _)
      simp
    rw [Int.toNat_natCast, ← e]
    exact hL
end Go.Proofs.YtgkfpakncjncdaaDoor.Syn
/- What the statements look at: few, and how long a text is then. -/
namespace Go.Proofs.YtgkfpakncjncdaaDoor.Syn
open Go.RowKit Go.Lib Go.Proofs.YtgkfpakncjncdaaDoorW.PrintWords Go.Proofs.YtgkfpakncjncdaaDoorW.PrintLast Go.Proofs.YtgkfpakncjncdaaDoorW.PrintMore Go.Proofs.YtgkfpakncjncdaaDoor.PSyn
set_option linter.unusedVariables false
set_option linter.unusedSimpArgs false

/-- no row of it is longer than memory is -/
inductive Fine : S26 → Prop
  | mk (x : S26) (h3 : x.f3.length ≤ 140737488355328) (h4 : x.f4.length ≤ 140737488355328) (hk : ∀ y ∈ x.f4, Fine y) : Fine x
theorem Fine.f3 {x : S26} (h : Fine x) : x.f3.length ≤ 140737488355328 := by cases h; assumption
theorem Fine.f4 {x : S26} (h : Fine x) : x.f4.length ≤ 140737488355328 := by cases h; assumption
theorem Fine.kids {x : S26} (h : Fine x) : ∀ y ∈ x.f4, Fine y := by cases h; assumption

mutual
def sizeN : S26 → Int → Int
  | ⟨_, _, _, fs, ks⟩, most => sizeL ks most (1 + (fs.length : Int))
def sizeL : List S26 → Int → Int → Int
  | [], _, n => n
  | x :: l, most, n => if n > most then n else sizeL l most (n + sizeN x (most - n))
end
mutual
def partsN : S26 → Nat
  | ⟨_, _, _, fs, ks⟩ => 1 + fs.length + partsL ks
def partsL : List S26 → Nat
  | [] => 0
  | x :: l => partsN x + partsL l
end
theorem size_lt {y : S26} {k m : Int} {fd : ByteArray} {fs : List S54} {ks : List S26} (hy : y ∈ ks) : SizeOf.sizeOf y < SizeOf.sizeOf (S26.mk k m fd fs ks) := by
  have h1 : SizeOf.sizeOf y < SizeOf.sizeOf ks := List.sizeOf_lt_of_mem hy
  have h2 : SizeOf.sizeOf (S26.mk k m fd fs ks) = 1 + SizeOf.sizeOf k + SizeOf.sizeOf m + SizeOf.sizeOf fd + SizeOf.sizeOf fs + SizeOf.sizeOf ks := by simp
  omega
theorem sizeL_bd {l : List S26} (h : ∀ y : S26, y ∈ l → Fine y → ∀ most : Int, 0 ≤ most → 1 ≤ sizeN y most ∧ sizeN y most ≤ most + 140737488355329) : ∀ (hf : ∀ y ∈ l, Fine y) (most n : Int), 0 ≤ most → 1 ≤ n → n ≤ most + 140737488355329 → n ≤ sizeL l most n ∧ sizeL l most n ≤ most + 140737488355329 := by
  induction l with
  | nil => intro hf most n h0 h1 h2; simp [sizeL]; exact h2
  | cons x l ih =>
    intro hf most n h0 h1 h2
    rw [sizeL]
    split
    · exact ⟨Int.le_refl _, h2⟩
    · have hx := h x (by simp) (hf x (by simp)) (most - n) (by omega)
      have := ih (fun y hy => h y (by simp [hy])) (fun y hy => hf y (by simp [hy])) most (n + sizeN x (most - n)) h0 (by omega) (by omega)
      omega
theorem sizeN_bd (x : S26) (hf : Fine x) (most : Int) (h0 : 0 ≤ most) : 1 ≤ sizeN x most ∧ sizeN x most ≤ most + 140737488355329 := by
  suffices hS : ∀ (n : Nat) (x : S26), SizeOf.sizeOf x < n → Fine x → ∀ most : Int, 0 ≤ most → 1 ≤ sizeN x most ∧ sizeN x most ≤ most + 140737488355329 from hS _ x (Nat.lt_succ_self _) hf most h0
  intro n
  induction n with
  | zero => intro x hx; exact absurd hx (Nat.not_lt_zero _)
  | succ n ih =>
    intro x hx hf most h0
    obtain ⟨k, m, fd, fs, ks⟩ := x
    have hl := hf.f3
    simp only at hl
    rw [sizeN]
    have := sizeL_bd (l := ks) (fun y hy => ih y (by have := size_lt (k := k) (m := m) (fd := fd) (fs := fs) hy; omega)) hf.kids most (1 + fs.length) h0 (by omega) (by omega)
    omega
theorem sizeL_parts {l : List S26} (h : ∀ y : S26, y ∈ l → ∀ most : Int, sizeN y most ≤ most → sizeN y most = partsN y) : ∀ (most n : Int), sizeL l most n ≤ most → sizeL l most n = n + partsL l := by
  induction l with
  | nil => intro most n h0; simp [sizeL, partsL]
  | cons x l ih =>
    intro most n h0
    rw [sizeL] at h0 ⊢
    rw [partsL]
    split at h0
    · omega
    · rename_i hn
      rw [if_neg hn]
      have h1 := ih (fun y hy => h y (by simp [hy])) most _ h0
      rw [h1] at h0 ⊢
      have h2 := h x (by simp) (most - n) (by omega)
      omega
theorem sizeN_parts (x : S26) (most : Int) (h : sizeN x most ≤ most) : sizeN x most = partsN x := by
  suffices hS : ∀ (n : Nat) (x : S26), SizeOf.sizeOf x < n → ∀ most : Int, sizeN x most ≤ most → sizeN x most = partsN x from hS _ x (Nat.lt_succ_self _) most h
  intro n
  induction n with
  | zero => intro x hx; exact absurd hx (Nat.not_lt_zero _)
  | succ n ih =>
    intro x hx most h
    obtain ⟨k, m, fd, fs, ks⟩ := x
    rw [sizeN] at h ⊢
    rw [partsN, sizeL_parts (l := ks) (fun y hy => ih y (by have := size_lt (k := k) (m := m) (fd := fd) (fs := fs) hy; omega)) _ _ h]
    omega

theorem sizeL_ev (most : Int) (h0 : 0 ≤ most) (h1 : most ≤ 1000) (p q : Int) (s : ByteArray) (fs : List S54) (ks : List S26) (hlen : ks.length ≤ 140737488355328) (hf : ∀ y ∈ ks, Fine y)
    (ih : ∀ y ∈ ks, ∀ mm : Int, 0 ≤ mm → mm ≤ 1000 → Ev (fun k => octroilaw31_size.f k y.f0 y.f1 y.f2 y.f3 y.f4 mm) (sizeN y mm)) :
    ∀ (d i : Nat) (n : Int), ks.length - i = d → i ≤ ks.length → 1 ≤ n → n ≤ most + 140737488355329 →
      Ev (fun k => octroilaw31_size.l0 k most n (ks.length : Int) (i : Int) p q s fs ks) (sizeL (ks.drop i) most n) := by
  intro d
  induction d with
  | zero =>
    intro i n hd hi h1 h2
    rw [List.drop_eq_nil_of_le (by omega), sizeL]
    refine Ev.step (f := fun _ => some n) (fun k => ?_) (Ev.now n)
    simp only [octroilaw31_size.l0]
    rw [if_neg (by omega)]
  | succ d ihd =>
    intro i n hd hi h3 h4
    have hlt : i < ks.length := by omega
    rw [List.drop_eq_getElem_cons hlt, sizeL]
    by_cases hn : n > most
    · rw [if_pos hn]
      refine Ev.step (f := fun _ => some n) (fun k => ?_) (Ev.now n)
      simp only [octroilaw31_size.l0]
      rw [if_pos (by omega), if_pos hn]
    · rw [if_neg hn]
      have hb := sizeN_bd ks[i] (hf _ (List.getElem_mem hlt)) (most - n) (by omega)
      refine Ev.step (f := fun k => (octroilaw31_size.f k ks[i].f0 ks[i].f1 ks[i].f2 ks[i].f3 ks[i].f4 (most - n)).bind fun t => octroilaw31_size.l0 k most (wrap64 (n + t)) (ks.length : Int) ((i : Int) + 1) p q s fs ks) (fun k => ?_) ?_
      · simp only [octroilaw31_size.l0]
        rw [if_pos (by omega), if_neg hn, if_pos (by omega), if_pos (by omega), rd_at hlt, wrap_small (by omega) (by omega), wrap_small (i := (i : Int) + 1) (by omega) (by omega)]
      · refine Ev.bind (ih _ (List.getElem_mem hlt) _ (by omega) (by omega)) ?_
        have := ihd (i + 1) (n + sizeN ks[i] (most - n)) (by omega) (by omega) (by omega) (by omega)
        rw [wrap_small (by omega) (by omega)]
        exact this
theorem size_ev (x : S26) (hf : Fine x) (most : Int) (h0 : 0 ≤ most) (h1 : most ≤ 1000) : Ev (fun k => octroilaw31_size.f k x.f0 x.f1 x.f2 x.f3 x.f4 most) (sizeN x most) := by
  suffices hS : ∀ (n : Nat) (x : S26), SizeOf.sizeOf x < n → Fine x → ∀ most : Int, 0 ≤ most → most ≤ 1000 → Ev (fun k => octroilaw31_size.f k x.f0 x.f1 x.f2 x.f3 x.f4 most) (sizeN x most) from hS _ x (Nat.lt_succ_self _) hf most h0 h1
  intro n
  induction n with
  | zero => intro x hx; exact absurd hx (Nat.not_lt_zero _)
  | succ n ih =>
    intro x hx hf most h0 h1
    obtain ⟨k, m, fd, fs, ks⟩ := x
    have h3 := hf.f3
    have h4 := hf.f4
    simp only at h3 h4 ⊢
    rw [sizeN]
    have := sizeL_ev most h0 h1 k m fd fs ks h4 hf.kids (fun y hy => ih y (by have := size_lt (k := k) (m := m) (fd := fd) (fs := fs) hy; omega) (hf.kids y hy)) _ 0 (1 + (fs.length : Int)) rfl (Nat.zero_le _) (by omega) (by omega)
    refine Ev.step (f := fun j => octroilaw31_size.l0 j most (1 + (fs.length : Int)) (ks.length : Int) 0 k m fd fs ks) (fun j => ?_) this
    simp only [octroilaw31_size.f]
    rw [wrap_small (by omega) (by omega)]

theorem shortK_ev (ks : List S26) (hlen : ks.length ≤ 140737488355328) (ih : ∀ y ∈ ks, Ev (fun k => octroilaw31_short.f k y.f0 y.f1 y.f2 y.f3 y.f4) (shortB y)) :
    ∀ (d i : Nat), ks.length - i = d → i ≤ ks.length → Ev (fun k => octroilaw31_short.l1 k ks (ks.length : Int) (i : Int)) ((ks.drop i).all shortB) := by
  intro d
  induction d with
  | zero =>
    intro i hd hi
    rw [List.drop_eq_nil_of_le (by omega)]
    refine Ev.step (f := fun _ => some true) (fun k => ?_) (Ev.now _)
    simp only [octroilaw31_short.l1]
    rw [if_neg (by omega)]
  | succ d ihd =>
    intro i hd hi
    have hlt : i < ks.length := by omega
    have ih' := ihd (i + 1) (by omega) (by omega)
    rw [List.drop_eq_getElem_cons hlt, List.all_cons]
    refine Ev.step (f := fun k => (octroilaw31_short.f k ks[i].f0 ks[i].f1 ks[i].f2 ks[i].f3 ks[i].f4).bind fun t => if t = true then octroilaw31_short.l1 k ks (ks.length : Int) ((i + 1 : Nat) : Int) else some false) (fun k => ?_) ?_
    · simp only [octroilaw31_short.l1]
      rw [if_pos (by omega), if_pos (by omega), if_pos (by omega), rd_at hlt, wrap_small (by omega) (by omega)]
      rfl
    · refine Ev.bind (ih _ (List.getElem_mem hlt)) ?_
      cases shortB ks[i]
      · simp only [Bool.false_eq_true, if_false, Bool.false_and]
        exact Ev.now _
      · simpa using ih'
theorem shortF_ev (k0 n : Int) (fd : ByteArray) (fs : List S54) (ks : List S26) (hlen3 : fs.length ≤ 140737488355328) (hlen : ks.length ≤ 140737488355328) (ih : ∀ y ∈ ks, Ev (fun k => octroilaw31_short.f k y.f0 y.f1 y.f2 y.f3 y.f4) (shortB y)) :
    ∀ (d i : Nat), fs.length - i = d → i ≤ fs.length → Ev (fun k => octroilaw31_short.l0 k fs (fs.length : Int) (i : Int) k0 n fd fs ks) ((fs.drop i).all (fun f => decide (f.f0.size ≤ 100)) && ks.all shortB) := by
  intro d
  induction d with
  | zero =>
    intro i hd hi
    rw [List.drop_eq_nil_of_le (by omega)]
    have := shortK_ev ks hlen ih _ 0 rfl (Nat.zero_le _)
    refine Ev.step (f := fun k => octroilaw31_short.l1 k ks (ks.length : Int) 0) (fun k => ?_) (by simpa using this)
    simp only [octroilaw31_short.l0]
    rw [if_neg (by omega)]
  | succ d ihd =>
    intro i hd hi
    have hlt : i < fs.length := by omega
    have ih' := ihd (i + 1) (by omega) (by omega)
    rw [List.drop_eq_getElem_cons hlt, List.all_cons]
    refine Ev.step (f := fun k => if (fs[i].f0.size : Int) > 100 then some false else octroilaw31_short.l0 k fs (fs.length : Int) ((i + 1 : Nat) : Int) k0 n fd fs ks) (fun k => ?_) ?_
    · simp only [octroilaw31_short.l0]
      rw [if_pos (by omega), if_pos (by omega), if_pos (by omega), rd_fi hlt, wrap_small (by omega) (by omega)]
      rfl
    · by_cases h : (fs[i].f0.size : Int) > 100
      · simp only [if_pos h]
        rw [decide_eq_false (show ¬ fs[i].f0.size ≤ 100 from by omega)]
        simp only [Bool.false_and]
        exact Ev.now _
      · simp only [if_neg h]
        rw [decide_eq_true (show fs[i].f0.size ≤ 100 from by omega)]
        simp only [Bool.true_and]
        exact ih'
theorem short_ev (x : S26) (hf : Fine x) : Ev (fun k => octroilaw31_short.f k x.f0 x.f1 x.f2 x.f3 x.f4) (shortB x) := by
  suffices hS : ∀ (n : Nat) (x : S26), SizeOf.sizeOf x < n → Fine x → Ev (fun k => octroilaw31_short.f k x.f0 x.f1 x.f2 x.f3 x.f4) (shortB x) from hS _ x (Nat.lt_succ_self _) hf
  intro n
  induction n with
  | zero => intro x hx; exact absurd hx (Nat.not_lt_zero _)
  | succ n ih =>
    intro x hx hf
    obtain ⟨k, m, fd, fs, ks⟩ := x
    have h3 := hf.f3
    have h4 := hf.f4
    simp only at h3 h4 ⊢
    rw [shortB, shortL_eq]
    have := shortF_ev k m fd fs ks h3 h4 (fun y hy => ih y (by have := size_lt (k := k) (m := m) (fd := fd) (fs := fs) hy; omega) (hf.kids y hy)) _ 0 rfl (Nat.zero_le _)
    rw [List.drop_zero] at this
    refine Ev.step (f := fun j => if (fd.size : Int) > 100 then some false else octroilaw31_short.l0 j fs (fs.length : Int) 0 k m fd fs ks) (fun j => by simp only [octroilaw31_short.f]) ?_
    by_cases h : (fd.size : Int) > 100
    · simp only [if_pos h]
      rw [decide_eq_false (show ¬ fd.size ≤ 100 from by omega)]
      simp only [Bool.false_and]
      exact Ev.now _
    · simp only [if_neg h]
      rw [decide_eq_true (show fd.size ≤ 100 from by omega), Bool.true_and]
      exact this

def fewB (x : S26) : Bool := decide (depthN 100 x ≤ 100) && (decide (sizeN x 400 ≤ 400) && shortB x)
theorem few_ev (x : S26) (hf : Fine x) (hx : Lies x) : Ev (fun k => octroilaw31_few.f k x.f0 x.f1 x.f2 x.f3 x.f4) (fewB x) := by
  unfold octroilaw31_few.f fewB
  refine Ev.bind (deep_ev 100 x (by omega) hx) ?_
  by_cases h : depthN 100 x ≤ 100
  · rw [decide_eq_true h]
    simp only [if_pos h, Bool.true_and]
    refine Ev.bind (size_ev x hf 400 (by omega) (by omega)) ?_
    by_cases h2 : sizeN x 400 ≤ 400
    · rw [decide_eq_true h2]
      simp only [if_pos h2, Bool.true_and]
      exact Ev.bind (short_ev x hf) (Ev.now _)
    · rw [decide_eq_false h2]
      simp only [if_neg h2, Bool.false_and]
      exact Ev.now _
  · rw [decide_eq_false h]
    simp only [if_neg h, Bool.false_and]
    exact Ev.now _
end Go.Proofs.YtgkfpakncjncdaaDoor.Syn
/- How long texts are; Few. -/
namespace Go.Proofs.YtgkfpakncjncdaaDoor.Syn
open Go.RowKit Go.Lib Go.Proofs.YtgkfpakncjncdaaDoorW.PrintWords Go.Proofs.YtgkfpakncjncdaaDoorW.PrintLast Go.Proofs.YtgkfpakncjncdaaDoorW.PrintMore Go.Proofs.YtgkfpakncjncdaaDoor.PSyn
set_option linter.unusedVariables false
set_option linter.unusedSimpArgs false

theorem argsT_len2 (word : List UInt8) : ∀ (l : List (List UInt8)) (i : Nat), (argsT word l i).length ≤ (l.map List.length).sum + l.length * (word.length + 2)
  | [], i => by simp [argsT]
  | t :: l, i => by
    rw [argsT]
    have := argsT_len2 word l (i + 1)
    have h : (if i = 0 then word ++ [40] else [44, 32]).length ≤ word.length + 2 := by split <;> simp
    simp only [List.length_append, List.map_cons, List.sum_cons, List.length_cons, Nat.add_mul, Nat.one_mul]
    omega
theorem brk_len (k : Int) (t : List UInt8) : (brk k t).length ≤ t.length + 2 := by unfold brk; split <;> simp
theorem filters_len (fs : List S54) (h1 : ∀ f ∈ fs, picksB f = true) (h2 : ∀ f ∈ fs, f.f0.size ≤ 100) : (fs.flatMap filterT).length ≤ 300 * fs.length := by
  induction fs with
  | nil => simp
  | cons f fs ih =>
    have ih' := ih (fun g hg => h1 g (by simp [hg])) (fun g hg => h2 g (by simp [hg]))
    have hp := picks_lt2 (h1 f (by simp))
    have hd := digits_len hp.2.2.1 hp.2.2.2
    have hs := h2 f (by simp)
    have e : f.f0.data.toList.length = f.f0.size := Array.length_toList
    rw [List.flatMap_cons, List.length_append, filterT]
    simp only [List.length_append, List.length_cons, List.length_nil]
    omega
theorem kids_len (ks : List S26) (h : ∀ y ∈ ks, (exprT y).length ≤ 300 * partsN y) : ((ks.map exprT).map List.length).sum ≤ 300 * partsL ks := by
  induction ks with
  | nil => simp [partsL]
  | cons y ks ih =>
    have ih' := ih (fun z hz => h z (by simp [hz]))
    have := h y (by simp)
    rw [partsL]
    simp only [List.map_cons, List.sum_cons]
    omega
theorem text_len (x : S26) (hr : rightB x = true) (hs : shortB x = true) : (exprT x).length ≤ 300 * partsN x := by
  suffices hS : ∀ (n : Nat) (x : S26), SizeOf.sizeOf x < n → rightB x = true → shortB x = true → (exprT x).length ≤ 300 * partsN x from hS _ x (Nat.lt_succ_self _) hr hs
  intro n
  induction n with
  | zero => intro x hx; exact absurd hx (Nat.not_lt_zero _)
  | succ n ih =>
    intro x hx hr hs
    obtain ⟨k, m, fd, fs, ks⟩ := x
    have hkid : ∀ y ∈ ks, rightB y = true → shortB y = true → (exprT y).length ≤ 300 * partsN y := fun y hy => ih y (by have := size_lt (k := k) (m := m) (fd := fd) (fs := fs) hy; omega)
    rw [rightB, anyWrong_eq] at hr
    rw [shortB, shortL_eq] at hs
    simp only [Bool.and_eq_true, decide_eq_true_eq, List.all_eq_true] at hs
    rw [exprT, exprsT_eq, partsN]
    by_cases h1 : k = 1
    · subst h1
      simp only [kidsN, true_or, if_true, Bool.true_eq_false, if_false] at hr ⊢
      have hn : numB m = true := by split at hr <;> simp_all
      have hn' := numB_lt hn
      have := digits_len hn'.1 hn'.2
      omega
    by_cases h2 : k = 2
    · subst h2
      simp only [kidsN, or_true, true_or, if_true, Bool.true_eq_false, if_false, show ¬ (2 : Int) = 1 from by decide] at hr ⊢
      have hn : boxB m = true := by split at hr <;> simp_all
      have hn' := boxB_lt hn
      have := digits_len (n := m) (by omega) (by omega)
      simp only [List.length_append, List.length_cons, List.length_nil]
      omega
    by_cases h3 : k = 3
    · subst h3
      simp only [kidsN, or_true, true_or, if_true, Bool.true_eq_false, if_false, show ¬ (3 : Int) = 1 from by decide, show ¬ (3 : Int) = 2 from by decide] at hr ⊢
      have hn : ∀ x ∈ fs, picksB x = true := by
        split at hr
        · simp at hr
        · split at hr
          · simp at hr
          · simp only [Bool.and_eq_true, Bool.not_eq_true', List.any_eq_false] at hr
            intro x hx
            simpa using hr.2 x hx
      have := filters_len fs hn hs.1.2
      have e : fd.data.toList.length = fd.size := Array.length_toList
      have hfd := hs.1.1
      simp only [List.length_append, List.length_cons, List.length_nil]
      omega
    have hks : ks.length = (kidsN k).1 ∧ (kidsN k).2 = true ∧ ∀ y ∈ ks, (exprT y).length ≤ 300 * partsN y := by
      simp only [if_neg h1, if_neg h2, if_neg h3] at hr
      split at hr
      · simp at hr
      · rename_i hk2
        split at hr
        · simp at hr
        · rename_i hl
          split at hr
          · simp at hr
          · simp only [Bool.and_eq_true, Bool.not_eq_true', List.any_eq_false] at hr
            refine ⟨by simpa using hl, by simpa using hk2, fun y hy => hkid y hy (by simpa using hr.2 y hy) (hs.2 y hy)⟩
    obtain ⟨hl, hk2, hks⟩ := hks
    clear hr hkid
    by_cases h45 : k = 4 ∨ k = 5
    · have e : (kidsN k).1 = 2 := by rcases h45 with rfl | rfl <;> rfl
      rw [e] at hl
      obtain ⟨x, y, rfl⟩ : ∃ x y, ks = [x, y] := by
        match ks, hl with
        | [x, y], _ => exact ⟨x, y, rfl⟩
      have hx := hks x (by simp)
      have hy := hks y (by simp)
      have hb := brk_len y.f0 (exprT y)
      have e1 : ([x, y].map exprT).getD 0 [] = exprT x := rfl
      have e2 : ([x, y].map exprT).getD 1 [] = exprT y := rfl
      have e3 : ([x, y].getD 1 z26) = y := rfl
      rcases h45 with rfl | rfl
      · simp only [show ¬ (4 : Int) = 1 from by decide, show ¬ (4 : Int) = 2 from by decide, show ¬ (4 : Int) = 3 from by decide, if_true, if_false, e1, e2, e3, partsL]
        simp only [List.length_append, List.length_cons, List.length_nil]
        omega
      · simp only [show ¬ (5 : Int) = 1 from by decide, show ¬ (5 : Int) = 2 from by decide, show ¬ (5 : Int) = 3 from by decide, show ¬ (5 : Int) = 4 from by decide, if_true, if_false, e1, e2, e3, partsL]
        simp only [List.length_append, List.length_cons, List.length_nil]
        omega
    by_cases h6 : k = 6
    · subst h6
      have e : (kidsN 6).1 = 1 := rfl
      rw [e] at hl
      obtain ⟨x, rfl⟩ : ∃ x, ks = [x] := by
        match ks, hl with
        | [x], _ => exact ⟨x, rfl⟩
      have hx := hks x (by simp)
      have hb := brk_len x.f0 (exprT x)
      have e1 : ([x].map exprT).getD 0 [] = exprT x := rfl
      have e3 : ([x].getD 0 z26) = x := rfl
      simp only [show ¬ (6 : Int) = 1 from by decide, show ¬ (6 : Int) = 2 from by decide, show ¬ (6 : Int) = 3 from by decide, show ¬ (6 : Int) = 4 from by decide, show ¬ (6 : Int) = 5 from by decide, if_true, if_false, e1, e3, partsL]
      simp only [List.length_append, List.length_cons, List.length_nil]
      omega
    have hn3 : ks.length ≤ 3 := by
      have : (kidsN k).1 ≤ 3 := by unfold kidsN; (repeat' split) <;> simp
      omega
    have hc : ∀ word : List UInt8, word.length ≤ 5 → (callT word (ks.map exprT)).length ≤ 300 * partsL ks + 22 := by
      intro word hw
      have h1 := argsT_len2 word (ks.map exprT) 0
      have h2 := kids_len ks hks
      have h3 : (ks.map exprT).length * (word.length + 2) ≤ 3 * 7 := by rw [List.length_map]; exact Nat.mul_le_mul hn3 (by omega)
      unfold callT
      simp only [List.length_append, List.length_cons, List.length_nil]
      omega
    have e4 : ¬ k = 4 := fun e => h45 (.inl e)
    have e5 : ¬ k = 5 := fun e => h45 (.inr e)
    simp only [if_neg h1, if_neg h2, if_neg h3, if_neg e4, if_neg e5, if_neg h6]
    repeat' split
    · have := hc [109, 105, 110] (by decide); omega
    · have := hc [109, 97, 120] (by decide); omega
    · have := hc [99, 108, 97, 109, 112] (by decide); omega
    · simp

def FewB (l : List S35) : Bool := l.all (fun x => fewB x.f1) && decide (l.length ≤ 20)
theorem FewL_ev (l : List S35) (hlen : l.length ≤ 9223372036854775807) (hf : ∀ x ∈ l, Fine x.f1) (hx : ∀ x ∈ l, Lies x.f1) :
    ∀ (d i : Nat), l.length - i = d → i ≤ l.length → Ev (fun k => octroilaw31_Few.l0 k l l (l.length : Int) (i : Int)) ((l.drop i).all (fun x => fewB x.f1) && decide (l.length ≤ 20)) := by
  intro d
  induction d with
  | zero =>
    intro i hd hi
    rw [List.drop_eq_nil_of_le (by omega)]
    have e : decide ((l.length : Int) ≤ 20) = decide (l.length ≤ 20) := by
      by_cases h : l.length ≤ 20
      · rw [decide_eq_true h, decide_eq_true (by omega)]
      · rw [decide_eq_false h, decide_eq_false (by omega)]
    refine Ev.step (f := fun _ => some (decide ((l.length : Int) ≤ 20))) (fun k => ?_) (by rw [e]; simpa using Ev.now _)
    simp only [octroilaw31_Few.l0]
    rw [if_neg (by omega)]
  | succ d ihd =>
    intro i hd hi
    have hlt : i < l.length := by omega
    have ih' := ihd (i + 1) (by omega) (by omega)
    have er : rd_T35 l (i : Int) = l[i] := by simp [rd_T35, List.getD_eq_getElem?_getD, hlt]
    rw [List.drop_eq_getElem_cons hlt, List.all_cons]
    refine Ev.step (f := fun k => (octroilaw31_few.f k l[i].f1.f0 l[i].f1.f1 l[i].f1.f2 l[i].f1.f3 l[i].f1.f4).bind fun t => if t = true then octroilaw31_Few.l0 k l l (l.length : Int) ((i + 1 : Nat) : Int) else some false) (fun k => ?_) ?_
    · simp only [octroilaw31_Few.l0]
      rw [if_pos (by omega), if_pos (by omega), if_pos (by omega), er, wrap_small (by omega) (by omega)]
      rfl
    · refine Ev.bind (few_ev _ (hf _ (List.getElem_mem hlt)) (hx _ (List.getElem_mem hlt))) ?_
      cases fewB l[i].f1
      · simp only [Bool.false_eq_true, if_false, Bool.false_and]
        exact Ev.now _
      · simpa using ih'

theorem few_calls (x : S26) (hf : Fine x) (W : World) (cs : List Value) (hk : k26.K W x cs) :
    Calls Tryd.prog 6 #[.agg cs.toArray] W fun e w' => e = .returned (.bool (fewB x)) ∧ Below W.heap.size W w' := by
  obtain ⟨k, hkk⟩ := (few_ev x hf ⟨W, cs, hk⟩).rounds
  obtain ⟨A3, c3, A4, c4, rfl, l3, g3, l4, g4⟩ := k26_open hk
  exact octroilaw31_few.calls k _ _ _ A3 c3 _ A4 c4 _ _ W g3 l3 g4 l4 hkk
theorem lies_row {W : World} {A : Option Addr} {l : List S35} (hr : Kd.C k35 W A l.length l) : ∀ x ∈ l, Lies x.f1 := by
  intro x hx
  obtain ⟨cs, hc⟩ := C_mem hr hx
  obtain ⟨A4, c4, A5, c5, rfl, l4, g4, l5, g5⟩ := k35_open hc
  exact ⟨W, _, k26_mk W x.f1 l4 g4 l5 g5⟩
theorem Few_calls (l : List S35) (hf : ∀ x ∈ l, Fine x.f1) (W : World) (A : Option Addr) (c : Nat) (hc : l.length ≤ c) (hr : Kd.C k35 W A l.length l) :
    Calls Tryd.prog 5 #[.slice A l.length c] W fun e w' => e = .returned (.bool (FewB l)) ∧ Below W.heap.size W w' := by
  have := FewL_ev l hr.2.1 hf (lies_row hr) _ 0 rfl (Nat.zero_le _)
  rw [List.drop_zero] at this
  obtain ⟨k, hkk⟩ := this.rounds
  exact octroilaw31_Few.calls k A c l _ W hr hc hkk

/-- what is known of one that is looked at -/
theorem few_spec {x : S26} (h : fewB x = true) : shortB x = true ∧ (goodB x = true → (exprT x).length ≤ 120000) := by
  unfold fewB at h
  simp only [Bool.and_eq_true, decide_eq_true_eq] at h
  refine ⟨h.2.2, fun hg => ?_⟩
  unfold goodB at hg
  simp only [Bool.and_eq_true] at hg
  have h1 := text_len x hg.2 h.2.2
  have h2 := sizeN_parts x 400 h.2.1
  have h3 := h.2.1
  omega
theorem Few_spec {l : List S35} (h : FewB l = true) : (∀ x ∈ l, shortB x.f1 = true) ∧ (l.flatMap lineB).length ≤ 10000000 := by
  unfold FewB at h
  simp only [Bool.and_eq_true, decide_eq_true_eq, List.all_eq_true] at h
  refine ⟨fun x hx => (few_spec (h.1 x hx)).1, ?_⟩
  have h20 := h.2
  have hb : ∀ (l : List S35), (∀ x ∈ l, fewB x.f1 = true) → (l.flatMap lineB).length ≤ l.length * 130000 := by
    intro l
    induction l with
    | nil => intro _; simp
    | cons x l ih =>
      intro hx
      have h1 := ih (fun y hy => hx y (by simp [hy]))
      have h2 := few_spec (hx x (by simp))
      rw [List.flatMap_cons, List.length_append, List.length_cons]
      have h3 : (lineB x).length ≤ 130000 := by
        unfold lineB
        split
        · rename_i hm
          unfold mayB at hm
          simp only [Bool.and_eq_true] at hm
          have h4 := h2.2 hm.2
          have h5 := boxB_lt hm.1
          have h6 := digits_len (n := x.f0) (by omega) (by omega)
          simp only [List.length_append, List.length_cons, List.length_nil]
          omega
        · simp
      omega
  have := hb l h.1
  omega
end Go.Proofs.YtgkfpakncjncdaaDoor.Syn
/- What a row's reading gives: expressions, boxes, and that no row of theirs is longer than memory. -/
namespace Go.Proofs.YtgkfpakncjncdaaDoor.Syn
open Go.RowKit Go.Lib Go.Proofs.YtgkfpakncjncdaaDoorW.PrintWords Go.Proofs.YtgkfpakncjncdaaDoorW.PrintLast Go.Proofs.YtgkfpakncjncdaaDoorW.PrintMore Go.Proofs.YtgkfpakncjncdaaDoor.PSyn
set_option linter.unusedVariables false
set_option linter.unusedSimpArgs false

theorem list_choice {α : Type} {Q : Nat → α → Prop} : ∀ (n : Nat), (∀ i, i < n → ∃ z, Q i z) → ∃ l : List α, l.length = n ∧ ∀ i z, l[i]? = some z → Q i z
  | 0, _ => ⟨[], rfl, fun i z h => by simp at h⟩
  | n + 1, h => by
    obtain ⟨l, hl, hq⟩ := list_choice n (fun i hi => h i (by omega))
    obtain ⟨z, hz⟩ := h n (by omega)
    refine ⟨l ++ [z], by simp [hl], fun i y hy => ?_⟩
    by_cases hi : i < l.length
    · rw [List.getElem?_append_left hi] at hy
      exact hq i y hy
    · rw [List.getElem?_append_right (by omega)] at hy
      have : i - l.length = 0 := by
        by_cases h0 : i - l.length = 0
        · exact h0
        · rw [List.getElem?_eq_none (by simp; omega)] at hy; cases hy
      rw [this] at hy
      simp at hy
      have e : i = n := by omega
      subst e; subst hy
      exact hz

section
variable {H : Type} {enc : TypeId × Value → H} {W : World} {sp : Nat → Bool} {held : Bool}
/-- no weight of it is more than memory bears -/
def Light (t : TypeId) (d : DataW H) : Prop := ∀ n ∈ DataW.weights Tryd.prog t d, n ≤ 140737488355328
theorem Light.of {ts : List TypeId} {ds : List (DataW H)} (h : (DataW.weightsEach Tryd.prog ts ds).all (· ≤ reachBytes) = true) {j : Nat} {t : TypeId} {d : DataW H} (ht : ts[j]? = some t) (hd : ds[j]? = some d) : Light t d := by
  intro n hn
  have := List.all_eq_true.1 h n (DataW.weights_mem_each ht hd n hn)
  have h2 : n ≤ reachBytes := by simpa using this
  exact Nat.le_trans h2 (by decide)
theorem weights_all {e : TypeId} : ∀ {ds : List (DataW H)} {j : Nat} {d : DataW H}, ds[j]? = some d → ∀ n ∈ DataW.weights Tryd.prog e d, n ∈ DataW.weightsAll Tryd.prog e ds
  | [], j, d, h => by simp at h
  | x :: r, 0, d, h => by
    simp at h; subst h
    intro n hn
    rw [DataW.weightsAll]; exact List.mem_append_left _ hn
  | x :: r, j + 1, d, h => by
    intro n hn
    rw [DataW.weightsAll]; exact List.mem_append_right _ (weights_all (by simpa using h) n hn)
theorem Light.part {t : TypeId} {fs : Array Field} {parts : List (DataW H)} (hu : Tryd.prog.underlying t = some (.struct fs)) (h : Light t (.agg parts)) {j : Nat} {f : Field} {d : DataW H} (hf : fs.toList[j]? = some f) (hd : parts[j]? = some d) : Light f.type d := by
  intro n hn
  refine h n ?_
  rw [DataW.weights, hu]
  exact DataW.weights_mem_each (t := f.type) (by rw [List.getElem?_map, hf]; rfl) hd n hn
theorem Light.slice {t e : TypeId} {elems rest : List (DataW H)} (hu : Tryd.prog.underlying t = some (.slice e)) (h : Light t (.slice elems rest)) : (elems.length + rest.length) * Tryd.prog.bytesOf e ≤ 140737488355328 ∧ ∀ (j : Nat) (d : DataW H), elems[j]? = some d → Light e d := by
  have h' : ∀ n ∈ (elems.length + rest.length) * Tryd.prog.bytesOf e :: (DataW.weightsAll Tryd.prog e elems ++ DataW.weightsAll Tryd.prog e rest), n ≤ 140737488355328 := by
    intro n hn
    refine h n ?_
    rw [DataW.weights, hu]
    exact hn
  refine ⟨h' _ List.mem_cons_self, fun j d hd n hn => h' n ?_⟩
  exact List.mem_cons_of_mem _ (List.mem_append_left _ (weights_all hd n hn))

theorem open_row {α : Type} (d : Kd α) (φ : α → Prop) {t e : TypeId} {fuel : Nat} {cs : List Value} {x : DataW H × List MemPlace} (hu : Tryd.prog.underlying t = some (.slice e)) (hc : Tryd.prog.cellsOf e = d.sz) (hb : 1 ≤ Tryd.prog.bytesOf e)
    (he : ∀ n, n < fuel → ∀ cs y, DataW.trod enc Tryd.prog W 0 sp held n e cs = some y → Light e y.1 → ∃ z, d.K W z cs ∧ φ z)
    (h : DataW.trod enc Tryd.prog W 0 sp held fuel t cs = some x) (hl : Light t x.1) :
    ∃ (A : Option Addr) (c : Nat) (l : List α), cs = [.slice A l.length c] ∧ l.length ≤ c ∧ Kd.C d W A l.length l ∧ (∀ y ∈ l, φ y) ∧ l.length ≤ 140737488355328 := by
  rcases DataW.trod_slice hu h with ⟨rfl, rfl⟩ | ⟨a, len, cap, elems, rest, n, rfl, rfl, rfl, h0, hlen, hm, hel, hat, _, _⟩
  · exact ⟨none, 0, [], rfl, Nat.le_refl _, ⟨rfl, by simp, fun h => absurd h (by simp)⟩, fun y hy => absurd hy (by simp), by simp⟩
  · obtain ⟨hw, hel2⟩ := hl.slice hu
    have hb2 : len ≤ 140737488355328 := by
      have h1 : len * 1 ≤ ((elems.map (·.1)).length + (rest.map (·.1)).length) * Tryd.prog.bytesOf e := Nat.mul_le_mul (by simp; omega) hb
      omega
    have hex : ∀ i, i < len → ∃ z : α, φ z ∧ ∃ c : List Value, c.length = d.sz ∧ d.K W z c ∧ ∀ j u, c[j]? = some u → W.cell? (a.add (i * d.sz + j)) = some u := by
      intro i hi
      have hi' : i < elems.length := by omega
      have h1 := hat i hi
      rw [List.getElem?_eq_getElem hi', Option.bind_eq_some_iff] at h1
      obtain ⟨c, hcells, ht⟩ := h1
      obtain ⟨z, hk, hz⟩ := he n (by omega) c _ ht (hel2 i _ (by rw [List.getElem?_map, List.getElem?_eq_getElem hi']; rfl))
      obtain ⟨_, hcl, hcc⟩ := World.cells?_some hcells
      rw [hc] at hcl hcc
      refine ⟨z, hz, c, hcl, hk, fun j u hj => ?_⟩
      have hj' : j < d.sz := by rw [← hcl]; exact (List.getElem?_eq_some_iff.1 hj).1
      rw [← Addr.add_add, hcc j hj', hj]
    obtain ⟨l, hll, hlq⟩ := list_choice len hex
    subst hll
    refine ⟨some a, cap, l, rfl, hlen, ⟨rfl, by omega, fun _ => ⟨a, rfl, fun j p hj => (hlq j p hj).2⟩⟩, fun y hy => ?_, hb2⟩
    obtain ⟨j, hj⟩ := List.getElem?_of_mem hy
    exact (hlq j y hj).1

theorem open_fi {fuel : Nat} {cs : List Value} {x : DataW H × List MemPlace} (h : DataW.trod enc Tryd.prog W 0 sp held fuel 54 cs = some x) : ∃ z, k54.K W z cs ∧ True := by
  obtain ⟨xs, n, _, rfl, hl, hlen, hf⟩ := DataW.trod_struct Tryd.underlying54 h
  have hl' : cs.length = 3 := hl.trans (by kernel_rfl)
  match xs, hlen with
  | [y0, y1, y2], _ =>
    match cs, hl' with
    | [c0, c1, c2], _ =>
      have f0 : DataW.trod enc Tryd.prog W 0 sp held n 9 (List.take (Tryd.prog.cellsOf 9) [c0, c1, c2]) = some y0 := hf 0 _ rfl
      have f1 : DataW.trod enc Tryd.prog W 0 sp held n 5 (List.take (Tryd.prog.cellsOf 5) [c1, c2]) = some y1 := hf 1 _ rfl
      have f2 : DataW.trod enc Tryd.prog W 0 sp held n 3 (List.take (Tryd.prog.cellsOf 3) [c2]) = some y2 := hf 2 _ rfl
      have e9 : Tryd.prog.cellsOf 9 = 1 := by kernel_rfl
      have e5 : Tryd.prog.cellsOf 5 = 1 := by kernel_rfl
      have e3 : Tryd.prog.cellsOf 3 = 1 := by kernel_rfl
      rw [e9] at f0
      rw [e5] at f1
      rw [e3] at f2
      obtain ⟨s, hs, _, _⟩ := DataW.trod_string Tryd.underlying9 f0
      obtain ⟨a, ha, _, _⟩ := DataW.trod_int Tryd.underlying5 f1
      obtain ⟨b, hb, _, _⟩ := DataW.trod_int Tryd.underlying3 f2
      simp at hs ha hb
      subst hs; subst ha; subst hb
      exact ⟨⟨s, a, b⟩, k54_mk W ⟨s, a, b⟩, trivial⟩

theorem open_ex : ∀ (fuel : Nat) (cs : List Value) (x : DataW H × List MemPlace), DataW.trod enc Tryd.prog W 0 sp held fuel 26 cs = some x → Light 26 x.1 → ∃ z, k26.K W z cs ∧ Fine z := by
  intro fuel
  induction fuel using Nat.strongRecOn with
  | _ fuel ih =>
    intro cs x h hL
    obtain ⟨xs, n, hn, rfl, hl, hlen, hf⟩ := DataW.trod_struct Tryd.underlying26 h
    have hl' : cs.length = 5 := hl.trans (by kernel_rfl)
    match xs, hlen with
    | [y0, y1, y2, y3, y4], _ =>
      match cs, hl' with
      | [c0, c1, c2, c3, c4], _ =>
        have f0 : DataW.trod enc Tryd.prog W 0 sp held n 3 (List.take (Tryd.prog.cellsOf 3) [c0, c1, c2, c3, c4]) = some y0 := hf 0 _ rfl
        have f1 : DataW.trod enc Tryd.prog W 0 sp held n 3 (List.take (Tryd.prog.cellsOf 3) [c1, c2, c3, c4]) = some y1 := hf 1 _ rfl
        have f2 : DataW.trod enc Tryd.prog W 0 sp held n 9 (List.take (Tryd.prog.cellsOf 9) [c2, c3, c4]) = some y2 := hf 2 _ rfl
        have f3 : DataW.trod enc Tryd.prog W 0 sp held n 23 (List.take (Tryd.prog.cellsOf 23) [c3, c4]) = some y3 := hf 3 _ rfl
        have f4 : DataW.trod enc Tryd.prog W 0 sp held n 24 (List.take (Tryd.prog.cellsOf 24) [c4]) = some y4 := hf 4 _ rfl
        have e9 : Tryd.prog.cellsOf 9 = 1 := by kernel_rfl
        have e3 : Tryd.prog.cellsOf 3 = 1 := by kernel_rfl
        have e23 : Tryd.prog.cellsOf 23 = 1 := by kernel_rfl
        have e24 : Tryd.prog.cellsOf 24 = 1 := by kernel_rfl
        rw [e3] at f0 f1
        rw [e9] at f2
        rw [e23] at f3
        rw [e24] at f4
        have l3 := hL.part Tryd.underlying26 (j := 3) rfl rfl
        have l4 := hL.part Tryd.underlying26 (j := 4) rfl rfl
        obtain ⟨a, ha, _, _⟩ := DataW.trod_int Tryd.underlying3 f0
        obtain ⟨b, hb, _, _⟩ := DataW.trod_int Tryd.underlying3 f1
        obtain ⟨s, hs, _, _⟩ := DataW.trod_string Tryd.underlying9 f2
        obtain ⟨A3, d3, fs, h3, hc3, C3, _, b3⟩ := open_row k54 (fun _ => True) Tryd.underlying23 (by kernel_rfl) (by decide +kernel) (fun n _ cs y hy _ => open_fi hy) f3 l3
        obtain ⟨A4, d4, ks, h4, hc4, C4, hk4, b4⟩ := open_row k26 Fine Tryd.underlying24 (by kernel_rfl) (by decide +kernel) (fun m hm cs y hy hy2 => ih m (by omega) cs y hy hy2) f4 l4
        simp at ha hb hs h3 h4
        subst ha; subst hb; subst hs; subst h3; subst h4
        exact ⟨⟨a, b, s, fs, ks⟩, k26_mk W ⟨a, b, s, fs, ks⟩ hc3 C3 hc4 C4, .mk _ b3 b4 hk4⟩

theorem open_bx {fuel : Nat} {cs : List Value} {x : DataW H × List MemPlace} (h : DataW.trod enc Tryd.prog W 0 sp held fuel 35 cs = some x) (hL : Light 35 x.1) : ∃ z, k35.K W z cs ∧ Fine z.f1 := by
  obtain ⟨xs, n, hn, rfl, hl, hlen, hf⟩ := DataW.trod_struct Tryd.underlying35 h
  have hl' : cs.length = 6 := hl.trans (by kernel_rfl)
  match xs, hlen with
  | [y0, y1], _ =>
    match cs, hl' with
    | [c0, c1, c2, c3, c4, c5], _ =>
      have f0 : DataW.trod enc Tryd.prog W 0 sp held n 3 (List.take (Tryd.prog.cellsOf 3) [c0, c1, c2, c3, c4, c5]) = some y0 := hf 0 _ rfl
      have f1 : DataW.trod enc Tryd.prog W 0 sp held n 26 (List.take (Tryd.prog.cellsOf 26) [c1, c2, c3, c4, c5]) = some y1 := hf 1 _ rfl
      have e3 : Tryd.prog.cellsOf 3 = 1 := by kernel_rfl
      have e26 : Tryd.prog.cellsOf 26 = 5 := by kernel_rfl
      rw [e3] at f0
      rw [e26] at f1
      obtain ⟨a, ha, _, _⟩ := DataW.trod_int Tryd.underlying3 f0
      obtain ⟨z, hz, hzf⟩ := open_ex _ _ _ f1 (hL.part Tryd.underlying35 (j := 1) rfl rfl)
      simp at ha hz
      subst ha
      exact ⟨⟨a, z⟩, ⟨[.int .i64 a], [c1, c2, c3, c4, c5], rfl, rfl, hz⟩, hzf⟩

/-- a parameter that is a program -/
theorem open_boxes {v : Value} {d : DataW H} {p : List MemPlace} (h : DataW.Trod enc Tryd.prog W 0 sp held 22 v d p) (hL : Light 22 d) :
    ∃ (A : Option Addr) (c : Nat) (l : List S35), v.cells.toList = [.slice A l.length c] ∧ l.length ≤ c ∧ Kd.C k35 W A l.length l ∧ (∀ y ∈ l, Fine y.f1) ∧ l.length ≤ 140737488355328 := by
  obtain ⟨fuel, h⟩ := h
  exact open_row k35 (fun z => Fine z.f1) Tryd.underlying22 (by kernel_rfl) (by decide +kernel) (fun n _ cs y hy hy2 => open_bx hy hy2) h hL
/-- a parameter that is an expression -/
theorem open_expr {v : Value} {d : DataW H} {p : List MemPlace} (h : DataW.Trod enc Tryd.prog W 0 sp held 26 v d p) (hL : Light 26 d) :
    ∃ z, k26.K W z v.cells.toList ∧ Fine z := by
  obtain ⟨fuel, h⟩ := h
  exact open_ex _ _ _ h hL
end
end Go.Proofs.YtgkfpakncjncdaaDoor.Syn
/- lives, and the law SyntaxPrints. -/
namespace Go.Proofs.YtgkfpakncjncdaaDoor.Syn
open Go.RowKit Go.Lib Go.Proofs.YtgkfpakncjncdaaDoorW.PrintWords Go.Proofs.YtgkfpakncjncdaaDoorW.PrintLast Go.Proofs.YtgkfpakncjncdaaDoorW.PrintMore Go.Proofs.YtgkfpakncjncdaaDoor.PSyn
set_option linter.unusedVariables false
set_option linter.unusedSimpArgs false

theorem num_calls (n : Int) (W : World) :
    Calls Tryd.prog 18 #[.int .i64 n] W fun e w' => e = .returned (.agg #[.int .i64 1, .int .i64 n, .string ⟨#[]⟩, .slice none 0 0, .slice none 0 0]) ∧ Below W.heap.size W w' := by
  go_enter Tryd.func18, Tryd.ntmps18
  go_wp2
  refine bodyPost_ret (results_cell_row rfl _ _ W.heap.size 26 #[.int .i64 1, .int .i64 n, .string ⟨#[]⟩, .slice none 0 0, .slice none 0 0] (0, 0) _ rfl (heap_alloc_new W _) Tryd.underlying26 rfl (by kernel_rfl)) rfl ⟨rfl, below_alloc (Below.refl _ _) _⟩

def one (n : Int) : S26 := ⟨1, n, ⟨#[]⟩, [], []⟩
def sumX : S26 := ⟨4, 0, ⟨#[]⟩, [], [one 2, one 3]⟩
def livX : S26 := ⟨5, 0, ⟨#[]⟩, [], [one 1, sumX]⟩
theorem nilC {α : Type} (d : Kd α) (w : World) : Kd.C d w none ([] : List α).length [] := ⟨rfl, by simp, fun h => absurd h (by simp)⟩
theorem one_K (n : Int) (w : World) : k26.K w (one n) [.int .i64 1, .int .i64 n, .string ⟨#[]⟩, .slice none 0 0, .slice none 0 0] :=
  k26_mk w (one n) (Nat.le_refl _) (nilC _ w) (Nat.le_refl _) (nilC _ w)
theorem two_C {w : World} {g : Nat} {x y : S26} {a0 a1 a2 a3 a4 b0 b1 b2 b3 b4 : Value} (hx : k26.K w x [a0, a1, a2, a3, a4]) (hy : k26.K w y [b0, b1, b2, b3, b4]) (h : w.heap[g]? = some (.cells #[a0, a1, a2, a3, a4, b0, b1, b2, b3, b4] 26 (0, 0))) :
    Kd.C k26 w (some ⟨g, 0, none⟩) 2 [x, y] := by
  have hc : ∀ i, w.cell? (Addr.add ⟨g, 0, none⟩ i) = (#[a0, a1, a2, a3, a4, b0, b1, b2, b3, b4] : Array Value)[i]? := fun i => by
    have := Lib.cell_of_heap h i
    rw [show Addr.add ⟨g, 0, none⟩ i = ⟨g, i, none⟩ from by unfold Addr.add; split <;> simp_all]
    exact this
  refine ⟨rfl, by omega, fun _ => ⟨⟨g, 0, none⟩, rfl, fun j p hj => ?_⟩⟩
  match j, hj with
  | 0, hj =>
    simp at hj; subst hj
    refine ⟨_, rfl, hx, fun i u hi => ?_⟩
    rw [show 0 * k26.sz + i = i from by omega, hc]
    have : i < 5 := (List.getElem?_eq_some_iff.1 hi).1
    match i, hi with
    | 0, hi => exact hi
    | 1, hi => exact hi
    | 2, hi => exact hi
    | 3, hi => exact hi
    | 4, hi => exact hi
  | 1, hj =>
    simp at hj; subst hj
    refine ⟨_, rfl, hy, fun i u hi => ?_⟩
    rw [show 1 * k26.sz + i = 5 + i from by rw [show k26.sz = 5 from rfl], hc]
    have : i < 5 := (List.getElem?_eq_some_iff.1 hi).1
    match i, hi with
    | 0, hi => exact hi
    | 1, hi => exact hi
    | 2, hi => exact hi
    | 3, hi => exact hi
    | 4, hi => exact hi
  | j + 2, hj => simp at hj
theorem livX_text : textB livX = [49, 32, 45, 32, 40, 50, 32, 43, 32, 51, 41] := by
  have h1 : digits 1 = [49] := by unfold digits Lib.itoa; rw [if_neg (by omega), decDigits_one (by decide)]; rfl
  have h2 : digits 2 = [50] := by unfold digits Lib.itoa; rw [if_neg (by omega), decDigits_one (by decide)]; rfl
  have h3 : digits 3 = [51] := by unfold digits Lib.itoa; rw [if_neg (by omega), decDigits_one (by decide)]; rfl
  have hg : goodB livX = true := by decide +kernel
  unfold textB
  rw [if_pos hg]
  unfold livX sumX one
  simp [exprT, exprsT, brk, h1, h2, h3]
theorem livX_calls (w : World) (ht : Tab w) (gA g : Nat) (hA : w.heap[gA]? = some (.cells #[.int .i64 1, .int .i64 1, .string ⟨#[]⟩, .slice none 0 0, .slice none 0 0, .int .i64 4, .int .i64 0, .string ⟨#[]⟩, .slice none 0 0, .slice (some ⟨g, 0, none⟩) 2 2] 26 (0, 0)))
    (hg : w.heap[g]? = some (.cells #[.int .i64 1, .int .i64 2, .string ⟨#[]⟩, .slice none 0 0, .slice none 0 0, .int .i64 1, .int .i64 3, .string ⟨#[]⟩, .slice none 0 0, .slice none 0 0] 26 (0, 0))) :
    Calls Tryd.prog 8 #[.agg #[.int .i64 5, .int .i64 0, .string ⟨#[]⟩, .slice none 0 0, .slice (some ⟨gA, 0, none⟩) 2 2]] w fun e w' => e = .returned (.string ⟨#[49, 32, 45, 32, 40, 50, 32, 43, 32, 51, 41]⟩) ∧ Below w.heap.size w w' := by
  have hs : k26.K w sumX [.int .i64 4, .int .i64 0, .string ⟨#[]⟩, .slice none 0 0, .slice (some ⟨g, 0, none⟩) 2 2] := k26_mk w sumX (Nat.le_refl _) (nilC _ w) (Nat.le_refl _) (two_C (one_K 2 w) (one_K 3 w) hg)
  have hK : k26.K w livX [.int .i64 5, .int .i64 0, .string ⟨#[]⟩, .slice none 0 0, .slice (some ⟨gA, 0, none⟩) 2 2] := k26_mk w livX (Nat.le_refl _) (nilC _ w) (Nat.le_refl _) (two_C (one_K 1 w) hs hA)
  refine (text_calls cfn livX w _ hK ht (fun h => ?_)).mono ?_
  · have := livX_text
    unfold textB at this
    rw [if_pos h] at this
    rw [this]; decide
  · rintro e w' ⟨rfl, hb⟩
    rw [livX_text]
    exact ⟨rfl, hb⟩

set_option maxHeartbeats 4000000 in
theorem lives_calls (W : World) (ht : Tab W) :
    Calls Tryd.prog 7 #[] W fun e w' => e = .returned (.bool true) ∧ Below W.heap.size W w' := by
  have HN := Aside0.mk num_calls
  have HT := Aside0.mk ht
  have HB := Aside0.mk (Below.refl W.heap.size W)
  clear ht
  go_enter Tryd.func7, Tryd.ntmps7
  go_wp2_with (first | (go_at_call 18; refine (HN.out _ _).mono ?_; rintro e w1 ⟨rfl, hd⟩; have hb1 := bcell hd; have HB := Aside0.mk (below_step (by repeat (first | exact HB.out | apply below_alloc)) hd); have HD := Aside0.mk hd; clear hd))
  have HB2 := Aside0.mk (by repeat (first | exact HB.out | apply below_alloc) : Below W.heap.size W ((w1.alloc (.cells #[.int .i64 1, .int .i64 2, .string ⟨#[]⟩, .slice none 0 0, .slice none 0 0, .int .i64 1, .int .i64 3, .string ⟨#[]⟩, .slice none 0 0, .slice none 0 0] 26)).alloc (.cells #[.int .i64 4, .int .i64 0, .string ⟨#[]⟩, .slice none 0 0, .slice (some ⟨w1.heap.size, 0, none⟩) 2 2] 26)))
  have HG := Aside0.mk ((below_alloc (Below.refl (w1.alloc (.cells #[.int .i64 1, .int .i64 2, .string ⟨#[]⟩, .slice none 0 0, .slice none 0 0, .int .i64 1, .int .i64 3, .string ⟨#[]⟩, .slice none 0 0, .slice none 0 0] 26)).heap.size _) (.cells #[.int .i64 4, .int .i64 0, .string ⟨#[]⟩, .slice none 0 0, .slice (some ⟨w1.heap.size, 0, none⟩) 2 2] 26)).block w1.heap.size (by simp) |>.trans (heap_alloc_new w1 _))
  have HS := Aside0.mk (Lib.cell_of_heap (heap_alloc_new (w1.alloc (.cells #[.int .i64 1, .int .i64 2, .string ⟨#[]⟩, .slice none 0 0, .slice none 0 0, .int .i64 1, .int .i64 3, .string ⟨#[]⟩, .slice none 0 0, .slice none 0 0] 26)) (.cells #[.int .i64 4, .int .i64 0, .string ⟨#[]⟩, .slice none 0 0, .slice (some ⟨w1.heap.size, 0, none⟩) 2 2] 26)))
  generalize hW2 : (w1.alloc (.cells #[.int .i64 1, .int .i64 2, .string ⟨#[]⟩, .slice none 0 0, .slice none 0 0, .int .i64 1, .int .i64 3, .string ⟨#[]⟩, .slice none 0 0, .slice none 0 0] 26)).alloc (.cells #[.int .i64 4, .int .i64 0, .string ⟨#[]⟩, .slice none 0 0, .slice (some ⟨w1.heap.size, 0, none⟩) 2 2] 26) = W2 at *
  have hsz : (w1.alloc (.cells #[.int .i64 1, .int .i64 2, .string ⟨#[]⟩, .slice none 0 0, .slice none 0 0, .int .i64 1, .int .i64 3, .string ⟨#[]⟩, .slice none 0 0, .slice none 0 0] 26)).heap.size = w1.heap.size + 1 := by simp
  rw [hsz] at HS
  have hgs : w1.heap.size + 1 < W2.heap.size := by subst hW2; simp
  clear hW2 hsz
  generalize w1.heap.size = g at *
  have HC := Aside0.mk (fun (w' : World) (hb : Below W2.heap.size W2 w') => (And.intro ((hb.cell (p := ⟨g + 1, 0, none⟩) hgs).trans (HS.out 0)) (And.intro ((hb.cell (p := ⟨g + 1, 1, none⟩) hgs).trans (HS.out 1)) (And.intro ((hb.cell (p := ⟨g + 1, 2, none⟩) hgs).trans (HS.out 2)) (And.intro ((hb.cell (p := ⟨g + 1, 3, none⟩) hgs).trans (HS.out 3)) ((hb.cell (p := ⟨g + 1, 4, none⟩) hgs).trans (HS.out 4))))) : w'.cell? ⟨g + 1, 0, none⟩ = some (.int .i64 4) ∧ w'.cell? ⟨g + 1, 1, none⟩ = some (.int .i64 0) ∧ w'.cell? ⟨g + 1, 2, none⟩ = some (.string ⟨#[]⟩) ∧ w'.cell? ⟨g + 1, 3, none⟩ = some (.slice none 0 0) ∧ w'.cell? ⟨g + 1, 4, none⟩ = some (.slice (some ⟨g, 0, none⟩) 2 2)))
  have HX := Aside0.mk (fun (w' : World) (gA : Nat) (hb : Below W2.heap.size W2 w') hA => livX_calls w' (HT.out.later (HB2.out.trans (hb.mono HB2.out.size))) gA g hA ((hb.block g (by omega)).trans HG.out))
  refine start_ (n := 7) (S := fun w' => Below W2.heap.size W2 w' ∧ w'.cell? ⟨g + 1, 0, none⟩ = some (.int .i64 4) ∧ w'.cell? ⟨g + 1, 1, none⟩ = some (.int .i64 0) ∧ w'.cell? ⟨g + 1, 2, none⟩ = some (.string ⟨#[]⟩) ∧ w'.cell? ⟨g + 1, 3, none⟩ = some (.slice none 0 0) ∧ w'.cell? ⟨g + 1, 4, none⟩ = some (.slice (some ⟨g, 0, none⟩) 2 2)) (ds := []) #[false, false, false, false, false, false, false] (by kernel_rfl) rfl rfl ⟨(Below.refl _ _).drew, (HC.out _ (Below.refl _ _).drew)⟩ (fun hHeld => ?_)
  refine take_ (i := 1) (N := some 7) (v := ?_) (a' := ?_) #[false, true, false, false, false, false, false] rfl rfl (by kernel_rfl) (fun _ _ _ h => h) (Or.inl ⟨by rfl, ?_⟩) hHeld ?_ ?_
  rotate_left
  · rintro w' ⟨s0, s1, s2, s3, s4, s5⟩
    go_simp
    with_reducible rfl
  rotate_left
  · simp only [Act.put, List.setIfInBounds_toArray, List.set_cons_zero, List.set_cons_succ, i64_w, i32_w]
    rfl
  refine one_ (i := 0) (N := some 6) #[true, true, false, false, false, false, false] rfl rfl (by kernel_rfl) (by decide) (fun K hK => ?_)
  refine goes_ Tryd.func18 (by kernel_rfl) rfl #[.int .i64 1] (by rfl) rfl rfl (by simp only [List.map_toArray, List.map_cons, List.map_nil]; rfl) ?_
  refine (HN.out 1 _).mono ?_
  rintro e w3 ⟨rfl, hb⟩
  refine ⟨_, rfl, ?_⟩
  have hB3 := hHeld.1.trans (hb.mono hHeld.1.size)
  refine hK.out _ _ ⟨hB3, (HC.out _ hB3)⟩ (fun hHeld => ?_)
  clear hK K
  refine norm_ (a' := ?_) ?_ ?_
  rotate_left
  · show Act.put _ (some 6) _ = _
    simp only [Act.put, List.setIfInBounds_toArray, List.set_cons_zero, List.set_cons_succ, i64_w, i32_w]
    rfl
  refine one_ (i := 2) (N := some 8) #[true, true, true, false, false, false, false] rfl rfl (by kernel_rfl) (by decide) (fun K hK => ?_)
  have hA := heap_alloc_new w3 (.cells #[.int .i64 1, .int .i64 1, .string ⟨#[]⟩, .slice none 0 0, .slice none 0 0, .int .i64 4, .int .i64 0, .string ⟨#[]⟩, .slice none 0 0, .slice (some ⟨g, 0, none⟩) 2 2] 26)
  have hB4 := hHeld.1.alloc hHeld.1.size (.cells #[.int .i64 1, .int .i64 1, .string ⟨#[]⟩, .slice none 0 0, .slice none 0 0, .int .i64 4, .int .i64 0, .string ⟨#[]⟩, .slice none 0 0, .slice (some ⟨g, 0, none⟩) 2 2] 26)
  refine value_ (w1 := ?_) (v := ?_) (by rfl) rfl ?_ ?_
  rotate_left 2
  · go_simp
    constructor
    · rfl
    · rfl
  refine hK.out _ _ ⟨hB4, (HC.out _ hB4)⟩ (fun hHeld => ?_)
  clear hK K
  refine norm_ (a' := ?_) ?_ ?_
  rotate_left
  · show Act.put _ (some 8) _ = _
    simp only [Act.put, List.setIfInBounds_toArray, List.set_cons_zero, List.set_cons_succ, i64_w, i32_w]
    rfl
  refine pure_ (i := 3) (N := some 9) (v := ?_) (a' := ?_) #[true, true, true, true, false, false, false] rfl rfl (by kernel_rfl) (fun _ _ _ h => h) (Or.inl ⟨by rfl, ?_⟩) ?_ ?_
  rotate_left
  · intro w'
    go_simp
    with_reducible rfl
  rotate_left
  · simp only [Act.put, List.setIfInBounds_toArray, List.set_cons_zero, List.set_cons_succ, i64_w, i32_w]
    rfl
  refine one_ (i := 4) (N := some 10) #[true, true, true, true, true, false, false] rfl rfl (by kernel_rfl) (by decide) (fun K hK => ?_)
  refine goes_ Tryd.func8 (by kernel_rfl) rfl #[.agg #[.int .i64 5, .int .i64 0, .string ⟨#[]⟩, .slice none 0 0, .slice (some ⟨w3.heap.size, 0, none⟩) 2 2]] (by rfl) rfl rfl (by simp only [List.map_toArray, List.map_cons, List.map_nil]; rfl) ?_
  refine (HX.out _ w3.heap.size hHeld.1 hA).mono ?_
  rintro e w5 ⟨rfl, hb⟩
  refine ⟨_, rfl, ?_⟩
  have hB5 := hHeld.1.trans (hb.mono hHeld.1.size)
  refine hK.out _ _ ⟨hB5, (HC.out _ hB5)⟩ (fun hHeld => ?_)
  clear hK K
  refine norm_ (a' := ?_) ?_ ?_
  rotate_left
  · show Act.put _ (some 10) _ = _
    simp only [Act.put, List.setIfInBounds_toArray, List.set_cons_zero, List.set_cons_succ, i64_w, i32_w]
    rfl
  refine pure_ (i := 5) (N := some 11) (v := ?_) (a' := ?_) #[true, true, true, true, true, true, false] rfl rfl (by kernel_rfl) (fun _ _ _ h => h) (Or.inl ⟨by rfl, ?_⟩) ?_ ?_
  rotate_left
  · intro w'
    go_simp
    with_reducible rfl
  rotate_left
  · simp only [Act.put, List.setIfInBounds_toArray, List.set_cons_zero, List.set_cons_succ, i64_w, i32_w]
    rfl
  refine pure_ (i := 6) (N := some 0) (v := ?_) (a' := ?_) #[true, true, true, true, true, true, true] rfl rfl (by kernel_rfl) (fun _ _ _ h => h) (Or.inl ⟨by rfl, ?_⟩) ?_ ?_
  rotate_left
  · intro w'
    go_simp
    with_reducible rfl
  rotate_left
  · simp only [Act.put, List.setIfInBounds_toArray, List.set_cons_zero, List.set_cons_succ, i64_w, i32_w]
    rfl
  refine done_ (by kernel_rfl) ?_

  go_wp2_with fail
  go_ret
  exact ⟨rfl, HB2.out.trans (hHeld.1.mono HB2.out.size)⟩
end Go.Proofs.YtgkfpakncjncdaaDoor.Syn
