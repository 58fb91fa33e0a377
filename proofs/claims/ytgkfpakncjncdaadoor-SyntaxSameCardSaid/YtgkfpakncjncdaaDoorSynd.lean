/- strings.Builder, as it lies in a struct of one field or alone: what WriteString and String do to it, and to nothing else but its own bytes. -/
import Derived.Lib.Builder
import Derived.Lib.AppendStr
import Derived.Lib.UnsafeStr
import Derived.Laws.Externs
import Derived.RegionTactic
import Derived.Test.YtgkfpakncjncdaaDoorSynb
import Derived.Test.YtgkfpakncjncdaaDoorSync
import Derived.Test.YtgkfpakncjncdaaDoorShelf
namespace Go.Proofs.YtgkfpakncjncdaaDoor.Syn
open Go.RowKit Go.Lib Go.Proofs.YtgkfpakncjncdaaDoorW.PrintWords Go.Proofs.YtgkfpakncjncdaaDoorW.PrintLast Go.Proofs.YtgkfpakncjncdaaDoorW.PrintMore Go.Proofs.YtgkfpakncjncdaaDoor.PSyn
set_option linter.unusedVariables false
set_option linter.unusedSimpArgs false

/-- What a type must be, so that a builder may lie in it. -/
structure Bears (T : Nat) : Prop where
  ne : T ≠ 5
  size : ∃ cells, cells = 2
  lies : liesAt Tryd.prog Tryd.prog.depth T (2 / Tryd.prog.cellsOf T) 0 41 1 = true

theorem bcopy_used (b : Nat) (w : World) (h0 : w.cell? ⟨b, 0, none⟩ = some (.pointer (some ⟨b, 0, none⟩))) :
    Calls Tryd.prog 60 #[.pointer (some ⟨b, 0, none⟩)] w fun e w' => e = .returned (.tuple #[]) ∧ w' = w := by
  obtain ⟨j, hj, _⟩ : ∃ j, Tryd.prog.info? 41 = some j ∧ True := by
    have : (Tryd.prog.info? 41).isSome = true := by kernel_rfl
    obtain ⟨j, hj⟩ := Option.isSome_iff_exists.1 this
    exact ⟨j, hj, trivial⟩
  go_enter Tryd.func60, Tryd.ntmps60
  go_wp2
  rw [Lib.run_neq_ptr_same w _ Tryd.underlying38 hj]
  go_wp2
  go_end0
  exact ⟨rfl, rfl⟩

theorem bcopy_fresh (T : Nat) (hT : Bears T) (b : Nat) (w : World) (h0 : w.cell? ⟨b, 0, none⟩ = some (.pointer none)) (hsh : w.shape? b = some (T, 2)) (hfz : w.frozen? ⟨b, 0, none⟩ = false) :
    Calls Tryd.prog 60 #[.pointer (some ⟨b, 0, none⟩)] w fun e w' => e = .returned (.tuple #[]) ∧ w' = w.setCell ⟨b, 0, none⟩ (.pointer (some ⟨b, 0, none⟩)) := by
  obtain ⟨j, hj, hjs⟩ : ∃ j, Tryd.prog.info? 41 = some j ∧ j.size = 2 := by
    have : (Tryd.prog.info? 41).map (·.size) = some 2 := by kernel_rfl
    obtain ⟨j, hj, hs⟩ := Option.map_eq_some_iff.1 this
    exact ⟨j, hj, hs⟩
  have hl := hT.lies
  have HL := Aside0.mk hl
  clear hl
  go_enter Tryd.func60, Tryd.ntmps60
  go_wp2
  rw [Lib.run_to_unsafe w ⟨b, 0, none⟩ Tryd.underlying38 Tryd.underlying81 hj (by rw [hjs]; decide) hsh (Nat.zero_lt_succ 1)]
  simp only [Result.andThen]
  rw [Oper.upon_value]
  go_wp2
  rw [run_callFunc_extern Tryd.func68 (by kernel_rfl) (by kernel_rfl) (by kernel_rfl) (e := Extern.AbiNoEscape.same) (by kernel_rfl)]
  rw [Lib.run_noEscape]
  simp only [Result.andThen]
  rw [Oper.upon_value]
  go_wp2
  rw [Lib.run_from_unsafe w ⟨b, 0, none⟩ Tryd.underlying81 Tryd.underlying38 hj hsh HL.out]
  simp only [Result.andThen]
  rw [Oper.upon_value]
  go_wp2
  go_end0
  exact ⟨rfl, rfl⟩

/-- Block i is no row of bytes. -/
def notByte (w : World) (i : Nat) : Prop := ∀ c f, w.heap[i]? ≠ some (.cells c 5 f)
/-- But for block b and rows of bytes, all that lay, lies. -/
structure Wrote (b : Nat) (w w' : World) : Prop where
  size : w.heap.size ≤ w'.heap.size
  block : ∀ i, i < w.heap.size → i ≠ b → notByte w i → w'.heap[i]? = w.heap[i]?
theorem Wrote.refl (b : Nat) (w : World) : Wrote b w w := ⟨Nat.le_refl _, fun _ _ _ _ => rfl⟩
theorem Wrote.trans {b : Nat} {w w1 w2 : World} (h : Wrote b w w1) (k : Wrote b w1 w2) : Wrote b w w2 :=
  ⟨Nat.le_trans h.size k.size, fun i hi hb hn => by
    have e := h.block i hi hb hn
    exact (k.block i (Nat.lt_of_lt_of_le hi h.size) hb (fun c f => by rw [e]; exact hn c f)).trans e⟩
theorem Wrote.of_below {b : Nat} {w w' : World} (h : Below w.heap.size w w') : Wrote b w w' := ⟨h.size, fun i hi _ _ => h.block i hi⟩
theorem Wrote.alloc {b : Nat} {w w' : World} (h : Wrote b w w') (o : Obj) : Wrote b w (w'.alloc o) := h.trans (.of_below ((Below.refl _ _).alloc (Nat.le_refl _) o))
theorem Wrote.drew {b : Nat} {w w' : World} (h : Wrote b w w') : Wrote b w w'.drew := ⟨h.size, h.block⟩
theorem Wrote.setCell {b : Nat} {w w' : World} (h : Wrote b w w') (o : Nat) (v : Value) : Wrote b w (w'.setCell ⟨b, o, none⟩ v) :=
  h.trans ⟨by simp [World.setCell], fun i hi hb _ => Below.heap_setCell _ _ _ _ hb⟩
theorem Wrote.grown {b base : Nat} {w w' : World} {v : Value} {n : Nat} {xs : List Value} (ho : w.ownsRow base 5 1 v n xs) (hg : w.grownBy w' v.ownBlock) : Wrote b w w' :=
  ⟨hg.size, fun i hi _ hn => hg.block i hi (fun e => by
    obtain ⟨cells, hc⟩ := own_typed ho i e.symm
    exact hn _ _ hc)⟩
theorem Wrote.blk {b g : Nat} {w w' : World} (h : Wrote b w w') {cs : Array Value} {t : TypeId} {f : Nat × Nat} (hb : w.heap[g]? = some (.cells cs t f)) (hg : g ≠ b) (ht : t ≠ 5) : w'.heap[g]? = some (.cells cs t f) := by
  rw [h.block g (Array.getElem?_eq_some_iff.1 hb).1 hg (fun c f' e => by rw [hb] at e; injection e with e; injection e with _ e2; exact ht e2)]
  exact hb

theorem bcopy (T : Nat) (hT : Bears T) (B b : Nat) (bs : List Value) (w : World) (h : Lib.IsBuilder T 5 B b bs w) :
    Calls Tryd.prog 60 #[.pointer (some ⟨b, 0, none⟩)] w fun e w' => e = .returned (.tuple #[]) ∧ Lib.BuilderAt T 5 B b (.pointer (some ⟨b, 0, none⟩)) bs w' ∧ Below B w w' ∧ Wrote b w w' := by
  rcases h with h | h
  · refine (bcopy_fresh T hT b w h.cell0 h.shape h.frozen0).mono ?_
    rintro e w' ⟨rfl, rfl⟩
    exact ⟨rfl, h.used _, (Below.refl B w).setCell (p := ⟨b, 0, none⟩) h.1 _, (Wrote.refl b w).setCell _ _⟩
  · refine (bcopy_used b w h.cell0).mono ?_
    rintro e w' ⟨rfl, rfl⟩
    exact ⟨rfl, h, Below.refl B _, Wrote.refl b _⟩

theorem infoByte : (Tryd.prog.info? 5).map (fun i => (i.zero, i.size, i.bytes)) = some (some (.int .u8 0), 1, 1) := by kernel_rfl

set_option maxHeartbeats 2000000 in
theorem bwrite (T : Nat) (hT : Bears T) (B b : Nat) (bs : List Value) (s : ByteArray) (w : World) (h : Lib.IsBuilder T 5 B b bs w) (hlen : bs.length + s.size ≤ 140737488355328) (hBw : B ≤ w.heap.size) :
    Calls Tryd.prog 43 #[.pointer (some ⟨b, 0, none⟩), .string s] w fun e w' => e = .returned (.tuple #[.int .i64 s.size, .nilIface]) ∧ Lib.BuilderAt T 5 B b (.pointer (some ⟨b, 0, none⟩)) (bs ++ Lib.strCells s) w' ∧ Below B w w' ∧ Wrote b w w' := by
  obtain ⟨i0, hi, hz0, hz1, hz2⟩ := info_parts infoByte
  have hc := bcopy T hT B b bs w h
  have hne' := hT.ne
  clear hT h
  go_enter Tryd.func43, Tryd.ntmps43
  go_wp2_with (go_at_call 60; refine hc.mono ?_)
  rintro e w1 ⟨rfl, h1, hb1, hw1⟩
  obtain ⟨hB, v, hbk, hown, hne⟩ := h1
  have c0 : w1.cell? ⟨b, 0, none⟩ = some (.pointer (some ⟨b, 0, none⟩)) := by rw [Lib.cell_of_heap hbk]; rfl
  have c1 : w1.cell? ⟨b, 1, none⟩ = some v := by rw [Lib.cell_of_heap hbk]; rfl
  go_wp2_with (at_builtin; refine Lib.wpList_append_own_string _ rfl _ _ 39 9 rfl B 5 i0 Tryd.underlying39 Tryd.underlying9 hi hz0 hz1 hz2 _ _ _ rfl hown s rfl ?c3 ?c4 ?c5 ?_)
  case c3 => unfold maxLen; omega
  case c4 => omega
  case c5 => have := hb1.size; omega
  intro v' w2 hown' hgrow _
  have hlt : b < w1.heap.size := by
    rcases Nat.lt_or_ge b w1.heap.size with h' | h'
    · exact h'
    · simp [Array.getElem?_eq_none h'] at hbk
  have hb2 : w2.heap[b]? = some (.cells #[.pointer (some ⟨b, 0, none⟩), v] T (0, 0)) := by
    rw [hgrow.block b hlt (fun e => hne e.symm)]
    exact hbk
  have d0 : w2.cell? ⟨b, 0, none⟩ = some (.pointer (some ⟨b, 0, none⟩)) := by rw [Lib.cell_of_heap hb2]; rfl
  have d1 : w2.cell? ⟨b, 1, none⟩ = some v := by rw [Lib.cell_of_heap hb2]; rfl
  have f1 : w2.frozen? ⟨b, 1, none⟩ = false := Lib.frozen_of_heap hb2 1
  have hwg : Wrote b w1 w2 := Wrote.grown hown hgrow
  obtain ⟨ao, n', cap, rfl⟩ : ∃ ao n' cap, v' = .slice ao n' cap := by
    rcases hown'.2 with ⟨hv, _⟩ | ⟨g, cap, cur, hv, _⟩
    · exact ⟨_, _, _, hv⟩
    · exact ⟨_, _, _, hv⟩
  go_wp2
  go_ret2
  refine ⟨rfl, ?_, ?_, ?_⟩
  · exact Lib.BuilderAt.put (T := T) (e := 5) hB hb2 (bs' := bs ++ Lib.strCells s) (by simpa [Lib.strCells_length] using hown') hne'
  · exact (hb1.grown hgrow (by have := hb1.size; omega) (fun k hk => (hown.lt k hk).1)).setCell (p := ⟨b, 1, none⟩) hB _
  · exact (hw1.trans hwg).setCell _ _

set_option maxHeartbeats 2000000 in
theorem bstr_String (T : Nat) (B b : Nat) (l : List UInt8) (w : World) (h : Lib.IsBuilder T 5 B b (Lib.byteCells l) w) (h0 : l ≠ []) :
    Calls Tryd.prog 21 #[.pointer (some ⟨b, 0, none⟩)] w fun e w' => e = .returned (.string ⟨l.toArray⟩) ∧ Below B w w' := by
  obtain ⟨p, hB, v, hbk, hown, hne⟩ : ∃ p, Lib.BuilderAt T 5 B b p (Lib.byteCells l) w := by
    rcases h with h | h
    · exact ⟨_, h⟩
    · exact ⟨_, h⟩
  have hl0 : l.length ≠ 0 := by simpa using h0
  rw [Lib.byteCells_length] at hown
  obtain ⟨g, cap, cur, rfl, hbg, hg, hnc, hcm, hcs, htake⟩ : ∃ g cap cur, v = .slice (some ⟨g, 0, none⟩) l.length cap ∧ B ≤ g ∧ w.heap[g]? = some (.cells cur 5 (0, 0)) ∧ l.length ≤ cap ∧ cap ≤ maxLen ∧ cur.size = cap * 1 ∧ cur.toList.take (l.length * 1) = Lib.byteCells l := by
    rcases hown.2 with ⟨_, hz⟩ | ⟨g, cap, cur, hv, r⟩
    · exact absurd hz hl0
    · exact ⟨g, cap, cur, hv, r⟩
  have c1 : w.drew.cell? ⟨b, 1, none⟩ = some (.slice (some ⟨g, 0, none⟩) l.length cap) := by
    have : w.drew.heap[b]? = some (.cells #[p, .slice (some ⟨g, 0, none⟩) l.length cap] T (0, 0)) := hbk
    rw [Lib.cell_of_heap this]; rfl
  have hSD : (Builtin.unsafeSliceData_ #[39] 60 #[.slice (some ⟨g, 0, none⟩) l.length cap]).run Tryd.prog w.drew = .ok (.pointer (some ⟨g, 0, none⟩)) w.drew :=
    Lib.run_unsafeSliceData_row _ _ _ _ _ _ (by omega)
  have hUS : (Builtin.unsafeString_ #[60, 3] 9 #[.pointer (some ⟨g, 0, none⟩), .int .i64 l.length]).run Tryd.prog w.drew = .ok (.string ⟨l.toArray⟩) (w.drew.freeze ⟨g, 0, none⟩ l.length) := by
    refine Lib.run_unsafeString_row w.drew 60 3 9 5 Tryd.underlying60 (by kernel_rfl) g cur.size (by have hg' : w.drew.heap[g]? = some (.cells cur 5 (0, 0)) := hg; simp [World.shape?, hg']) l h0 (by omega) (by unfold maxLen at hcm; omega) ?_
    intro j x hx
    have := hown.cells (g := g) rfl j (.int .u8 x.toNat) (by simp [Lib.byteCells, hx])
    exact this
  go_enter Tryd.func21, Tryd.ntmps21
  go_wp2
  go_region
  all_goals (go_wp2; go_ret; exact ⟨rfl, Lib.below_freeze (Below.drew (Below.refl B w)) (p := ⟨g, 0, none⟩) hbg _⟩)


theorem unsafeString_none (W : World) (q : Option Addr) : (Builtin.unsafeString_ #[60, 3] 9 #[.pointer q, .int .i64 0]).run Tryd.prog W = .ok (.string .empty) W :=
  Lib.run_unsafeString_none W _ _ _ q

set_option maxHeartbeats 2000000 in
set_option maxRecDepth 100000 in
theorem bstr_String_nil (T : Nat) (B b : Nat) (p : Value) (w : World) (hbk : w.heap[b]? = some (.cells #[p, .slice none 0 0] T (0, 0))) :
    Calls Tryd.prog 21 #[.pointer (some ⟨b, 0, none⟩)] w fun e w' => e = .returned (.string ⟨#[]⟩) ∧ Below B w w' := by
  have hUS := unsafeString_none
  have c1 : w.drew.cell? ⟨b, 1, none⟩ = some (.slice none 0 0) := by
    have : w.drew.heap[b]? = some (.cells #[p, .slice none 0 0] T (0, 0)) := hbk
    rw [Lib.cell_of_heap this]; rfl
  have hSD : (Builtin.unsafeSliceData_ #[39] 60 #[.slice none 0 0]).run Tryd.prog w.drew = .ok (.pointer none) w.drew := rfl
  go_enter Tryd.func21, Tryd.ntmps21
  go_wp2
  go_region
  all_goals (go_wp2; go_ret; exact ⟨rfl, Below.drew (Below.refl B w)⟩)

set_option maxHeartbeats 2000000 in
set_option maxRecDepth 100000 in
theorem bstr_String_noroom (T : Nat) (B b g : Nat) (p : Value) (cur : Array Value) (w : World) (hBw : B ≤ w.heap.size) (hbk : w.heap[b]? = some (.cells #[p, .slice (some ⟨g, 0, none⟩) 0 0] T (0, 0))) (hg : w.heap[g]? = some (.cells cur 5 (0, 0))) :
    Calls Tryd.prog 21 #[.pointer (some ⟨b, 0, none⟩)] w fun e w' => e = .returned (.string ⟨#[]⟩) ∧ Below B w w' := by
  have hUS := unsafeString_none
  have hlt : b < w.heap.size := by
    rcases Nat.lt_or_ge b w.heap.size with h' | h'
    · exact h'
    · simp [Array.getElem?_eq_none h'] at hbk
  have c1 : w.drew.cell? ⟨b, 1, none⟩ = some (.slice (some ⟨g, 0, none⟩) 0 0) := by
    have : w.drew.heap[b]? = some (.cells #[p, .slice (some ⟨g, 0, none⟩) 0 0] T (0, 0)) := hbk
    rw [Lib.cell_of_heap this]; rfl
  have hSD : (Builtin.unsafeSliceData_ #[39] 60 #[.slice (some ⟨g, 0, none⟩) 0 0]).run Tryd.prog w.drew = .ok (.pointer (some ⟨w.drew.heap.size, 0, none⟩)) (w.drew.alloc (.view ⟨g, 0, none⟩ 5)) :=
    Lib.run_unsafeSliceData_zero w.drew _ _ 5 Tryd.underlying60 ⟨g, 0, none⟩ 0 (5, cur.size) (by have hg' : w.drew.heap[g]? = some (.cells cur 5 (0, 0)) := hg; simp [World.shape?, hg'])
  have c2 : (w.drew.alloc (.view ⟨g, 0, none⟩ 5)).cell? ⟨b, 1, none⟩ = some (.slice (some ⟨g, 0, none⟩) 0 0) := by
    have : (w.drew.alloc (.view ⟨g, 0, none⟩ 5)).heap[b]? = _ := (Lib.alloc_old w.drew _ b hlt).trans hbk
    rw [Lib.cell_of_heap this]; rfl
  have c3 : (w.alloc (.view ⟨g, 0, none⟩ 5)).drew.cell? ⟨b, 1, none⟩ = some (.slice (some ⟨g, 0, none⟩) 0 0) := c2
  have c0 : w.cell? ⟨b, 1, none⟩ = some (.slice (some ⟨g, 0, none⟩) 0 0) := c1
  go_enter Tryd.func21, Tryd.ntmps21
  go_wp2
  go_region
  all_goals (go_wp2; go_ret; exact ⟨rfl, (Below.drew (Below.refl B w)).alloc hBw _⟩)

set_option maxHeartbeats 2000000 in
set_option maxRecDepth 100000 in
theorem bstr_String_room (T : Nat) (B b g cap : Nat) (p : Value) (w : World) (hc0 : cap ≠ 0) (hbk : w.heap[b]? = some (.cells #[p, .slice (some ⟨g, 0, none⟩) 0 cap] T (0, 0))) :
    Calls Tryd.prog 21 #[.pointer (some ⟨b, 0, none⟩)] w fun e w' => e = .returned (.string ⟨#[]⟩) ∧ Below B w w' := by
  have hUS := unsafeString_none
  have c1 : w.drew.cell? ⟨b, 1, none⟩ = some (.slice (some ⟨g, 0, none⟩) 0 cap) := by
    have : w.drew.heap[b]? = some (.cells #[p, .slice (some ⟨g, 0, none⟩) 0 cap] T (0, 0)) := hbk
    rw [Lib.cell_of_heap this]; rfl
  have hSD : (Builtin.unsafeSliceData_ #[39] 60 #[.slice (some ⟨g, 0, none⟩) 0 cap]).run Tryd.prog w.drew = .ok (.pointer (some ⟨g, 0, none⟩)) w.drew :=
    Lib.run_unsafeSliceData_row _ _ _ _ _ _ hc0
  clear hc0
  go_enter Tryd.func21, Tryd.ntmps21
  go_wp2
  go_region
  all_goals (go_wp2; go_ret; exact ⟨rfl, Below.drew (Below.refl B w)⟩)

theorem bstr_String_empty (T : Nat) (B b : Nat) (w : World) (h : Lib.IsBuilder T 5 B b [] w) (hBw : B ≤ w.heap.size) :
    Calls Tryd.prog 21 #[.pointer (some ⟨b, 0, none⟩)] w fun e w' => e = .returned (.string ⟨#[]⟩) ∧ Below B w w' := by
  obtain ⟨p, hB, v, hbk, hown, hne⟩ : ∃ p, Lib.BuilderAt T 5 B b p [] w := by
    rcases h with h | h
    · exact ⟨_, h⟩
    · exact ⟨_, h⟩
  rcases hown.2 with ⟨rfl, _⟩ | ⟨g, cap, cur, rfl, hbg, hg, _, _, _, _⟩
  · exact bstr_String_nil T B b p w hbk
  · by_cases hc0 : cap = 0
    · subst hc0
      exact bstr_String_noroom T B b g p cur w hBw hbk hg
    · exact bstr_String_room T B b g cap p w hc0 hbk

theorem bstr_String_any (T : Nat) (B b : Nat) (l : List UInt8) (w : World) (h : Lib.IsBuilder T 5 B b (Lib.byteCells l) w) (hBw : B ≤ w.heap.size) :
    Calls Tryd.prog 21 #[.pointer (some ⟨b, 0, none⟩)] w fun e w' => e = .returned (.string ⟨l.toArray⟩) ∧ Below B w w' := by
  cases l with
  | nil => exact bstr_String_empty T B b w h hBw
  | cons x r => exact bstr_String T B b (x :: r) w h (by simp)
end Go.Proofs.YtgkfpakncjncdaaDoor.Syn
/- syntax's writer: put, tight, call, expr write an expression's text. -/
namespace Go.Proofs.YtgkfpakncjncdaaDoor.Syn
open Go.RowKit Go.Lib Go.Proofs.YtgkfpakncjncdaaDoorW.PrintWords Go.Proofs.YtgkfpakncjncdaaDoorW.PrintLast Go.Proofs.YtgkfpakncjncdaaDoorW.PrintMore Go.Proofs.YtgkfpakncjncdaaDoor.PSyn
set_option linter.unusedVariables false
set_option linter.unusedSimpArgs false

theorem bears_writer : Bears 43 := ⟨by decide, ⟨2, rfl⟩, by kernel_rfl⟩

/-- A writer in block b that holds these bytes; blocks from B on are the call's own. -/
def Wr (B b : Nat) (out : List UInt8) (w : World) : Prop := Lib.IsBuilder 43 5 B b (Lib.byteCells out) w ∧ B ≤ w.heap.size

theorem strCells_bytes (s : ByteArray) : Lib.strCells s = Lib.byteCells s.data.toList := by simp [Lib.strCells, Lib.byteCells]

theorem wr_write (B b : Nat) (out : List UInt8) (s : ByteArray) (w : World) (h : Wr B b out w) (hlen : out.length + s.size ≤ 140737488355328) :
    Calls Tryd.prog 43 #[.pointer (some ⟨b, 0, none⟩), .string s] w fun e w' => e = .returned (.tuple #[.int .i64 s.size, .nilIface]) ∧ Wr B b (out ++ s.data.toList) w' ∧ Below B w w' ∧ Wrote b w w' := by
  refine (bwrite 43 bears_writer B b (Lib.byteCells out) s w h.1 (by rw [Lib.byteCells_length]; exact hlen) h.2).mono ?_
  rintro e w' ⟨rfl, h1, h2, h3⟩
  refine ⟨rfl, ⟨?_, Nat.le_trans h.2 h2.size⟩, h2, h3⟩
  rw [byteCells_append, ← strCells_bytes]
  exact Or.inr h1

/-- the bytes of texts, one behind the other -/
def catB (l : List ByteArray) : List UInt8 := l.flatMap (fun s => s.data.toList)
theorem catB_take (l : List ByteArray) (k : Nat) (h : k < l.length) : catB (l.take (k + 1)) = catB (l.take k) ++ l[k].data.toList := by
  unfold catB
  rw [List.take_succ_eq_append_getElem h, List.flatMap_append]
  simp
theorem catB_len (l : List ByteArray) (k : Nat) : (catB (l.take k)).length ≤ (catB l).length := by
  conv => rhs; rw [← List.take_append_drop k l]
  unfold catB
  rw [List.flatMap_append, List.length_append]
  omega

set_option maxHeartbeats 2000000 in
theorem put_calls (B b g : Nat) (out : List UInt8) (l : List ByteArray) (c : Nat) (w : World) (h : Wr B b out w) (hg : w.heap[g]? = some (.cells (l.map Value.string).toArray 9 (0, 0))) (hgb : g ≠ b)
    (hl : l.length ≤ 1000) (hlen : out.length + (catB l).length ≤ 140737488355328) :
    Calls Tryd.prog 25 #[.pointer (some ⟨b, 0, none⟩), .slice (some ⟨g, 0, none⟩) l.length c] w fun e w' => e = .returned (.tuple #[]) ∧ Wr B b (out ++ catB l) w' ∧ Below B w w' ∧ Wrote b w w' := by
  have HG := Aside0.mk hg
  have H := Aside0.mk h
  have HL := Aside0.mk hlen
  clear hg h hlen
  go_enter Tryd.func25, Tryd.ntmps25
  go_wp2
  go_loopg [8] l.length (fun gg s8 wr => ∃ kk : Nat, kk ≤ l.length ∧ l.length - kk ≤ gg ∧ s8 = .int .i64 kk ∧ Aside (Wr B b (out ++ catB (l.take kk)) wr) ∧ Aside (Below B w wr) ∧ Aside (Wrote b w wr))
  case atStart => exact ⟨0, Nat.zero_le _, by omega, rfl, (by show Wr _ _ _ _; simpa [catB] using H.out), Below.refl _ _, Wrote.refl _ _⟩
  case round =>
    obtain ⟨kk, hkk, hgg, rfl, HW, BW, WW⟩ := hrel
    by_cases hlt : kk < l.length
    · have hltz : (kk : Int) < (l.length : Int) := by omega
      have hc : wr.cell? ⟨g, kk, none⟩ = some (.string l[kk]) := by
        rw [Lib.cell_of_heap (WW.out.blk HG.out hgb (by decide))]
        simp [hlt]
      have hlen2 : (out ++ catB (l.take kk)).length + l[kk].size ≤ 140737488355328 := by
        have h1 := catB_len l (kk + 1)
        rw [catB_take l kk hlt] at h1
        have h2 := HL.out
        simp only [List.length_append, Array.length_toList] at h1 ⊢
        have : l[kk].size = l[kk].data.size := rfl
        omega
      have hstep := catB_take l kk hlt
      generalize l[kk] = y at *
      have hcall := wr_write B b (out ++ catB (l.take kk)) y wr HW.out hlen2
      have HS := Aside0.mk hstep
      clear hstep hlen2
      have HCALL := Aside0.mk hcall
      clear hcall
      go_wp2_with (go_at_call 43; refine HCALL.out.mono ?_; rintro e w1 ⟨rfl, h1, h2, h3⟩; have N1 := Aside0.mk h1; have N2 := Aside0.mk h2; have N3 := Aside0.mk h3; clear h1 h2 h3)
      go_roundg (l.length - (kk + 1))
      case measure => omega
      case rel =>
        refine ⟨kk + 1, by omega, by omega, by go_num, ?_, BW.out.trans N2.out, WW.out.trans N3.out⟩
        show Wr _ _ _ _
        rw [HS.out, ← List.append_assoc]
        exact N1.out
    · have hltz : ¬ (kk : Int) < (l.length : Int) := by omega
      go_wp2
      go_end0
      refine ⟨rfl, ?_, BW.out, WW.out⟩
      have := HW.out
      rw [List.take_of_length_le (by omega)] at this
      exact this

theorem grow_below (w : World) (k : Nat) (os : Array Obj) : Below w.heap.size w (Go.Sort.grow (w.drewN k) os) :=
  ⟨rfl, rfl, rfl, by show w.heap.size ≤ (w.heap ++ os).size; simp, fun j hj => by show (w.heap ++ os)[j]? = w.heap[j]?; rw [Array.getElem?_append_left hj]⟩

/-- The table that strconv reads lies as it was laid. -/
def Tab (w : World) : Prop := Lib.TabIs Tryd.prog w "internal/strconv.uint64pow10" .u64 Lib.pow10Tab ∧ ∀ g, Tryd.prog.globalNamed "internal/strconv.uint64pow10" = some g → g < w.heap.size
theorem Tab.later {w w' : World} (h : Tab w) (hb : Below w.heap.size w w') : Tab w' := by
  refine ⟨?_, fun g hg => Nat.lt_of_lt_of_le (h.2 g hg) hb.size⟩
  have h1 := h.1
  unfold Lib.TabIs World.var? at h1 ⊢
  cases hg : Tryd.prog.globalNamed "internal/strconv.uint64pow10" with
  | none => rw [hg] at h1; simp at h1
  | some g =>
    rw [hg] at h1
    simp only [Option.bind_some] at h1 ⊢
    rw [hb.block g (h.2 g hg)]
    exact h1

def digits (n : Int) : List UInt8 := Lib.itoa n
theorem itoa_calls (n : Int) (h0 : -9223372036854775808 ≤ n) (h1 : n ≤ 9223372036854775807) (w : World) (ht : Tab w) :
    Calls Tryd.prog 26 #[.int .i64 n] w fun e w' => e = .returned (.string ⟨(digits n).toArray⟩) ∧ Below w.heap.size w w' := by
  refine (Tryd.strconv_Itoa n h0 h1 w ht.1).mono ?_
  rintro e w' ⟨rfl, k, os, rfl⟩
  exact ⟨rfl, grow_below w k os⟩
theorem digits_calls (n : Int) (h0 : -9223372036854775808 ≤ n) (h1 : n ≤ 9223372036854775807) (w : World) (ht : Tab w) :
    Calls Tryd.prog 35 #[.int .i64 n] w fun e w' => e = .returned (.string ⟨(digits n).toArray⟩) ∧ Below w.heap.size w w' := by
  have hI := itoa_calls n h0 h1 w ht
  have HI := Aside0.mk hI
  clear hI ht h0 h1
  generalize (digits n) = D at *
  go_enter Tryd.func35, Tryd.ntmps35
  go_wp2_with (go_at_call 26; refine HI.out.mono ?_; rintro e w' ⟨rfl, hb⟩)
  go_ret
  exact ⟨rfl, hb⟩
end Go.Proofs.YtgkfpakncjncdaaDoor.Syn
