/- The law SyntaxSame answers true. -/
import Derived.Test.YtgkfpakncjncdaaDoorSynk
import Derived.Test.YtgkfpakncjncdaaDoorCards
import Derived.Test.YtgkfpakncjncdaaDoorTie
import Derived.WalkKit
import Derived.ProofKit
import Derived.OpenShut
import Derived.ChangeOld
import Derived.Carry
import Derived.Deep.DeepHandedRow
import Derived.Lib.LaidTab
namespace Go.Proofs.YtgkfpakncjncdaaDoor.Syn
open Go.RowKit Go.Lib Go.Proofs.YtgkfpakncjncdaaDoorW.PrintWords Go.Proofs.YtgkfpakncjncdaaDoorW.PrintLast Go.Proofs.YtgkfpakncjncdaaDoorW.PrintMore Go.Proofs.YtgkfpakncjncdaaDoor.PSyn
set_option linter.unusedVariables false
set_option linter.unusedSimpArgs false

def GoodB (l : List S35) : Bool := l.all mayB && decide (l.length ≤ 256)
theorem GoodL_ev (l : List S35) (hlen : l.length ≤ 9223372036854775807) (hs : ∀ x ∈ l, shortB x.f1 = true) (hx : ∀ x ∈ l, Lies x.f1) :
    ∀ (d i : Nat), l.length - i = d → i ≤ l.length → Ev (fun k => octroiref31_Good.l0 k l (i : Int)) ((l.drop i).all mayB && decide (l.length ≤ 256)) := by
  intro d
  induction d with
  | zero =>
    intro i hd hi
    rw [List.drop_eq_nil_of_le (by omega)]
    have e : decide ((l.length : Int) ≤ 256) = decide (l.length ≤ 256) := by
      by_cases h : l.length ≤ 256
      · rw [decide_eq_true h, decide_eq_true (by omega)]
      · rw [decide_eq_false h, decide_eq_false (by omega)]
    refine Ev.step (f := fun _ => some (decide ((l.length : Int) ≤ 256))) (fun k => ?_) (by rw [e]; simpa using Ev.now _)
    simp only [octroiref31_Good.l0]
    rw [if_neg (by omega)]
  | succ d ihd =>
    intro i hd hi
    have hlt : i < l.length := by omega
    have ih' := ihd (i + 1) (by omega) (by omega)
    have er : rd_T35 l (i : Int) = l[i] := by simp [rd_T35, List.getD_eq_getElem?_getD, hlt]
    rw [List.drop_eq_getElem_cons hlt, List.all_cons]
    refine Ev.step (f := fun k => (octroiref31_BoxNumber.f l[i].f0).bind fun t => (if t = true then ((octroiref31_GoodExpr.f k l[i].f1.f0 l[i].f1.f1 l[i].f1.f2 l[i].f1.f3 l[i].f1.f4).bind fun t => if t = true then octroiref31_Good.l0 k l ((i + 1 : Nat) : Int) else some false) else some false)) (fun k => ?_) ?_
    · simp only [octroiref31_Good.l0]
      rw [if_pos (by omega), if_pos (by omega), er, wrap_small (by omega) (by omega)]
      rfl
    · rw [box_ref]
      simp only [Option.bind_some]
      have hge := goodref_ev l[i].f1 (hx _ (List.getElem_mem hlt)) (hs _ (List.getElem_mem hlt))
      rw [show mayB l[i] = (boxB l[i].f0 && goodB l[i].f1) from rfl]
      cases hb : boxB l[i].f0
      · simp only [Bool.false_eq_true, if_false, Bool.false_and]
        exact Ev.now _
      · simp only [if_true, Bool.true_and]
        refine Ev.bind hge ?_
        cases goodB l[i].f1
        · simp only [Bool.false_eq_true, if_false, Bool.false_and]
          exact Ev.now _
        · simpa using ih'
theorem Good_calls (l : List S35) (hs : ∀ x ∈ l, shortB x.f1 = true) (W : World) (A : Option Addr) (c : Nat) (hc : l.length ≤ c) (hr : Kd.C k35 W A l.length l) :
    Calls Tryd.prog 14 #[.slice A l.length c] W fun e w' => e = .returned (.bool (GoodB l)) ∧ Below W.heap.size W w' := by
  have := GoodL_ev l hr.2.1 hs (lies_row hr) _ 0 rfl (Nat.zero_le _)
  rw [List.drop_zero] at this
  obtain ⟨k, hkk⟩ := this.rounds
  exact octroiref31_Good.calls k A c l _ W hr hc hkk

theorem sameX_refl (l : List S35) : allEq sameX l l = true := (allEq_iff sameX (fun x _ y => sameX_iff x y)).2 rfl
theorem same_lines {l m : List S35} (hl : GoodB l = true) (hm : GoodB m = true) (h : allEq sameX l m = false) : ¬ l.flatMap lineB = m.flatMap lineB := by
  intro e
  unfold GoodB at hl hm
  simp only [Bool.and_eq_true, List.all_eq_true] at hl hm
  have := lines_unique hl.1 hm.1 e
  rw [(allEq_iff sameX (fun x _ y => sameX_iff x y)).2 this] at h
  simp at h

set_option maxRecDepth 100000 in
set_option maxHeartbeats 4000000 in
theorem sames_calls (l m : List S35) (A B : Option Addr) (c d : Nat) (W : World) (ht : Tab W) (hc : l.length ≤ c) (hr : Kd.C k35 W A l.length l) (hf : ∀ y ∈ l, Fine y.f1) (hc' : m.length ≤ d) (hr' : Kd.C k35 W B m.length m) (hf' : ∀ y ∈ m, Fine y.f1) :
    Calls Tryd.prog 4 #[.slice A l.length c, .slice B m.length d] W fun e w' => e = .returned (.bool true) ∧ Below W.heap.size W w' := by
  have HFa := Aside0.mk (fun (w : World) (hb : Below W.heap.size W w) => Few_calls l hf w A c hc (Kd.C_below hr hb))
  have HFb := Aside0.mk (fun (w : World) (hb : Below W.heap.size W w) => Few_calls m hf' w B d hc' (Kd.C_below hr' hb))
  have HLV := Aside0.mk (fun (w : World) (hb : Below W.heap.size W w) => lives_calls w (ht.later hb))
  have HRS := Aside0.mk (fun (w : World) (hb : Below W.heap.size W w) => rSame_calls l m A B c d w (Kd.C_below hr hb) (Kd.C_below hr' hb))
  have HS := Aside0.mk (fun (w : World) (hb : Below W.heap.size W w) => same_calls l m A B c d w (Kd.C_below hr hb) (Kd.C_below hr' hb))
  have HSS := Aside0.mk (fun (w : World) (hb : Below W.heap.size W w) => same_calls l l A A c c w (Kd.C_below hr hb) (Kd.C_below hr hb))
  have HGa := Aside0.mk (fun (hfw : FewB l = true) (w : World) (hb : Below W.heap.size W w) => Good_calls l (Few_spec hfw).1 w A c hc (Kd.C_below hr hb))
  have HGb := Aside0.mk (fun (hfw : FewB m = true) (w : World) (hb : Below W.heap.size W w) => Good_calls m (Few_spec hfw).1 w B d hc' (Kd.C_below hr' hb))
  have HPa := Aside0.mk (fun (hfw : FewB l = true) (w : World) (hb : Below W.heap.size W w) => print_calls cfn A c l w (Kd.C_below hr hb) (ht.later hb) (by have := (Few_spec hfw).2; omega))
  have HPb := Aside0.mk (fun (hfw : FewB m = true) (w : World) (hb : Below W.heap.size W w) => print_calls cfn B d m w (Kd.C_below hr' hb) (ht.later hb) (by have := (Few_spec hfw).2; omega))
  rw [sameX_refl] at HSS
  clear hr hr' hf hf' hc hc' ht
  have HB := Aside0.mk (Below.refl W.heap.size W)
  cases hF : FewB l
  · rw [hF] at HFa
    clear HGa HGb HPa HPb HRS HS HSS
    go_enter Tryd.func4, Tryd.ntmps4
    go_wp2_with fail
    refine (HFa.out _ HB.out).mono ?_
    rintro e w1 ⟨rfl, hd⟩
    have HB := Aside0.mk (below_step HB.out hd)
    clear hd
    go_wp2_with fail
    refine (HLV.out _ HB.out).mono ?_
    rintro e w1 ⟨rfl, hd⟩
    have HB := Aside0.mk (below_step HB.out hd)
    clear hd
    go_wp2_with fail
    go_ret
    exact ⟨rfl, HB.out⟩
  · rw [hF] at HFa
    cases hF' : FewB m
    · rw [hF'] at HFb
      clear HGa HGb HPa HPb HRS HS HSS
      go_enter Tryd.func4, Tryd.ntmps4
      go_wp2_with fail
      refine (HFa.out _ HB.out).mono ?_
      rintro e w1 ⟨rfl, hd⟩
      have HB := Aside0.mk (below_step HB.out hd)
      clear hd
      go_wp2_with fail
      refine (HFb.out _ HB.out).mono ?_
      rintro e w1 ⟨rfl, hd⟩
      have HB := Aside0.mk (below_step HB.out hd)
      clear hd
      go_wp2_with fail
      refine (HLV.out _ HB.out).mono ?_
      rintro e w1 ⟨rfl, hd⟩
      have HB := Aside0.mk (below_step HB.out hd)
      clear hd
      go_wp2_with fail
      go_ret
      exact ⟨rfl, HB.out⟩
    · rw [hF'] at HFb
      have HGa := Aside0.mk (HGa.out hF)
      have HGb := Aside0.mk (HGb.out hF')
      have HPa := Aside0.mk (HPa.out hF)
      have HPb := Aside0.mk (HPb.out hF')
      have HD := Aside0.mk (fun h1 h2 h3 => same_lines (l := l) (m := m) h1 h2 h3)
      have HI := Aside0.mk (fun h => (allEq_iff sameX (l := l) (m := m) (fun x _ y => sameX_iff x y)).1 h)
      clear hF hF'
      cases hS : allEq sameX l m
      · rw [hS] at HRS HS
        cases hg : GoodB l
        · rw [hg] at HGa
          clear HPa HPb HD HI hS
          go_enter Tryd.func4, Tryd.ntmps4
          go_wp2_with fail
          refine (HFa.out _ HB.out).mono ?_
          rintro e w1 ⟨rfl, hd⟩
          have HB := Aside0.mk (below_step HB.out hd)
          clear hd
          go_wp2_with fail
          refine (HFb.out _ HB.out).mono ?_
          rintro e w1 ⟨rfl, hd⟩
          have HB := Aside0.mk (below_step HB.out hd)
          clear hd
          go_wp2_with fail
          refine (HRS.out _ HB.out).mono ?_
          rintro e w1 ⟨rfl, hd⟩
          have HB := Aside0.mk (below_step HB.out hd)
          clear hd
          go_wp2_with fail
          refine (HS.out _ HB.out).mono ?_
          rintro e w1 ⟨rfl, hd⟩
          have HB := Aside0.mk (below_step HB.out hd)
          clear hd
          go_wp2_with fail
          refine (HSS.out _ HB.out).mono ?_
          rintro e w1 ⟨rfl, hd⟩
          have HB := Aside0.mk (below_step HB.out hd)
          clear hd
          go_wp2_with fail
          refine (HGa.out _ HB.out).mono ?_
          rintro e w1 ⟨rfl, hd⟩
          have HB := Aside0.mk (below_step HB.out hd)
          clear hd
          go_wp2_with fail
          refine (HLV.out _ HB.out).mono ?_
          rintro e w1 ⟨rfl, hd⟩
          have HB := Aside0.mk (below_step HB.out hd)
          clear hd
          go_wp2_with fail
          go_ret
          exact ⟨rfl, HB.out⟩
        · rw [hg] at HGa
          cases hg' : GoodB m
          · rw [hg'] at HGb
            clear HPa HPb HD HI hS
            go_enter Tryd.func4, Tryd.ntmps4
            go_wp2_with fail
            refine (HFa.out _ HB.out).mono ?_
            rintro e w1 ⟨rfl, hd⟩
            have HB := Aside0.mk (below_step HB.out hd)
            clear hd
            go_wp2_with fail
            refine (HFb.out _ HB.out).mono ?_
            rintro e w1 ⟨rfl, hd⟩
            have HB := Aside0.mk (below_step HB.out hd)
            clear hd
            go_wp2_with fail
            refine (HRS.out _ HB.out).mono ?_
            rintro e w1 ⟨rfl, hd⟩
            have HB := Aside0.mk (below_step HB.out hd)
            clear hd
            go_wp2_with fail
            refine (HS.out _ HB.out).mono ?_
            rintro e w1 ⟨rfl, hd⟩
            have HB := Aside0.mk (below_step HB.out hd)
            clear hd
            go_wp2_with fail
            refine (HSS.out _ HB.out).mono ?_
            rintro e w1 ⟨rfl, hd⟩
            have HB := Aside0.mk (below_step HB.out hd)
            clear hd
            go_wp2_with fail
            refine (HGa.out _ HB.out).mono ?_
            rintro e w1 ⟨rfl, hd⟩
            have HB := Aside0.mk (below_step HB.out hd)
            clear hd
            go_wp2_with fail
            refine (HGb.out _ HB.out).mono ?_
            rintro e w1 ⟨rfl, hd⟩
            have HB := Aside0.mk (below_step HB.out hd)
            clear hd
            go_wp2_with fail
            refine (HLV.out _ HB.out).mono ?_
            rintro e w1 ⟨rfl, hd⟩
            have HB := Aside0.mk (below_step HB.out hd)
            clear hd
            go_wp2_with fail
            go_ret
            exact ⟨rfl, HB.out⟩
          · rw [hg'] at HGb
            have hq : ((⟨(l.flatMap lineB).toArray⟩ : ByteArray).toList == (⟨(m.flatMap lineB).toArray⟩ : ByteArray).toList) = false := by
              have := HD.out hg hg' hS
              rw [ByteArray.toList_eq, ByteArray.toList_eq]
              simpa using this
            have hq2 := HD.out hg hg' hS
            clear HD HI hS
            generalize l.flatMap lineB = la at *
            generalize m.flatMap lineB = lb at *
            have hq3 : (la == lb) = false := beq_eq_false_iff_ne.mpr hq2
            go_enter Tryd.func4, Tryd.ntmps4
            go_wp2_with fail
            refine (HFa.out _ HB.out).mono ?_
            rintro e w1 ⟨rfl, hd⟩
            have HB := Aside0.mk (below_step HB.out hd)
            clear hd
            go_wp2_with fail
            refine (HFb.out _ HB.out).mono ?_
            rintro e w1 ⟨rfl, hd⟩
            have HB := Aside0.mk (below_step HB.out hd)
            clear hd
            go_wp2_with fail
            refine (HRS.out _ HB.out).mono ?_
            rintro e w1 ⟨rfl, hd⟩
            have HB := Aside0.mk (below_step HB.out hd)
            clear hd
            go_wp2_with fail
            refine (HS.out _ HB.out).mono ?_
            rintro e w1 ⟨rfl, hd⟩
            have HB := Aside0.mk (below_step HB.out hd)
            clear hd
            go_wp2_with fail
            refine (HSS.out _ HB.out).mono ?_
            rintro e w1 ⟨rfl, hd⟩
            have HB := Aside0.mk (below_step HB.out hd)
            clear hd
            go_wp2_with fail
            refine (HGa.out _ HB.out).mono ?_
            rintro e w1 ⟨rfl, hd⟩
            have HB := Aside0.mk (below_step HB.out hd)
            clear hd
            go_wp2_with fail
            refine (HGb.out _ HB.out).mono ?_
            rintro e w1 ⟨rfl, hd⟩
            have HB := Aside0.mk (below_step HB.out hd)
            clear hd
            go_wp2_with fail
            refine (HPa.out _ HB.out).mono ?_
            rintro e w1 ⟨rfl, hd⟩
            have HB := Aside0.mk (below_step HB.out hd)
            clear hd
            go_wp2_with fail
            refine (HPb.out _ HB.out).mono ?_
            rintro e w1 ⟨rfl, hd⟩
            have HB := Aside0.mk (below_step HB.out hd)
            clear hd
            go_wp2_with fail
            refine (HLV.out _ HB.out).mono ?_
            rintro e w1 ⟨rfl, hd⟩
            have HB := Aside0.mk (below_step HB.out hd)
            clear hd
            go_wp2_with fail
            go_ret
            exact ⟨rfl, HB.out⟩
      · rw [hS] at HRS HS
        cases hg : GoodB l
        · rw [hg] at HGa
          clear HPa HPb HD HI hS
          go_enter Tryd.func4, Tryd.ntmps4
          go_wp2_with fail
          refine (HFa.out _ HB.out).mono ?_
          rintro e w1 ⟨rfl, hd⟩
          have HB := Aside0.mk (below_step HB.out hd)
          clear hd
          go_wp2_with fail
          refine (HFb.out _ HB.out).mono ?_
          rintro e w1 ⟨rfl, hd⟩
          have HB := Aside0.mk (below_step HB.out hd)
          clear hd
          go_wp2_with fail
          refine (HRS.out _ HB.out).mono ?_
          rintro e w1 ⟨rfl, hd⟩
          have HB := Aside0.mk (below_step HB.out hd)
          clear hd
          go_wp2_with fail
          refine (HS.out _ HB.out).mono ?_
          rintro e w1 ⟨rfl, hd⟩
          have HB := Aside0.mk (below_step HB.out hd)
          clear hd
          go_wp2_with fail
          refine (HSS.out _ HB.out).mono ?_
          rintro e w1 ⟨rfl, hd⟩
          have HB := Aside0.mk (below_step HB.out hd)
          clear hd
          go_wp2_with fail
          refine (HGa.out _ HB.out).mono ?_
          rintro e w1 ⟨rfl, hd⟩
          have HB := Aside0.mk (below_step HB.out hd)
          clear hd
          go_wp2_with fail
          refine (HLV.out _ HB.out).mono ?_
          rintro e w1 ⟨rfl, hd⟩
          have HB := Aside0.mk (below_step HB.out hd)
          clear hd
          go_wp2_with fail
          go_ret
          exact ⟨rfl, HB.out⟩
        · rw [hg] at HGa
          cases hg' : GoodB m
          · rw [hg'] at HGb
            clear HPa HPb HD HI hS
            go_enter Tryd.func4, Tryd.ntmps4
            go_wp2_with fail
            refine (HFa.out _ HB.out).mono ?_
            rintro e w1 ⟨rfl, hd⟩
            have HB := Aside0.mk (below_step HB.out hd)
            clear hd
            go_wp2_with fail
            refine (HFb.out _ HB.out).mono ?_
            rintro e w1 ⟨rfl, hd⟩
            have HB := Aside0.mk (below_step HB.out hd)
            clear hd
            go_wp2_with fail
            refine (HRS.out _ HB.out).mono ?_
            rintro e w1 ⟨rfl, hd⟩
            have HB := Aside0.mk (below_step HB.out hd)
            clear hd
            go_wp2_with fail
            refine (HS.out _ HB.out).mono ?_
            rintro e w1 ⟨rfl, hd⟩
            have HB := Aside0.mk (below_step HB.out hd)
            clear hd
            go_wp2_with fail
            refine (HSS.out _ HB.out).mono ?_
            rintro e w1 ⟨rfl, hd⟩
            have HB := Aside0.mk (below_step HB.out hd)
            clear hd
            go_wp2_with fail
            refine (HGa.out _ HB.out).mono ?_
            rintro e w1 ⟨rfl, hd⟩
            have HB := Aside0.mk (below_step HB.out hd)
            clear hd
            go_wp2_with fail
            refine (HGb.out _ HB.out).mono ?_
            rintro e w1 ⟨rfl, hd⟩
            have HB := Aside0.mk (below_step HB.out hd)
            clear hd
            go_wp2_with fail
            refine (HLV.out _ HB.out).mono ?_
            rintro e w1 ⟨rfl, hd⟩
            have HB := Aside0.mk (below_step HB.out hd)
            clear hd
            go_wp2_with fail
            go_ret
            exact ⟨rfl, HB.out⟩
          · rw [hg'] at HGb
            have el : l.flatMap lineB = m.flatMap lineB := by rw [HI.out hS]
            rw [el] at HPa
            clear HD HI hS el
            generalize m.flatMap lineB = lb at *
            go_enter Tryd.func4, Tryd.ntmps4
            go_wp2_with fail
            refine (HFa.out _ HB.out).mono ?_
            rintro e w1 ⟨rfl, hd⟩
            have HB := Aside0.mk (below_step HB.out hd)
            clear hd
            go_wp2_with fail
            refine (HFb.out _ HB.out).mono ?_
            rintro e w1 ⟨rfl, hd⟩
            have HB := Aside0.mk (below_step HB.out hd)
            clear hd
            go_wp2_with fail
            refine (HRS.out _ HB.out).mono ?_
            rintro e w1 ⟨rfl, hd⟩
            have HB := Aside0.mk (below_step HB.out hd)
            clear hd
            go_wp2_with fail
            refine (HS.out _ HB.out).mono ?_
            rintro e w1 ⟨rfl, hd⟩
            have HB := Aside0.mk (below_step HB.out hd)
            clear hd
            go_wp2_with fail
            refine (HSS.out _ HB.out).mono ?_
            rintro e w1 ⟨rfl, hd⟩
            have HB := Aside0.mk (below_step HB.out hd)
            clear hd
            go_wp2_with fail
            refine (HGa.out _ HB.out).mono ?_
            rintro e w1 ⟨rfl, hd⟩
            have HB := Aside0.mk (below_step HB.out hd)
            clear hd
            go_wp2_with fail
            refine (HGb.out _ HB.out).mono ?_
            rintro e w1 ⟨rfl, hd⟩
            have HB := Aside0.mk (below_step HB.out hd)
            clear hd
            go_wp2_with fail
            refine (HPa.out _ HB.out).mono ?_
            rintro e w1 ⟨rfl, hd⟩
            have HB := Aside0.mk (below_step HB.out hd)
            clear hd
            go_wp2_with fail
            refine (HPb.out _ HB.out).mono ?_
            rintro e w1 ⟨rfl, hd⟩
            have HB := Aside0.mk (below_step HB.out hd)
            clear hd
            go_wp2_with fail
            refine (HLV.out _ HB.out).mono ?_
            rintro e w1 ⟨rfl, hd⟩
            have HB := Aside0.mk (below_step HB.out hd)
            clear hd
            go_wp2_with fail
            go_ret
            exact ⟨rfl, HB.out⟩
end Go.Proofs.YtgkfpakncjncdaaDoor.Syn
/- The row of SyntaxSame. -/
namespace Go.Proofs.YtgkfpakncjncdaaDoor.Syn
open Go.ChangeShapes Go.WideShapes Go.ChangeAt Go.RowKit Go.Proofs.YtgkfpakncjncdaaDoor.PSyn
set_option linter.unusedVariables false

theorem own : ownKnob Tryd.prog.godebug = none := by kernel_rfl
theorem laidOut : laidOutB Tryd.prog = true := by kernel_rfl

/-- WHAT THE ROW's LIST GIVES: strconv's table lies as it was laid. -/
theorem tab_of {W : World} (h : laidMetH Tryd.prog Rows.syntaxSameRow.laid W) : Tab W := by
  have hm : laidMet Tryd.prog [("math/bits.deBruijn32tab", Rows.laid_math_bits_deBruijn32tab), ("math/bits.deBruijn64tab", Rows.laid_math_bits_deBruijn64tab), ("internal/strconv.uint64pow10", Rows.laid_internal_strconv_uint64pow10)] W := h
  obtain ⟨ps, ⟨_, _, _, _, _, q1, _, _, _, _, ⟨_, _, _, _, _, q2, _, _, _, _, ⟨g', t', cs, fuel, p, q, hg', ht', hvar, hd, _, _⟩, _⟩, _⟩, _⟩ := hm
  have hgg : Tryd.prog.globalNamed "internal/strconv.uint64pow10" = some g' := hg'
  have hlt : g' < W.heap.size := by
    unfold World.var? at hvar
    rw [hgg] at hvar
    simp only [Option.bind_some] at hvar
    cases hh : W.heap[g']? with
    | none => rw [hh] at hvar; simp at hvar
    | some o => exact (Array.getElem?_eq_some_iff.1 hh).1
  refine ⟨?_, fun g hg => ?_⟩
  · have htt : (Tryd.prog.globals[g']?).map (·.type) = some 90 := by
      have h3 : (Tryd.prog.globals[(Tryd.prog.globalNamed "internal/strconv.uint64pow10").getD 0]?).map (·.type) = some 90 := by kernel_rfl
      rw [hgg] at h3
      exact h3
    obtain rfl := Option.some.inj (htt.symm.trans ht')
    unfold Lib.TabIs
    rw [hvar]
    have e : Rows.laid_internal_strconv_uint64pow10 (H := Unit) = Lib.tabData .u64 Lib.pow10Tab := by kernel_rfl
    rw [e] at hd
    rw [← Lib.cells_of_tab Tryd.underlying90 Tryd.underlying84 (by kernel_rfl) (by kernel_rfl) hd]
  · rw [hgg] at hg
    cases hg
    exact hlt

/-- WHAT THE WALKS GIVE, FOR EVERY ARGUMENT. -/
theorem same_contract (H : Type) (enc : TypeId × Value → H) (W : World) (base : Nat) (args : Array Value) (ds gs : List (DataW H)) (before : List MemPlace)
    (hval : ∀ (j : Nat) t v, Tryd.f4.params[j]? = some t → args[j]? = some v → Value.okWide Tryd.prog W .any base t v)
    (hW : DataW.Whole enc Tryd.prog Tryd.f4.params.toList Rows.syntaxSameSpec.vars false W args.toList ds gs before)
    (hsz0 : (DataW.weightsEach Tryd.prog (Tryd.f4.params.toList ++ (OpenSpec.ofChange Rows.syntaxSameSpec).bare.plain.varTypes Tryd.prog) (ds ++ gs)).all (· ≤ reachBytes) = true)
    (hL : laidMetH Tryd.prog Rows.syntaxSameRow.laid W) :
    Calls Tryd.prog 4 args W fun e W' => ∃ v, e = .returned v ∧ Rows.syntaxSameSpec.post enc Tryd.prog Tryd.f4 false true false false W args v W' := by
  have hW' := hW
  obtain ⟨p, q, hA0, hV, rfl, hfz, hnd⟩ := hW
  have hsz := hsz0
  have hA : DataW.TrodAll enc Tryd.prog W 0 (fun _ => true) true Tryd.f4.params.toList args.toList ds p := hA0
  rw [Tryd.params4] at hA hval hsz
  obtain ⟨v0, vs0, d0, ds0, p0, q0, hargs, rfl, rfl, h0, r0⟩ := trodAll_cons hA
  obtain ⟨v1, vs1, d1, ds1, p1, q1, rfl, rfl, rfl, h1, r1⟩ := trodAll_cons r0
  obtain ⟨rfl, rfl, rfl⟩ := trodAll_nil r1
  obtain rfl : args = #[v0, v1] := by cases args; simp_all
  obtain ⟨rfl, rfl⟩ := trodVars_none hV
  have k0 := h0
  have k1 := h1
  have lt0 : ∀ x ∈ p0, x.block < W.heap.size := by obtain ⟨m, hm⟩ := k0; exact DataW.trod_lt m _ _ _ hm
  have lt1 : ∀ x ∈ p1, x.block < W.heap.size := by obtain ⟨m, hm⟩ := k1; exact DataW.trod_lt m _ _ _ hm
  obtain ⟨A, c, l, hc0, hlc, hr, hf, _⟩ := open_boxes h0 (Light.of hsz (j := 0) rfl rfl)
  obtain ⟨B, d, m, hc1, hlc', hr', hf', _⟩ := open_boxes h1 (Light.of hsz (j := 1) rfl rfl)
  obtain ⟨a0, len0, cap0, rfl⟩ := okWide_slice Tryd.underlying22 (hval 0 22 v0 rfl rfl)
  have e0 : (Value.slice a0 len0 cap0) = .slice A l.length c := by simpa [Value.cells] using hc0
  obtain ⟨a1, len1, cap1, rfl⟩ := okWide_slice Tryd.underlying22 (hval 1 22 v1 rfl rfl)
  have e1 : (Value.slice a1 len1 cap1) = .slice B m.length d := by simpa [Value.cells] using hc1
  have walk := sames_calls l m A B c d W (tab_of hL) hlc hr hf hlc' hr' hf'
  rw [← e0, ← e1] at walk
  clear hA0 hsz hsz0
  refine walk.mono fun e W' ⟨he, bel⟩ => ?_
  subst he
  exact ⟨_, rfl, _, _, _, [], _, [], hW', trodAll_mk1 (shut_bool Tryd.underlying4 _), trodAll_cons_mk (Below.trod laidOut (by kernel_rfl) (of_decide_eq_true (by kernel_rfl)) k0 bel lt0) (trodAll_cons_mk (Below.trod laidOut (by kernel_rfl) (of_decide_eq_true (by kernel_rfl)) k1 bel lt1) trodAll_mk0), rfl, bel.frame _, fun h => by cases h⟩
end Go.Proofs.YtgkfpakncjncdaaDoor.Syn
/- The card of SyntaxSame. -/
namespace Go.Proofs.YtgkfpakncjncdaaDoor.Syn
open Go.ChangeShapes Go.WideShapes Go.ChangeAt Go.RowKit Go.Proofs.YtgkfpakncjncdaaDoor.PSyn
set_option linter.unusedVariables false

/-- a block's cells laid anew -/
def relay (cs : Array Value) : Obj → Obj
  | .cells _ t frozen => .cells cs t frozen
  | o => o
def tabCells (k : IntKind) (l : List Int) : Array Value := (l.map fun n => Value.int k n).toArray
def t32 : List Int := [0, 1, 28, 2, 29, 14, 24, 3, 30, 22, 20, 15, 25, 17, 4, 8, 31, 27, 13, 23, 21, 19, 16, 7, 26, 12, 18, 6, 11, 5, 10, 9]
def t64 : List Int := [0, 1, 56, 2, 57, 49, 28, 3, 61, 58, 42, 50, 38, 29, 17, 4, 62, 47, 59, 36, 45, 43, 51, 22, 53, 39, 33, 30, 24, 18, 12, 5, 63, 55, 48, 27, 60, 41, 37, 16, 46, 35, 44, 21, 52, 32, 23, 11, 54, 26, 40, 15, 34, 20, 31, 10, 25, 14, 19, 9, 13, 8, 7, 6]
def t10 : List Int := [1, 10, 100, 1000, 10000, 100000, 1000000, 10000000, 100000000, 1000000000, 10000000000, 100000000000, 1000000000000, 10000000000000, 100000000000000, 1000000000000000, 10000000000000000, 100000000000000000, 1000000000000000000, 10000000000000000000]
/-- A WORLD FOR THE WITNESS: the settled one, the tables as they are laid. -/
noncomputable def laidWorld (os : Os) : World :=
  { World.holding Tryd.prog os ⟨#[], #[], []⟩ with heap := (((World.holding Tryd.prog os ⟨#[], #[], []⟩).heap.modify ((Tryd.prog.globalNamed "math/bits.deBruijn32tab").getD 0) (relay (tabCells .u8 t32))).modify ((Tryd.prog.globalNamed "math/bits.deBruijn64tab").getD 0) (relay (tabCells .u8 t64))).modify ((Tryd.prog.globalNamed "internal/strconv.uint64pow10").getD 0) (relay (tabCells .u64 t10)) }
def wargs : Array Value := #[.slice none 0 0, .slice none 0 0]
theorem laid_met (os : Os) : laidMet Tryd.prog Rows.syntaxSameRow.laid ((laidWorld os).forCall (fun _ _ => 0) ⟨#[], wargs, []⟩).memory :=
  laidMet_of_run' 8 (by kernel_rfl) (by kernel_rfl)
theorem reads (os : Os) {H : Type} (enc : TypeId × Value → H) : ∃ places, DataW.whole enc Tryd.prog ((laidWorld os).forCall (fun _ _ => 0) ⟨#[], wargs, []⟩).memory Tryd.f4.params.toList Rows.syntaxSameSpec.vars false wargs.toList 8 = some ([.nil, .nil], [], places) :=
  ⟨[], by kernel_rfl⟩

set_option maxRecDepth 100000 in
theorem lifted (os : Os) (started : os.Started) (H : Type) (enc : TypeId × Value → H) (F : Stop.Interp) :
    ReturnsInHanded {} Tryd.checked os 4 .any ((OpenSpec.ofChange Rows.syntaxSameSpec).preRow enc Tryd.prog Tryd.f4 Rows.syntaxSameRow.domain false Rows.syntaxSameRow.laid) (((OpenSpec.ofChange Rows.syntaxSameSpec).at F).post enc Tryd.prog Tryd.f4 false true false false) := by
  obtain ⟨places, hx⟩ := reads os enc
  refine returnsInHanded_of_row (C := Tryd.checked) (s := OpenSpec.ofChange Rows.syntaxSameSpec) own started (by kernel_rfl) Tryd.func4
    (witness_row_at (enc := enc) (C := Tryd.checked) false (laidWorld os) wargs rfl (by kernel_rfl) (by kernel_rfl) (by kernel_rfl)
      (OpenSpec.preRow_of_cond 8 hx (by kernel_rfl) (fun k hk => by cases hk) (by kernel_rfl) (laid_met os))) ?_
  intro W base args ds gs before hval hW _ _ hsz hL _ _
  exact same_contract H enc W base args ds gs before hval hW hsz hL

theorem said : Rows.SyntaxSameSaid :=
  OpenClaim.holds_of_cond 4 Tryd.f4 rfl rfl rfl rfl rfl rfl rfl ⟨rfl, rfl, rfl, rfl, rfl⟩ rfl rfl rfl rfl rfl (by kernel_rfl) Tryd.func4 (by kernel_rfl)
    (of_decide_eq_true (by kernel_rfl)) (by unfold Func.isWrapper; first | (rw [if_pos (by decide +kernel)]; kernel_rfl) | (rw [if_neg (by decide +kernel)]; exact ⟨rfl, rfl⟩))
    (fun os started H enc _ F => by rw [OpenClaim.pre_eq_preRow]; exact lifted os started H enc F)

/-- No parameter wants a stand-in; the program's own looks are off. -/
theorem plain (f : FuncId) (fn : Func) (hf : Tryd.pinned.checked.prog.funcNamed "octroi/octroilaw31.SyntaxSame" = some f) (hfn : Tryd.pinned.checked.prog.funcs[f]? = some fn) :
    false = Tryd.pinned.checked.prog.looks [] ∧ ∀ (j : Nat) t, fn.params[j]? = some t → Tryd.pinned.checked.prog.wantsStandIn t = false := by
  obtain rfl : f = 4 := Option.some.inj ((show Tryd.prog.funcNamed "octroi/octroilaw31.SyntaxSame" = some 4 by kernel_rfl).symm.trans hf) |>.symm
  obtain rfl : fn = Tryd.f4 := (Option.some.inj (Tryd.func4.symm.trans hfn)).symm
  refine ⟨by kernel_rfl, fun j t ht => ?_⟩
  rw [Tryd.params4] at ht
  have hm : t = 22 := by simpa using Array.mem_of_getElem? ht
  subst hm
  exact (show Tryd.prog.wantsStandIn 22 = false by kernel_rfl)

theorem card : Rows.SyntaxSameCardSaid :=
  Claim7.holds_tied_plain_at .later [] _ _ _ _ said (fun _ h => by cases h) (by kernel_rfl) (fun _ h => by cases h) syntaxSame_row_tie rfl ⟨rfl, rfl⟩ (by kernel_rfl) rfl plain (by kernel_rfl)
end Go.Proofs.YtgkfpakncjncdaaDoor.Syn
namespace Go.Proofs.YtgkfpakncjncdaaDoor
theorem syntaxSame_card : Rows.SyntaxSameCardSaid := Syn.card
#print axioms syntaxSame_card
end Go.Proofs.YtgkfpakncjncdaaDoor
