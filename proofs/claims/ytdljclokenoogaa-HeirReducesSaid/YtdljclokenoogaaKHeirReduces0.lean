/-
  Part 0 (HeirReduces) of the proof: walks of functions and plain facts.
-/

import Derived.Test.YtdljclokenoogaaKTh3
set_option linter.unusedVariables false
set_option linter.unusedSimpArgs false
section
namespace Go.Proofs.Ytdljclokenoogaa.Hp
open Go.RowKit Go.Proofs.YtdljclokenoogaaW.PrintWords Go.Proofs.YtdljclokenoogaaW.PrintLast Go.Proofs.YtdljclokenoogaaW.PrintMore
attribute [local go_sem] max2_int min2_int max_two min_two max_three min_three max_four min_four
set_option linter.unusedVariables false
set_option linter.unusedSimpArgs false
attribute [local go_sem high] eqA73
mutual
def cosignerlaw03_linked.l0 : Nat → List (S61) → List (S73) → List (S61) → Int → Option ((List (S61)))
  | 0, _, _, _, _ => none
  | k + 1, x0, x1, x5, x6 => if x6 < (x0.length : Int) then (if 0 ≤ x6 then (cosignerlaw03_linked.l1 k x0 x1 x5 x6 0 ((rd_T61 x0 x6).f0) false ([] : List (S65))) else (none)) else (some x5)
def cosignerlaw03_linked.l1 : Nat → List (S61) → List (S73) → List (S61) → Int → Int → ByteArray → Bool → List (S65) → Option ((List (S61)))
  | 0, _, _, _, _, _, _, _, _ => none
  | k + 1, x0, x1, x5, x6, x8, x202000, x202001, x202003 => if 0 ≤ x6 then (if x6 < (x0.length : Int) then (if x8 < (((rd_T61 x0 x6).f3).length : Int) then (cosignerlaw03_linked.l2 k x0 x1 x5 x6 x8 true 0 x202000 x202001 x202003) else (if x5.length < 977343669134 then (cosignerlaw03_linked.l0 k x0 x1 (x5 ++ [(⟨x202000, x202001, ([] : List (S185)), x202003, ([] : List ByteArray), ([] : List (S191)), ([] : List (S196))⟩ : S61)]) (wrap64 (x6 + 1))) else (none))) else (none)) else (none)
def cosignerlaw03_linked.l2 : Nat → List (S61) → List (S73) → List (S61) → Int → Int → Bool → Int → ByteArray → Bool → List (S65) → Option ((List (S61)))
  | 0, _, _, _, _, _, _, _, _, _, _ => none
  | k + 1, x0, x1, x5, x6, x8, x9, x10, x202000, x202001, x202003 => if x10 < (x1.length : Int) then (if 0 ≤ x10 then (if 0 ≤ x6 then (if x6 < (x0.length : Int) then (if 0 ≤ x8 then (if x8 < (((rd_T61 x0 x6).f3).length : Int) then (if ((((rd_T73 x1 x10).f0).toList) == x202000.toList && ((((rd_T73 x1 x10).f1).toList) == (((rd_T65 ((rd_T61 x0 x6).f3) x8).f0).toList))) = true then (cosignerlaw03_linked.l2 k x0 x1 x5 x6 x8 false (wrap64 (x10 + 1)) x202000 x202001 x202003) else (cosignerlaw03_linked.l2 k x0 x1 x5 x6 x8 x9 (wrap64 (x10 + 1)) x202000 x202001 x202003)) else (none)) else (none)) else (none)) else (none)) else (none)) else (if x9 = true then (if 0 ≤ x6 then (if x6 < (x0.length : Int) then (if 0 ≤ x8 then (if x8 < (((rd_T61 x0 x6).f3).length : Int) then (if x202003.length < 1034834473200 then (cosignerlaw03_linked.l1 k x0 x1 x5 x6 (wrap64 (x8 + 1)) x202000 x202001 (x202003 ++ [(⟨(rd_T65 ((rd_T61 x0 x6).f3) x8).f0, (rd_T65 ((rd_T61 x0 x6).f3) x8).f1, (rd_T65 ((rd_T61 x0 x6).f3) x8).f2, (rd_T65 ((rd_T61 x0 x6).f3) x8).f3, (rd_T65 ((rd_T61 x0 x6).f3) x8).f4, (rd_T65 ((rd_T61 x0 x6).f3) x8).f5⟩ : S65)])) else (none)) else (none)) else (none)) else (none)) else (none)) else (cosignerlaw03_linked.l1 k x0 x1 x5 x6 (wrap64 (x8 + 1)) x202000 x202001 x202003))
end
def cosignerlaw03_linked.f (k : Nat) (l0 : List (S61)) (l1 : List (S73)) : Option ((List (S61))) := cosignerlaw03_linked.l0 k l0 l1 ([] : List (S61)) 0
theorem cosignerlaw03_linked.mono_l : ∀ k, (∀ y0 y1 y2 y3, LeO (cosignerlaw03_linked.l0 k y0 y1 y2 y3) (cosignerlaw03_linked.l0 (k + 1) y0 y1 y2 y3)) ∧ (∀ y0 y1 y2 y3 y4 y5 y6 y7, LeO (cosignerlaw03_linked.l1 k y0 y1 y2 y3 y4 y5 y6 y7) (cosignerlaw03_linked.l1 (k + 1) y0 y1 y2 y3 y4 y5 y6 y7)) ∧ (∀ y0 y1 y2 y3 y4 y5 y6 y7 y8 y9, LeO (cosignerlaw03_linked.l2 k y0 y1 y2 y3 y4 y5 y6 y7 y8 y9) (cosignerlaw03_linked.l2 (k + 1) y0 y1 y2 y3 y4 y5 y6 y7 y8 y9))
  | 0 => ⟨fun _ _ _ _ r h => by simp [cosignerlaw03_linked.l0] at h, fun _ _ _ _ _ _ _ _ r h => by simp [cosignerlaw03_linked.l1] at h, fun _ _ _ _ _ _ _ _ _ _ r h => by simp [cosignerlaw03_linked.l2] at h⟩
  | k + 1 => by
    obtain ⟨ih0, ih1, ih2⟩ := cosignerlaw03_linked.mono_l k
    refine ⟨?_, ?_, ?_⟩
    · intro y0 y1 y2 y3
      unfold cosignerlaw03_linked.l0
      repeat' first
      | (with_reducible exact ih0 _ _ _ _)
      | (with_reducible exact ih1 _ _ _ _ _ _ _ _)
      | (with_reducible exact ih2 _ _ _ _ _ _ _ _ _ _)
      | (with_reducible exact LeO.refl _)
      | (with_reducible exact LeO.none _)
      | (with_reducible refine LeO.ite ?_ ?_)
      | (with_reducible refine LeO.bind ?_ (fun _ => ?_))
      | exact ih0 _ _ _ _
      | exact ih1 _ _ _ _ _ _ _ _
      | exact ih2 _ _ _ _ _ _ _ _ _ _
      | exact LeO.none _
      | refine LeO.ite ?_ ?_
      | refine LeO.bind ?_ (fun _ => ?_)
    · intro y0 y1 y2 y3 y4 y5 y6 y7
      unfold cosignerlaw03_linked.l1
      repeat' first
      | (with_reducible exact ih0 _ _ _ _)
      | (with_reducible exact ih1 _ _ _ _ _ _ _ _)
      | (with_reducible exact ih2 _ _ _ _ _ _ _ _ _ _)
      | (with_reducible exact LeO.refl _)
      | (with_reducible exact LeO.none _)
      | (with_reducible refine LeO.ite ?_ ?_)
      | (with_reducible refine LeO.bind ?_ (fun _ => ?_))
      | exact ih0 _ _ _ _
      | exact ih1 _ _ _ _ _ _ _ _
      | exact ih2 _ _ _ _ _ _ _ _ _ _
      | exact LeO.none _
      | refine LeO.ite ?_ ?_
      | refine LeO.bind ?_ (fun _ => ?_)
    · intro y0 y1 y2 y3 y4 y5 y6 y7 y8 y9
      unfold cosignerlaw03_linked.l2
      repeat' first
      | (with_reducible exact ih0 _ _ _ _)
      | (with_reducible exact ih1 _ _ _ _ _ _ _ _)
      | (with_reducible exact ih2 _ _ _ _ _ _ _ _ _ _)
      | (with_reducible exact LeO.refl _)
      | (with_reducible exact LeO.none _)
      | (with_reducible refine LeO.ite ?_ ?_)
      | (with_reducible refine LeO.bind ?_ (fun _ => ?_))
      | exact ih0 _ _ _ _
      | exact ih1 _ _ _ _ _ _ _ _
      | exact ih2 _ _ _ _ _ _ _ _ _ _
      | exact LeO.none _
      | refine LeO.ite ?_ ?_
      | refine LeO.bind ?_ (fun _ => ?_)
theorem cosignerlaw03_linked.mono : ∀ a0 a1 k, LeO (cosignerlaw03_linked.f k a0 a1) (cosignerlaw03_linked.f (k + 1) a0 a1) := by
  intro a0 a1 k
  obtain ⟨ih0, ih1, ih2⟩ := cosignerlaw03_linked.mono_l k
  unfold cosignerlaw03_linked.f
  repeat' first
      | (with_reducible exact ih0 _ _ _ _)
      | (with_reducible exact ih1 _ _ _ _ _ _ _ _)
      | (with_reducible exact ih2 _ _ _ _ _ _ _ _ _ _)
      | (with_reducible exact LeO.refl _)
      | (with_reducible exact LeO.none _)
      | (with_reducible refine LeO.ite ?_ ?_)
      | (with_reducible refine LeO.bind ?_ (fun _ => ?_))
      | exact ih0 _ _ _ _
      | exact ih1 _ _ _ _ _ _ _ _
      | exact ih2 _ _ _ _ _ _ _ _ _ _
      | exact LeO.none _
      | refine LeO.ite ?_ ?_
      | refine LeO.bind ?_ (fun _ => ?_)
def cosignerlaw03_linked.T13 : Bool × List (List Nat × List Nat) := (true, [([], []), ([], []), ([0, 1], [0, 1]), ([2], [2]), ([], []), ([4], [4]), ([], []), ([], []), ([6, 7], [6, 7]), ([8], [8]), ([9], [9]), ([], []), ([10, 11], [10, 11]), ([12], [12]), ([13], [13]), ([5, 14], [5, 14]), ([3, 15], [3, 15])])
def cosignerlaw03_linked.B13 : List Nat := [0, 0, 3, 7, 0, 16, 0, 0, 192, 448, 960, 0, 4032, 8128, 16320, 32752, 65535]
theorem cosignerlaw03_linked.tab13 : rtab .any (opsOf Try.f36 13) = cosignerlaw03_linked.T13 := by kernel_rfl
theorem cosignerlaw03_linked.bits13 : waitsOk cosignerlaw03_linked.T13.2 cosignerlaw03_linked.B13 = true := by kernel_rfl
def cosignerlaw03_linked.T16 : Bool × List (List Nat × List Nat) := (true, [([], []), ([0], [0]), ([], []), ([], []), ([2, 3], [2, 3]), ([4], [4]), ([5], [5]), ([], []), ([6, 7], [6, 7]), ([8], [8]), ([9], [9]), ([1, 10], [1, 10]), ([0, 1, 2, 3, 4, 5, 6, 7, 8, 9, 10, 11], []), ([12, 11, 11, 0, 1, 2, 3, 4, 5, 6, 7, 8, 9, 10, 11], [11, 12])])
def cosignerlaw03_linked.B16 : List Nat := [0, 1, 0, 0, 12, 28, 60, 0, 252, 508, 1020, 2047, 4095, 8191]
theorem cosignerlaw03_linked.tab16 : rtab .any (opsOf Try.f36 16) = cosignerlaw03_linked.T16 := by kernel_rfl
theorem cosignerlaw03_linked.bits16 : waitsOk cosignerlaw03_linked.T16.2 cosignerlaw03_linked.B16 = true := by kernel_rfl
set_option maxHeartbeats 8000000 in
set_option maxRecDepth 100000 in
theorem cosignerlaw03_linked.calls (k : Nat) (P0_ : Nat → Prop) (A0 : Option Addr) (c0 : Nat) (l0 : List (S61)) (A1 : Option Addr) (c1 : Nat) (l1 : List (S73)) (r : List (S61)) (w : World) (hs0 : Kd.V k61 61 w w.heap.size (fun k_ => P0_ k_) (.slice A0 l0.length c0) l0) (hr1 : Kd.C k73 w A1 l1.length l1) (hc1 : l1.length ≤ c1) (h : cosignerlaw03_linked.f k l0 l1 = some r) :
    Calls Try.prog 36 #[.slice A0 l0.length c0, .slice A1 l1.length c1] w fun e w' => ∃ v0_ : Value, e = .returned (v0_) ∧ Kd.N k61 61 w' w.heap.size (fun k_ => (P0_ k_ ∨ w.heap.size ≤ k_)) v0_ r ∧ Below w.heap.size w w' := by
  have hu61 := Try.underlying61
  have hu73 := Try.underlying73
  have hu65 := Try.underlying65
  have HO0 := Aside0.mk (show Kd.V k61 61 w w.heap.size (fun k_ => (P0_ k_ ∨ w.heap.size ≤ k_)) (.slice A0 l0.length c0) l0 from Kd.V_mono hs0 (fun k_ hk => .inl hk))
  have HR1 := Aside0.mk hr1
  have HC1 := Aside0.mk hc1
  clear hr1 hc1
  have HB := Aside0.mk (Below.refl w.heap.size w)
  have H : (cosignerlaw03_linked.l0 k l0 l1 ([] : List (S61)) 0) = some r := h
  clear h
  have H' := Aside0.mk H
  clear H
  go_enter Try.func36, Try.ntmps36
  go_wp2
  go_loopg [5, 6] k (fun kq v5 v6 w' => ∃ (x5_1 : List (S61)) (x6_1 : Int), v6 = .int .i64 x6_1 ∧ Aside0 (cosignerlaw03_linked.l0 kq l0 l1 x5_1 x6_1 = some r) ∧ Aside0 (kq ≤ k) ∧ Aside0 (Kd.V k61 61 w' w.heap.size (fun k_ => (P0_ k_ ∨ w.heap.size ≤ k_) ∧ some k_ ≠ (v5 : Value).ownBlock) (.slice A0 l0.length c0) l0) ∧ Aside0 (Kd.N k61 61 w' w.heap.size (fun k_ => (P0_ k_ ∨ w.heap.size ≤ k_)) v5 x5_1) ∧ Aside0 (Below w.heap.size w w'))
  case atStart => exact ⟨(([] : List (S61))), (0), (by first | rfl | (simp; done) | (simp [*]; done)), H', ⟨Nat.le_refl _⟩, ⟨by (with_reducible repeat (first | apply Kd.V_alloc | apply Kd.V_drewN | apply Kd.V_drew)); exact Kd.V_mono HO0.out (fun _ hk => ⟨hk, (by simp [Value.ownBlock])⟩)⟩, ⟨by first | exact Kd.R_nil _ _ _ _ _ | exact Kd.N_nil _ _ _ _ _ | exact Kd.V_nil _ _ _ _ _ | exact Kd.Q_nil _ _ _ _ _ | exact Kd.S_nil _ _ _ _ _⟩, ⟨by repeat (first | (with_reducible first | exact HB.out | apply below_alloc | apply pw_below_drewN | apply below_drew1) | exact HB.out)⟩⟩
  case round =>
    clear H'
    try clear c1
    try clear p2
    obtain ⟨x5_1, x6_1, rfl, HA, HK1, HO_0, HO_5, HB⟩ := hrel
    cases gk with
    | zero => exact absurd HA.out (by simp [cosignerlaw03_linked.l0])
    | succ k1 =>
      have H := HA.out
      clear HA
      simp only [cosignerlaw03_linked.l0] at H
      by_cases c3 : x6_1 < (l0.length : Int)
      · rw [if_pos c3] at H
        have c3b0 : decide (x6_1 < (l0.length : Int)) = true := decide_eq_true c3
        clear c3
        by_cases c4 : 0 ≤ x6_1
        · rw [if_pos c4] at H
          have c4b0 : decide (0 ≤ x6_1) = true := decide_eq_true c4
          clear c4
          have H' := Aside0.mk H
          clear H
          have p200 : 0 ≤ (x6_1 : Int) := of_decide_eq_true (by first | (with_reducible assumption) | assumption)
          have q200 : x6_1 < (l0.length : Int) := of_decide_eq_true (by first | (with_reducible assumption) | assumption)
          obtain ⟨ad200, A200_2, c200_2, A200_3, c200_3, A200_4, c200_4, A200_5, c200_5, A200_6, c200_6, e200, hx200_0, hx200_1, hx200_2, hx200_3, hx200_4, hx200_5, hx200_6, hl200_2, hi200_2, hl200_3, hi200_3, hl200_4, hi200_4, hl200_5, hi200_5, hl200_6, hi200_6⟩ := at_T61 (Kd.V_reads' HO_0.out).2.2 x6_1 p200 q200
          cases e200
          obtain ⟨ce200, hce200, hMe200, hcc200⟩ := Kd.V_get HO_0.out z61 x6_1 p200 (by first | exact q200 | exact of_decide_eq_true (by first | (with_reducible assumption) | assumption) | (have e_ := (Kd.V_reads' HO_0.out).1; omega))
          obtain ⟨ua200_2, uc200_2, ua200_3, uc200_3, ua200_4, uc200_4, ua200_5, uc200_5, ua200_6, uc200_6, rfl, ul200_2, ge200_2, ul200_3, ge200_3, ul200_4, ge200_4, ul200_5, ge200_5, ul200_6, ge200_6⟩ := k61_openF hMe200
          have hv200_2 := hcc200 2 _ rfl
          rw [add_field _ _ 2 (by omega)] at hv200_2
          replace hv200_2 := Option.some.inj (hv200_2.symm.trans hx200_2)
          injection hv200_2 with hva_ hvn_ hvc_
          rw [hva_] at ge200_2
          rw [hvc_] at ul200_2
          have HL200_2 := Aside0.mk (show Kd.V k185 185 _ w.heap.size _ _ ((rd_T61 l0 x6_1).f2) from Kd.V_mk ul200_2 ge200_2)
          clear hva_ hvn_ hvc_ ge200_2 ul200_2
          have hv200_3 := hcc200 3 _ rfl
          rw [add_field _ _ 3 (by omega)] at hv200_3
          replace hv200_3 := Option.some.inj (hv200_3.symm.trans hx200_3)
          injection hv200_3 with hva_ hvn_ hvc_
          rw [hva_] at ge200_3
          rw [hvc_] at ul200_3
          have HL200_3 := Aside0.mk (show Kd.V k65 65 _ w.heap.size _ _ ((rd_T61 l0 x6_1).f3) from Kd.V_mk ul200_3 ge200_3)
          clear hva_ hvn_ hvc_ ge200_3 ul200_3
          have hv200_4 := hcc200 4 _ rfl
          rw [add_field _ _ 4 (by omega)] at hv200_4
          replace hv200_4 := Option.some.inj (hv200_4.symm.trans hx200_4)
          injection hv200_4 with hva_ hvn_ hvc_
          rw [hva_] at ge200_4
          rw [hvc_] at ul200_4
          have HL200_4 := Aside0.mk (show Kd.V Kd.string 9 _ w.heap.size _ _ ((rd_T61 l0 x6_1).f4) from Kd.V_mk ul200_4 ge200_4)
          clear hva_ hvn_ hvc_ ge200_4 ul200_4
          have hv200_5 := hcc200 5 _ rfl
          rw [add_field _ _ 5 (by omega)] at hv200_5
          replace hv200_5 := Option.some.inj (hv200_5.symm.trans hx200_5)
          injection hv200_5 with hva_ hvn_ hvc_
          rw [hva_] at ge200_5
          rw [hvc_] at ul200_5
          have HL200_5 := Aside0.mk (show Kd.V k191 191 _ w.heap.size _ _ ((rd_T61 l0 x6_1).f5) from Kd.V_mk ul200_5 ge200_5)
          clear hva_ hvn_ hvc_ ge200_5 ul200_5
          have hv200_6 := hcc200 6 _ rfl
          rw [add_field _ _ 6 (by omega)] at hv200_6
          replace hv200_6 := Option.some.inj (hv200_6.symm.trans hx200_6)
          injection hv200_6 with hva_ hvn_ hvc_
          rw [hva_] at ge200_6
          rw [hvc_] at ul200_6
          have HL200_6 := Aside0.mk (show Kd.V k196 196 _ w.heap.size _ _ ((rd_T61 l0 x6_1).f6) from Kd.V_mk ul200_6 ge200_6)
          clear hva_ hvn_ hvc_ ge200_6 ul200_6
          clear hcc200 hce200
          have HR200_2 := Aside0.mk hi200_2
          have HC200_2 := Aside0.mk hl200_2
          clear hi200_2 hl200_2
          have HR200_3 := Aside0.mk hi200_3
          have HC200_3 := Aside0.mk hl200_3
          clear hi200_3 hl200_3
          have HR200_4 := Aside0.mk hi200_4
          have HC200_4 := Aside0.mk hl200_4
          clear hi200_4 hl200_4
          have HR200_5 := Aside0.mk hi200_5
          have HC200_5 := Aside0.mk hl200_5
          clear hi200_5 hl200_5
          have HR200_6 := Aside0.mk hi200_6
          have HC200_6 := Aside0.mk hl200_6
          clear hi200_6 hl200_6
          replace p200 := eq_true p200
          replace q200 := eq_true q200
          go_wp2_with (first | ((with_reducible refine gate_dst (N := 7) rfl ?_); refine box_event ?hg (N := 7) ?hd (cs := #[.string (⟨#[]⟩ : ByteArray), .bool false, .slice none 0 0, .slice none 0 0, .slice none 0 0, .slice none 0 0, .slice none 0 0]) (t := 61) ?hr ?_; (case hd => rfl); (case hg => rfl); (case hr => first | (go_simp; done) | (go_simp; rfl)); intro gb201 hg w5 hbox hb; have n0_ := Aside0.mk (Kd.V_below (Kd.V_elderB (by (with_reducible repeat (first | apply Kd.V_alloc | apply Kd.V_drewN | apply Kd.V_drew)); exact HO_0.out) gb201 (Nat.le_of_eq hg.symm)) hb); have n1_ := Aside0.mk (Kd.N_below (Kd.N_elderB (by (with_reducible repeat (first | apply Kd.N_alloc | apply Kd.N_drewN | apply Kd.N_drew)); exact HO_5.out) gb201 (Nat.le_of_eq hg.symm)) hb); have n2_ := Aside0.mk (Kd.V_below (Kd.V_elderB (by (with_reducible repeat (first | apply Kd.V_alloc | apply Kd.V_drewN | apply Kd.V_drew)); exact HL200_2.out) gb201 (Nat.le_of_eq hg.symm)) hb); have n3_ := Aside0.mk (Kd.V_below (Kd.V_elderB (by (with_reducible repeat (first | apply Kd.V_alloc | apply Kd.V_drewN | apply Kd.V_drew)); exact HL200_3.out) gb201 (Nat.le_of_eq hg.symm)) hb); have n4_ := Aside0.mk (Kd.V_below (Kd.V_elderB (by (with_reducible repeat (first | apply Kd.V_alloc | apply Kd.V_drewN | apply Kd.V_drew)); exact HL200_4.out) gb201 (Nat.le_of_eq hg.symm)) hb); have n5_ := Aside0.mk (Kd.V_below (Kd.V_elderB (by (with_reducible repeat (first | apply Kd.V_alloc | apply Kd.V_drewN | apply Kd.V_drew)); exact HL200_5.out) gb201 (Nat.le_of_eq hg.symm)) hb); have n6_ := Aside0.mk (Kd.V_below (Kd.V_elderB (by (with_reducible repeat (first | apply Kd.V_alloc | apply Kd.V_drewN | apply Kd.V_drew)); exact HL200_6.out) gb201 (Nat.le_of_eq hg.symm)) hb); have n7_ := Aside0.mk (Kd.C_below (by repeat (first | (with_reducible exact HR200_2.out) | (with_reducible refine Kd.C_alloc ?_ _) | (with_reducible refine Kd.C_drewN ?_ _) | (with_reducible refine Kd.C_drew ?_) | exact HR200_2.out)) hb); have n8_ := Aside0.mk (Kd.C_below (by repeat (first | (with_reducible exact HR200_3.out) | (with_reducible refine Kd.C_alloc ?_ _) | (with_reducible refine Kd.C_drewN ?_ _) | (with_reducible refine Kd.C_drew ?_) | exact HR200_3.out)) hb); have n9_ := Aside0.mk (Kd.C_below (by repeat (first | (with_reducible exact HR200_4.out) | (with_reducible refine Kd.C_alloc ?_ _) | (with_reducible refine Kd.C_drewN ?_ _) | (with_reducible refine Kd.C_drew ?_) | exact HR200_4.out)) hb); have n10_ := Aside0.mk (Kd.C_below (by repeat (first | (with_reducible exact HR200_5.out) | (with_reducible refine Kd.C_alloc ?_ _) | (with_reducible refine Kd.C_drewN ?_ _) | (with_reducible refine Kd.C_drew ?_) | exact HR200_5.out)) hb); have n11_ := Aside0.mk (Kd.C_below (by repeat (first | (with_reducible exact HR200_6.out) | (with_reducible refine Kd.C_alloc ?_ _) | (with_reducible refine Kd.C_drewN ?_ _) | (with_reducible refine Kd.C_drew ?_) | exact HR200_6.out)) hb); have n12_ := Aside0.mk (below_step (by repeat (first | (with_reducible first | exact HB.out | apply below_alloc | apply pw_below_drewN | apply below_drew1) | exact HB.out)) hb); have n13_ := Aside0.mk (hbox); have n14_ := Aside0.mk ((by rw [hg]; exact (below_size (by repeat (first | (with_reducible first | exact HB.out | apply below_alloc | apply pw_below_drewN | apply below_drew1) | exact HB.out))) : w.heap.size ≤ gb201)); have n15_ := Aside0.mk ((by rw [hg]; exact (below_size (by repeat (first | (with_reducible first | exact HB.out | apply below_alloc | apply pw_below_drewN | apply below_drew1) | exact HB.out))) : w.heap.size ≤ gb201)); clear HO_0; clear HO_5; clear HL200_2; clear HL200_3; clear HL200_4; clear HL200_5; clear HL200_6; clear HR200_2; clear HR200_3; clear HR200_4; clear HR200_5; clear HR200_6; clear HB; have HO_0 := n0_; have HO_5 := n1_; have HL200_2 := n2_; have HL200_3 := n3_; have HL200_4 := n4_; have HL200_5 := n5_; have HL200_6 := n6_; have HR200_2 := n7_; have HR200_3 := n8_; have HR200_4 := n9_; have HR200_5 := n10_; have HR200_6 := n11_; have HB := n12_; have BK201 := n13_; have GW201 := n14_; have GE201 := n15_; clear n0_ n1_ n2_ n3_ n4_ n5_ n6_ n7_ n8_ n9_ n10_ n11_ n12_ n13_ n14_ n15_; clear hb hbox hg; have hcz6_0 : w5.cell? ⟨gb201, 0, none⟩ = some (.string (⟨#[]⟩ : ByteArray)) := (blk_cell BK201.out 0).trans rfl; have hcz6_1 : w5.cell? ⟨gb201, 1, none⟩ = some (.bool false) := (blk_cell BK201.out 1).trans rfl; have hcz6_2 : w5.cell? ⟨gb201, 2, none⟩ = some (.slice none 0 0) := (blk_cell BK201.out 2).trans rfl; have hcz6_3 : w5.cell? ⟨gb201, 3, none⟩ = some (.slice none 0 0) := (blk_cell BK201.out 3).trans rfl; have hcz6_4 : w5.cell? ⟨gb201, 4, none⟩ = some (.slice none 0 0) := (blk_cell BK201.out 4).trans rfl; have hcz6_5 : w5.cell? ⟨gb201, 5, none⟩ = some (.slice none 0 0) := (blk_cell BK201.out 5).trans rfl; have hcz6_6 : w5.cell? ⟨gb201, 6, none⟩ = some (.slice none 0 0) := (blk_cell BK201.out 6).trans rfl; have hfz6_0 := blk_frozen BK201.out 0; have hfz6_1 := blk_frozen BK201.out 1; have hfz6_2 := blk_frozen BK201.out 2; have hfz6_3 := blk_frozen BK201.out 3; have hfz6_4 := blk_frozen BK201.out 4; have hfz6_5 := blk_frozen BK201.out 5; have hfz6_6 := blk_frozen BK201.out 6))
          go_loopg [8] k1 (fun kq v8 w' => ∃ (x8_2 : Int) (x202003_2 : List (S65)) (u202003 : Value), v8 = .int .i64 x8_2 ∧ Aside0 (cosignerlaw03_linked.l1 kq l0 l1 x5_1 x6_1 x8_2 ((rd_T61 l0 x6_1).f0) false x202003_2 = some r) ∧ Aside0 (kq ≤ k1) ∧ Aside0 (Kd.V k61 61 w' w.heap.size (fun k_ => (P0_ k_ ∨ w.heap.size ≤ k_) ∧ some k_ ≠ (u5 : Value).ownBlock ∧ some k_ ≠ (u202003 : Value).ownBlock ∧ k_ ≠ gb201) (.slice (some ad200) l0.length c0) l0) ∧ Aside0 (Kd.N k61 61 w' w.heap.size (fun k_ => (P0_ k_ ∨ w.heap.size ≤ k_) ∧ some k_ ≠ (u202003 : Value).ownBlock ∧ k_ ≠ gb201) u5 x5_1) ∧ Aside0 (Kd.N k65 65 w' w.heap.size (fun k_ => (P0_ k_ ∨ w.heap.size ≤ k_) ∧ some k_ ≠ (u5 : Value).ownBlock ∧ k_ ≠ gb201) u202003 x202003_2) ∧ Aside0 (w'.heap[gb201]? = some (.cells #[.string ((rd_T61 l0 x6_1).f0), .bool false, (.slice none 0 0), u202003, (.slice none 0 0), (.slice none 0 0), (.slice none 0 0)] 61 (0, 0))) ∧ Aside0 (Below w.heap.size w w'))
          case atStart => exact ⟨(0), (([] : List (S65))), (.slice none 0 0), (by first | rfl | (simp; done) | (simp [*]; done)), H', ⟨Nat.le_refl _⟩, ⟨by (with_reducible repeat (first | apply Kd.V_alloc | apply Kd.V_drewN | apply Kd.V_drew)); exact Kd.V_mono (Kd.V_far (p := ⟨gb201, 6, none⟩) (Kd.V_far (p := ⟨gb201, 5, none⟩) (Kd.V_far (p := ⟨gb201, 4, none⟩) (Kd.V_far (p := ⟨gb201, 3, none⟩) (Kd.V_far (p := ⟨gb201, 2, none⟩) (Kd.V_far (p := ⟨gb201, 1, none⟩) (Kd.V_far (p := ⟨gb201, 0, none⟩) (Kd.V_mono HO_0.out (fun k_ hk => (⟨hk, hk.2⟩ : _ ∧ k_ ≠ gb201))) (fun _ hk => hk.2) (.string ((rd_T61 l0 x6_1).f0))) (fun _ hk => hk.2) (.bool false)) (fun _ hk => hk.2) (.slice none 0 0)) (fun _ hk => hk.2) (.slice none 0 0)) (fun _ hk => hk.2) (.slice none 0 0)) (fun _ hk => hk.2) (.slice none 0 0)) (fun _ hk => hk.2) (.slice none 0 0)) (fun _ hk => ⟨hk.1.1.1, ⟨hk.1.1.2, ⟨(by simp [Value.ownBlock]), hk.1.2⟩⟩⟩)⟩, ⟨by (with_reducible repeat (first | apply Kd.N_alloc | apply Kd.N_drewN | apply Kd.N_drew)); exact Kd.N_mono (Kd.N_far (p := ⟨gb201, 6, none⟩) (Kd.N_far (p := ⟨gb201, 5, none⟩) (Kd.N_far (p := ⟨gb201, 4, none⟩) (Kd.N_far (p := ⟨gb201, 3, none⟩) (Kd.N_far (p := ⟨gb201, 2, none⟩) (Kd.N_far (p := ⟨gb201, 1, none⟩) (Kd.N_far (p := ⟨gb201, 0, none⟩) (Kd.N_mono HO_5.out (fun k_ hk => (⟨hk, hk.2⟩ : _ ∧ k_ ≠ gb201))) (fun _ hk => hk.2) (.string ((rd_T61 l0 x6_1).f0))) (fun _ hk => hk.2) (.bool false)) (fun _ hk => hk.2) (.slice none 0 0)) (fun _ hk => hk.2) (.slice none 0 0)) (fun _ hk => hk.2) (.slice none 0 0)) (fun _ hk => hk.2) (.slice none 0 0)) (fun _ hk => hk.2) (.slice none 0 0)) (fun _ hk => ⟨hk.1.1, ⟨(by simp [Value.ownBlock]), hk.1.2⟩⟩)⟩, ⟨by first | exact Kd.R_nil _ _ _ _ _ | exact Kd.N_nil _ _ _ _ _ | exact Kd.V_nil _ _ _ _ _ | exact Kd.Q_nil _ _ _ _ _ | exact Kd.S_nil _ _ _ _ _⟩, ⟨by (with_reducible repeat (first | refine blk_drewN ?_ _ | refine blk_drew ?_ | refine blk_alloc ?_ _)); refine blk_put (cs := #[.string ((rd_T61 l0 x6_1).f0), .bool false, .slice none 0 0, .slice none 0 0, .slice none 0 0, .slice none 0 0, .slice none 0 0]) ?_ 6 _ rfl; (with_reducible repeat (first | refine blk_drewN ?_ _ | refine blk_drew ?_ | refine blk_alloc ?_ _)); refine blk_put (cs := #[.string ((rd_T61 l0 x6_1).f0), .bool false, .slice none 0 0, .slice none 0 0, .slice none 0 0, .slice none 0 0, .slice none 0 0]) ?_ 5 _ rfl; (with_reducible repeat (first | refine blk_drewN ?_ _ | refine blk_drew ?_ | refine blk_alloc ?_ _)); refine blk_put (cs := #[.string ((rd_T61 l0 x6_1).f0), .bool false, .slice none 0 0, .slice none 0 0, .slice none 0 0, .slice none 0 0, .slice none 0 0]) ?_ 4 _ rfl; (with_reducible repeat (first | refine blk_drewN ?_ _ | refine blk_drew ?_ | refine blk_alloc ?_ _)); refine blk_put (cs := #[.string ((rd_T61 l0 x6_1).f0), .bool false, .slice none 0 0, .slice none 0 0, .slice none 0 0, .slice none 0 0, .slice none 0 0]) ?_ 3 _ rfl; (with_reducible repeat (first | refine blk_drewN ?_ _ | refine blk_drew ?_ | refine blk_alloc ?_ _)); refine blk_put (cs := #[.string ((rd_T61 l0 x6_1).f0), .bool false, .slice none 0 0, .slice none 0 0, .slice none 0 0, .slice none 0 0, .slice none 0 0]) ?_ 2 _ rfl; (with_reducible repeat (first | refine blk_drewN ?_ _ | refine blk_drew ?_ | refine blk_alloc ?_ _)); refine blk_put (cs := #[.string ((rd_T61 l0 x6_1).f0), .bool false, .slice none 0 0, .slice none 0 0, .slice none 0 0, .slice none 0 0, .slice none 0 0]) ?_ 1 _ rfl; (with_reducible repeat (first | refine blk_drewN ?_ _ | refine blk_drew ?_ | refine blk_alloc ?_ _)); refine blk_put (cs := #[.string (⟨#[]⟩ : ByteArray), .bool false, .slice none 0 0, .slice none 0 0, .slice none 0 0, .slice none 0 0, .slice none 0 0]) ?_ 0 _ rfl; (with_reducible repeat (first | refine blk_drewN ?_ _ | refine blk_drew ?_ | refine blk_alloc ?_ _)); exact BK201.out⟩, ⟨by repeat (first | (with_reducible first | exact HB.out | apply below_alloc | apply pw_below_drewN | apply below_drew1 | refine below_set ?_ GE201.out) | exact HB.out)⟩⟩
          case round =>
            clear H'
            try clear c1
            try clear c2
            try clear p2
            try clear q2
            try clear hx2
            try clear c3
            try clear c3b0
            try clear c4
            try clear c4b0
            try clear hcz6_0
            try clear hcz6_1
            try clear hcz6_2
            try clear hcz6_3
            try clear hcz6_4
            try clear hcz6_5
            try clear hcz6_6
            try clear hfz6_0
            try clear hfz6_1
            try clear hfz6_2
            try clear hfz6_3
            try clear hfz6_4
            try clear hfz6_5
            try clear hfz6_6
            try clear hx200_0
            try clear hx200_1
            try clear hx200_2
            try clear hx200_3
            try clear hx200_4
            try clear hx200_5
            try clear hx200_6
            try clear p2
            try clear p200
            try clear q200
            obtain ⟨x8_2, x202003_2, u202003, rfl, HA, HK2, HO_0, HO_5, HO_202003, BK201, HB⟩ := hrel
            cases gk with
            | zero => exact absurd HA.out (by simp [cosignerlaw03_linked.l1])
            | succ k2 =>
              have H := HA.out
              clear HA
              simp only [cosignerlaw03_linked.l1] at H
              by_cases c7 : 0 ≤ x6_1
              · rw [if_pos c7] at H
                have c7b0 : decide (0 ≤ x6_1) = true := decide_eq_true c7
                clear c7
                by_cases c8 : x6_1 < (l0.length : Int)
                · rw [if_pos c8] at H
                  have c8b0 : decide (x6_1 < (l0.length : Int)) = true := decide_eq_true c8
                  clear c8
                  by_cases c9 : x8_2 < (((rd_T61 l0 x6_1).f3).length : Int)
                  · rw [if_pos c9] at H
                    have c9b0 : decide (x8_2 < (((rd_T61 l0 x6_1).f3).length : Int)) = true := decide_eq_true c9
                    clear c9
                    have H' := Aside0.mk H
                    clear H
                    have p202 : 0 ≤ (x6_1 : Int) := of_decide_eq_true (by first | (with_reducible assumption) | assumption)
                    have q202 : x6_1 < (l0.length : Int) := of_decide_eq_true (by first | (with_reducible assumption) | assumption)
                    obtain ⟨ad202, A202_2, c202_2, A202_3, c202_3, A202_4, c202_4, A202_5, c202_5, A202_6, c202_6, e202, hx202_0, hx202_1, hx202_2, hx202_3, hx202_4, hx202_5, hx202_6, hl202_2, hi202_2, hl202_3, hi202_3, hl202_4, hi202_4, hl202_5, hi202_5, hl202_6, hi202_6⟩ := at_T61 (Kd.V_reads' HO_0.out).2.2 x6_1 p202 q202
                    obtain rfl : ad200 = ad202 := (by injection e202)
                    obtain ⟨ce202, hce202, hMe202, hcc202⟩ := Kd.V_get HO_0.out z61 x6_1 p202 (by first | exact q202 | exact of_decide_eq_true (by first | (with_reducible assumption) | assumption) | (have e_ := (Kd.V_reads' HO_0.out).1; omega))
                    obtain ⟨ua202_2, uc202_2, ua202_3, uc202_3, ua202_4, uc202_4, ua202_5, uc202_5, ua202_6, uc202_6, rfl, ul202_2, ge202_2, ul202_3, ge202_3, ul202_4, ge202_4, ul202_5, ge202_5, ul202_6, ge202_6⟩ := k61_openF hMe202
                    have hv202_2 := hcc202 2 _ rfl
                    rw [add_field _ _ 2 (by omega)] at hv202_2
                    replace hv202_2 := Option.some.inj (hv202_2.symm.trans hx202_2)
                    injection hv202_2 with hva_ hvn_ hvc_
                    rw [hva_] at ge202_2
                    rw [hvc_] at ul202_2
                    have HL202_2 := Aside0.mk (show Kd.V k185 185 _ w.heap.size _ _ ((rd_T61 l0 x6_1).f2) from Kd.V_mk ul202_2 ge202_2)
                    clear hva_ hvn_ hvc_ ge202_2 ul202_2
                    have hv202_3 := hcc202 3 _ rfl
                    rw [add_field _ _ 3 (by omega)] at hv202_3
                    replace hv202_3 := Option.some.inj (hv202_3.symm.trans hx202_3)
                    injection hv202_3 with hva_ hvn_ hvc_
                    rw [hva_] at ge202_3
                    rw [hvc_] at ul202_3
                    have HL202_3 := Aside0.mk (show Kd.V k65 65 _ w.heap.size _ _ ((rd_T61 l0 x6_1).f3) from Kd.V_mk ul202_3 ge202_3)
                    clear hva_ hvn_ hvc_ ge202_3 ul202_3
                    have hv202_4 := hcc202 4 _ rfl
                    rw [add_field _ _ 4 (by omega)] at hv202_4
                    replace hv202_4 := Option.some.inj (hv202_4.symm.trans hx202_4)
                    injection hv202_4 with hva_ hvn_ hvc_
                    rw [hva_] at ge202_4
                    rw [hvc_] at ul202_4
                    have HL202_4 := Aside0.mk (show Kd.V Kd.string 9 _ w.heap.size _ _ ((rd_T61 l0 x6_1).f4) from Kd.V_mk ul202_4 ge202_4)
                    clear hva_ hvn_ hvc_ ge202_4 ul202_4
                    have hv202_5 := hcc202 5 _ rfl
                    rw [add_field _ _ 5 (by omega)] at hv202_5
                    replace hv202_5 := Option.some.inj (hv202_5.symm.trans hx202_5)
                    injection hv202_5 with hva_ hvn_ hvc_
                    rw [hva_] at ge202_5
                    rw [hvc_] at ul202_5
                    have HL202_5 := Aside0.mk (show Kd.V k191 191 _ w.heap.size _ _ ((rd_T61 l0 x6_1).f5) from Kd.V_mk ul202_5 ge202_5)
                    clear hva_ hvn_ hvc_ ge202_5 ul202_5
                    have hv202_6 := hcc202 6 _ rfl
                    rw [add_field _ _ 6 (by omega)] at hv202_6
                    replace hv202_6 := Option.some.inj (hv202_6.symm.trans hx202_6)
                    injection hv202_6 with hva_ hvn_ hvc_
                    rw [hva_] at ge202_6
                    rw [hvc_] at ul202_6
                    have HL202_6 := Aside0.mk (show Kd.V k196 196 _ w.heap.size _ _ ((rd_T61 l0 x6_1).f6) from Kd.V_mk ul202_6 ge202_6)
                    clear hva_ hvn_ hvc_ ge202_6 ul202_6
                    clear hcc202 hce202
                    have HR202_2 := Aside0.mk hi202_2
                    have HC202_2 := Aside0.mk hl202_2
                    clear hi202_2 hl202_2
                    have HR202_3 := Aside0.mk hi202_3
                    have HC202_3 := Aside0.mk hl202_3
                    clear hi202_3 hl202_3
                    have HR202_4 := Aside0.mk hi202_4
                    have HC202_4 := Aside0.mk hl202_4
                    clear hi202_4 hl202_4
                    have HR202_5 := Aside0.mk hi202_5
                    have HC202_5 := Aside0.mk hl202_5
                    clear hi202_5 hl202_5
                    have HR202_6 := Aside0.mk hi202_6
                    have HC202_6 := Aside0.mk hl202_6
                    clear hi202_6 hl202_6
                    replace p202 := eq_true p202
                    replace q202 := eq_true q202
                    go_wp2
                    go_loopg [9, 10] k2 (fun kq v9 v10 w' => ∃ (x9_3 : Bool) (x10_3 : Int), v9 = .bool x9_3 ∧ v10 = .int .i64 x10_3 ∧ Aside0 (cosignerlaw03_linked.l2 kq l0 l1 x5_1 x6_1 x8_2 x9_3 x10_3 ((rd_T61 l0 x6_1).f0) false x202003_2 = some r) ∧ Aside0 (kq ≤ k2) ∧ Aside0 (Kd.V k61 61 w' w.heap.size (fun k_ => (P0_ k_ ∨ w.heap.size ≤ k_) ∧ some k_ ≠ (u5 : Value).ownBlock ∧ some k_ ≠ (u202003 : Value).ownBlock ∧ k_ ≠ gb201) (.slice (some ad200) l0.length c0) l0) ∧ Aside0 (Kd.N k61 61 w' w.heap.size (fun k_ => (P0_ k_ ∨ w.heap.size ≤ k_) ∧ some k_ ≠ (u202003 : Value).ownBlock ∧ k_ ≠ gb201) u5 x5_1) ∧ Aside0 (Kd.N k65 65 w' w.heap.size (fun k_ => (P0_ k_ ∨ w.heap.size ≤ k_) ∧ some k_ ≠ (u5 : Value).ownBlock ∧ k_ ≠ gb201) u202003 x202003_2) ∧ Aside0 (w'.heap[gb201]? = some (.cells #[.string ((rd_T61 l0 x6_1).f0), .bool false, (.slice none 0 0), u202003, (.slice none 0 0), (.slice none 0 0), (.slice none 0 0)] 61 (0, 0))) ∧ Aside0 (Kd.C k185 w' A202_2 ((rd_T61 l0 x6_1).f2).length ((rd_T61 l0 x6_1).f2)) ∧ Aside0 (Kd.C k65 w' A202_3 ((rd_T61 l0 x6_1).f3).length ((rd_T61 l0 x6_1).f3)) ∧ Aside0 (Kd.C Kd.string w' A202_4 ((rd_T61 l0 x6_1).f4).length ((rd_T61 l0 x6_1).f4)) ∧ Aside0 (Kd.C k191 w' A202_5 ((rd_T61 l0 x6_1).f5).length ((rd_T61 l0 x6_1).f5)) ∧ Aside0 (Kd.C k196 w' A202_6 ((rd_T61 l0 x6_1).f6).length ((rd_T61 l0 x6_1).f6)) ∧ Aside0 (Below w.heap.size w w'))
                    case atStart => exact ⟨(true), (0), (by first | rfl | (simp; done) | (simp [*]; done)), (by first | rfl | (simp; done) | (simp [*]; done)), H', ⟨Nat.le_refl _⟩, ⟨by (with_reducible repeat (first | apply Kd.V_alloc | apply Kd.V_drewN | apply Kd.V_drew)); exact HO_0.out⟩, ⟨by (with_reducible repeat (first | apply Kd.N_alloc | apply Kd.N_drewN | apply Kd.N_drew)); exact HO_5.out⟩, ⟨by (with_reducible repeat (first | apply Kd.N_alloc | apply Kd.N_drewN | apply Kd.N_drew)); exact HO_202003.out⟩, ⟨by (with_reducible repeat (first | refine blk_drewN ?_ _ | refine blk_drew ?_ | refine blk_alloc ?_ _)); exact BK201.out⟩, ⟨by repeat (first | (with_reducible exact HR202_2.out) | (with_reducible refine Kd.C_alloc ?_ _) | (with_reducible refine Kd.C_drewN ?_ _) | (with_reducible refine Kd.C_drew ?_) | exact HR202_2.out)⟩, ⟨by repeat (first | (with_reducible exact HR202_3.out) | (with_reducible refine Kd.C_alloc ?_ _) | (with_reducible refine Kd.C_drewN ?_ _) | (with_reducible refine Kd.C_drew ?_) | exact HR202_3.out)⟩, ⟨by repeat (first | (with_reducible exact HR202_4.out) | (with_reducible refine Kd.C_alloc ?_ _) | (with_reducible refine Kd.C_drewN ?_ _) | (with_reducible refine Kd.C_drew ?_) | exact HR202_4.out)⟩, ⟨by repeat (first | (with_reducible exact HR202_5.out) | (with_reducible refine Kd.C_alloc ?_ _) | (with_reducible refine Kd.C_drewN ?_ _) | (with_reducible refine Kd.C_drew ?_) | exact HR202_5.out)⟩, ⟨by repeat (first | (with_reducible exact HR202_6.out) | (with_reducible refine Kd.C_alloc ?_ _) | (with_reducible refine Kd.C_drewN ?_ _) | (with_reducible refine Kd.C_drew ?_) | exact HR202_6.out)⟩, ⟨by repeat (first | (with_reducible first | exact HB.out | apply below_alloc | apply pw_below_drewN | apply below_drew1 | refine below_set ?_ GE201.out) | exact HB.out)⟩⟩
                    case round =>
                      clear H'
                      try clear c1
                      try clear c2
                      try clear p2
                      try clear q2
                      try clear hx2
                      try clear c3
                      try clear c3b0
                      try clear c4
                      try clear c4b0
                      try clear c7
                      try clear c7b0
                      try clear c8
                      try clear c8b0
                      try clear c9
                      try clear c9b0
                      try clear hcz6_0
                      try clear hcz6_1
                      try clear hcz6_2
                      try clear hcz6_3
                      try clear hcz6_4
                      try clear hcz6_5
                      try clear hcz6_6
                      try clear hfz6_0
                      try clear hfz6_1
                      try clear hfz6_2
                      try clear hfz6_3
                      try clear hfz6_4
                      try clear hfz6_5
                      try clear hfz6_6
                      try clear hx200_0
                      try clear hx200_1
                      try clear hx200_2
                      try clear hx200_3
                      try clear hx200_4
                      try clear hx200_5
                      try clear hx200_6
                      try clear hx202_0
                      try clear hx202_1
                      try clear hx202_2
                      try clear hx202_3
                      try clear hx202_4
                      try clear hx202_5
                      try clear hx202_6
                      try clear p2
                      try clear p200
                      try clear p202
                      try clear q2
                      try clear q200
                      try clear q202
                      obtain ⟨x9_3, x10_3, rfl, rfl, HA, HK3, HO_0, HO_5, HO_202003, BK201, HR202_2, HR202_3, HR202_4, HR202_5, HR202_6, HB⟩ := hrel
                      cases gk with
                      | zero => exact absurd HA.out (by simp [cosignerlaw03_linked.l2])
                      | succ k3 =>
                        have H := HA.out
                        clear HA
                        simp only [cosignerlaw03_linked.l2] at H
                        by_cases c10 : x10_3 < (l1.length : Int)
                        · rw [if_pos c10] at H
                          have c10b0 : decide (x10_3 < (l1.length : Int)) = true := decide_eq_true c10
                          clear c10
                          by_cases c11 : 0 ≤ x10_3
                          · rw [if_pos c11] at H
                            have c11b0 : decide (0 ≤ x10_3) = true := decide_eq_true c11
                            clear c11
                            by_cases c12 : 0 ≤ x6_1
                            · rw [if_pos c12] at H
                              have c12b0 : decide (0 ≤ x6_1) = true := decide_eq_true c12
                              clear c12
                              by_cases c13 : x6_1 < (l0.length : Int)
                              · rw [if_pos c13] at H
                                have c13b0 : decide (x6_1 < (l0.length : Int)) = true := decide_eq_true c13
                                clear c13
                                by_cases c14 : 0 ≤ x8_2
                                · rw [if_pos c14] at H
                                  have c14b0 : decide (0 ≤ x8_2) = true := decide_eq_true c14
                                  clear c14
                                  by_cases c15 : x8_2 < (((rd_T61 l0 x6_1).f3).length : Int)
                                  · rw [if_pos c15] at H
                                    have c15b0 : decide (x8_2 < (((rd_T61 l0 x6_1).f3).length : Int)) = true := decide_eq_true c15
                                    clear c15
                                    by_cases c16 : ((((rd_T73 l1 x10_3).f0).toList) == ((rd_T61 l0 x6_1).f0).toList && ((((rd_T73 l1 x10_3).f1).toList) == (((rd_T65 ((rd_T61 l0 x6_1).f3) x8_2).f0).toList))) = true
                                    · rw [if_pos c16] at H
                                      have c16b0 : ((((rd_T73 l1 x10_3).f0).toList) == ((rd_T61 l0 x6_1).f0).toList && ((((rd_T73 l1 x10_3).f1).toList) == (((rd_T65 ((rd_T61 l0 x6_1).f3) x8_2).f0).toList))) = true := c16
                                      (try (have c16b1 : decide ((((rd_T73 l1 x10_3).f0).toList) = ((rd_T61 l0 x6_1).f0).toList && ((((rd_T73 l1 x10_3).f1).toList) == (((rd_T65 ((rd_T61 l0 x6_1).f3) x8_2).f0).toList))) = true := by simpa using c16))
                                      (try (have c16b2 : ((((rd_T73 l1 x10_3).f0).toList) == ((rd_T61 l0 x6_1).f0).toList && ((((rd_T73 l1 x10_3).f1).toList) == (((rd_T65 ((rd_T61 l0 x6_1).f3) x8_2).f0).toList))) = true := by simpa using c16))
                                      clear c16
                                      have H' := Aside0.mk H
                                      clear H
                                      try go_wp2
                                      have n0_ := Aside0.mk (Kd.V_drew HO_0.out)
                                      have n1_ := Aside0.mk (Kd.N_drew HO_5.out)
                                      have n2_ := Aside0.mk (Kd.N_drew HO_202003.out)
                                      have n3_ := Aside0.mk (blk_drew BK201.out)
                                      have n4_ := Aside0.mk (Kd.C_drew HR202_2.out)
                                      have n5_ := Aside0.mk (Kd.C_drew HR202_3.out)
                                      have n6_ := Aside0.mk (Kd.C_drew HR202_4.out)
                                      have n7_ := Aside0.mk (Kd.C_drew HR202_5.out)
                                      have n8_ := Aside0.mk (Kd.C_drew HR202_6.out)
                                      have n9_ := Aside0.mk (below_drew1 HB.out)
                                      clear HO_0
                                      clear HO_5
                                      clear HO_202003
                                      clear BK201
                                      clear HR202_2
                                      clear HR202_3
                                      clear HR202_4
                                      clear HR202_5
                                      clear HR202_6
                                      clear HB
                                      have HO_0 := n0_
                                      have HO_5 := n1_
                                      have HO_202003 := n2_
                                      have BK201 := n3_
                                      have HR202_2 := n4_
                                      have HR202_3 := n5_
                                      have HR202_4 := n6_
                                      have HR202_5 := n7_
                                      have HR202_6 := n8_
                                      have HB := n9_
                                      clear n0_ n1_ n2_ n3_ n4_ n5_ n6_ n7_ n8_ n9_
                                      have p206 : 0 ≤ (x10_3 : Int) := of_decide_eq_true (by first | (with_reducible assumption) | assumption)
                                      have q206 : x10_3 < (l1.length : Int) := of_decide_eq_true (by first | (with_reducible assumption) | assumption)
                                      obtain ⟨ad206, e206, hx206_0, hx206_1⟩ := at_T73 HR1.out x10_3 p206 q206
                                      have hw206_1 := hx206_1
                                      have hw206_0 := hx206_0
                                      cases e206
                                      replace hx206_0 := (HB.out.cell (World.block_lt_of_cell? w _ hx206_0)).trans hx206_0
                                      replace hx206_1 := (HB.out.cell (World.block_lt_of_cell? w _ hx206_1)).trans hx206_1
                                      replace p206 := eq_true p206
                                      replace q206 := eq_true q206
                                      have p207 : 0 ≤ (x6_1 : Int) := of_decide_eq_true (by first | (with_reducible assumption) | assumption)
                                      have q207 : x6_1 < (l0.length : Int) := of_decide_eq_true (by first | (with_reducible assumption) | assumption)
                                      obtain ⟨ad207, A207_2, c207_2, A207_3, c207_3, A207_4, c207_4, A207_5, c207_5, A207_6, c207_6, e207, hx207_0, hx207_1, hx207_2, hx207_3, hx207_4, hx207_5, hx207_6, hl207_2, hi207_2, hl207_3, hi207_3, hl207_4, hi207_4, hl207_5, hi207_5, hl207_6, hi207_6⟩ := at_T61 (Kd.V_reads' HO_0.out).2.2 x6_1 p207 q207
                                      obtain rfl : ad200 = ad207 := (by injection e207)
                                      obtain ⟨ce207, hce207, hMe207, hcc207⟩ := Kd.V_get HO_0.out z61 x6_1 p207 (by first | exact q207 | exact of_decide_eq_true (by first | (with_reducible assumption) | assumption) | (have e_ := (Kd.V_reads' HO_0.out).1; omega))
                                      obtain ⟨ua207_2, uc207_2, ua207_3, uc207_3, ua207_4, uc207_4, ua207_5, uc207_5, ua207_6, uc207_6, rfl, ul207_2, ge207_2, ul207_3, ge207_3, ul207_4, ge207_4, ul207_5, ge207_5, ul207_6, ge207_6⟩ := k61_openF hMe207
                                      have hv207_2 := hcc207 2 _ rfl
                                      rw [add_field _ _ 2 (by omega)] at hv207_2
                                      replace hv207_2 := Option.some.inj (hv207_2.symm.trans hx207_2)
                                      injection hv207_2 with hva_ hvn_ hvc_
                                      rw [hva_] at ge207_2
                                      rw [hvc_] at ul207_2
                                      have HL207_2 := Aside0.mk (show Kd.V k185 185 _ w.heap.size _ _ ((rd_T61 l0 x6_1).f2) from Kd.V_mk ul207_2 ge207_2)
                                      clear hva_ hvn_ hvc_ ge207_2 ul207_2
                                      have hv207_3 := hcc207 3 _ rfl
                                      rw [add_field _ _ 3 (by omega)] at hv207_3
                                      replace hv207_3 := Option.some.inj (hv207_3.symm.trans hx207_3)
                                      injection hv207_3 with hva_ hvn_ hvc_
                                      rw [hva_] at ge207_3
                                      rw [hvc_] at ul207_3
                                      have HL207_3 := Aside0.mk (show Kd.V k65 65 _ w.heap.size _ _ ((rd_T61 l0 x6_1).f3) from Kd.V_mk ul207_3 ge207_3)
                                      clear hva_ hvn_ hvc_ ge207_3 ul207_3
                                      have hv207_4 := hcc207 4 _ rfl
                                      rw [add_field _ _ 4 (by omega)] at hv207_4
                                      replace hv207_4 := Option.some.inj (hv207_4.symm.trans hx207_4)
                                      injection hv207_4 with hva_ hvn_ hvc_
                                      rw [hva_] at ge207_4
                                      rw [hvc_] at ul207_4
                                      have HL207_4 := Aside0.mk (show Kd.V Kd.string 9 _ w.heap.size _ _ ((rd_T61 l0 x6_1).f4) from Kd.V_mk ul207_4 ge207_4)
                                      clear hva_ hvn_ hvc_ ge207_4 ul207_4
                                      have hv207_5 := hcc207 5 _ rfl
                                      rw [add_field _ _ 5 (by omega)] at hv207_5
                                      replace hv207_5 := Option.some.inj (hv207_5.symm.trans hx207_5)
                                      injection hv207_5 with hva_ hvn_ hvc_
                                      rw [hva_] at ge207_5
                                      rw [hvc_] at ul207_5
                                      have HL207_5 := Aside0.mk (show Kd.V k191 191 _ w.heap.size _ _ ((rd_T61 l0 x6_1).f5) from Kd.V_mk ul207_5 ge207_5)
                                      clear hva_ hvn_ hvc_ ge207_5 ul207_5
                                      have hv207_6 := hcc207 6 _ rfl
                                      rw [add_field _ _ 6 (by omega)] at hv207_6
                                      replace hv207_6 := Option.some.inj (hv207_6.symm.trans hx207_6)
                                      injection hv207_6 with hva_ hvn_ hvc_
                                      rw [hva_] at ge207_6
                                      rw [hvc_] at ul207_6
                                      have HL207_6 := Aside0.mk (show Kd.V k196 196 _ w.heap.size _ _ ((rd_T61 l0 x6_1).f6) from Kd.V_mk ul207_6 ge207_6)
                                      clear hva_ hvn_ hvc_ ge207_6 ul207_6
                                      clear hcc207 hce207
                                      have HR207_2 := Aside0.mk hi207_2
                                      have HC207_2 := Aside0.mk hl207_2
                                      clear hi207_2 hl207_2
                                      have HR207_3 := Aside0.mk hi207_3
                                      have HC207_3 := Aside0.mk hl207_3
                                      clear hi207_3 hl207_3
                                      have HR207_4 := Aside0.mk hi207_4
                                      have HC207_4 := Aside0.mk hl207_4
                                      clear hi207_4 hl207_4
                                      have HR207_5 := Aside0.mk hi207_5
                                      have HC207_5 := Aside0.mk hl207_5
                                      clear hi207_5 hl207_5
                                      have HR207_6 := Aside0.mk hi207_6
                                      have HC207_6 := Aside0.mk hl207_6
                                      clear hi207_6 hl207_6
                                      replace p207 := eq_true p207
                                      replace q207 := eq_true q207
                                      have p208 : 0 ≤ (x8_2 : Int) := of_decide_eq_true (by first | (with_reducible assumption) | assumption)
                                      have q208 : x8_2 < (((rd_T61 l0 x6_1).f3).length : Int) := of_decide_eq_true (by first | (with_reducible assumption) | assumption)
                                      obtain ⟨ad208, A208_1, c208_1, A208_2, c208_2, A208_3, c208_3, A208_4, c208_4, A208_5, c208_5, e208, hx208_0, hx208_1, hx208_2, hx208_3, hx208_4, hx208_5, hl208_1, hi208_1, hl208_2, hi208_2, hl208_3, hi208_3, hl208_4, hi208_4, hl208_5, hi208_5⟩ := at_T65 (by repeat (first | (with_reducible exact HR207_3.out) | (with_reducible refine Kd.C_alloc ?_ _) | (with_reducible refine Kd.C_drewN ?_ _) | (with_reducible refine Kd.C_drew ?_) | exact HR207_3.out)) x8_2 p208 q208
                                      cases e208
                                      obtain ⟨ce208, hce208, hMe208, hcc208⟩ := Kd.V_get HL207_3.out z65 x8_2 p208 (by first | exact q208 | exact of_decide_eq_true (by first | (with_reducible assumption) | assumption) | (have e_ := (Kd.V_reads' HL207_3.out).1; omega))
                                      obtain ⟨ua208_1, uc208_1, ua208_2, uc208_2, ua208_3, uc208_3, ua208_4, uc208_4, ua208_5, uc208_5, rfl, ul208_1, ge208_1, ul208_2, ge208_2, ul208_3, ge208_3, ul208_4, ge208_4, ul208_5, ge208_5⟩ := k65_openF hMe208
                                      have hv208_1 := hcc208 1 _ rfl
                                      rw [add_field _ _ 1 (by omega)] at hv208_1
                                      replace hv208_1 := Option.some.inj (hv208_1.symm.trans hx208_1)
                                      injection hv208_1 with hva_ hvn_ hvc_
                                      rw [hva_] at ge208_1
                                      rw [hvc_] at ul208_1
                                      have HL208_1 := Aside0.mk (show Kd.V k188 188 _ w.heap.size _ _ ((rd_T65 ((rd_T61 l0 x6_1).f3) x8_2).f1) from Kd.V_mk ul208_1 ge208_1)
                                      clear hva_ hvn_ hvc_ ge208_1 ul208_1
                                      have hv208_2 := hcc208 2 _ rfl
                                      rw [add_field _ _ 2 (by omega)] at hv208_2
                                      replace hv208_2 := Option.some.inj (hv208_2.symm.trans hx208_2)
                                      injection hv208_2 with hva_ hvn_ hvc_
                                      rw [hva_] at ge208_2
                                      rw [hvc_] at ul208_2
                                      have HL208_2 := Aside0.mk (show Kd.V k198 198 _ w.heap.size _ _ ((rd_T65 ((rd_T61 l0 x6_1).f3) x8_2).f2) from Kd.V_mk ul208_2 ge208_2)
                                      clear hva_ hvn_ hvc_ ge208_2 ul208_2
                                      have hv208_3 := hcc208 3 _ rfl
                                      rw [add_field _ _ 3 (by omega)] at hv208_3
                                      replace hv208_3 := Option.some.inj (hv208_3.symm.trans hx208_3)
                                      injection hv208_3 with hva_ hvn_ hvc_
                                      rw [hva_] at ge208_3
                                      rw [hvc_] at ul208_3
                                      have HL208_3 := Aside0.mk (show Kd.V Kd.string 9 _ w.heap.size _ _ ((rd_T65 ((rd_T61 l0 x6_1).f3) x8_2).f3) from Kd.V_mk ul208_3 ge208_3)
                                      clear hva_ hvn_ hvc_ ge208_3 ul208_3
                                      have hv208_4 := hcc208 4 _ rfl
                                      rw [add_field _ _ 4 (by omega)] at hv208_4
                                      replace hv208_4 := Option.some.inj (hv208_4.symm.trans hx208_4)
                                      injection hv208_4 with hva_ hvn_ hvc_
                                      rw [hva_] at ge208_4
                                      rw [hvc_] at ul208_4
                                      have HL208_4 := Aside0.mk (show Kd.V Kd.string 9 _ w.heap.size _ _ ((rd_T65 ((rd_T61 l0 x6_1).f3) x8_2).f4) from Kd.V_mk ul208_4 ge208_4)
                                      clear hva_ hvn_ hvc_ ge208_4 ul208_4
                                      have hv208_5 := hcc208 5 _ rfl
                                      rw [add_field _ _ 5 (by omega)] at hv208_5
                                      replace hv208_5 := Option.some.inj (hv208_5.symm.trans hx208_5)
                                      injection hv208_5 with hva_ hvn_ hvc_
                                      rw [hva_] at ge208_5
                                      rw [hvc_] at ul208_5
                                      have HL208_5 := Aside0.mk (show Kd.V Kd.string 9 _ w.heap.size _ _ ((rd_T65 ((rd_T61 l0 x6_1).f3) x8_2).f5) from Kd.V_mk ul208_5 ge208_5)
                                      clear hva_ hvn_ hvc_ ge208_5 ul208_5
                                      clear hcc208 hce208
                                      have HR208_1 := Aside0.mk hi208_1
                                      have HC208_1 := Aside0.mk hl208_1
                                      clear hi208_1 hl208_1
                                      have HR208_2 := Aside0.mk hi208_2
                                      have HC208_2 := Aside0.mk hl208_2
                                      clear hi208_2 hl208_2
                                      have HR208_3 := Aside0.mk hi208_3
                                      have HC208_3 := Aside0.mk hl208_3
                                      clear hi208_3 hl208_3
                                      have HR208_4 := Aside0.mk hi208_4
                                      have HC208_4 := Aside0.mk hl208_4
                                      clear hi208_4 hl208_4
                                      have HR208_5 := Aside0.mk hi208_5
                                      have HC208_5 := Aside0.mk hl208_5
                                      clear hi208_5 hl208_5
                                      replace p208 := eq_true p208
                                      replace q208 := eq_true q208
                                      refine start_ (n := 17) (S := fun w' => w'.cell? ⟨gb201, 0, none⟩ = some (.string ((rd_T61 l0 x6_1).f0)) ∧ w'.cell? ⟨gb201, 1, none⟩ = some (.bool false) ∧ w'.cell? ⟨gb201, 2, none⟩ = some (.slice none 0 0) ∧ w'.cell? ⟨gb201, 3, none⟩ = some (u202003) ∧ w'.cell? ⟨gb201, 4, none⟩ = some (.slice none 0 0) ∧ w'.cell? ⟨gb201, 5, none⟩ = some (.slice none 0 0) ∧ w'.cell? ⟨gb201, 6, none⟩ = some (.slice none 0 0) ∧ w'.cell? (ad206.add ((x10_3).toNat * 2)) = some (.string ((rd_T73 l1 x10_3).f0)) ∧ w'.cell? ⟨(ad206.add ((x10_3).toNat * 2)).block, (ad206.add ((x10_3).toNat * 2)).off + 1, none⟩ = some (.string ((rd_T73 l1 x10_3).f1)) ∧ w'.cell? (ad200.add ((x6_1).toNat * 7)) = some (.string ((rd_T61 l0 x6_1).f0)) ∧ w'.cell? ⟨(ad200.add ((x6_1).toNat * 7)).block, (ad200.add ((x6_1).toNat * 7)).off + 1, none⟩ = some (.bool ((rd_T61 l0 x6_1).f1)) ∧ w'.cell? ⟨(ad200.add ((x6_1).toNat * 7)).block, (ad200.add ((x6_1).toNat * 7)).off + 2, none⟩ = some (.slice A207_2 ((rd_T61 l0 x6_1).f2).length c207_2) ∧ w'.cell? ⟨(ad200.add ((x6_1).toNat * 7)).block, (ad200.add ((x6_1).toNat * 7)).off + 3, none⟩ = some (.slice (some ad208) ((rd_T61 l0 x6_1).f3).length c207_3) ∧ w'.cell? ⟨(ad200.add ((x6_1).toNat * 7)).block, (ad200.add ((x6_1).toNat * 7)).off + 4, none⟩ = some (.slice A207_4 ((rd_T61 l0 x6_1).f4).length c207_4) ∧ w'.cell? ⟨(ad200.add ((x6_1).toNat * 7)).block, (ad200.add ((x6_1).toNat * 7)).off + 5, none⟩ = some (.slice A207_5 ((rd_T61 l0 x6_1).f5).length c207_5) ∧ w'.cell? ⟨(ad200.add ((x6_1).toNat * 7)).block, (ad200.add ((x6_1).toNat * 7)).off + 6, none⟩ = some (.slice A207_6 ((rd_T61 l0 x6_1).f6).length c207_6) ∧ w'.cell? (ad208.add ((x8_2).toNat * 6)) = some (.string ((rd_T65 ((rd_T61 l0 x6_1).f3) x8_2).f0)) ∧ w'.cell? ⟨(ad208.add ((x8_2).toNat * 6)).block, (ad208.add ((x8_2).toNat * 6)).off + 1, none⟩ = some (.slice A208_1 ((rd_T65 ((rd_T61 l0 x6_1).f3) x8_2).f1).length c208_1) ∧ w'.cell? ⟨(ad208.add ((x8_2).toNat * 6)).block, (ad208.add ((x8_2).toNat * 6)).off + 2, none⟩ = some (.slice A208_2 ((rd_T65 ((rd_T61 l0 x6_1).f3) x8_2).f2).length c208_2) ∧ w'.cell? ⟨(ad208.add ((x8_2).toNat * 6)).block, (ad208.add ((x8_2).toNat * 6)).off + 3, none⟩ = some (.slice A208_3 ((rd_T65 ((rd_T61 l0 x6_1).f3) x8_2).f3).length c208_3) ∧ w'.cell? ⟨(ad208.add ((x8_2).toNat * 6)).block, (ad208.add ((x8_2).toNat * 6)).off + 4, none⟩ = some (.slice A208_4 ((rd_T65 ((rd_T61 l0 x6_1).f3) x8_2).f4).length c208_4) ∧ w'.cell? ⟨(ad208.add ((x8_2).toNat * 6)).block, (ad208.add ((x8_2).toNat * 6)).off + 5, none⟩ = some (.slice A208_5 ((rd_T65 ((rd_T61 l0 x6_1).f3) x8_2).f5).length c208_5)) (ds := []) #[false, false, false, false, false, false, false, false, false, false, false, false, false, false, false, false, false] (by kernel_rfl) rfl rfl ⟨(blk_cell BK201.out 0).trans rfl, (blk_cell BK201.out 1).trans rfl, (blk_cell BK201.out 2).trans rfl, (blk_cell BK201.out 3).trans rfl, (blk_cell BK201.out 4).trans rfl, (blk_cell BK201.out 5).trans rfl, (blk_cell BK201.out 6).trans rfl, ((HB.out.cell (World.block_lt_of_cell? w _ hw206_0)).trans hw206_0), ((HB.out.cell (World.block_lt_of_cell? w _ hw206_1)).trans hw206_1), hx207_0, hx207_1, hx207_2, hx207_3, hx207_4, hx207_5, hx207_6, hx208_0, hx208_1, hx208_2, hx208_3, hx208_4, hx208_5⟩ (fun hHeld => ?_); refine with_tabW cosignerlaw03_linked.tab13 cosignerlaw03_linked.bits13 (fun HT_ HW_ => ?_)
                                      generalize wr.drew = w17 at HO_0 HO_5 HO_202003 BK201 HR202_2 HR202_3 HR202_4 HR202_5 HR202_6 HB HL207_2 HL207_3 HL207_4 HL207_5 HL207_6 HL208_1 HL208_2 HL208_3 HL208_4 HL208_5 HR207_2 HR207_3 HR207_4 HR207_5 HR207_6 HR208_1 HR208_2 HR208_3 HR208_4 HR208_5 hx206_0 hx206_1 hx207_0 hx207_1 hx207_2 hx207_3 hx207_4 hx207_5 hx207_6 hx208_0 hx208_1 hx208_2 hx208_3 hx208_4 hx208_5 hHeld ⊢
                                      refine pure_ (i := 0) (N := some 39) (v := ?_) (a' := ?_) #[true, false, false, false, false, false, false, false, false, false, false, false, false, false, false, false, false] rfl rfl (any_of HT_.out (by kernel_rfl)) (fun _ _ _ h => h) (Or.inl ⟨by rfl, ?_⟩) ?_ ?_
                                      rotate_left
                                      · intro w'
                                        go_simp
                                        with_reducible rfl
                                      rotate_left
                                      · simp only [Act.put, List.setIfInBounds_toArray, List.set_cons_zero, List.set_cons_succ, i64_w, i32_w]
                                        rfl
                                      refine pure_ (i := 1) (N := some 40) (v := ?_) (a' := ?_) #[true, true, false, false, false, false, false, false, false, false, false, false, false, false, false, false, false] rfl rfl (any_of HT_.out (by kernel_rfl)) (fun _ _ _ h => h) (Or.inl ⟨by rfl, ?_⟩) ?_ ?_
                                      rotate_left
                                      · intro w'
                                        go_simp
                                        with_reducible rfl
                                      rotate_left
                                      · simp only [Act.put, List.setIfInBounds_toArray, List.set_cons_zero, List.set_cons_succ, i64_w, i32_w]
                                        rfl
                                      refine pure_ (i := 2) (N := some 41) (v := ?_) (a' := ?_) #[true, true, true, false, false, false, false, false, false, false, false, false, false, false, false, false, false] rfl rfl (any_of HT_.out (by kernel_rfl)) (fun _ _ _ h => h) (Or.inl ⟨by rfl, ?_⟩) ?_ ?_
                                      rotate_left
                                      · intro w'
                                        go_simp
                                        with_reducible rfl
                                      rotate_left
                                      · simp only [Act.put, List.setIfInBounds_toArray, List.set_cons_zero, List.set_cons_succ, i64_w, i32_w]
                                        rfl
                                      refine pure_ (i := 4) (N := some 43) (v := ?_) (a' := ?_) #[true, true, true, false, true, false, false, false, false, false, false, false, false, false, false, false, false] rfl rfl (any_of HT_.out (by kernel_rfl)) (fun _ _ _ h => h) (Or.inl ⟨by rfl, ?_⟩) ?_ ?_
                                      rotate_left
                                      · intro w'
                                        go_simp
                                        with_reducible rfl
                                      rotate_left
                                      · simp only [Act.put, List.setIfInBounds_toArray, List.set_cons_zero, List.set_cons_succ, i64_w, i32_w]
                                        rfl
                                      refine pure_ (i := 6) (N := some 45) (v := ?_) (a' := ?_) #[true, true, true, false, true, false, true, false, false, false, false, false, false, false, false, false, false] rfl rfl (any_of HT_.out (by kernel_rfl)) (fun _ _ _ h => h) (Or.inl ⟨by rfl, ?_⟩) ?_ ?_
                                      rotate_left
                                      · intro w'
                                        go_simp
                                        with_reducible rfl
                                      rotate_left
                                      · simp only [Act.put, List.setIfInBounds_toArray, List.set_cons_zero, List.set_cons_succ, i64_w, i32_w]
                                        rfl
                                      refine pure_ (i := 7) (N := some 46) (v := ?_) (a' := ?_) #[true, true, true, false, true, false, true, true, false, false, false, false, false, false, false, false, false] rfl rfl (any_of HT_.out (by kernel_rfl)) (fun _ _ _ h => h) (Or.inl ⟨by rfl, ?_⟩) ?_ ?_
                                      rotate_left
                                      · intro w'
                                        go_simp
                                        with_reducible rfl
                                      rotate_left
                                      · simp only [Act.put, List.setIfInBounds_toArray, List.set_cons_zero, List.set_cons_succ, i64_w, i32_w]
                                        rfl
                                      refine pure_ (i := 8) (N := some 47) (v := ?_) (a' := ?_) #[true, true, true, false, true, false, true, true, true, false, false, false, false, false, false, false, false] rfl rfl (any_of HT_.out (by kernel_rfl)) (fun _ _ _ h => h) (Or.inl ⟨by rfl, ?_⟩) ?_ ?_
                                      rotate_left
                                      · intro w'
                                        go_simp
                                        with_reducible rfl
                                      rotate_left
                                      · simp only [Act.put, List.setIfInBounds_toArray, List.set_cons_zero, List.set_cons_succ, i64_w, i32_w]
                                        rfl
                                      refine pure_ (i := 9) (N := some 48) (v := ?_) (a' := ?_) #[true, true, true, false, true, false, true, true, true, true, false, false, false, false, false, false, false] rfl rfl (any_of HT_.out (by kernel_rfl)) (fun _ _ _ h => h) (Or.inl ⟨by rfl, ?_⟩) ?_ ?_
                                      rotate_left
                                      · intro w'
                                        go_simp
                                        with_reducible rfl
                                      rotate_left
                                      · simp only [Act.put, List.setIfInBounds_toArray, List.set_cons_zero, List.set_cons_succ, i64_w, i32_w]
                                        rfl
                                      refine pure_ (i := 11) (N := some 50) (v := ?_) (a' := ?_) #[true, true, true, false, true, false, true, true, true, true, false, true, false, false, false, false, false] rfl rfl (any_of HT_.out (by kernel_rfl)) (fun _ _ _ h => h) (Or.inl ⟨by rfl, ?_⟩) ?_ ?_
                                      rotate_left
                                      · intro w'
                                        go_simp
                                        with_reducible rfl
                                      rotate_left
                                      · simp only [Act.put, List.setIfInBounds_toArray, List.set_cons_zero, List.set_cons_succ, i64_w, i32_w]
                                        rfl
                                      refine take_ (i := 3) (N := some 42) (v := ?_) (a' := ?_) #[true, true, true, true, true, false, true, true, true, true, false, true, false, false, false, false, false] rfl rfl (take_ofW HT_.out HW_.out (by kernel_rfl)) (fun _ _ _ h => h) (Or.inl ⟨by rfl, ?_⟩) hHeld ?_ ?_
                                      rotate_left
                                      · rintro w' ⟨s0, s1, s2, s3, s4, s5, s6, s7, s8, s9, s10, s11, s12, s13, s14, s15, s16, s17, s18, s19, s20, s21⟩
                                        go_simp
                                        with_reducible rfl
                                      rotate_left
                                      · simp only [Act.put, List.setIfInBounds_toArray, List.set_cons_zero, List.set_cons_succ, i64_w, i32_w]
                                        rfl
                                      refine take_ (i := 5) (N := some 44) (v := ?_) (a' := ?_) #[true, true, true, true, true, true, true, true, true, true, false, true, false, false, false, false, false] rfl rfl (take_ofW HT_.out HW_.out (by kernel_rfl)) (fun _ _ _ h => h) (Or.inl ⟨by rfl, ?_⟩) hHeld ?_ ?_
                                      rotate_left
                                      · rintro w' ⟨s0, s1, s2, s3, s4, s5, s6, s7, s8, s9, s10, s11, s12, s13, s14, s15, s16, s17, s18, s19, s20, s21⟩
                                        go_simp
                                        with_reducible rfl
                                      rotate_left
                                      · simp only [Act.put, List.setIfInBounds_toArray, List.set_cons_zero, List.set_cons_succ, i64_w, i32_w]
                                        rfl
                                      refine take_ (i := 10) (N := some 49) (v := ?_) (a' := ?_) #[true, true, true, true, true, true, true, true, true, true, true, true, false, false, false, false, false] rfl rfl (take_ofW HT_.out HW_.out (by kernel_rfl)) (fun _ _ _ h => h) (Or.inl ⟨by rfl, ?_⟩) hHeld ?_ ?_
                                      rotate_left
                                      · rintro w' ⟨s0, s1, s2, s3, s4, s5, s6, s7, s8, s9, s10, s11, s12, s13, s14, s15, s16, s17, s18, s19, s20, s21⟩
                                        go_simp
                                        with_reducible rfl
                                      rotate_left
                                      · simp only [Act.put, List.setIfInBounds_toArray, List.set_cons_zero, List.set_cons_succ, i64_w, i32_w]
                                        rfl
                                      refine pure_ (i := 12) (N := some 51) (v := ?_) (a' := ?_) #[true, true, true, true, true, true, true, true, true, true, true, true, true, false, false, false, false] rfl rfl (any_of HT_.out (by kernel_rfl)) (fun _ _ _ h => h) (Or.inl ⟨by rfl, ?_⟩) ?_ ?_
                                      rotate_left
                                      · intro w'
                                        go_simp
                                        with_reducible rfl
                                      rotate_left
                                      · simp only [Act.put, List.setIfInBounds_toArray, List.set_cons_zero, List.set_cons_succ, i64_w, i32_w]
                                        rfl
                                      refine pure_ (i := 13) (N := some 52) (v := ?_) (a' := ?_) #[true, true, true, true, true, true, true, true, true, true, true, true, true, true, false, false, false] rfl rfl (any_of HT_.out (by kernel_rfl)) (fun _ _ _ h => h) (Or.inl ⟨by rfl, ?_⟩) ?_ ?_
                                      rotate_left
                                      · intro w'
                                        go_simp
                                        with_reducible rfl
                                      rotate_left
                                      · simp only [Act.put, List.setIfInBounds_toArray, List.set_cons_zero, List.set_cons_succ, i64_w, i32_w]
                                        rfl
                                      refine take_ (i := 14) (N := some 53) (v := ?_) (a' := ?_) #[true, true, true, true, true, true, true, true, true, true, true, true, true, true, true, false, false] rfl rfl (take_ofW HT_.out HW_.out (by kernel_rfl)) (fun _ _ _ h => h) (Or.inl ⟨by rfl, ?_⟩) hHeld ?_ ?_
                                      rotate_left
                                      · rintro w' ⟨s0, s1, s2, s3, s4, s5, s6, s7, s8, s9, s10, s11, s12, s13, s14, s15, s16, s17, s18, s19, s20, s21⟩
                                        go_simp
                                        with_reducible rfl
                                      rotate_left
                                      · simp only [Act.put, List.setIfInBounds_toArray, List.set_cons_zero, List.set_cons_succ, i64_w, i32_w]
                                        rfl
                                      refine pure_ (i := 15) (N := some 54) (v := ?_) (a' := ?_) #[true, true, true, true, true, true, true, true, true, true, true, true, true, true, true, true, false] rfl rfl (any_of HT_.out (by kernel_rfl)) (fun _ _ _ h => h) (Or.inl ⟨by rfl, ?_⟩) ?_ ?_
                                      rotate_left
                                      · intro w'
                                        go_simp
                                        with_reducible rfl
                                      rotate_left
                                      · simp only [Act.put, List.setIfInBounds_toArray, List.set_cons_zero, List.set_cons_succ, i64_w, i32_w]
                                        rfl
                                      refine pure_ (i := 16) (N := some 55) (v := ?_) (a' := ?_) #[true, true, true, true, true, true, true, true, true, true, true, true, true, true, true, true, true] rfl rfl (any_of HT_.out (by kernel_rfl)) (fun _ _ _ h => h) (Or.inl ⟨by rfl, ?_⟩) ?_ ?_
                                      rotate_left
                                      · intro w'
                                        go_simp
                                        with_reducible rfl
                                      rotate_left
                                      · simp only [Act.put, List.setIfInBounds_toArray, List.set_cons_zero, List.set_cons_succ, i64_w, i32_w]
                                        rfl
                                      refine done_ (done_of HT_.out (by kernel_rfl)) ?_
                                      try go_wp2
                                      go_roundg k3
                                      case measure => have := HK1.out; have := HK2.out; have := HK3.out; omega
                                      case rel => exact ⟨(false), (wrap64 (x10_3 + 1)), (by first | rfl | (simp; done) | (simp [*]; done)), (by first | rfl | (simp; done) | (simp [*]; done)), H', ⟨by have := HK1.out; have := HK2.out; have := HK3.out; omega⟩, ⟨by (with_reducible repeat (first | apply Kd.V_alloc | apply Kd.V_drewN | apply Kd.V_drew)); exact HO_0.out⟩, ⟨by (with_reducible repeat (first | apply Kd.N_alloc | apply Kd.N_drewN | apply Kd.N_drew)); exact HO_5.out⟩, ⟨by (with_reducible repeat (first | apply Kd.N_alloc | apply Kd.N_drewN | apply Kd.N_drew)); exact HO_202003.out⟩, ⟨by (with_reducible repeat (first | refine blk_drewN ?_ _ | refine blk_drew ?_ | refine blk_alloc ?_ _)); exact BK201.out⟩, ⟨by repeat (first | (with_reducible exact HR202_2.out) | (with_reducible refine Kd.C_alloc ?_ _) | (with_reducible refine Kd.C_drewN ?_ _) | (with_reducible refine Kd.C_drew ?_) | exact HR202_2.out)⟩, ⟨by repeat (first | (with_reducible exact HR202_3.out) | (with_reducible refine Kd.C_alloc ?_ _) | (with_reducible refine Kd.C_drewN ?_ _) | (with_reducible refine Kd.C_drew ?_) | exact HR202_3.out)⟩, ⟨by repeat (first | (with_reducible exact HR202_4.out) | (with_reducible refine Kd.C_alloc ?_ _) | (with_reducible refine Kd.C_drewN ?_ _) | (with_reducible refine Kd.C_drew ?_) | exact HR202_4.out)⟩, ⟨by repeat (first | (with_reducible exact HR202_5.out) | (with_reducible refine Kd.C_alloc ?_ _) | (with_reducible refine Kd.C_drewN ?_ _) | (with_reducible refine Kd.C_drew ?_) | exact HR202_5.out)⟩, ⟨by repeat (first | (with_reducible exact HR202_6.out) | (with_reducible refine Kd.C_alloc ?_ _) | (with_reducible refine Kd.C_drewN ?_ _) | (with_reducible refine Kd.C_drew ?_) | exact HR202_6.out)⟩, ⟨by repeat (first | (with_reducible first | exact HB.out | apply below_alloc | apply pw_below_drewN | apply below_drew1 | refine below_set ?_ GE201.out) | exact HB.out)⟩⟩
                                    · rw [if_neg c16] at H
                                      have c16b0 : ((((rd_T73 l1 x10_3).f0).toList) == ((rd_T61 l0 x6_1).f0).toList && ((((rd_T73 l1 x10_3).f1).toList) == (((rd_T65 ((rd_T61 l0 x6_1).f3) x8_2).f0).toList))) = false := by simpa using c16
                                      (try (have c16b1 : decide ((((rd_T73 l1 x10_3).f0).toList) = ((rd_T61 l0 x6_1).f0).toList && ((((rd_T73 l1 x10_3).f1).toList) == (((rd_T65 ((rd_T61 l0 x6_1).f3) x8_2).f0).toList))) = false := by simpa using c16))
                                      (try (have c16b2 : ((((rd_T73 l1 x10_3).f0).toList) == ((rd_T61 l0 x6_1).f0).toList && ((((rd_T73 l1 x10_3).f1).toList) == (((rd_T65 ((rd_T61 l0 x6_1).f3) x8_2).f0).toList))) = false := by simpa using c16))
                                      (try (have c16b3 : ¬ ((((rd_T73 l1 x10_3).f0).toList) = ((rd_T61 l0 x6_1).f0).toList && ((((rd_T73 l1 x10_3).f1).toList) == (((rd_T65 ((rd_T61 l0 x6_1).f3) x8_2).f0).toList))) := by simpa using c16))
                                      clear c16
                                      have H' := Aside0.mk H
                                      clear H
                                      try go_wp2
                                      have n0_ := Aside0.mk (Kd.V_drew HO_0.out)
                                      have n1_ := Aside0.mk (Kd.N_drew HO_5.out)
                                      have n2_ := Aside0.mk (Kd.N_drew HO_202003.out)
                                      have n3_ := Aside0.mk (blk_drew BK201.out)
                                      have n4_ := Aside0.mk (Kd.C_drew HR202_2.out)
                                      have n5_ := Aside0.mk (Kd.C_drew HR202_3.out)
                                      have n6_ := Aside0.mk (Kd.C_drew HR202_4.out)
                                      have n7_ := Aside0.mk (Kd.C_drew HR202_5.out)
                                      have n8_ := Aside0.mk (Kd.C_drew HR202_6.out)
                                      have n9_ := Aside0.mk (below_drew1 HB.out)
                                      clear HO_0
                                      clear HO_5
                                      clear HO_202003
                                      clear BK201
                                      clear HR202_2
                                      clear HR202_3
                                      clear HR202_4
                                      clear HR202_5
                                      clear HR202_6
                                      clear HB
                                      have HO_0 := n0_
                                      have HO_5 := n1_
                                      have HO_202003 := n2_
                                      have BK201 := n3_
                                      have HR202_2 := n4_
                                      have HR202_3 := n5_
                                      have HR202_4 := n6_
                                      have HR202_5 := n7_
                                      have HR202_6 := n8_
                                      have HB := n9_
                                      clear n0_ n1_ n2_ n3_ n4_ n5_ n6_ n7_ n8_ n9_
                                      have p206 : 0 ≤ (x10_3 : Int) := of_decide_eq_true (by first | (with_reducible assumption) | assumption)
                                      have q206 : x10_3 < (l1.length : Int) := of_decide_eq_true (by first | (with_reducible assumption) | assumption)
                                      obtain ⟨ad206, e206, hx206_0, hx206_1⟩ := at_T73 HR1.out x10_3 p206 q206
                                      have hw206_1 := hx206_1
                                      have hw206_0 := hx206_0
                                      cases e206
                                      replace hx206_0 := (HB.out.cell (World.block_lt_of_cell? w _ hx206_0)).trans hx206_0
                                      replace hx206_1 := (HB.out.cell (World.block_lt_of_cell? w _ hx206_1)).trans hx206_1
                                      replace p206 := eq_true p206
                                      replace q206 := eq_true q206
                                      have p207 : 0 ≤ (x6_1 : Int) := of_decide_eq_true (by first | (with_reducible assumption) | assumption)
                                      have q207 : x6_1 < (l0.length : Int) := of_decide_eq_true (by first | (with_reducible assumption) | assumption)
                                      obtain ⟨ad207, A207_2, c207_2, A207_3, c207_3, A207_4, c207_4, A207_5, c207_5, A207_6, c207_6, e207, hx207_0, hx207_1, hx207_2, hx207_3, hx207_4, hx207_5, hx207_6, hl207_2, hi207_2, hl207_3, hi207_3, hl207_4, hi207_4, hl207_5, hi207_5, hl207_6, hi207_6⟩ := at_T61 (Kd.V_reads' HO_0.out).2.2 x6_1 p207 q207
                                      obtain rfl : ad200 = ad207 := (by injection e207)
                                      obtain ⟨ce207, hce207, hMe207, hcc207⟩ := Kd.V_get HO_0.out z61 x6_1 p207 (by first | exact q207 | exact of_decide_eq_true (by first | (with_reducible assumption) | assumption) | (have e_ := (Kd.V_reads' HO_0.out).1; omega))
                                      obtain ⟨ua207_2, uc207_2, ua207_3, uc207_3, ua207_4, uc207_4, ua207_5, uc207_5, ua207_6, uc207_6, rfl, ul207_2, ge207_2, ul207_3, ge207_3, ul207_4, ge207_4, ul207_5, ge207_5, ul207_6, ge207_6⟩ := k61_openF hMe207
                                      have hv207_2 := hcc207 2 _ rfl
                                      rw [add_field _ _ 2 (by omega)] at hv207_2
                                      replace hv207_2 := Option.some.inj (hv207_2.symm.trans hx207_2)
                                      injection hv207_2 with hva_ hvn_ hvc_
                                      rw [hva_] at ge207_2
                                      rw [hvc_] at ul207_2
                                      have HL207_2 := Aside0.mk (show Kd.V k185 185 _ w.heap.size _ _ ((rd_T61 l0 x6_1).f2) from Kd.V_mk ul207_2 ge207_2)
                                      clear hva_ hvn_ hvc_ ge207_2 ul207_2
                                      have hv207_3 := hcc207 3 _ rfl
                                      rw [add_field _ _ 3 (by omega)] at hv207_3
                                      replace hv207_3 := Option.some.inj (hv207_3.symm.trans hx207_3)
                                      injection hv207_3 with hva_ hvn_ hvc_
                                      rw [hva_] at ge207_3
                                      rw [hvc_] at ul207_3
                                      have HL207_3 := Aside0.mk (show Kd.V k65 65 _ w.heap.size _ _ ((rd_T61 l0 x6_1).f3) from Kd.V_mk ul207_3 ge207_3)
                                      clear hva_ hvn_ hvc_ ge207_3 ul207_3
                                      have hv207_4 := hcc207 4 _ rfl
                                      rw [add_field _ _ 4 (by omega)] at hv207_4
                                      replace hv207_4 := Option.some.inj (hv207_4.symm.trans hx207_4)
                                      injection hv207_4 with hva_ hvn_ hvc_
                                      rw [hva_] at ge207_4
                                      rw [hvc_] at ul207_4
                                      have HL207_4 := Aside0.mk (show Kd.V Kd.string 9 _ w.heap.size _ _ ((rd_T61 l0 x6_1).f4) from Kd.V_mk ul207_4 ge207_4)
                                      clear hva_ hvn_ hvc_ ge207_4 ul207_4
                                      have hv207_5 := hcc207 5 _ rfl
                                      rw [add_field _ _ 5 (by omega)] at hv207_5
                                      replace hv207_5 := Option.some.inj (hv207_5.symm.trans hx207_5)
                                      injection hv207_5 with hva_ hvn_ hvc_
                                      rw [hva_] at ge207_5
                                      rw [hvc_] at ul207_5
                                      have HL207_5 := Aside0.mk (show Kd.V k191 191 _ w.heap.size _ _ ((rd_T61 l0 x6_1).f5) from Kd.V_mk ul207_5 ge207_5)
                                      clear hva_ hvn_ hvc_ ge207_5 ul207_5
                                      have hv207_6 := hcc207 6 _ rfl
                                      rw [add_field _ _ 6 (by omega)] at hv207_6
                                      replace hv207_6 := Option.some.inj (hv207_6.symm.trans hx207_6)
                                      injection hv207_6 with hva_ hvn_ hvc_
                                      rw [hva_] at ge207_6
                                      rw [hvc_] at ul207_6
                                      have HL207_6 := Aside0.mk (show Kd.V k196 196 _ w.heap.size _ _ ((rd_T61 l0 x6_1).f6) from Kd.V_mk ul207_6 ge207_6)
                                      clear hva_ hvn_ hvc_ ge207_6 ul207_6
                                      clear hcc207 hce207
                                      have HR207_2 := Aside0.mk hi207_2
                                      have HC207_2 := Aside0.mk hl207_2
                                      clear hi207_2 hl207_2
                                      have HR207_3 := Aside0.mk hi207_3
                                      have HC207_3 := Aside0.mk hl207_3
                                      clear hi207_3 hl207_3
                                      have HR207_4 := Aside0.mk hi207_4
                                      have HC207_4 := Aside0.mk hl207_4
                                      clear hi207_4 hl207_4
                                      have HR207_5 := Aside0.mk hi207_5
                                      have HC207_5 := Aside0.mk hl207_5
                                      clear hi207_5 hl207_5
                                      have HR207_6 := Aside0.mk hi207_6
                                      have HC207_6 := Aside0.mk hl207_6
                                      clear hi207_6 hl207_6
                                      replace p207 := eq_true p207
                                      replace q207 := eq_true q207
                                      have p208 : 0 ≤ (x8_2 : Int) := of_decide_eq_true (by first | (with_reducible assumption) | assumption)
                                      have q208 : x8_2 < (((rd_T61 l0 x6_1).f3).length : Int) := of_decide_eq_true (by first | (with_reducible assumption) | assumption)
                                      obtain ⟨ad208, A208_1, c208_1, A208_2, c208_2, A208_3, c208_3, A208_4, c208_4, A208_5, c208_5, e208, hx208_0, hx208_1, hx208_2, hx208_3, hx208_4, hx208_5, hl208_1, hi208_1, hl208_2, hi208_2, hl208_3, hi208_3, hl208_4, hi208_4, hl208_5, hi208_5⟩ := at_T65 (by repeat (first | (with_reducible exact HR207_3.out) | (with_reducible refine Kd.C_alloc ?_ _) | (with_reducible refine Kd.C_drewN ?_ _) | (with_reducible refine Kd.C_drew ?_) | exact HR207_3.out)) x8_2 p208 q208
                                      cases e208
                                      obtain ⟨ce208, hce208, hMe208, hcc208⟩ := Kd.V_get HL207_3.out z65 x8_2 p208 (by first | exact q208 | exact of_decide_eq_true (by first | (with_reducible assumption) | assumption) | (have e_ := (Kd.V_reads' HL207_3.out).1; omega))
                                      obtain ⟨ua208_1, uc208_1, ua208_2, uc208_2, ua208_3, uc208_3, ua208_4, uc208_4, ua208_5, uc208_5, rfl, ul208_1, ge208_1, ul208_2, ge208_2, ul208_3, ge208_3, ul208_4, ge208_4, ul208_5, ge208_5⟩ := k65_openF hMe208
                                      have hv208_1 := hcc208 1 _ rfl
                                      rw [add_field _ _ 1 (by omega)] at hv208_1
                                      replace hv208_1 := Option.some.inj (hv208_1.symm.trans hx208_1)
                                      injection hv208_1 with hva_ hvn_ hvc_
                                      rw [hva_] at ge208_1
                                      rw [hvc_] at ul208_1
                                      have HL208_1 := Aside0.mk (show Kd.V k188 188 _ w.heap.size _ _ ((rd_T65 ((rd_T61 l0 x6_1).f3) x8_2).f1) from Kd.V_mk ul208_1 ge208_1)
                                      clear hva_ hvn_ hvc_ ge208_1 ul208_1
                                      have hv208_2 := hcc208 2 _ rfl
                                      rw [add_field _ _ 2 (by omega)] at hv208_2
                                      replace hv208_2 := Option.some.inj (hv208_2.symm.trans hx208_2)
                                      injection hv208_2 with hva_ hvn_ hvc_
                                      rw [hva_] at ge208_2
                                      rw [hvc_] at ul208_2
                                      have HL208_2 := Aside0.mk (show Kd.V k198 198 _ w.heap.size _ _ ((rd_T65 ((rd_T61 l0 x6_1).f3) x8_2).f2) from Kd.V_mk ul208_2 ge208_2)
                                      clear hva_ hvn_ hvc_ ge208_2 ul208_2
                                      have hv208_3 := hcc208 3 _ rfl
                                      rw [add_field _ _ 3 (by omega)] at hv208_3
                                      replace hv208_3 := Option.some.inj (hv208_3.symm.trans hx208_3)
                                      injection hv208_3 with hva_ hvn_ hvc_
                                      rw [hva_] at ge208_3
                                      rw [hvc_] at ul208_3
                                      have HL208_3 := Aside0.mk (show Kd.V Kd.string 9 _ w.heap.size _ _ ((rd_T65 ((rd_T61 l0 x6_1).f3) x8_2).f3) from Kd.V_mk ul208_3 ge208_3)
                                      clear hva_ hvn_ hvc_ ge208_3 ul208_3
                                      have hv208_4 := hcc208 4 _ rfl
                                      rw [add_field _ _ 4 (by omega)] at hv208_4
                                      replace hv208_4 := Option.some.inj (hv208_4.symm.trans hx208_4)
                                      injection hv208_4 with hva_ hvn_ hvc_
                                      rw [hva_] at ge208_4
                                      rw [hvc_] at ul208_4
                                      have HL208_4 := Aside0.mk (show Kd.V Kd.string 9 _ w.heap.size _ _ ((rd_T65 ((rd_T61 l0 x6_1).f3) x8_2).f4) from Kd.V_mk ul208_4 ge208_4)
                                      clear hva_ hvn_ hvc_ ge208_4 ul208_4
                                      have hv208_5 := hcc208 5 _ rfl
                                      rw [add_field _ _ 5 (by omega)] at hv208_5
                                      replace hv208_5 := Option.some.inj (hv208_5.symm.trans hx208_5)
                                      injection hv208_5 with hva_ hvn_ hvc_
                                      rw [hva_] at ge208_5
                                      rw [hvc_] at ul208_5
                                      have HL208_5 := Aside0.mk (show Kd.V Kd.string 9 _ w.heap.size _ _ ((rd_T65 ((rd_T61 l0 x6_1).f3) x8_2).f5) from Kd.V_mk ul208_5 ge208_5)
                                      clear hva_ hvn_ hvc_ ge208_5 ul208_5
                                      clear hcc208 hce208
                                      have HR208_1 := Aside0.mk hi208_1
                                      have HC208_1 := Aside0.mk hl208_1
                                      clear hi208_1 hl208_1
                                      have HR208_2 := Aside0.mk hi208_2
                                      have HC208_2 := Aside0.mk hl208_2
                                      clear hi208_2 hl208_2
                                      have HR208_3 := Aside0.mk hi208_3
                                      have HC208_3 := Aside0.mk hl208_3
                                      clear hi208_3 hl208_3
                                      have HR208_4 := Aside0.mk hi208_4
                                      have HC208_4 := Aside0.mk hl208_4
                                      clear hi208_4 hl208_4
                                      have HR208_5 := Aside0.mk hi208_5
                                      have HC208_5 := Aside0.mk hl208_5
                                      clear hi208_5 hl208_5
                                      replace p208 := eq_true p208
                                      replace q208 := eq_true q208
                                      refine start_ (n := 17) (S := fun w' => w'.cell? ⟨gb201, 0, none⟩ = some (.string ((rd_T61 l0 x6_1).f0)) ∧ w'.cell? ⟨gb201, 1, none⟩ = some (.bool false) ∧ w'.cell? ⟨gb201, 2, none⟩ = some (.slice none 0 0) ∧ w'.cell? ⟨gb201, 3, none⟩ = some (u202003) ∧ w'.cell? ⟨gb201, 4, none⟩ = some (.slice none 0 0) ∧ w'.cell? ⟨gb201, 5, none⟩ = some (.slice none 0 0) ∧ w'.cell? ⟨gb201, 6, none⟩ = some (.slice none 0 0) ∧ w'.cell? (ad206.add ((x10_3).toNat * 2)) = some (.string ((rd_T73 l1 x10_3).f0)) ∧ w'.cell? ⟨(ad206.add ((x10_3).toNat * 2)).block, (ad206.add ((x10_3).toNat * 2)).off + 1, none⟩ = some (.string ((rd_T73 l1 x10_3).f1)) ∧ w'.cell? (ad200.add ((x6_1).toNat * 7)) = some (.string ((rd_T61 l0 x6_1).f0)) ∧ w'.cell? ⟨(ad200.add ((x6_1).toNat * 7)).block, (ad200.add ((x6_1).toNat * 7)).off + 1, none⟩ = some (.bool ((rd_T61 l0 x6_1).f1)) ∧ w'.cell? ⟨(ad200.add ((x6_1).toNat * 7)).block, (ad200.add ((x6_1).toNat * 7)).off + 2, none⟩ = some (.slice A207_2 ((rd_T61 l0 x6_1).f2).length c207_2) ∧ w'.cell? ⟨(ad200.add ((x6_1).toNat * 7)).block, (ad200.add ((x6_1).toNat * 7)).off + 3, none⟩ = some (.slice (some ad208) ((rd_T61 l0 x6_1).f3).length c207_3) ∧ w'.cell? ⟨(ad200.add ((x6_1).toNat * 7)).block, (ad200.add ((x6_1).toNat * 7)).off + 4, none⟩ = some (.slice A207_4 ((rd_T61 l0 x6_1).f4).length c207_4) ∧ w'.cell? ⟨(ad200.add ((x6_1).toNat * 7)).block, (ad200.add ((x6_1).toNat * 7)).off + 5, none⟩ = some (.slice A207_5 ((rd_T61 l0 x6_1).f5).length c207_5) ∧ w'.cell? ⟨(ad200.add ((x6_1).toNat * 7)).block, (ad200.add ((x6_1).toNat * 7)).off + 6, none⟩ = some (.slice A207_6 ((rd_T61 l0 x6_1).f6).length c207_6) ∧ w'.cell? (ad208.add ((x8_2).toNat * 6)) = some (.string ((rd_T65 ((rd_T61 l0 x6_1).f3) x8_2).f0)) ∧ w'.cell? ⟨(ad208.add ((x8_2).toNat * 6)).block, (ad208.add ((x8_2).toNat * 6)).off + 1, none⟩ = some (.slice A208_1 ((rd_T65 ((rd_T61 l0 x6_1).f3) x8_2).f1).length c208_1) ∧ w'.cell? ⟨(ad208.add ((x8_2).toNat * 6)).block, (ad208.add ((x8_2).toNat * 6)).off + 2, none⟩ = some (.slice A208_2 ((rd_T65 ((rd_T61 l0 x6_1).f3) x8_2).f2).length c208_2) ∧ w'.cell? ⟨(ad208.add ((x8_2).toNat * 6)).block, (ad208.add ((x8_2).toNat * 6)).off + 3, none⟩ = some (.slice A208_3 ((rd_T65 ((rd_T61 l0 x6_1).f3) x8_2).f3).length c208_3) ∧ w'.cell? ⟨(ad208.add ((x8_2).toNat * 6)).block, (ad208.add ((x8_2).toNat * 6)).off + 4, none⟩ = some (.slice A208_4 ((rd_T65 ((rd_T61 l0 x6_1).f3) x8_2).f4).length c208_4) ∧ w'.cell? ⟨(ad208.add ((x8_2).toNat * 6)).block, (ad208.add ((x8_2).toNat * 6)).off + 5, none⟩ = some (.slice A208_5 ((rd_T65 ((rd_T61 l0 x6_1).f3) x8_2).f5).length c208_5)) (ds := []) #[false, false, false, false, false, false, false, false, false, false, false, false, false, false, false, false, false] (by kernel_rfl) rfl rfl ⟨(blk_cell BK201.out 0).trans rfl, (blk_cell BK201.out 1).trans rfl, (blk_cell BK201.out 2).trans rfl, (blk_cell BK201.out 3).trans rfl, (blk_cell BK201.out 4).trans rfl, (blk_cell BK201.out 5).trans rfl, (blk_cell BK201.out 6).trans rfl, ((HB.out.cell (World.block_lt_of_cell? w _ hw206_0)).trans hw206_0), ((HB.out.cell (World.block_lt_of_cell? w _ hw206_1)).trans hw206_1), hx207_0, hx207_1, hx207_2, hx207_3, hx207_4, hx207_5, hx207_6, hx208_0, hx208_1, hx208_2, hx208_3, hx208_4, hx208_5⟩ (fun hHeld => ?_); refine with_tabW cosignerlaw03_linked.tab13 cosignerlaw03_linked.bits13 (fun HT_ HW_ => ?_)
                                      generalize wr.drew = w18 at HO_0 HO_5 HO_202003 BK201 HR202_2 HR202_3 HR202_4 HR202_5 HR202_6 HB HL207_2 HL207_3 HL207_4 HL207_5 HL207_6 HL208_1 HL208_2 HL208_3 HL208_4 HL208_5 HR207_2 HR207_3 HR207_4 HR207_5 HR207_6 HR208_1 HR208_2 HR208_3 HR208_4 HR208_5 hx206_0 hx206_1 hx207_0 hx207_1 hx207_2 hx207_3 hx207_4 hx207_5 hx207_6 hx208_0 hx208_1 hx208_2 hx208_3 hx208_4 hx208_5 hHeld ⊢
                                      refine pure_ (i := 0) (N := some 39) (v := ?_) (a' := ?_) #[true, false, false, false, false, false, false, false, false, false, false, false, false, false, false, false, false] rfl rfl (any_of HT_.out (by kernel_rfl)) (fun _ _ _ h => h) (Or.inl ⟨by rfl, ?_⟩) ?_ ?_
                                      rotate_left
                                      · intro w'
                                        go_simp
                                        with_reducible rfl
                                      rotate_left
                                      · simp only [Act.put, List.setIfInBounds_toArray, List.set_cons_zero, List.set_cons_succ, i64_w, i32_w]
                                        rfl
                                      refine pure_ (i := 1) (N := some 40) (v := ?_) (a' := ?_) #[true, true, false, false, false, false, false, false, false, false, false, false, false, false, false, false, false] rfl rfl (any_of HT_.out (by kernel_rfl)) (fun _ _ _ h => h) (Or.inl ⟨by rfl, ?_⟩) ?_ ?_
                                      rotate_left
                                      · intro w'
                                        go_simp
                                        with_reducible rfl
                                      rotate_left
                                      · simp only [Act.put, List.setIfInBounds_toArray, List.set_cons_zero, List.set_cons_succ, i64_w, i32_w]
                                        rfl
                                      refine pure_ (i := 2) (N := some 41) (v := ?_) (a' := ?_) #[true, true, true, false, false, false, false, false, false, false, false, false, false, false, false, false, false] rfl rfl (any_of HT_.out (by kernel_rfl)) (fun _ _ _ h => h) (Or.inl ⟨by rfl, ?_⟩) ?_ ?_
                                      rotate_left
                                      · intro w'
                                        go_simp
                                        with_reducible rfl
                                      rotate_left
                                      · simp only [Act.put, List.setIfInBounds_toArray, List.set_cons_zero, List.set_cons_succ, i64_w, i32_w]
                                        rfl
                                      refine pure_ (i := 4) (N := some 43) (v := ?_) (a' := ?_) #[true, true, true, false, true, false, false, false, false, false, false, false, false, false, false, false, false] rfl rfl (any_of HT_.out (by kernel_rfl)) (fun _ _ _ h => h) (Or.inl ⟨by rfl, ?_⟩) ?_ ?_
                                      rotate_left
                                      · intro w'
                                        go_simp
                                        with_reducible rfl
                                      rotate_left
                                      · simp only [Act.put, List.setIfInBounds_toArray, List.set_cons_zero, List.set_cons_succ, i64_w, i32_w]
                                        rfl
                                      refine pure_ (i := 6) (N := some 45) (v := ?_) (a' := ?_) #[true, true, true, false, true, false, true, false, false, false, false, false, false, false, false, false, false] rfl rfl (any_of HT_.out (by kernel_rfl)) (fun _ _ _ h => h) (Or.inl ⟨by rfl, ?_⟩) ?_ ?_
                                      rotate_left
                                      · intro w'
                                        go_simp
                                        with_reducible rfl
                                      rotate_left
                                      · simp only [Act.put, List.setIfInBounds_toArray, List.set_cons_zero, List.set_cons_succ, i64_w, i32_w]
                                        rfl
                                      refine pure_ (i := 7) (N := some 46) (v := ?_) (a' := ?_) #[true, true, true, false, true, false, true, true, false, false, false, false, false, false, false, false, false] rfl rfl (any_of HT_.out (by kernel_rfl)) (fun _ _ _ h => h) (Or.inl ⟨by rfl, ?_⟩) ?_ ?_
                                      rotate_left
                                      · intro w'
                                        go_simp
                                        with_reducible rfl
                                      rotate_left
                                      · simp only [Act.put, List.setIfInBounds_toArray, List.set_cons_zero, List.set_cons_succ, i64_w, i32_w]
                                        rfl
                                      refine pure_ (i := 8) (N := some 47) (v := ?_) (a' := ?_) #[true, true, true, false, true, false, true, true, true, false, false, false, false, false, false, false, false] rfl rfl (any_of HT_.out (by kernel_rfl)) (fun _ _ _ h => h) (Or.inl ⟨by rfl, ?_⟩) ?_ ?_
                                      rotate_left
                                      · intro w'
                                        go_simp
                                        with_reducible rfl
                                      rotate_left
                                      · simp only [Act.put, List.setIfInBounds_toArray, List.set_cons_zero, List.set_cons_succ, i64_w, i32_w]
                                        rfl
                                      refine pure_ (i := 9) (N := some 48) (v := ?_) (a' := ?_) #[true, true, true, false, true, false, true, true, true, true, false, false, false, false, false, false, false] rfl rfl (any_of HT_.out (by kernel_rfl)) (fun _ _ _ h => h) (Or.inl ⟨by rfl, ?_⟩) ?_ ?_
                                      rotate_left
                                      · intro w'
                                        go_simp
                                        with_reducible rfl
                                      rotate_left
                                      · simp only [Act.put, List.setIfInBounds_toArray, List.set_cons_zero, List.set_cons_succ, i64_w, i32_w]
                                        rfl
                                      refine pure_ (i := 11) (N := some 50) (v := ?_) (a' := ?_) #[true, true, true, false, true, false, true, true, true, true, false, true, false, false, false, false, false] rfl rfl (any_of HT_.out (by kernel_rfl)) (fun _ _ _ h => h) (Or.inl ⟨by rfl, ?_⟩) ?_ ?_
                                      rotate_left
                                      · intro w'
                                        go_simp
                                        with_reducible rfl
                                      rotate_left
                                      · simp only [Act.put, List.setIfInBounds_toArray, List.set_cons_zero, List.set_cons_succ, i64_w, i32_w]
                                        rfl
                                      refine take_ (i := 3) (N := some 42) (v := ?_) (a' := ?_) #[true, true, true, true, true, false, true, true, true, true, false, true, false, false, false, false, false] rfl rfl (take_ofW HT_.out HW_.out (by kernel_rfl)) (fun _ _ _ h => h) (Or.inl ⟨by rfl, ?_⟩) hHeld ?_ ?_
                                      rotate_left
                                      · rintro w' ⟨s0, s1, s2, s3, s4, s5, s6, s7, s8, s9, s10, s11, s12, s13, s14, s15, s16, s17, s18, s19, s20, s21⟩
                                        go_simp
                                        with_reducible rfl
                                      rotate_left
                                      · simp only [Act.put, List.setIfInBounds_toArray, List.set_cons_zero, List.set_cons_succ, i64_w, i32_w]
                                        rfl
                                      refine take_ (i := 5) (N := some 44) (v := ?_) (a' := ?_) #[true, true, true, true, true, true, true, true, true, true, false, true, false, false, false, false, false] rfl rfl (take_ofW HT_.out HW_.out (by kernel_rfl)) (fun _ _ _ h => h) (Or.inl ⟨by rfl, ?_⟩) hHeld ?_ ?_
                                      rotate_left
                                      · rintro w' ⟨s0, s1, s2, s3, s4, s5, s6, s7, s8, s9, s10, s11, s12, s13, s14, s15, s16, s17, s18, s19, s20, s21⟩
                                        go_simp
                                        with_reducible rfl
                                      rotate_left
                                      · simp only [Act.put, List.setIfInBounds_toArray, List.set_cons_zero, List.set_cons_succ, i64_w, i32_w]
                                        rfl
                                      refine take_ (i := 10) (N := some 49) (v := ?_) (a' := ?_) #[true, true, true, true, true, true, true, true, true, true, true, true, false, false, false, false, false] rfl rfl (take_ofW HT_.out HW_.out (by kernel_rfl)) (fun _ _ _ h => h) (Or.inl ⟨by rfl, ?_⟩) hHeld ?_ ?_
                                      rotate_left
                                      · rintro w' ⟨s0, s1, s2, s3, s4, s5, s6, s7, s8, s9, s10, s11, s12, s13, s14, s15, s16, s17, s18, s19, s20, s21⟩
                                        go_simp
                                        with_reducible rfl
                                      rotate_left
                                      · simp only [Act.put, List.setIfInBounds_toArray, List.set_cons_zero, List.set_cons_succ, i64_w, i32_w]
                                        rfl
                                      refine pure_ (i := 12) (N := some 51) (v := ?_) (a' := ?_) #[true, true, true, true, true, true, true, true, true, true, true, true, true, false, false, false, false] rfl rfl (any_of HT_.out (by kernel_rfl)) (fun _ _ _ h => h) (Or.inl ⟨by rfl, ?_⟩) ?_ ?_
                                      rotate_left
                                      · intro w'
                                        go_simp
                                        with_reducible rfl
                                      rotate_left
                                      · simp only [Act.put, List.setIfInBounds_toArray, List.set_cons_zero, List.set_cons_succ, i64_w, i32_w]
                                        rfl
                                      refine pure_ (i := 13) (N := some 52) (v := ?_) (a' := ?_) #[true, true, true, true, true, true, true, true, true, true, true, true, true, true, false, false, false] rfl rfl (any_of HT_.out (by kernel_rfl)) (fun _ _ _ h => h) (Or.inl ⟨by rfl, ?_⟩) ?_ ?_
                                      rotate_left
                                      · intro w'
                                        go_simp
                                        with_reducible rfl
                                      rotate_left
                                      · simp only [Act.put, List.setIfInBounds_toArray, List.set_cons_zero, List.set_cons_succ, i64_w, i32_w]
                                        rfl
                                      refine take_ (i := 14) (N := some 53) (v := ?_) (a' := ?_) #[true, true, true, true, true, true, true, true, true, true, true, true, true, true, true, false, false] rfl rfl (take_ofW HT_.out HW_.out (by kernel_rfl)) (fun _ _ _ h => h) (Or.inl ⟨by rfl, ?_⟩) hHeld ?_ ?_
                                      rotate_left
                                      · rintro w' ⟨s0, s1, s2, s3, s4, s5, s6, s7, s8, s9, s10, s11, s12, s13, s14, s15, s16, s17, s18, s19, s20, s21⟩
                                        go_simp
                                        with_reducible rfl
                                      rotate_left
                                      · simp only [Act.put, List.setIfInBounds_toArray, List.set_cons_zero, List.set_cons_succ, i64_w, i32_w]
                                        rfl
                                      refine pure_ (i := 15) (N := some 54) (v := ?_) (a' := ?_) #[true, true, true, true, true, true, true, true, true, true, true, true, true, true, true, true, false] rfl rfl (any_of HT_.out (by kernel_rfl)) (fun _ _ _ h => h) (Or.inl ⟨by rfl, ?_⟩) ?_ ?_
                                      rotate_left
                                      · intro w'
                                        go_simp
                                        with_reducible rfl
                                      rotate_left
                                      · simp only [Act.put, List.setIfInBounds_toArray, List.set_cons_zero, List.set_cons_succ, i64_w, i32_w]
                                        rfl
                                      refine pure_ (i := 16) (N := some 55) (v := ?_) (a' := ?_) #[true, true, true, true, true, true, true, true, true, true, true, true, true, true, true, true, true] rfl rfl (any_of HT_.out (by kernel_rfl)) (fun _ _ _ h => h) (Or.inl ⟨by rfl, ?_⟩) ?_ ?_
                                      rotate_left
                                      · intro w'
                                        go_simp
                                        with_reducible rfl
                                      rotate_left
                                      · simp only [Act.put, List.setIfInBounds_toArray, List.set_cons_zero, List.set_cons_succ, i64_w, i32_w]
                                        rfl
                                      refine done_ (done_of HT_.out (by kernel_rfl)) ?_
                                      try go_wp2
                                      go_roundg k3
                                      case measure => have := HK1.out; have := HK2.out; have := HK3.out; omega
                                      case rel => exact ⟨(x9_3), (wrap64 (x10_3 + 1)), (by first | rfl | (simp; done) | (simp [*]; done)), (by first | rfl | (simp; done) | (simp [*]; done)), H', ⟨by have := HK1.out; have := HK2.out; have := HK3.out; omega⟩, ⟨by (with_reducible repeat (first | apply Kd.V_alloc | apply Kd.V_drewN | apply Kd.V_drew)); exact HO_0.out⟩, ⟨by (with_reducible repeat (first | apply Kd.N_alloc | apply Kd.N_drewN | apply Kd.N_drew)); exact HO_5.out⟩, ⟨by (with_reducible repeat (first | apply Kd.N_alloc | apply Kd.N_drewN | apply Kd.N_drew)); exact HO_202003.out⟩, ⟨by (with_reducible repeat (first | refine blk_drewN ?_ _ | refine blk_drew ?_ | refine blk_alloc ?_ _)); exact BK201.out⟩, ⟨by repeat (first | (with_reducible exact HR202_2.out) | (with_reducible refine Kd.C_alloc ?_ _) | (with_reducible refine Kd.C_drewN ?_ _) | (with_reducible refine Kd.C_drew ?_) | exact HR202_2.out)⟩, ⟨by repeat (first | (with_reducible exact HR202_3.out) | (with_reducible refine Kd.C_alloc ?_ _) | (with_reducible refine Kd.C_drewN ?_ _) | (with_reducible refine Kd.C_drew ?_) | exact HR202_3.out)⟩, ⟨by repeat (first | (with_reducible exact HR202_4.out) | (with_reducible refine Kd.C_alloc ?_ _) | (with_reducible refine Kd.C_drewN ?_ _) | (with_reducible refine Kd.C_drew ?_) | exact HR202_4.out)⟩, ⟨by repeat (first | (with_reducible exact HR202_5.out) | (with_reducible refine Kd.C_alloc ?_ _) | (with_reducible refine Kd.C_drewN ?_ _) | (with_reducible refine Kd.C_drew ?_) | exact HR202_5.out)⟩, ⟨by repeat (first | (with_reducible exact HR202_6.out) | (with_reducible refine Kd.C_alloc ?_ _) | (with_reducible refine Kd.C_drewN ?_ _) | (with_reducible refine Kd.C_drew ?_) | exact HR202_6.out)⟩, ⟨by repeat (first | (with_reducible first | exact HB.out | apply below_alloc | apply pw_below_drewN | apply below_drew1 | refine below_set ?_ GE201.out) | exact HB.out)⟩⟩
                                  · rw [if_neg c15] at H
                                    exact absurd H (by simp)
                                · rw [if_neg c14] at H
                                  exact absurd H (by simp)
                              · rw [if_neg c13] at H
                                exact absurd H (by simp)
                            · rw [if_neg c12] at H
                              exact absurd H (by simp)
                          · rw [if_neg c11] at H
                            exact absurd H (by simp)
                        · rw [if_neg c10] at H
                          have c10b0 : decide (x10_3 < (l1.length : Int)) = false := decide_eq_false c10
                          clear c10
                          by_cases c19 : x9_3 = true
                          · subst c19
                            have H1 : (if 0 ≤ x6_1 then (if x6_1 < (l0.length : Int) then (if 0 ≤ x8_2 then (if x8_2 < (((rd_T61 l0 x6_1).f3).length : Int) then (if x202003_2.length < 1034834473200 then (cosignerlaw03_linked.l1 k3 l0 l1 x5_1 x6_1 (wrap64 (x8_2 + 1)) ((rd_T61 l0 x6_1).f0) false (x202003_2 ++ [(⟨(rd_T65 ((rd_T61 l0 x6_1).f3) x8_2).f0, (rd_T65 ((rd_T61 l0 x6_1).f3) x8_2).f1, (rd_T65 ((rd_T61 l0 x6_1).f3) x8_2).f2, (rd_T65 ((rd_T61 l0 x6_1).f3) x8_2).f3, (rd_T65 ((rd_T61 l0 x6_1).f3) x8_2).f4, (rd_T65 ((rd_T61 l0 x6_1).f3) x8_2).f5⟩ : S65)])) else (none)) else (none)) else (none)) else (none)) else (none)) = some r := by rw [if_pos rfl] at H; exact H
                            clear H
                            have H := H1
                            clear H1
                            by_cases c20 : 0 ≤ x6_1
                            · rw [if_pos c20] at H
                              have c20b0 : decide (0 ≤ x6_1) = true := decide_eq_true c20
                              clear c20
                              by_cases c21 : x6_1 < (l0.length : Int)
                              · rw [if_pos c21] at H
                                have c21b0 : decide (x6_1 < (l0.length : Int)) = true := decide_eq_true c21
                                clear c21
                                by_cases c22 : 0 ≤ x8_2
                                · rw [if_pos c22] at H
                                  have c22b0 : decide (0 ≤ x8_2) = true := decide_eq_true c22
                                  clear c22
                                  by_cases c23 : x8_2 < (((rd_T61 l0 x6_1).f3).length : Int)
                                  · rw [if_pos c23] at H
                                    have c23b0 : decide (x8_2 < (((rd_T61 l0 x6_1).f3).length : Int)) = true := decide_eq_true c23
                                    clear c23
                                    by_cases c24 : x202003_2.length < 1034834473200
                                    · rw [if_pos c24] at H
                                      have LMc24 := Aside0.mk c24
                                      clear c24
                                      obtain ⟨y211, hy211⟩ : ∃ y_ : List (S65), y_ = (x202003_2 ++ [(⟨(rd_T65 ((rd_T61 l0 x6_1).f3) x8_2).f0, (rd_T65 ((rd_T61 l0 x6_1).f3) x8_2).f1, (rd_T65 ((rd_T61 l0 x6_1).f3) x8_2).f2, (rd_T65 ((rd_T61 l0 x6_1).f3) x8_2).f3, (rd_T65 ((rd_T61 l0 x6_1).f3) x8_2).f4, (rd_T65 ((rd_T61 l0 x6_1).f3) x8_2).f5⟩ : S65)]) := ⟨_, rfl⟩
                                      replace H : (cosignerlaw03_linked.l1 k3 l0 l1 x5_1 x6_1 (wrap64 (x8_2 + 1)) ((rd_T61 l0 x6_1).f0) false y211) = some r := by first | (rw [hy211]; with_reducible exact H) | (have H2_ := (Option.bind_some _ _).symm.trans H; rw [hy211]; with_reducible exact H2_) | (have H2_ := (Option.bind_some _ _).symm.trans H; with_reducible exact H2_) | with_reducible exact H | (rw [hy211]; exact H) | exact H
                                      have Ny211 := Aside0.mk hy211
                                      clear hy211
                                      have H' := Aside0.mk H
                                      clear H
                                      try go_wp2
                                      have n0_ := Aside0.mk (Kd.V_drew HO_0.out)
                                      have n1_ := Aside0.mk (Kd.N_drew HO_5.out)
                                      have n2_ := Aside0.mk (Kd.N_drew HO_202003.out)
                                      have n3_ := Aside0.mk (blk_drew BK201.out)
                                      have n4_ := Aside0.mk (Kd.C_drew HR202_2.out)
                                      have n5_ := Aside0.mk (Kd.C_drew HR202_3.out)
                                      have n6_ := Aside0.mk (Kd.C_drew HR202_4.out)
                                      have n7_ := Aside0.mk (Kd.C_drew HR202_5.out)
                                      have n8_ := Aside0.mk (Kd.C_drew HR202_6.out)
                                      have n9_ := Aside0.mk (below_drew1 HB.out)
                                      clear HO_0
                                      clear HO_5
                                      clear HO_202003
                                      clear BK201
                                      clear HR202_2
                                      clear HR202_3
                                      clear HR202_4
                                      clear HR202_5
                                      clear HR202_6
                                      clear HB
                                      have HO_0 := n0_
                                      have HO_5 := n1_
                                      have HO_202003 := n2_
                                      have BK201 := n3_
                                      have HR202_2 := n4_
                                      have HR202_3 := n5_
                                      have HR202_4 := n6_
                                      have HR202_5 := n7_
                                      have HR202_6 := n8_
                                      have HB := n9_
                                      clear n0_ n1_ n2_ n3_ n4_ n5_ n6_ n7_ n8_ n9_
                                      have p209 : 0 ≤ (x6_1 : Int) := of_decide_eq_true (by first | (with_reducible assumption) | assumption)
                                      have q209 : x6_1 < (l0.length : Int) := of_decide_eq_true (by first | (with_reducible assumption) | assumption)
                                      obtain ⟨ad209, A209_2, c209_2, A209_3, c209_3, A209_4, c209_4, A209_5, c209_5, A209_6, c209_6, e209, hx209_0, hx209_1, hx209_2, hx209_3, hx209_4, hx209_5, hx209_6, hl209_2, hi209_2, hl209_3, hi209_3, hl209_4, hi209_4, hl209_5, hi209_5, hl209_6, hi209_6⟩ := at_T61 (Kd.V_reads' HO_0.out).2.2 x6_1 p209 q209
                                      obtain rfl : ad200 = ad209 := (by injection e209)
                                      obtain ⟨ce209, hce209, hMe209, hcc209⟩ := Kd.V_get HO_0.out z61 x6_1 p209 (by first | exact q209 | exact of_decide_eq_true (by first | (with_reducible assumption) | assumption) | (have e_ := (Kd.V_reads' HO_0.out).1; omega))
                                      obtain ⟨ua209_2, uc209_2, ua209_3, uc209_3, ua209_4, uc209_4, ua209_5, uc209_5, ua209_6, uc209_6, rfl, ul209_2, ge209_2, ul209_3, ge209_3, ul209_4, ge209_4, ul209_5, ge209_5, ul209_6, ge209_6⟩ := k61_openF hMe209
                                      have hv209_2 := hcc209 2 _ rfl
                                      rw [add_field _ _ 2 (by omega)] at hv209_2
                                      replace hv209_2 := Option.some.inj (hv209_2.symm.trans hx209_2)
                                      injection hv209_2 with hva_ hvn_ hvc_
                                      rw [hva_] at ge209_2
                                      rw [hvc_] at ul209_2
                                      have HL209_2 := Aside0.mk (show Kd.V k185 185 _ w.heap.size _ _ ((rd_T61 l0 x6_1).f2) from Kd.V_mk ul209_2 ge209_2)
                                      clear hva_ hvn_ hvc_ ge209_2 ul209_2
                                      have hv209_3 := hcc209 3 _ rfl
                                      rw [add_field _ _ 3 (by omega)] at hv209_3
                                      replace hv209_3 := Option.some.inj (hv209_3.symm.trans hx209_3)
                                      injection hv209_3 with hva_ hvn_ hvc_
                                      rw [hva_] at ge209_3
                                      rw [hvc_] at ul209_3
                                      have HL209_3 := Aside0.mk (show Kd.V k65 65 _ w.heap.size _ _ ((rd_T61 l0 x6_1).f3) from Kd.V_mk ul209_3 ge209_3)
                                      clear hva_ hvn_ hvc_ ge209_3 ul209_3
                                      have hv209_4 := hcc209 4 _ rfl
                                      rw [add_field _ _ 4 (by omega)] at hv209_4
                                      replace hv209_4 := Option.some.inj (hv209_4.symm.trans hx209_4)
                                      injection hv209_4 with hva_ hvn_ hvc_
                                      rw [hva_] at ge209_4
                                      rw [hvc_] at ul209_4
                                      have HL209_4 := Aside0.mk (show Kd.V Kd.string 9 _ w.heap.size _ _ ((rd_T61 l0 x6_1).f4) from Kd.V_mk ul209_4 ge209_4)
                                      clear hva_ hvn_ hvc_ ge209_4 ul209_4
                                      have hv209_5 := hcc209 5 _ rfl
                                      rw [add_field _ _ 5 (by omega)] at hv209_5
                                      replace hv209_5 := Option.some.inj (hv209_5.symm.trans hx209_5)
                                      injection hv209_5 with hva_ hvn_ hvc_
                                      rw [hva_] at ge209_5
                                      rw [hvc_] at ul209_5
                                      have HL209_5 := Aside0.mk (show Kd.V k191 191 _ w.heap.size _ _ ((rd_T61 l0 x6_1).f5) from Kd.V_mk ul209_5 ge209_5)
                                      clear hva_ hvn_ hvc_ ge209_5 ul209_5
                                      have hv209_6 := hcc209 6 _ rfl
                                      rw [add_field _ _ 6 (by omega)] at hv209_6
                                      replace hv209_6 := Option.some.inj (hv209_6.symm.trans hx209_6)
                                      injection hv209_6 with hva_ hvn_ hvc_
                                      rw [hva_] at ge209_6
                                      rw [hvc_] at ul209_6
                                      have HL209_6 := Aside0.mk (show Kd.V k196 196 _ w.heap.size _ _ ((rd_T61 l0 x6_1).f6) from Kd.V_mk ul209_6 ge209_6)
                                      clear hva_ hvn_ hvc_ ge209_6 ul209_6
                                      clear hcc209 hce209
                                      have HR209_2 := Aside0.mk hi209_2
                                      have HC209_2 := Aside0.mk hl209_2
                                      clear hi209_2 hl209_2
                                      have HR209_3 := Aside0.mk hi209_3
                                      have HC209_3 := Aside0.mk hl209_3
                                      clear hi209_3 hl209_3
                                      have HR209_4 := Aside0.mk hi209_4
                                      have HC209_4 := Aside0.mk hl209_4
                                      clear hi209_4 hl209_4
                                      have HR209_5 := Aside0.mk hi209_5
                                      have HC209_5 := Aside0.mk hl209_5
                                      clear hi209_5 hl209_5
                                      have HR209_6 := Aside0.mk hi209_6
                                      have HC209_6 := Aside0.mk hl209_6
                                      clear hi209_6 hl209_6
                                      replace p209 := eq_true p209
                                      replace q209 := eq_true q209
                                      have p210 : 0 ≤ (x8_2 : Int) := of_decide_eq_true (by first | (with_reducible assumption) | assumption)
                                      have q210 : x8_2 < (((rd_T61 l0 x6_1).f3).length : Int) := of_decide_eq_true (by first | (with_reducible assumption) | assumption)
                                      obtain ⟨ad210, A210_1, c210_1, A210_2, c210_2, A210_3, c210_3, A210_4, c210_4, A210_5, c210_5, e210, hx210_0, hx210_1, hx210_2, hx210_3, hx210_4, hx210_5, hl210_1, hi210_1, hl210_2, hi210_2, hl210_3, hi210_3, hl210_4, hi210_4, hl210_5, hi210_5⟩ := at_T65 (by repeat (first | (with_reducible exact HR209_3.out) | (with_reducible refine Kd.C_alloc ?_ _) | (with_reducible refine Kd.C_drewN ?_ _) | (with_reducible refine Kd.C_drew ?_) | exact HR209_3.out)) x8_2 p210 q210
                                      cases e210
                                      obtain ⟨ce210, hce210, hMe210, hcc210⟩ := Kd.V_get HL209_3.out z65 x8_2 p210 (by first | exact q210 | exact of_decide_eq_true (by first | (with_reducible assumption) | assumption) | (have e_ := (Kd.V_reads' HL209_3.out).1; omega))
                                      obtain ⟨ua210_1, uc210_1, ua210_2, uc210_2, ua210_3, uc210_3, ua210_4, uc210_4, ua210_5, uc210_5, rfl, ul210_1, ge210_1, ul210_2, ge210_2, ul210_3, ge210_3, ul210_4, ge210_4, ul210_5, ge210_5⟩ := k65_openF hMe210
                                      have hv210_1 := hcc210 1 _ rfl
                                      rw [add_field _ _ 1 (by omega)] at hv210_1
                                      replace hv210_1 := Option.some.inj (hv210_1.symm.trans hx210_1)
                                      injection hv210_1 with hva_ hvn_ hvc_
                                      rw [hva_] at ge210_1
                                      rw [hvc_] at ul210_1
                                      have HL210_1 := Aside0.mk (show Kd.V k188 188 _ w.heap.size _ _ ((rd_T65 ((rd_T61 l0 x6_1).f3) x8_2).f1) from Kd.V_mk ul210_1 ge210_1)
                                      clear hva_ hvn_ hvc_ ge210_1 ul210_1
                                      have hv210_2 := hcc210 2 _ rfl
                                      rw [add_field _ _ 2 (by omega)] at hv210_2
                                      replace hv210_2 := Option.some.inj (hv210_2.symm.trans hx210_2)
                                      injection hv210_2 with hva_ hvn_ hvc_
                                      rw [hva_] at ge210_2
                                      rw [hvc_] at ul210_2
                                      have HL210_2 := Aside0.mk (show Kd.V k198 198 _ w.heap.size _ _ ((rd_T65 ((rd_T61 l0 x6_1).f3) x8_2).f2) from Kd.V_mk ul210_2 ge210_2)
                                      clear hva_ hvn_ hvc_ ge210_2 ul210_2
                                      have hv210_3 := hcc210 3 _ rfl
                                      rw [add_field _ _ 3 (by omega)] at hv210_3
                                      replace hv210_3 := Option.some.inj (hv210_3.symm.trans hx210_3)
                                      injection hv210_3 with hva_ hvn_ hvc_
                                      rw [hva_] at ge210_3
                                      rw [hvc_] at ul210_3
                                      have HL210_3 := Aside0.mk (show Kd.V Kd.string 9 _ w.heap.size _ _ ((rd_T65 ((rd_T61 l0 x6_1).f3) x8_2).f3) from Kd.V_mk ul210_3 ge210_3)
                                      clear hva_ hvn_ hvc_ ge210_3 ul210_3
                                      have hv210_4 := hcc210 4 _ rfl
                                      rw [add_field _ _ 4 (by omega)] at hv210_4
                                      replace hv210_4 := Option.some.inj (hv210_4.symm.trans hx210_4)
                                      injection hv210_4 with hva_ hvn_ hvc_
                                      rw [hva_] at ge210_4
                                      rw [hvc_] at ul210_4
                                      have HL210_4 := Aside0.mk (show Kd.V Kd.string 9 _ w.heap.size _ _ ((rd_T65 ((rd_T61 l0 x6_1).f3) x8_2).f4) from Kd.V_mk ul210_4 ge210_4)
                                      clear hva_ hvn_ hvc_ ge210_4 ul210_4
                                      have hv210_5 := hcc210 5 _ rfl
                                      rw [add_field _ _ 5 (by omega)] at hv210_5
                                      replace hv210_5 := Option.some.inj (hv210_5.symm.trans hx210_5)
                                      injection hv210_5 with hva_ hvn_ hvc_
                                      rw [hva_] at ge210_5
                                      rw [hvc_] at ul210_5
                                      have HL210_5 := Aside0.mk (show Kd.V Kd.string 9 _ w.heap.size _ _ ((rd_T65 ((rd_T61 l0 x6_1).f3) x8_2).f5) from Kd.V_mk ul210_5 ge210_5)
                                      clear hva_ hvn_ hvc_ ge210_5 ul210_5
                                      clear hcc210 hce210
                                      have HR210_1 := Aside0.mk hi210_1
                                      have HC210_1 := Aside0.mk hl210_1
                                      clear hi210_1 hl210_1
                                      have HR210_2 := Aside0.mk hi210_2
                                      have HC210_2 := Aside0.mk hl210_2
                                      clear hi210_2 hl210_2
                                      have HR210_3 := Aside0.mk hi210_3
                                      have HC210_3 := Aside0.mk hl210_3
                                      clear hi210_3 hl210_3
                                      have HR210_4 := Aside0.mk hi210_4
                                      have HC210_4 := Aside0.mk hl210_4
                                      clear hi210_4 hl210_4
                                      have HR210_5 := Aside0.mk hi210_5
                                      have HC210_5 := Aside0.mk hl210_5
                                      clear hi210_5 hl210_5
                                      replace p210 := eq_true p210
                                      replace q210 := eq_true q210
                                      refine start_ (n := 14) (S := fun w' => w'.cell? ⟨gb201, 0, none⟩ = some (.string ((rd_T61 l0 x6_1).f0)) ∧ w'.cell? ⟨gb201, 1, none⟩ = some (.bool false) ∧ w'.cell? ⟨gb201, 2, none⟩ = some (.slice none 0 0) ∧ w'.cell? ⟨gb201, 3, none⟩ = some (u202003) ∧ w'.cell? ⟨gb201, 4, none⟩ = some (.slice none 0 0) ∧ w'.cell? ⟨gb201, 5, none⟩ = some (.slice none 0 0) ∧ w'.cell? ⟨gb201, 6, none⟩ = some (.slice none 0 0) ∧ w'.cell? (ad200.add ((x6_1).toNat * 7)) = some (.string ((rd_T61 l0 x6_1).f0)) ∧ w'.cell? ⟨(ad200.add ((x6_1).toNat * 7)).block, (ad200.add ((x6_1).toNat * 7)).off + 1, none⟩ = some (.bool ((rd_T61 l0 x6_1).f1)) ∧ w'.cell? ⟨(ad200.add ((x6_1).toNat * 7)).block, (ad200.add ((x6_1).toNat * 7)).off + 2, none⟩ = some (.slice A209_2 ((rd_T61 l0 x6_1).f2).length c209_2) ∧ w'.cell? ⟨(ad200.add ((x6_1).toNat * 7)).block, (ad200.add ((x6_1).toNat * 7)).off + 3, none⟩ = some (.slice (some ad210) ((rd_T61 l0 x6_1).f3).length c209_3) ∧ w'.cell? ⟨(ad200.add ((x6_1).toNat * 7)).block, (ad200.add ((x6_1).toNat * 7)).off + 4, none⟩ = some (.slice A209_4 ((rd_T61 l0 x6_1).f4).length c209_4) ∧ w'.cell? ⟨(ad200.add ((x6_1).toNat * 7)).block, (ad200.add ((x6_1).toNat * 7)).off + 5, none⟩ = some (.slice A209_5 ((rd_T61 l0 x6_1).f5).length c209_5) ∧ w'.cell? ⟨(ad200.add ((x6_1).toNat * 7)).block, (ad200.add ((x6_1).toNat * 7)).off + 6, none⟩ = some (.slice A209_6 ((rd_T61 l0 x6_1).f6).length c209_6) ∧ w'.cell? (ad210.add ((x8_2).toNat * 6)) = some (.string ((rd_T65 ((rd_T61 l0 x6_1).f3) x8_2).f0)) ∧ w'.cell? ⟨(ad210.add ((x8_2).toNat * 6)).block, (ad210.add ((x8_2).toNat * 6)).off + 1, none⟩ = some (.slice A210_1 ((rd_T65 ((rd_T61 l0 x6_1).f3) x8_2).f1).length c210_1) ∧ w'.cell? ⟨(ad210.add ((x8_2).toNat * 6)).block, (ad210.add ((x8_2).toNat * 6)).off + 2, none⟩ = some (.slice A210_2 ((rd_T65 ((rd_T61 l0 x6_1).f3) x8_2).f2).length c210_2) ∧ w'.cell? ⟨(ad210.add ((x8_2).toNat * 6)).block, (ad210.add ((x8_2).toNat * 6)).off + 3, none⟩ = some (.slice A210_3 ((rd_T65 ((rd_T61 l0 x6_1).f3) x8_2).f3).length c210_3) ∧ w'.cell? ⟨(ad210.add ((x8_2).toNat * 6)).block, (ad210.add ((x8_2).toNat * 6)).off + 4, none⟩ = some (.slice A210_4 ((rd_T65 ((rd_T61 l0 x6_1).f3) x8_2).f4).length c210_4) ∧ w'.cell? ⟨(ad210.add ((x8_2).toNat * 6)).block, (ad210.add ((x8_2).toNat * 6)).off + 5, none⟩ = some (.slice A210_5 ((rd_T65 ((rd_T61 l0 x6_1).f3) x8_2).f5).length c210_5)) (ds := [11, 13]) #[false, false, false, false, false, false, false, false, false, false, false, false, false, false] (by kernel_rfl) rfl rfl ⟨(blk_cell BK201.out 0).trans rfl, (blk_cell BK201.out 1).trans rfl, (blk_cell BK201.out 2).trans rfl, (blk_cell BK201.out 3).trans rfl, (blk_cell BK201.out 4).trans rfl, (blk_cell BK201.out 5).trans rfl, (blk_cell BK201.out 6).trans rfl, hx209_0, hx209_1, hx209_2, hx209_3, hx209_4, hx209_5, hx209_6, hx210_0, hx210_1, hx210_2, hx210_3, hx210_4, hx210_5⟩ (fun hHeld => ?_); refine with_tabW cosignerlaw03_linked.tab16 cosignerlaw03_linked.bits16 (fun HT_ HW_ => ?_)
                                      generalize wr.drew = w25 at HO_0 HO_5 HO_202003 BK201 HR202_2 HR202_3 HR202_4 HR202_5 HR202_6 HB HL209_2 HL209_3 HL209_4 HL209_5 HL209_6 HL210_1 HL210_2 HL210_3 HL210_4 HL210_5 HR209_2 HR209_3 HR209_4 HR209_5 HR209_6 HR210_1 HR210_2 HR210_3 HR210_4 HR210_5 hx209_0 hx209_1 hx209_2 hx209_3 hx209_4 hx209_5 hx209_6 hx210_0 hx210_1 hx210_2 hx210_3 hx210_4 hx210_5 hHeld ⊢
                                      refine pure_ (i := 0) (N := some 57) (v := ?_) (a' := ?_) #[true, false, false, false, false, false, false, false, false, false, false, false, false, false] rfl rfl (any_of HT_.out (by kernel_rfl)) (fun _ _ _ h => h) (Or.inl ⟨by rfl, ?_⟩) ?_ ?_
                                      rotate_left
                                      · intro w'
                                        go_simp
                                        with_reducible rfl
                                      rotate_left
                                      · simp only [Act.put, List.setIfInBounds_toArray, List.set_cons_zero, List.set_cons_succ, i64_w, i32_w]
                                        rfl
                                      refine pure_ (i := 2) (N := some 59) (v := ?_) (a' := ?_) #[true, false, true, false, false, false, false, false, false, false, false, false, false, false] rfl rfl (any_of HT_.out (by kernel_rfl)) (fun _ _ _ h => h) (Or.inl ⟨by rfl, ?_⟩) ?_ ?_
                                      rotate_left
                                      · intro w'
                                        go_simp
                                        with_reducible rfl
                                      rotate_left
                                      · simp only [Act.put, List.setIfInBounds_toArray, List.set_cons_zero, List.set_cons_succ, i64_w, i32_w]
                                        rfl
                                      refine pure_ (i := 3) (N := some 60) (v := ?_) (a' := ?_) #[true, false, true, true, false, false, false, false, false, false, false, false, false, false] rfl rfl (any_of HT_.out (by kernel_rfl)) (fun _ _ _ h => h) (Or.inl ⟨by rfl, ?_⟩) ?_ ?_
                                      rotate_left
                                      · intro w'
                                        go_simp
                                        with_reducible rfl
                                      rotate_left
                                      · simp only [Act.put, List.setIfInBounds_toArray, List.set_cons_zero, List.set_cons_succ, i64_w, i32_w]
                                        rfl
                                      refine pure_ (i := 4) (N := some 61) (v := ?_) (a' := ?_) #[true, false, true, true, true, false, false, false, false, false, false, false, false, false] rfl rfl (any_of HT_.out (by kernel_rfl)) (fun _ _ _ h => h) (Or.inl ⟨by rfl, ?_⟩) ?_ ?_
                                      rotate_left
                                      · intro w'
                                        go_simp
                                        with_reducible rfl
                                      rotate_left
                                      · simp only [Act.put, List.setIfInBounds_toArray, List.set_cons_zero, List.set_cons_succ, i64_w, i32_w]
                                        rfl
                                      refine pure_ (i := 5) (N := some 62) (v := ?_) (a' := ?_) #[true, false, true, true, true, true, false, false, false, false, false, false, false, false] rfl rfl (any_of HT_.out (by kernel_rfl)) (fun _ _ _ h => h) (Or.inl ⟨by rfl, ?_⟩) ?_ ?_
                                      rotate_left
                                      · intro w'
                                        go_simp
                                        with_reducible rfl
                                      rotate_left
                                      · simp only [Act.put, List.setIfInBounds_toArray, List.set_cons_zero, List.set_cons_succ, i64_w, i32_w]
                                        rfl
                                      refine pure_ (i := 7) (N := some 64) (v := ?_) (a' := ?_) #[true, false, true, true, true, true, false, true, false, false, false, false, false, false] rfl rfl (any_of HT_.out (by kernel_rfl)) (fun _ _ _ h => h) (Or.inl ⟨by rfl, ?_⟩) ?_ ?_
                                      rotate_left
                                      · intro w'
                                        go_simp
                                        with_reducible rfl
                                      rotate_left
                                      · simp only [Act.put, List.setIfInBounds_toArray, List.set_cons_zero, List.set_cons_succ, i64_w, i32_w]
                                        rfl
                                      refine take_ (i := 1) (N := some 58) (v := ?_) (a' := ?_) #[true, true, true, true, true, true, false, true, false, false, false, false, false, false] rfl rfl (take_ofW HT_.out HW_.out (by kernel_rfl)) (fun _ _ _ h => h) (Or.inl ⟨by rfl, ?_⟩) hHeld ?_ ?_
                                      rotate_left
                                      · rintro w' ⟨s0, s1, s2, s3, s4, s5, s6, s7, s8, s9, s10, s11, s12, s13, s14, s15, s16, s17, s18, s19⟩
                                        go_simp
                                        with_reducible rfl
                                      rotate_left
                                      · simp only [Act.put, List.setIfInBounds_toArray, List.set_cons_zero, List.set_cons_succ, i64_w, i32_w]
                                        rfl
                                      refine take_ (i := 6) (N := some 63) (v := ?_) (a' := ?_) #[true, true, true, true, true, true, true, true, false, false, false, false, false, false] rfl rfl (take_ofW HT_.out HW_.out (by kernel_rfl)) (fun _ _ _ h => h) (Or.inl ⟨by rfl, ?_⟩) hHeld ?_ ?_
                                      rotate_left
                                      · rintro w' ⟨s0, s1, s2, s3, s4, s5, s6, s7, s8, s9, s10, s11, s12, s13, s14, s15, s16, s17, s18, s19⟩
                                        go_simp
                                        with_reducible rfl
                                      rotate_left
                                      · simp only [Act.put, List.setIfInBounds_toArray, List.set_cons_zero, List.set_cons_succ, i64_w, i32_w]
                                        rfl
                                      refine pure_ (i := 8) (N := some 65) (v := ?_) (a' := ?_) #[true, true, true, true, true, true, true, true, true, false, false, false, false, false] rfl rfl (any_of HT_.out (by kernel_rfl)) (fun _ _ _ h => h) (Or.inl ⟨by rfl, ?_⟩) ?_ ?_
                                      rotate_left
                                      · intro w'
                                        go_simp
                                        with_reducible rfl
                                      rotate_left
                                      · simp only [Act.put, List.setIfInBounds_toArray, List.set_cons_zero, List.set_cons_succ, i64_w, i32_w]
                                        rfl
                                      refine take_ (i := 9) (N := some 66) (v := ?_) (a' := ?_) #[true, true, true, true, true, true, true, true, true, true, false, false, false, false] rfl rfl (take_ofW HT_.out HW_.out (by kernel_rfl)) (fun _ _ _ h => h) (Or.inl ⟨by rfl, ?_⟩) hHeld ?_ ?_
                                      rotate_left
                                      · rintro w' ⟨s0, s1, s2, s3, s4, s5, s6, s7, s8, s9, s10, s11, s12, s13, s14, s15, s16, s17, s18, s19⟩
                                        go_simp
                                        with_reducible rfl
                                      rotate_left
                                      · simp only [Act.put, List.setIfInBounds_toArray, List.set_cons_zero, List.set_cons_succ, i64_w, i32_w]
                                        rfl
                                      refine one_ (i := 10) (N := some 67) #[true, true, true, true, true, true, true, true, true, true, true, false, false, false] rfl rfl (one_of HT_.out (by kernel_rfl)) (by decide) (fun K hK => ?_)
                                      refine value_ (w1 := ?_) (v := ?_) (by rfl) rfl ?_ ?_
                                      rotate_left 2
                                      · go_simp
                                        constructor
                                        · rfl
                                        · rfl
                                      refine hK.out _ _ ⟨(blk_cell (blk_alloc BK201.out _) 0).trans rfl, (blk_cell (blk_alloc BK201.out _) 1).trans rfl, (blk_cell (blk_alloc BK201.out _) 2).trans rfl, (blk_cell (blk_alloc BK201.out _) 3).trans rfl, (blk_cell (blk_alloc BK201.out _) 4).trans rfl, (blk_cell (blk_alloc BK201.out _) 5).trans rfl, (blk_cell (blk_alloc BK201.out _) 6).trans rfl, (World.cell?_alloc_lt _ _ _ (World.block_lt_of_cell? _ _ (hHeld.2.2.2.2.2.2.2.1))).trans (hHeld.2.2.2.2.2.2.2.1), (World.cell?_alloc_lt _ _ _ (World.block_lt_of_cell? _ _ (hHeld.2.2.2.2.2.2.2.2.1))).trans (hHeld.2.2.2.2.2.2.2.2.1), (World.cell?_alloc_lt _ _ _ (World.block_lt_of_cell? _ _ (hHeld.2.2.2.2.2.2.2.2.2.1))).trans (hHeld.2.2.2.2.2.2.2.2.2.1), (World.cell?_alloc_lt _ _ _ (World.block_lt_of_cell? _ _ (hHeld.2.2.2.2.2.2.2.2.2.2.1))).trans (hHeld.2.2.2.2.2.2.2.2.2.2.1), (World.cell?_alloc_lt _ _ _ (World.block_lt_of_cell? _ _ (hHeld.2.2.2.2.2.2.2.2.2.2.2.1))).trans (hHeld.2.2.2.2.2.2.2.2.2.2.2.1), (World.cell?_alloc_lt _ _ _ (World.block_lt_of_cell? _ _ (hHeld.2.2.2.2.2.2.2.2.2.2.2.2.1))).trans (hHeld.2.2.2.2.2.2.2.2.2.2.2.2.1), (World.cell?_alloc_lt _ _ _ (World.block_lt_of_cell? _ _ (hHeld.2.2.2.2.2.2.2.2.2.2.2.2.2.1))).trans (hHeld.2.2.2.2.2.2.2.2.2.2.2.2.2.1), (World.cell?_alloc_lt _ _ _ (World.block_lt_of_cell? _ _ (hHeld.2.2.2.2.2.2.2.2.2.2.2.2.2.2.1))).trans (hHeld.2.2.2.2.2.2.2.2.2.2.2.2.2.2.1), (World.cell?_alloc_lt _ _ _ (World.block_lt_of_cell? _ _ (hHeld.2.2.2.2.2.2.2.2.2.2.2.2.2.2.2.1))).trans (hHeld.2.2.2.2.2.2.2.2.2.2.2.2.2.2.2.1), (World.cell?_alloc_lt _ _ _ (World.block_lt_of_cell? _ _ (hHeld.2.2.2.2.2.2.2.2.2.2.2.2.2.2.2.2.1))).trans (hHeld.2.2.2.2.2.2.2.2.2.2.2.2.2.2.2.2.1), (World.cell?_alloc_lt _ _ _ (World.block_lt_of_cell? _ _ (hHeld.2.2.2.2.2.2.2.2.2.2.2.2.2.2.2.2.2.1))).trans (hHeld.2.2.2.2.2.2.2.2.2.2.2.2.2.2.2.2.2.1), (World.cell?_alloc_lt _ _ _ (World.block_lt_of_cell? _ _ (hHeld.2.2.2.2.2.2.2.2.2.2.2.2.2.2.2.2.2.2.1))).trans (hHeld.2.2.2.2.2.2.2.2.2.2.2.2.2.2.2.2.2.2.1), (World.cell?_alloc_lt _ _ _ (World.block_lt_of_cell? _ _ (hHeld.2.2.2.2.2.2.2.2.2.2.2.2.2.2.2.2.2.2.2))).trans (hHeld.2.2.2.2.2.2.2.2.2.2.2.2.2.2.2.2.2.2.2)⟩ (fun hHeld => ?_)
                                      clear hK K
                                      refine norm_ (a' := ?_) ?_ ?_
                                      rotate_left
                                      · show Act.put _ (some 67) _ = _
                                        simp only [Act.put, List.setIfInBounds_toArray, List.set_cons_zero, List.set_cons_succ, i64_w, i32_w]
                                        rfl
                                      refine last_ (i := 11) (N := some 68) #[true, true, true, true, true, true, true, true, true, true, true, true, false, false] rfl rfl (one_of HT_.out (by kernel_rfl)) (by decide) (fun K hK => ?_)
                                      refine Kd.N_append_step k65 (w0 := w) w.heap.size (by rfl) (.tmp 58) (.tmp 67) 57 65 (.agg #[(.string ⟨#[]⟩), (.slice none 0 0), (.slice none 0 0), (.slice none 0 0), (.slice none 0 0), (.slice none 0 0)]) 136 rfl Try.underlying57 info65 rfl (by decide) (by omega) u202003 x202003_2 (⟨(rd_T65 ((rd_T61 l0 x6_1).f3) x8_2).f0, (rd_T65 ((rd_T61 l0 x6_1).f3) x8_2).f1, (rd_T65 ((rd_T61 l0 x6_1).f3) x8_2).f2, (rd_T65 ((rd_T61 l0 x6_1).f3) x8_2).f3, (rd_T65 ((rd_T61 l0 x6_1).f3) x8_2).f4, (rd_T65 ((rd_T61 l0 x6_1).f3) x8_2).f5⟩ : S65) [.string ((rd_T65 ((rd_T61 l0 x6_1).f3) x8_2).f0), .slice A210_1 ((rd_T65 ((rd_T61 l0 x6_1).f3) x8_2).f1).length c210_1, .slice A210_2 ((rd_T65 ((rd_T61 l0 x6_1).f3) x8_2).f2).length c210_2, .slice A210_3 ((rd_T65 ((rd_T61 l0 x6_1).f3) x8_2).f3).length c210_3, .slice A210_4 ((rd_T65 ((rd_T61 l0 x6_1).f3) x8_2).f4).length c210_4, .slice A210_5 ((rd_T65 ((rd_T61 l0 x6_1).f3) x8_2).f5).length c210_5] (fun k_ => (P0_ k_ ∨ w.heap.size ≤ k_) ∧ some k_ ≠ (u5 : Value).ownBlock ∧ k_ ≠ gb201) (fun k_ => ((fun k_ => (P0_ k_ ∨ w.heap.size ≤ k_) ∧ some k_ ≠ (u5 : Value).ownBlock ∧ k_ ≠ gb201)) k_ ∧ some k_ ≠ (u202003 : Value).ownBlock) rfl rfl ?aP (fun _ hk => hk) ?aF ?aO ?aB ?aS ?aL ?_
                                      (case aP => exact (k65_mkF _ _ (⟨(rd_T65 ((rd_T61 l0 x6_1).f3) x8_2).f0, (rd_T65 ((rd_T61 l0 x6_1).f3) x8_2).f1, (rd_T65 ((rd_T61 l0 x6_1).f3) x8_2).f2, (rd_T65 ((rd_T61 l0 x6_1).f3) x8_2).f3, (rd_T65 ((rd_T61 l0 x6_1).f3) x8_2).f4, (rd_T65 ((rd_T61 l0 x6_1).f3) x8_2).f5⟩ : S65) (Kd.V_reads' (Kd.V_mono (ok' := (fun k_ => ((fun k_ => (P0_ k_ ∨ w.heap.size ≤ k_) ∧ some k_ ≠ (u5 : Value).ownBlock ∧ k_ ≠ gb201)) k_ ∧ some k_ ≠ (u202003 : Value).ownBlock)) (HL210_1.out) (fun k_ hk => ⟨⟨hk.1, ⟨hk.2.1, hk.2.2.2⟩⟩, hk.2.2.1⟩))).2.1 (Kd.V_F (Kd.V_mono (ok' := (fun k_ => ((fun k_ => (P0_ k_ ∨ w.heap.size ≤ k_) ∧ some k_ ≠ (u5 : Value).ownBlock ∧ k_ ≠ gb201)) k_ ∧ some k_ ≠ (u202003 : Value).ownBlock)) (HL210_1.out) (fun k_ hk => ⟨⟨hk.1, ⟨hk.2.1, hk.2.2.2⟩⟩, hk.2.2.1⟩))) (Kd.V_reads' (Kd.V_mono (ok' := (fun k_ => ((fun k_ => (P0_ k_ ∨ w.heap.size ≤ k_) ∧ some k_ ≠ (u5 : Value).ownBlock ∧ k_ ≠ gb201)) k_ ∧ some k_ ≠ (u202003 : Value).ownBlock)) (HL210_2.out) (fun k_ hk => ⟨⟨hk.1, ⟨hk.2.1, hk.2.2.2⟩⟩, hk.2.2.1⟩))).2.1 (Kd.V_F (Kd.V_mono (ok' := (fun k_ => ((fun k_ => (P0_ k_ ∨ w.heap.size ≤ k_) ∧ some k_ ≠ (u5 : Value).ownBlock ∧ k_ ≠ gb201)) k_ ∧ some k_ ≠ (u202003 : Value).ownBlock)) (HL210_2.out) (fun k_ hk => ⟨⟨hk.1, ⟨hk.2.1, hk.2.2.2⟩⟩, hk.2.2.1⟩))) (Kd.V_reads' (Kd.V_mono (ok' := (fun k_ => ((fun k_ => (P0_ k_ ∨ w.heap.size ≤ k_) ∧ some k_ ≠ (u5 : Value).ownBlock ∧ k_ ≠ gb201)) k_ ∧ some k_ ≠ (u202003 : Value).ownBlock)) (HL210_3.out) (fun k_ hk => ⟨⟨hk.1, ⟨hk.2.1, hk.2.2.2⟩⟩, hk.2.2.1⟩))).2.1 (Kd.V_F (Kd.V_mono (ok' := (fun k_ => ((fun k_ => (P0_ k_ ∨ w.heap.size ≤ k_) ∧ some k_ ≠ (u5 : Value).ownBlock ∧ k_ ≠ gb201)) k_ ∧ some k_ ≠ (u202003 : Value).ownBlock)) (HL210_3.out) (fun k_ hk => ⟨⟨hk.1, ⟨hk.2.1, hk.2.2.2⟩⟩, hk.2.2.1⟩))) (Kd.V_reads' (Kd.V_mono (ok' := (fun k_ => ((fun k_ => (P0_ k_ ∨ w.heap.size ≤ k_) ∧ some k_ ≠ (u5 : Value).ownBlock ∧ k_ ≠ gb201)) k_ ∧ some k_ ≠ (u202003 : Value).ownBlock)) (HL210_4.out) (fun k_ hk => ⟨⟨hk.1, ⟨hk.2.1, hk.2.2.2⟩⟩, hk.2.2.1⟩))).2.1 (Kd.V_F (Kd.V_mono (ok' := (fun k_ => ((fun k_ => (P0_ k_ ∨ w.heap.size ≤ k_) ∧ some k_ ≠ (u5 : Value).ownBlock ∧ k_ ≠ gb201)) k_ ∧ some k_ ≠ (u202003 : Value).ownBlock)) (HL210_4.out) (fun k_ hk => ⟨⟨hk.1, ⟨hk.2.1, hk.2.2.2⟩⟩, hk.2.2.1⟩))) (Kd.V_reads' (Kd.V_mono (ok' := (fun k_ => ((fun k_ => (P0_ k_ ∨ w.heap.size ≤ k_) ∧ some k_ ≠ (u5 : Value).ownBlock ∧ k_ ≠ gb201)) k_ ∧ some k_ ≠ (u202003 : Value).ownBlock)) (HL210_5.out) (fun k_ hk => ⟨⟨hk.1, ⟨hk.2.1, hk.2.2.2⟩⟩, hk.2.2.1⟩))).2.1 (Kd.V_F (Kd.V_mono (ok' := (fun k_ => ((fun k_ => (P0_ k_ ∨ w.heap.size ≤ k_) ∧ some k_ ≠ (u5 : Value).ownBlock ∧ k_ ≠ gb201)) k_ ∧ some k_ ≠ (u202003 : Value).ownBlock)) (HL210_5.out) (fun k_ hk => ⟨⟨hk.1, ⟨hk.2.1, hk.2.2.2⟩⟩, hk.2.2.1⟩)))))
                                      (case aB => exact (by repeat (first | (with_reducible first | exact HB.out | apply below_alloc | apply pw_below_drewN | apply below_drew1 | refine below_set ?_ GE201.out) | exact HB.out)))
                                      (case aF => exact (fun k_ hk => ⟨(.inr (Nat.le_trans (below_size (by repeat (first | (with_reducible first | exact HB.out | apply below_alloc | apply pw_below_drewN | apply below_drew1 | refine below_set ?_ GE201.out) | exact HB.out))) hk)), Kd.fresh' (Kd.N_lt (by (with_reducible repeat (first | apply Kd.N_alloc | apply Kd.N_drewN | apply Kd.N_drew)); exact HO_5.out)) k_ hk, Kd.freshB (g := gb201) (o := .cells #[.string ((rd_T61 l0 x6_1).f0), .bool false, .slice none 0 0, u202003, .slice none 0 0, .slice none 0 0, .slice none 0 0] 61 (0, 0)) (by (with_reducible repeat (first | refine blk_drewN ?_ _ | refine blk_drew ?_ | refine blk_alloc ?_ _)); exact BK201.out) k_ hk⟩))
                                      (case aO => exact (by (with_reducible repeat (first | apply Kd.N_alloc | apply Kd.N_drewN | apply Kd.N_drew)); exact HO_202003.out))
                                      (case aS => exact (below_size (by repeat (first | (with_reducible first | exact HB.out | apply below_alloc | apply pw_below_drewN | apply below_drew1 | refine below_set ?_ GE201.out) | exact HB.out))))
                                      (case aL => have := LMc24.out; omega)
                                      intro v212 w26 ho hb hg hat
                                      rw [← Ny211.out] at ho
                                      have n0_ := Aside0.mk (Kd.V_afterv (ok := (fun k_ => (P0_ k_ ∨ w.heap.size ≤ k_) ∧ some k_ ≠ (u5 : Value).ownBlock ∧ k_ ≠ gb201)) (by (with_reducible repeat (first | apply Kd.V_alloc | apply Kd.V_drewN | apply Kd.V_drew)); exact Kd.V_mono HO_0.out (fun _ hk => ⟨⟨hk.1, ⟨hk.2.1, hk.2.2.2⟩⟩, hk.2.2.1⟩)) hg hat)
                                      have n1_ := Aside0.mk (Kd.N_afterv (ok := (fun k_ => (P0_ k_ ∨ w.heap.size ≤ k_) ∧ k_ ≠ gb201)) (by (with_reducible repeat (first | apply Kd.N_alloc | apply Kd.N_drewN | apply Kd.N_drew)); exact Kd.N_mono HO_5.out (fun _ hk => ⟨⟨hk.1, hk.2.2⟩, hk.2.1⟩)) hg hat)
                                      have n2_ := Aside0.mk (blk_grown (g := gb201) (o := .cells #[.string ((rd_T61 l0 x6_1).f0), .bool false, .slice none 0 0, u202003, .slice none 0 0, .slice none 0 0, .slice none 0 0] 61 (0, 0)) (by (with_reducible repeat (first | refine blk_drewN ?_ _ | refine blk_drew ?_ | refine blk_alloc ?_ _)); exact BK201.out) hg (Kd.N_ne HO_202003.out BK201.out (by decide)))
                                      have n3_ := Aside0.mk (Kd.V_afterv (ok := (fun k_ => (P0_ k_ ∨ w.heap.size ≤ k_) ∧ some k_ ≠ (u5 : Value).ownBlock ∧ k_ ≠ gb201)) (by (with_reducible repeat (first | apply Kd.V_alloc | apply Kd.V_drewN | apply Kd.V_drew)); exact Kd.V_mono HL209_2.out (fun _ hk => ⟨⟨hk.1, ⟨hk.2.1, hk.2.2.2⟩⟩, hk.2.2.1⟩)) hg hat)
                                      have n4_ := Aside0.mk (Kd.V_afterv (ok := (fun k_ => (P0_ k_ ∨ w.heap.size ≤ k_) ∧ some k_ ≠ (u5 : Value).ownBlock ∧ k_ ≠ gb201)) (by (with_reducible repeat (first | apply Kd.V_alloc | apply Kd.V_drewN | apply Kd.V_drew)); exact Kd.V_mono HL209_3.out (fun _ hk => ⟨⟨hk.1, ⟨hk.2.1, hk.2.2.2⟩⟩, hk.2.2.1⟩)) hg hat)
                                      have n5_ := Aside0.mk (Kd.V_afterv (ok := (fun k_ => (P0_ k_ ∨ w.heap.size ≤ k_) ∧ some k_ ≠ (u5 : Value).ownBlock ∧ k_ ≠ gb201)) (by (with_reducible repeat (first | apply Kd.V_alloc | apply Kd.V_drewN | apply Kd.V_drew)); exact Kd.V_mono HL209_4.out (fun _ hk => ⟨⟨hk.1, ⟨hk.2.1, hk.2.2.2⟩⟩, hk.2.2.1⟩)) hg hat)
                                      have n6_ := Aside0.mk (Kd.V_afterv (ok := (fun k_ => (P0_ k_ ∨ w.heap.size ≤ k_) ∧ some k_ ≠ (u5 : Value).ownBlock ∧ k_ ≠ gb201)) (by (with_reducible repeat (first | apply Kd.V_alloc | apply Kd.V_drewN | apply Kd.V_drew)); exact Kd.V_mono HL209_5.out (fun _ hk => ⟨⟨hk.1, ⟨hk.2.1, hk.2.2.2⟩⟩, hk.2.2.1⟩)) hg hat)
                                      have n7_ := Aside0.mk (Kd.V_afterv (ok := (fun k_ => (P0_ k_ ∨ w.heap.size ≤ k_) ∧ some k_ ≠ (u5 : Value).ownBlock ∧ k_ ≠ gb201)) (by (with_reducible repeat (first | apply Kd.V_alloc | apply Kd.V_drewN | apply Kd.V_drew)); exact Kd.V_mono HL209_6.out (fun _ hk => ⟨⟨hk.1, ⟨hk.2.1, hk.2.2.2⟩⟩, hk.2.2.1⟩)) hg hat)
                                      have n8_ := Aside0.mk (Kd.V_afterv (ok := (fun k_ => (P0_ k_ ∨ w.heap.size ≤ k_) ∧ some k_ ≠ (u5 : Value).ownBlock ∧ k_ ≠ gb201)) (by (with_reducible repeat (first | apply Kd.V_alloc | apply Kd.V_drewN | apply Kd.V_drew)); exact Kd.V_mono HL210_1.out (fun _ hk => ⟨⟨hk.1, ⟨hk.2.1, hk.2.2.2⟩⟩, hk.2.2.1⟩)) hg hat)
                                      have n9_ := Aside0.mk (Kd.V_afterv (ok := (fun k_ => (P0_ k_ ∨ w.heap.size ≤ k_) ∧ some k_ ≠ (u5 : Value).ownBlock ∧ k_ ≠ gb201)) (by (with_reducible repeat (first | apply Kd.V_alloc | apply Kd.V_drewN | apply Kd.V_drew)); exact Kd.V_mono HL210_2.out (fun _ hk => ⟨⟨hk.1, ⟨hk.2.1, hk.2.2.2⟩⟩, hk.2.2.1⟩)) hg hat)
                                      have n10_ := Aside0.mk (Kd.V_afterv (ok := (fun k_ => (P0_ k_ ∨ w.heap.size ≤ k_) ∧ some k_ ≠ (u5 : Value).ownBlock ∧ k_ ≠ gb201)) (by (with_reducible repeat (first | apply Kd.V_alloc | apply Kd.V_drewN | apply Kd.V_drew)); exact Kd.V_mono HL210_3.out (fun _ hk => ⟨⟨hk.1, ⟨hk.2.1, hk.2.2.2⟩⟩, hk.2.2.1⟩)) hg hat)
                                      have n11_ := Aside0.mk (Kd.V_afterv (ok := (fun k_ => (P0_ k_ ∨ w.heap.size ≤ k_) ∧ some k_ ≠ (u5 : Value).ownBlock ∧ k_ ≠ gb201)) (by (with_reducible repeat (first | apply Kd.V_alloc | apply Kd.V_drewN | apply Kd.V_drew)); exact Kd.V_mono HL210_4.out (fun _ hk => ⟨⟨hk.1, ⟨hk.2.1, hk.2.2.2⟩⟩, hk.2.2.1⟩)) hg hat)
                                      have n12_ := Aside0.mk (Kd.V_afterv (ok := (fun k_ => (P0_ k_ ∨ w.heap.size ≤ k_) ∧ some k_ ≠ (u5 : Value).ownBlock ∧ k_ ≠ gb201)) (by (with_reducible repeat (first | apply Kd.V_alloc | apply Kd.V_drewN | apply Kd.V_drew)); exact Kd.V_mono HL210_5.out (fun _ hk => ⟨⟨hk.1, ⟨hk.2.1, hk.2.2.2⟩⟩, hk.2.2.1⟩)) hg hat)
                                      have n13_ := Aside0.mk (hb)
                                      have n14_ := Aside0.mk (ho)
                                      clear HO_0
                                      clear HO_5
                                      clear BK201
                                      clear HL209_2
                                      clear HL209_3
                                      clear HL209_4
                                      clear HL209_5
                                      clear HL209_6
                                      clear HL210_1
                                      clear HL210_2
                                      clear HL210_3
                                      clear HL210_4
                                      clear HL210_5
                                      clear HB
                                      clear HO_202003
                                      have HO_0 := n0_
                                      have HO_5 := n1_
                                      have BK201 := n2_
                                      have HL209_2 := n3_
                                      have HL209_3 := n4_
                                      have HL209_4 := n5_
                                      have HL209_5 := n6_
                                      have HL209_6 := n7_
                                      have HL210_1 := n8_
                                      have HL210_2 := n9_
                                      have HL210_3 := n10_
                                      have HL210_4 := n11_
                                      have HL210_5 := n12_
                                      have HB := n13_
                                      have HO213 := n14_
                                      clear n0_ n1_ n2_ n3_ n4_ n5_ n6_ n7_ n8_ n9_ n10_ n11_ n12_ n13_ n14_
                                      clear ho hb hg hat
                                      obtain ⟨Ao27, co27, eo27⟩ := Kd.N_slice HO213.out
                                      (first | subst eo27 | (injection eo27 with f1_ f2_ f3_; have f4_ := f1_.symm; have f5_ := f3_.symm; clear f1_ f2_ f3_; subst f4_; subst f5_))
                                      refine hK.out _ _ ?_
                                      clear hK K
                                      refine norm_ (a' := ?_) ?_ ?_
                                      rotate_left
                                      · show Act.put _ (some 68) _ = _
                                        simp only [Act.put, List.setIfInBounds_toArray, List.set_cons_zero, List.set_cons_succ, i64_w, i32_w]
                                        rfl
                                      refine pure_ (i := 12) (N := some 69) (v := ?_) (a' := ?_) #[true, true, true, true, true, true, true, true, true, true, true, true, true, false] rfl rfl (any_of HT_.out (by kernel_rfl)) (fun _ _ _ h => h) (Or.inl ⟨by rfl, ?_⟩) ?_ ?_
                                      rotate_left
                                      · intro w'
                                        go_simp
                                        with_reducible rfl
                                      rotate_left
                                      · simp only [Act.put, List.setIfInBounds_toArray, List.set_cons_zero, List.set_cons_succ, i64_w, i32_w]
                                        rfl
                                      refine last_ (i := 13) (N := none) #[true, true, true, true, true, true, true, true, true, true, true, true, true, true] rfl rfl (one_of HT_.out (by kernel_rfl)) (by decide) (fun K hK => ?_)
                                      have hs28 : w26.cell? ⟨gb201, 3, none⟩ = some (u202003) := (blk_cell BK201.out 3).trans rfl
                                      have hfs28 := blk_frozen BK201.out 3
                                      refine skip_ (w1 := ?_) (by rfl) rfl ?_ ?_
                                      rotate_left
                                      · go_simp
                                        rfl
                                      refine hK.out _ _ ?_
                                      clear hK K
                                      refine done_ (done_of HT_.out (by kernel_rfl)) ?_
                                      try go_wp2
                                      go_roundg k3
                                      case measure => have := HK1.out; have := HK2.out; have := HK3.out; omega
                                      case rel => exact ⟨(wrap64 (x8_2 + 1)), (y211), (.slice Ao27 y211.length co27), (by first | rfl | (simp; done) | (simp [*]; done)), H', ⟨by have := HK1.out; have := HK2.out; have := HK3.out; omega⟩, ⟨by (with_reducible repeat (first | apply Kd.V_alloc | apply Kd.V_drewN | apply Kd.V_drew)); exact Kd.V_mono (Kd.V_far (p := ⟨gb201, 3, none⟩) (Kd.V_mono HO_0.out (fun k_ hk => (⟨hk, hk.1.2.2⟩ : _ ∧ k_ ≠ gb201))) (fun _ hk => hk.2) (.slice Ao27 y211.length co27)) (fun _ hk => ⟨hk.1.1.1, ⟨hk.1.1.2.1, ⟨hk.1.2, hk.1.1.2.2⟩⟩⟩)⟩, ⟨by (with_reducible repeat (first | apply Kd.N_alloc | apply Kd.N_drewN | apply Kd.N_drew)); exact Kd.N_mono (Kd.N_far (p := ⟨gb201, 3, none⟩) (Kd.N_mono HO_5.out (fun k_ hk => (⟨hk, hk.1.2⟩ : _ ∧ k_ ≠ gb201))) (fun _ hk => hk.2) (.slice Ao27 y211.length co27)) (fun _ hk => ⟨hk.1.1.1, ⟨hk.1.2, hk.1.1.2⟩⟩)⟩, ⟨by (with_reducible repeat (first | apply Kd.N_alloc | apply Kd.N_drewN | apply Kd.N_drew)); exact Kd.N_mono (Kd.N_far (p := ⟨gb201, 3, none⟩) (Kd.N_mono HO213.out (fun k_ hk => (⟨hk, hk.2.2⟩ : _ ∧ k_ ≠ gb201))) (fun _ hk => hk.2) (.slice Ao27 y211.length co27)) (fun _ hk => ⟨hk.1.1, ⟨hk.1.2.1, hk.1.2.2⟩⟩)⟩, ⟨by (with_reducible repeat (first | refine blk_drewN ?_ _ | refine blk_drew ?_ | refine blk_alloc ?_ _)); refine blk_put (cs := #[.string ((rd_T61 l0 x6_1).f0), .bool false, .slice none 0 0, u202003, .slice none 0 0, .slice none 0 0, .slice none 0 0]) ?_ 3 _ rfl; (with_reducible repeat (first | refine blk_drewN ?_ _ | refine blk_drew ?_ | refine blk_alloc ?_ _)); exact BK201.out⟩, ⟨by repeat (first | (with_reducible first | exact HB.out | apply below_alloc | apply pw_below_drewN | apply below_drew1 | refine below_set ?_ GE201.out) | exact HB.out)⟩⟩
                                    · rw [if_neg c24] at H
                                      exact absurd H (by simp)
                                  · rw [if_neg c23] at H
                                    exact absurd H (by simp)
                                · rw [if_neg c22] at H
                                  exact absurd H (by simp)
                              · rw [if_neg c21] at H
                                exact absurd H (by simp)
                            · rw [if_neg c20] at H
                              exact absurd H (by simp)
                          · replace c19 := Bool.eq_false_iff.mpr c19
                            subst c19
                            have H1 : (cosignerlaw03_linked.l1 k3 l0 l1 x5_1 x6_1 (wrap64 (x8_2 + 1)) ((rd_T61 l0 x6_1).f0) false x202003_2) = some r := by rw [if_neg (show ¬ (false = true) by decide)] at H; exact H
                            clear H
                            have H := H1
                            clear H1
                            have H' := Aside0.mk H
                            clear H
                            go_wp2
                            go_roundg k3
                            case measure => have := HK1.out; have := HK2.out; have := HK3.out; omega
                            case rel => exact ⟨(wrap64 (x8_2 + 1)), (x202003_2), (u202003), (by first | rfl | (simp; done) | (simp [*]; done)), H', ⟨by have := HK1.out; have := HK2.out; have := HK3.out; omega⟩, ⟨by (with_reducible repeat (first | apply Kd.V_alloc | apply Kd.V_drewN | apply Kd.V_drew)); exact HO_0.out⟩, ⟨by (with_reducible repeat (first | apply Kd.N_alloc | apply Kd.N_drewN | apply Kd.N_drew)); exact HO_5.out⟩, ⟨by (with_reducible repeat (first | apply Kd.N_alloc | apply Kd.N_drewN | apply Kd.N_drew)); exact HO_202003.out⟩, ⟨by (with_reducible repeat (first | refine blk_drewN ?_ _ | refine blk_drew ?_ | refine blk_alloc ?_ _)); exact BK201.out⟩, ⟨by repeat (first | (with_reducible first | exact HB.out | apply below_alloc | apply pw_below_drewN | apply below_drew1 | refine below_set ?_ GE201.out) | exact HB.out)⟩⟩
                  · rw [if_neg c9] at H
                    have c9b0 : decide (x8_2 < (((rd_T61 l0 x6_1).f3).length : Int)) = false := decide_eq_false c9
                    clear c9
                    by_cases c29 : x5_1.length < 977343669134
                    · rw [if_pos c29] at H
                      have LMc29 := Aside0.mk c29
                      clear c29
                      obtain ⟨y203, hy203⟩ : ∃ y_ : List (S61), y_ = (x5_1 ++ [(⟨((rd_T61 l0 x6_1).f0), false, ([] : List (S185)), x202003_2, ([] : List ByteArray), ([] : List (S191)), ([] : List (S196))⟩ : S61)]) := ⟨_, rfl⟩
                      replace H : (cosignerlaw03_linked.l0 k2 l0 l1 y203 (wrap64 (x6_1 + 1))) = some r := by first | (rw [hy203]; with_reducible exact H) | (have H2_ := (Option.bind_some _ _).symm.trans H; rw [hy203]; with_reducible exact H2_) | (have H2_ := (Option.bind_some _ _).symm.trans H; with_reducible exact H2_) | with_reducible exact H | (rw [hy203]; exact H) | exact H
                      have Ny203 := Aside0.mk hy203
                      clear hy203
                      have H' := Aside0.mk H
                      clear H
                      have p202 : 0 ≤ (x6_1 : Int) := of_decide_eq_true (by first | (with_reducible assumption) | assumption)
                      have q202 : x6_1 < (l0.length : Int) := of_decide_eq_true (by first | (with_reducible assumption) | assumption)
                      obtain ⟨ad202, A202_2, c202_2, A202_3, c202_3, A202_4, c202_4, A202_5, c202_5, A202_6, c202_6, e202, hx202_0, hx202_1, hx202_2, hx202_3, hx202_4, hx202_5, hx202_6, hl202_2, hi202_2, hl202_3, hi202_3, hl202_4, hi202_4, hl202_5, hi202_5, hl202_6, hi202_6⟩ := at_T61 (Kd.V_reads' HO_0.out).2.2 x6_1 p202 q202
                      obtain rfl : ad200 = ad202 := (by injection e202)
                      obtain ⟨ce202, hce202, hMe202, hcc202⟩ := Kd.V_get HO_0.out z61 x6_1 p202 (by first | exact q202 | exact of_decide_eq_true (by first | (with_reducible assumption) | assumption) | (have e_ := (Kd.V_reads' HO_0.out).1; omega))
                      obtain ⟨ua202_2, uc202_2, ua202_3, uc202_3, ua202_4, uc202_4, ua202_5, uc202_5, ua202_6, uc202_6, rfl, ul202_2, ge202_2, ul202_3, ge202_3, ul202_4, ge202_4, ul202_5, ge202_5, ul202_6, ge202_6⟩ := k61_openF hMe202
                      have hv202_2 := hcc202 2 _ rfl
                      rw [add_field _ _ 2 (by omega)] at hv202_2
                      replace hv202_2 := Option.some.inj (hv202_2.symm.trans hx202_2)
                      injection hv202_2 with hva_ hvn_ hvc_
                      rw [hva_] at ge202_2
                      rw [hvc_] at ul202_2
                      have HL202_2 := Aside0.mk (show Kd.V k185 185 _ w.heap.size _ _ ((rd_T61 l0 x6_1).f2) from Kd.V_mk ul202_2 ge202_2)
                      clear hva_ hvn_ hvc_ ge202_2 ul202_2
                      have hv202_3 := hcc202 3 _ rfl
                      rw [add_field _ _ 3 (by omega)] at hv202_3
                      replace hv202_3 := Option.some.inj (hv202_3.symm.trans hx202_3)
                      injection hv202_3 with hva_ hvn_ hvc_
                      rw [hva_] at ge202_3
                      rw [hvc_] at ul202_3
                      have HL202_3 := Aside0.mk (show Kd.V k65 65 _ w.heap.size _ _ ((rd_T61 l0 x6_1).f3) from Kd.V_mk ul202_3 ge202_3)
                      clear hva_ hvn_ hvc_ ge202_3 ul202_3
                      have hv202_4 := hcc202 4 _ rfl
                      rw [add_field _ _ 4 (by omega)] at hv202_4
                      replace hv202_4 := Option.some.inj (hv202_4.symm.trans hx202_4)
                      injection hv202_4 with hva_ hvn_ hvc_
                      rw [hva_] at ge202_4
                      rw [hvc_] at ul202_4
                      have HL202_4 := Aside0.mk (show Kd.V Kd.string 9 _ w.heap.size _ _ ((rd_T61 l0 x6_1).f4) from Kd.V_mk ul202_4 ge202_4)
                      clear hva_ hvn_ hvc_ ge202_4 ul202_4
                      have hv202_5 := hcc202 5 _ rfl
                      rw [add_field _ _ 5 (by omega)] at hv202_5
                      replace hv202_5 := Option.some.inj (hv202_5.symm.trans hx202_5)
                      injection hv202_5 with hva_ hvn_ hvc_
                      rw [hva_] at ge202_5
                      rw [hvc_] at ul202_5
                      have HL202_5 := Aside0.mk (show Kd.V k191 191 _ w.heap.size _ _ ((rd_T61 l0 x6_1).f5) from Kd.V_mk ul202_5 ge202_5)
                      clear hva_ hvn_ hvc_ ge202_5 ul202_5
                      have hv202_6 := hcc202 6 _ rfl
                      rw [add_field _ _ 6 (by omega)] at hv202_6
                      replace hv202_6 := Option.some.inj (hv202_6.symm.trans hx202_6)
                      injection hv202_6 with hva_ hvn_ hvc_
                      rw [hva_] at ge202_6
                      rw [hvc_] at ul202_6
                      have HL202_6 := Aside0.mk (show Kd.V k196 196 _ w.heap.size _ _ ((rd_T61 l0 x6_1).f6) from Kd.V_mk ul202_6 ge202_6)
                      clear hva_ hvn_ hvc_ ge202_6 ul202_6
                      clear hcc202 hce202
                      have HR202_2 := Aside0.mk hi202_2
                      have HC202_2 := Aside0.mk hl202_2
                      clear hi202_2 hl202_2
                      have HR202_3 := Aside0.mk hi202_3
                      have HC202_3 := Aside0.mk hl202_3
                      clear hi202_3 hl202_3
                      have HR202_4 := Aside0.mk hi202_4
                      have HC202_4 := Aside0.mk hl202_4
                      clear hi202_4 hl202_4
                      have HR202_5 := Aside0.mk hi202_5
                      have HC202_5 := Aside0.mk hl202_5
                      clear hi202_5 hl202_5
                      have HR202_6 := Aside0.mk hi202_6
                      have HC202_6 := Aside0.mk hl202_6
                      clear hi202_6 hl202_6
                      replace p202 := eq_true p202
                      replace q202 := eq_true q202
                      have hcz30_0 : wr.cell? ⟨gb201, 0, none⟩ = some (.string ((rd_T61 l0 x6_1).f0)) := (blk_cell BK201.out 0).trans rfl
                      have hcz30_1 : wr.cell? ⟨gb201, 1, none⟩ = some (.bool false) := (blk_cell BK201.out 1).trans rfl
                      have hcz30_2 : wr.cell? ⟨gb201, 2, none⟩ = some (.slice none 0 0) := (blk_cell BK201.out 2).trans rfl
                      have hcz30_3 : wr.cell? ⟨gb201, 3, none⟩ = some (u202003) := (blk_cell BK201.out 3).trans rfl
                      have hcz30_4 : wr.cell? ⟨gb201, 4, none⟩ = some (.slice none 0 0) := (blk_cell BK201.out 4).trans rfl
                      have hcz30_5 : wr.cell? ⟨gb201, 5, none⟩ = some (.slice none 0 0) := (blk_cell BK201.out 5).trans rfl
                      have hcz30_6 : wr.cell? ⟨gb201, 6, none⟩ = some (.slice none 0 0) := (blk_cell BK201.out 6).trans rfl
                      have hfz30_0 := blk_frozen BK201.out 0
                      have hfz30_1 := blk_frozen BK201.out 1
                      have hfz30_2 := blk_frozen BK201.out 2
                      have hfz30_3 := blk_frozen BK201.out 3
                      have hfz30_4 := blk_frozen BK201.out 4
                      have hfz30_5 := blk_frozen BK201.out 5
                      have hfz30_6 := blk_frozen BK201.out 6
                      obtain ⟨Ao32, co32, eo32⟩ := Kd.N_slice HO_202003.out
                      subst eo32
                      go_wp2_with (first | ((with_reducible refine gate_builtin (b := .append) (xs := #[.tmp 70, .tmp 72]) rfl ?_); at_builtin; refine Kd.N_append k61 (w0 := w) w.heap.size rfl (.tmp 70) (.tmp 72) 22 61 (.agg #[(.string ⟨#[]⟩), (.bool false), (.slice none 0 0), (.slice none 0 0), (.slice none 0 0), (.slice none 0 0), (.slice none 0 0)]) 144 rfl Try.underlying22 info61 rfl (by decide) (by omega) u5 x5_1 (⟨((rd_T61 l0 x6_1).f0), false, ([] : List (S185)), x202003_2, ([] : List ByteArray), ([] : List (S191)), ([] : List (S196))⟩ : S61) [.string ((rd_T61 l0 x6_1).f0), .bool false, .slice none 0 0, .slice Ao32 x202003_2.length co32, .slice none 0 0, .slice none 0 0, .slice none 0 0] (fun k_ => (P0_ k_ ∨ w.heap.size ≤ k_) ∧ k_ ≠ gb201) (fun k_ => ((fun k_ => (P0_ k_ ∨ w.heap.size ≤ k_) ∧ k_ ≠ gb201)) k_ ∧ some k_ ≠ (u5 : Value).ownBlock) rfl rfl ?aP (fun _ hk => hk) ?aF ?aO ?aB ?aS ?aL ?_; (case aP => exact (k61_mkF _ _ (⟨((rd_T61 l0 x6_1).f0), false, ([] : List (S185)), x202003_2, ([] : List ByteArray), ([] : List (S191)), ([] : List (S196))⟩ : S61) (Nat.le_refl _) (Kd.F_nil _ _ _) (Kd.N_reads' (Kd.N_mono (ok' := (fun k_ => ((fun k_ => (P0_ k_ ∨ w.heap.size ≤ k_) ∧ k_ ≠ gb201)) k_ ∧ some k_ ≠ (u5 : Value).ownBlock)) (HO_202003.out) (fun k_ hk => ⟨⟨hk.1, hk.2.2⟩, hk.2.1⟩))).2.1 (Kd.N_F (Kd.N_mono (ok' := (fun k_ => ((fun k_ => (P0_ k_ ∨ w.heap.size ≤ k_) ∧ k_ ≠ gb201)) k_ ∧ some k_ ≠ (u5 : Value).ownBlock)) (HO_202003.out) (fun k_ hk => ⟨⟨hk.1, hk.2.2⟩, hk.2.1⟩))) (Nat.le_refl _) (Kd.F_nil _ _ _) (Nat.le_refl _) (Kd.F_nil _ _ _) (Nat.le_refl _) (Kd.F_nil _ _ _))); (case aB => exact (by repeat (first | (with_reducible first | exact HB.out | apply below_alloc | apply pw_below_drewN | apply below_drew1 | refine below_set ?_ GE201.out) | exact HB.out))); (case aF => exact (fun k_ hk => ⟨(.inr (Nat.le_trans (below_size (by repeat (first | (with_reducible first | exact HB.out | apply below_alloc | apply pw_below_drewN | apply below_drew1 | refine below_set ?_ GE201.out) | exact HB.out))) hk)), Kd.freshB (g := gb201) (o := .cells #[.string ((rd_T61 l0 x6_1).f0), .bool false, .slice none 0 0, .slice Ao32 x202003_2.length co32, .slice none 0 0, .slice none 0 0, .slice none 0 0] 61 (0, 0)) (by (with_reducible repeat (first | refine blk_drewN ?_ _ | refine blk_drew ?_ | refine blk_alloc ?_ _)); exact BK201.out) k_ hk⟩)); (case aO => exact (by (with_reducible repeat (first | apply Kd.N_alloc | apply Kd.N_drewN | apply Kd.N_drew)); exact Kd.N_mono HO_5.out (fun _ hk => ⟨hk.1, hk.2.2⟩))); (case aS => exact (below_size (by repeat (first | (with_reducible first | exact HB.out | apply below_alloc | apply pw_below_drewN | apply below_drew1 | refine below_set ?_ GE201.out) | exact HB.out)))); (case aL => have := LMc29.out; omega); intro v204 w31 ho hb hg hat; rw [← Ny203.out] at ho; have n0_ := Aside0.mk (Kd.V_afterv (ok := (fun k_ => (P0_ k_ ∨ w.heap.size ≤ k_) ∧ some k_ ≠ (.slice Ao32 x202003_2.length co32 : Value).ownBlock ∧ k_ ≠ gb201)) (by (with_reducible repeat (first | apply Kd.V_alloc | apply Kd.V_drewN | apply Kd.V_drew)); exact Kd.V_mono HO_0.out (fun _ hk => ⟨⟨hk.1, ⟨hk.2.2.1, hk.2.2.2⟩⟩, hk.2.1⟩)) hg hat); have n1_ := Aside0.mk (blk_grown (g := gb201) (o := .cells #[.string ((rd_T61 l0 x6_1).f0), .bool false, .slice none 0 0, .slice Ao32 x202003_2.length co32, .slice none 0 0, .slice none 0 0, .slice none 0 0] 61 (0, 0)) (by (with_reducible repeat (first | refine blk_drewN ?_ _ | refine blk_drew ?_ | refine blk_alloc ?_ _)); exact BK201.out) hg (Kd.N_away HO_5.out (fun _ hk => hk.2.2))); have n2_ := Aside0.mk (Kd.V_afterv (ok := (fun k_ => (P0_ k_ ∨ w.heap.size ≤ k_) ∧ some k_ ≠ (.slice Ao32 x202003_2.length co32 : Value).ownBlock ∧ k_ ≠ gb201)) (by (with_reducible repeat (first | apply Kd.V_alloc | apply Kd.V_drewN | apply Kd.V_drew)); exact Kd.V_mono HL202_2.out (fun _ hk => ⟨⟨hk.1, ⟨hk.2.2.1, hk.2.2.2⟩⟩, hk.2.1⟩)) hg hat); have n3_ := Aside0.mk (Kd.V_afterv (ok := (fun k_ => (P0_ k_ ∨ w.heap.size ≤ k_) ∧ some k_ ≠ (.slice Ao32 x202003_2.length co32 : Value).ownBlock ∧ k_ ≠ gb201)) (by (with_reducible repeat (first | apply Kd.V_alloc | apply Kd.V_drewN | apply Kd.V_drew)); exact Kd.V_mono HL202_3.out (fun _ hk => ⟨⟨hk.1, ⟨hk.2.2.1, hk.2.2.2⟩⟩, hk.2.1⟩)) hg hat); have n4_ := Aside0.mk (Kd.V_afterv (ok := (fun k_ => (P0_ k_ ∨ w.heap.size ≤ k_) ∧ some k_ ≠ (.slice Ao32 x202003_2.length co32 : Value).ownBlock ∧ k_ ≠ gb201)) (by (with_reducible repeat (first | apply Kd.V_alloc | apply Kd.V_drewN | apply Kd.V_drew)); exact Kd.V_mono HL202_4.out (fun _ hk => ⟨⟨hk.1, ⟨hk.2.2.1, hk.2.2.2⟩⟩, hk.2.1⟩)) hg hat); have n5_ := Aside0.mk (Kd.V_afterv (ok := (fun k_ => (P0_ k_ ∨ w.heap.size ≤ k_) ∧ some k_ ≠ (.slice Ao32 x202003_2.length co32 : Value).ownBlock ∧ k_ ≠ gb201)) (by (with_reducible repeat (first | apply Kd.V_alloc | apply Kd.V_drewN | apply Kd.V_drew)); exact Kd.V_mono HL202_5.out (fun _ hk => ⟨⟨hk.1, ⟨hk.2.2.1, hk.2.2.2⟩⟩, hk.2.1⟩)) hg hat); have n6_ := Aside0.mk (Kd.V_afterv (ok := (fun k_ => (P0_ k_ ∨ w.heap.size ≤ k_) ∧ some k_ ≠ (.slice Ao32 x202003_2.length co32 : Value).ownBlock ∧ k_ ≠ gb201)) (by (with_reducible repeat (first | apply Kd.V_alloc | apply Kd.V_drewN | apply Kd.V_drew)); exact Kd.V_mono HL202_6.out (fun _ hk => ⟨⟨hk.1, ⟨hk.2.2.1, hk.2.2.2⟩⟩, hk.2.1⟩)) hg hat); have n7_ := Aside0.mk (hb); have n8_ := Aside0.mk (ho); clear HO_0; clear BK201; clear HL202_2; clear HL202_3; clear HL202_4; clear HL202_5; clear HL202_6; clear HB; clear HO_5; clear HO_202003; have HO_0 := n0_; have BK201 := n1_; have HL202_2 := n2_; have HL202_3 := n3_; have HL202_4 := n4_; have HL202_5 := n5_; have HL202_6 := n6_; have HB := n7_; have HO205 := n8_; clear n0_ n1_ n2_ n3_ n4_ n5_ n6_ n7_ n8_; clear ho hb hg hat))
                      go_roundg k2
                      case measure => have := HK1.out; have := HK2.out; omega
                      case rel => exact ⟨(y203), (wrap64 (x6_1 + 1)), (by first | rfl | (simp; done) | (simp [*]; done)), H', ⟨by have := HK1.out; have := HK2.out; omega⟩, ⟨by (with_reducible repeat (first | apply Kd.V_alloc | apply Kd.V_drewN | apply Kd.V_drew)); exact Kd.V_mono HO_0.out (fun _ hk => ⟨hk.1.1, hk.2⟩)⟩, ⟨by (with_reducible repeat (first | apply Kd.N_alloc | apply Kd.N_drewN | apply Kd.N_drew)); exact Kd.N_mono HO205.out (fun _ hk => hk.1)⟩, ⟨by repeat (first | (with_reducible first | exact HB.out | apply below_alloc | apply pw_below_drewN | apply below_drew1 | refine below_set ?_ GE201.out) | exact HB.out)⟩⟩
                    · rw [if_neg c29] at H
                      exact absurd H (by simp)
                · rw [if_neg c8] at H
                  exact absurd H (by simp)
              · rw [if_neg c7] at H
                exact absurd H (by simp)
        · rw [if_neg c4] at H
          exact absurd H (by simp)
      · rw [if_neg c3] at H
        have c3b0 : decide (x6_1 < (l0.length : Int)) = false := decide_eq_false c3
        clear c3
        obtain rfl := Option.some.inj H
        go_wp2
        go_ret
        exact ⟨_, by first | rfl | (simp [errW_none, errW_some] <;> rfl) | (simp [*, errW_none, errW_some] <;> rfl), by (with_reducible repeat (first | apply Kd.N_alloc | apply Kd.N_drewN | apply Kd.N_drew)); exact HO_5.out, by repeat (first | (with_reducible first | exact HB.out | apply below_alloc | apply pw_below_drewN | apply below_drew1) | exact HB.out)⟩
end Go.Proofs.Ytdljclokenoogaa.Hp
end
