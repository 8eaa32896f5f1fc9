/-
  HeirCounts: for every input the statement returns true, and each argument reads behind the call as it read before.
  Conditions: those of the given row alone. (The texts of this claim are merged by the session's program wip/pack.py; declarations that nothing names are left out.)
-/
import Derived.SizedLaws
import Derived.ChangeSlices
import Derived.Test.YtdljclokenoogaaRows
import Derived.WalkKit
import Derived.ProofKit
import Derived.OpenShut
import Derived.ShutString
import Derived.ChangeOld
import Derived.Below
import Derived.Test.YtdljclokenoogaaKTh3
set_option linter.unusedVariables false
set_option linter.unusedSimpArgs false
section
namespace Go.Proofs.Ytdljclokenoogaa.Hp
open Go.RowKit Go.Proofs.YtdljclokenoogaaW.PrintWords Go.Proofs.YtdljclokenoogaaW.PrintLast Go.Proofs.YtdljclokenoogaaW.PrintMore
attribute [local go_sem] max2_int min2_int max_two min_two max_three min_three max_four min_four
set_option linter.unusedVariables false
set_option linter.unusedSimpArgs false
def cosignerlaw03_HeirCounts.l0 : Nat → List (S61) → Int → ByteArray → Int → Int → Int → Int → Option (Bool)
  | 0, _, _, _, _, _, _, _ => none
  | k + 1, x0, x7, x8, x9, x10, x11, x12 => if 0 ≤ x7 then (if x7 < (x0.length : Int) then (if x12 < (((rd_T61 x0 x7).f3).length : Int) then (if 0 ≤ x12 then ((heir_Ways.f x0 ((rd_T65 ((rd_T61 x0 x7).f3) x12).f0) x8).bind fun bt151 => (if bt151.2 = 0 then (cosignerlaw03_HeirCounts.l0 k x0 x7 x8 x9 x10 (wrap64 (x11 + bt151.1)) (wrap64 (x12 + 1))) else (some false))) else (none)) else (if ((rd_T61 x0 x7).f0).toList = x8.toList then ((cosignerlaw03_sanity.f).bind fun t154 => (if t154 = true then (if x10 = 0 then (if x9 = (wrap64 (x11 + 1)) then ((cosignerlaw03_is.f x0 ((rd_T61 x0 x7).f0) x8).bind fun t156 => (some ((decide (x9 > 0)) == t156))) else (some false)) else (some false)) else (some false))) else ((cosignerlaw03_sanity.f).bind fun t157 => (if t157 = true then (if x10 = 0 then (if x9 = x11 then ((cosignerlaw03_is.f x0 ((rd_T61 x0 x7).f0) x8).bind fun t159 => (some ((decide (x9 > 0)) == t159))) else (some false)) else (some false)) else (some false))))) else (none)) else (none)
def cosignerlaw03_HeirCounts.f (k : Nat) (l0 : List (S61)) (a1 : Int) (a2 : Int) : Option (Bool) := (cosignerlaw03_right.f l0).bind fun t142 => (if t142 = true then (if (l0.length : Int) = 0 then (none) else ((cosignerlaw03_name.f l0 a2).bind fun t144 => (if 0 ≤ (Int.tmod (wrap64 (a1)) (l0.length : Int)) then (if (Int.tmod (wrap64 (a1)) (l0.length : Int)) < (l0.length : Int) then ((heir_Ways.f l0 ((rd_T61 l0 (Int.tmod (wrap64 (a1)) (l0.length : Int))).f0) t144).bind fun bt146 => (cosignerlaw03_HeirCounts.l0 k l0 (Int.tmod (wrap64 (a1)) (l0.length : Int)) t144 bt146.1 bt146.2 0 0)) else (none)) else (none)))) else ((cosignerlaw03_sanity.f).bind fun t143 => (some t143)))
theorem cosignerlaw03_HeirCounts.mono_l : ∀ k, (∀ y0 y1 y2 y3 y4 y5 y6, LeO (cosignerlaw03_HeirCounts.l0 k y0 y1 y2 y3 y4 y5 y6) (cosignerlaw03_HeirCounts.l0 (k + 1) y0 y1 y2 y3 y4 y5 y6))
  | 0 => fun _ _ _ _ _ _ _ r h => by simp [cosignerlaw03_HeirCounts.l0] at h
  | k + 1 => by
    have ih0 := cosignerlaw03_HeirCounts.mono_l k
    · intro y0 y1 y2 y3 y4 y5 y6
      unfold cosignerlaw03_HeirCounts.l0
      repeat' first
      | (with_reducible exact ih0 _ _ _ _ _ _ _)
      | (with_reducible exact LeO.refl _)
      | (with_reducible exact LeO.none _)
      | (with_reducible refine LeO.ite ?_ ?_)
      | (with_reducible refine LeO.bind ?_ (fun _ => ?_))
      | exact ih0 _ _ _ _ _ _ _
      | exact LeO.none _
      | refine LeO.ite ?_ ?_
      | refine LeO.bind ?_ (fun _ => ?_)
theorem cosignerlaw03_HeirCounts.mono : ∀ a0 a1 a2 k, LeO (cosignerlaw03_HeirCounts.f k a0 a1 a2) (cosignerlaw03_HeirCounts.f (k + 1) a0 a1 a2) := by
  intro a0 a1 a2 k
  have ih0 := cosignerlaw03_HeirCounts.mono_l k
  unfold cosignerlaw03_HeirCounts.f
  repeat' first
      | (with_reducible exact ih0 _ _ _ _ _ _ _)
      | (with_reducible exact LeO.refl _)
      | (with_reducible exact LeO.none _)
      | (with_reducible refine LeO.ite ?_ ?_)
      | (with_reducible refine LeO.bind ?_ (fun _ => ?_))
      | exact ih0 _ _ _ _ _ _ _
      | exact LeO.none _
      | refine LeO.ite ?_ ?_
      | refine LeO.bind ?_ (fun _ => ?_)
set_option maxHeartbeats 8000000 in
set_option maxRecDepth 100000 in
theorem cosignerlaw03_HeirCounts.calls (k : Nat) (A0 : Option Addr) (c0 : Nat) (l0 : List (S61)) (a1 : Int) (a2 : Int) (r : Bool) (w : World) (hr0 : Kd.C k61 w A0 l0.length l0) (hc0 : l0.length ≤ c0) (h : cosignerlaw03_HeirCounts.f k l0 a1 a2 = some r) :
    Calls Try.prog 5 #[.slice A0 l0.length c0, .int .u8 a1, .int .u8 a2] w fun e w' => e = .returned (.bool r) ∧ Below w.heap.size w w' := by
  have HR0 := Aside0.mk hr0
  have HC0 := Aside0.mk hc0
  clear hr0 hc0
  have HB := Aside0.mk (Below.refl w.heap.size w)
  have H : ((cosignerlaw03_right.f l0).bind fun t142 => (if t142 = true then (if (l0.length : Int) = 0 then (none) else ((cosignerlaw03_name.f l0 a2).bind fun t144 => (if 0 ≤ (Int.tmod (wrap64 (a1)) (l0.length : Int)) then (if (Int.tmod (wrap64 (a1)) (l0.length : Int)) < (l0.length : Int) then ((heir_Ways.f l0 ((rd_T61 l0 (Int.tmod (wrap64 (a1)) (l0.length : Int))).f0) t144).bind fun bt146 => (cosignerlaw03_HeirCounts.l0 k l0 (Int.tmod (wrap64 (a1)) (l0.length : Int)) t144 bt146.1 bt146.2 0 0)) else (none)) else (none)))) else ((cosignerlaw03_sanity.f).bind fun t143 => (some t143)))) = some r := h
  clear h
  replace H := Option.bind_eq_some_iff.mp H
  obtain ⟨t142, A40, H⟩ := H
  replace H : (if t142 = true then (if (l0.length : Int) = 0 then (none) else ((cosignerlaw03_name.f l0 a2).bind fun t144 => (if 0 ≤ (Int.tmod (wrap64 (a1)) (l0.length : Int)) then (if (Int.tmod (wrap64 (a1)) (l0.length : Int)) < (l0.length : Int) then ((heir_Ways.f l0 ((rd_T61 l0 (Int.tmod (wrap64 (a1)) (l0.length : Int))).f0) t144).bind fun bt146 => (cosignerlaw03_HeirCounts.l0 k l0 (Int.tmod (wrap64 (a1)) (l0.length : Int)) t144 bt146.1 bt146.2 0 0)) else (none)) else (none)))) else ((cosignerlaw03_sanity.f).bind fun t143 => (some t143))) = some r := H
  have A4 := Aside0.mk A40
  clear A40
  by_cases c5 : t142 = true
  · subst c5
    have H1 : (if (l0.length : Int) = 0 then (none) else ((cosignerlaw03_name.f l0 a2).bind fun t144 => (if 0 ≤ (Int.tmod (wrap64 (a1)) (l0.length : Int)) then (if (Int.tmod (wrap64 (a1)) (l0.length : Int)) < (l0.length : Int) then ((heir_Ways.f l0 ((rd_T61 l0 (Int.tmod (wrap64 (a1)) (l0.length : Int))).f0) t144).bind fun bt146 => (cosignerlaw03_HeirCounts.l0 k l0 (Int.tmod (wrap64 (a1)) (l0.length : Int)) t144 bt146.1 bt146.2 0 0)) else (none)) else (none)))) = some r := by rw [if_pos rfl] at H; exact H
    clear H
    have H := H1
    clear H1
    by_cases c6 : (l0.length : Int) = 0
    · rw [if_pos c6] at H
      exact absurd H (by simp)
    · rw [if_neg c6] at H
      have c6b0 : ((l0.length : Int) == 0) = false := beq_eq_false_iff_ne.mpr c6
      have c6b1 : ((l0.length : Int) != 0) = true := bne_iff_ne.mpr c6
      have c6b2 : ¬ (l0 = []) := fun h_ => c6 (by rw [h_]; rfl)
      replace H := Option.bind_eq_some_iff.mp H
      obtain ⟨t144, A70, H⟩ := H
      replace H : (if 0 ≤ (Int.tmod (wrap64 (a1)) (l0.length : Int)) then (if (Int.tmod (wrap64 (a1)) (l0.length : Int)) < (l0.length : Int) then ((heir_Ways.f l0 ((rd_T61 l0 (Int.tmod (wrap64 (a1)) (l0.length : Int))).f0) t144).bind fun bt146 => (cosignerlaw03_HeirCounts.l0 k l0 (Int.tmod (wrap64 (a1)) (l0.length : Int)) t144 bt146.1 bt146.2 0 0)) else (none)) else (none)) = some r := H
      have A7 := Aside0.mk A70
      clear A70
      obtain ⟨ji8, hji8⟩ : ∃ j_ : Int, (Int.tmod (wrap64 (a1)) (l0.length : Int)) = j_ := ⟨_, rfl⟩
      replace H : (if 0 ≤ (ji8) then (if (ji8) < (l0.length : Int) then ((heir_Ways.f l0 ((rd_T61 l0 (ji8)).f0) t144).bind fun bt146 => (cosignerlaw03_HeirCounts.l0 k l0 ji8 t144 bt146.1 bt146.2 0 0)) else (none)) else (none)) = some r := by first | (rw [hji8] at H; exact H) | (simp only [hji8] at H ⊢; exact H)
      (try rw [hji8] at A4)
      (try rw [hji8] at A7)
      by_cases c9 : 0 ≤ (ji8)
      · rw [if_pos c9] at H
        have c9b0 : decide (0 ≤ (ji8)) = true := decide_eq_true c9
        clear c9
        by_cases c10 : (ji8) < (l0.length : Int)
        · rw [if_pos c10] at H
          have c10b0 : decide ((ji8) < (l0.length : Int)) = true := decide_eq_true c10
          clear c10
          replace H := Option.bind_eq_some_iff.mp H
          obtain ⟨⟨t146, t147⟩, A110, H⟩ := H
          replace H : (cosignerlaw03_HeirCounts.l0 k l0 ji8 t144 t146 t147 0 0) = some r := H
          have A11 := Aside0.mk A110
          clear A110
          have H' := Aside0.mk H
          clear H
          go_enter Try.func5, Try.ntmps5
          go_wp2_with (first | ((with_reducible refine gate_callee (f := 30) rfl ?_); refine goesL_ (some 16) rfl rfl Try.func30 (by kernel_rfl) rfl #[.slice A0 l0.length c0] rfl (by (try simp only [List.map_toArray, List.map_cons, List.map_nil]); first | done | rfl | (simp only [List.length_drop, List.length_take]; rfl)) ?_; (with_reducible refine (cosignerlaw03_right.calls _ _ l0 true _ ?side1 ?side2 A4.out).mono ?_); (case side1 => repeat (first | exact HR0.out | (with_reducible refine Kd.C_alloc ?_ _) | (with_reducible refine Kd.C_drewN ?_ _) | (with_reducible refine Kd.C_drew ?_))); (case side2 => exact HC0.out); rintro e w12 ⟨rfl, hb⟩; refine ⟨_, rfl, ?_⟩; have n0_ := Aside0.mk (below_step (by repeat (first | (with_reducible first | exact HB.out | apply below_alloc | apply pw_below_drewN | apply below_drew1) | exact HB.out)) hb); clear HB; have HB := n0_; clear n0_; (try clear hb); (try clear hb2); (try clear hk); (try clear hi)) | ((with_reducible refine gate_callee (f := 31) rfl ?_); refine goesL_ (some 26) rfl rfl Try.func31 (by kernel_rfl) rfl #[.slice A0 l0.length c0, .int .u8 a2] rfl (by (try simp only [List.map_toArray, List.map_cons, List.map_nil]); first | done | rfl | (simp only [List.length_drop, List.length_take]; rfl)) ?_; (with_reducible refine (cosignerlaw03_name.calls _ _ l0 a2 t144 _ ?side1 ?side2 A7.out).mono ?_); (case side1 => repeat (first | exact (Kd.C_below HR0.out HB.out) | (with_reducible refine Kd.C_alloc ?_ _) | (with_reducible refine Kd.C_drewN ?_ _) | (with_reducible refine Kd.C_drew ?_))); (case side2 => exact HC0.out); rintro e w' ⟨rfl, ⟨nd, rfl⟩⟩; refine ⟨_, rfl, ?_⟩; have p145 : 0 ≤ ((ji8) : Int) := of_decide_eq_true (by first | (with_reducible assumption) | assumption); have q145 : (ji8) < (l0.length : Int) := of_decide_eq_true (by first | (with_reducible assumption) | assumption); obtain ⟨ad145, A145_2, c145_2, A145_3, c145_3, A145_4, c145_4, A145_5, c145_5, A145_6, c145_6, e145, hx145_0, hx145_1, hx145_2, hx145_3, hx145_4, hx145_5, hx145_6, hl145_2, hi145_2, hl145_3, hi145_3, hl145_4, hi145_4, hl145_5, hi145_5, hl145_6, hi145_6⟩ := at_T61 HR0.out (ji8) p145 q145; cases e145; replace hx145_0 := (HB.out.cell (World.block_lt_of_cell? w _ hx145_0)).trans hx145_0; replace hx145_1 := (HB.out.cell (World.block_lt_of_cell? w _ hx145_1)).trans hx145_1; replace hx145_2 := (HB.out.cell (World.block_lt_of_cell? w _ hx145_2)).trans hx145_2; replace hx145_3 := (HB.out.cell (World.block_lt_of_cell? w _ hx145_3)).trans hx145_3; replace hx145_4 := (HB.out.cell (World.block_lt_of_cell? w _ hx145_4)).trans hx145_4; replace hx145_5 := (HB.out.cell (World.block_lt_of_cell? w _ hx145_5)).trans hx145_5; replace hx145_6 := (HB.out.cell (World.block_lt_of_cell? w _ hx145_6)).trans hx145_6; have HR145_2 := Aside0.mk hi145_2; have HC145_2 := Aside0.mk hl145_2; clear hi145_2 hl145_2; have HR145_3 := Aside0.mk hi145_3; have HC145_3 := Aside0.mk hl145_3; clear hi145_3 hl145_3; have HR145_4 := Aside0.mk hi145_4; have HC145_4 := Aside0.mk hl145_4; clear hi145_4 hl145_4; have HR145_5 := Aside0.mk hi145_5; have HC145_5 := Aside0.mk hl145_5; clear hi145_5 hl145_5; have HR145_6 := Aside0.mk hi145_6; have HC145_6 := Aside0.mk hl145_6; clear hi145_6 hl145_6; replace p145 := eq_true p145; replace q145 := eq_true q145) | ((with_reducible refine gate_callee (f := 32) rfl ?_); refine goesL_ (some 35) rfl rfl Try.func32 (by kernel_rfl) rfl #[.slice (some ad145) l0.length c0, .string ((rd_T61 l0 (ji8)).f0), .string t144] rfl (by (try simp only [List.map_toArray, List.map_cons, List.map_nil]); first | done | (simp only [hji8]; rfl) | rfl | (simp only [List.length_drop, List.length_take]; rfl)) ?_; (with_reducible refine (heir_Ways.calls _ _ l0 ((rd_T61 l0 (ji8)).f0) t144 t146 t147 _ ?side1 ?side2 A11.out).mono ?_); (case side1 => repeat (first | exact (Kd.C_below HR0.out (by repeat (first | (with_reducible first | exact HB.out | apply below_alloc | apply pw_below_drewN | apply below_drew1) | exact HB.out))) | (with_reducible refine Kd.C_alloc ?_ _) | (with_reducible refine Kd.C_drewN ?_ _) | (with_reducible refine Kd.C_drew ?_))); (case side2 => exact HC0.out); rintro e w13 ⟨rfl, hb⟩; refine ⟨_, rfl, ?_⟩; have n0_ := Aside0.mk (below_step (by repeat (first | (with_reducible first | exact HB.out | apply below_alloc | apply pw_below_drewN | apply below_drew1) | exact HB.out)) hb); clear HB; have HB := n0_; clear n0_; (try clear hb); (try clear hb2); (try clear hk); (try clear hi)))
          go_loopg [11, 12] k (fun kq v11 v12 w' => ∃ (x11_1 : Int) (x12_1 : Int), v11 = .int .i64 x11_1 ∧ v12 = .int .i64 x12_1 ∧ Aside0 (cosignerlaw03_HeirCounts.l0 kq l0 ji8 t144 t146 t147 x11_1 x12_1 = some r) ∧ Aside0 (kq ≤ k) ∧ Aside0 (Below w.heap.size w w'))
          case atStart => exact ⟨(0), (0), (by first | rfl | (simp; done) | (simp [*]; done)), (by first | rfl | (simp; done) | (simp [*]; done)), H', ⟨Nat.le_refl _⟩, ⟨by repeat (first | (with_reducible first | exact HB.out | apply below_alloc | apply pw_below_drewN | apply below_drew1) | exact HB.out)⟩⟩
          case round =>
            clear H'
            try clear c1
            try clear p1
            try clear q1
            try clear hx1
            try clear p2
            try clear c3
            try clear c5
            try clear c6
            try clear c6b0
            try clear c6b1
            try clear c6b2
            try clear p6
            try clear c9
            try clear c9b0
            try clear c10
            try clear c10b0
            try clear hx145_0
            try clear hx145_1
            try clear hx145_2
            try clear hx145_3
            try clear hx145_4
            try clear hx145_5
            try clear hx145_6
            try clear p145
            try clear q145
            obtain ⟨x11_1, x12_1, rfl, rfl, HA, HK1, HB⟩ := hrel
            cases gk with
            | zero => exact absurd HA.out (by simp [cosignerlaw03_HeirCounts.l0])
            | succ k1 =>
              have H := HA.out
              clear HA
              simp only [cosignerlaw03_HeirCounts.l0] at H
              by_cases c14 : 0 ≤ ji8
              · rw [if_pos c14] at H
                have c14b0 : decide (0 ≤ ji8) = true := decide_eq_true c14
                clear c14
                by_cases c15 : ji8 < (l0.length : Int)
                · rw [if_pos c15] at H
                  have c15b0 : decide (ji8 < (l0.length : Int)) = true := decide_eq_true c15
                  clear c15
                  by_cases c16 : x12_1 < (((rd_T61 l0 ji8).f3).length : Int)
                  · rw [if_pos c16] at H
                    have c16b0 : decide (x12_1 < (((rd_T61 l0 ji8).f3).length : Int)) = true := decide_eq_true c16
                    clear c16
                    by_cases c17 : 0 ≤ x12_1
                    · rw [if_pos c17] at H
                      have c17b0 : decide (0 ≤ x12_1) = true := decide_eq_true c17
                      clear c17
                      replace H := Option.bind_eq_some_iff.mp H
                      obtain ⟨⟨t151, t152⟩, A180, H⟩ := H
                      replace H : (if t152 = 0 then (cosignerlaw03_HeirCounts.l0 k1 l0 ji8 t144 t146 t147 (wrap64 (x11_1 + t151)) (wrap64 (x12_1 + 1))) else (some false)) = some r := H
                      have A18 := Aside0.mk A180
                      clear A180
                      by_cases c19 : t152 = 0
                      · rw [if_pos c19] at H
                        have c19b0 : (t152 == 0) = true := beq_iff_eq.mpr c19
                        have c19b1 : (t152 != 0) = false := bne_eq_false_iff_eq.mpr c19
                        clear c19
                        have H' := Aside0.mk H
                        clear H
                        have p148 : 0 ≤ (ji8 : Int) := of_decide_eq_true (by first | (with_reducible assumption) | assumption)
                        have q148 : ji8 < (l0.length : Int) := of_decide_eq_true (by first | (with_reducible assumption) | assumption)
                        obtain ⟨ad148, A148_2, c148_2, A148_3, c148_3, A148_4, c148_4, A148_5, c148_5, A148_6, c148_6, e148, hx148_0, hx148_1, hx148_2, hx148_3, hx148_4, hx148_5, hx148_6, hl148_2, hi148_2, hl148_3, hi148_3, hl148_4, hi148_4, hl148_5, hi148_5, hl148_6, hi148_6⟩ := at_T61 HR0.out ji8 p148 q148
                        obtain rfl : ad145 = ad148 := (by injection e148)
                        replace hx148_0 := (HB.out.cell (World.block_lt_of_cell? w _ hx148_0)).trans hx148_0
                        replace hx148_1 := (HB.out.cell (World.block_lt_of_cell? w _ hx148_1)).trans hx148_1
                        replace hx148_2 := (HB.out.cell (World.block_lt_of_cell? w _ hx148_2)).trans hx148_2
                        replace hx148_3 := (HB.out.cell (World.block_lt_of_cell? w _ hx148_3)).trans hx148_3
                        replace hx148_4 := (HB.out.cell (World.block_lt_of_cell? w _ hx148_4)).trans hx148_4
                        replace hx148_5 := (HB.out.cell (World.block_lt_of_cell? w _ hx148_5)).trans hx148_5
                        replace hx148_6 := (HB.out.cell (World.block_lt_of_cell? w _ hx148_6)).trans hx148_6
                        have HR148_2 := Aside0.mk hi148_2
                        have HC148_2 := Aside0.mk hl148_2
                        clear hi148_2 hl148_2
                        have HR148_3 := Aside0.mk hi148_3
                        have HC148_3 := Aside0.mk hl148_3
                        clear hi148_3 hl148_3
                        have HR148_4 := Aside0.mk hi148_4
                        have HC148_4 := Aside0.mk hl148_4
                        clear hi148_4 hl148_4
                        have HR148_5 := Aside0.mk hi148_5
                        have HC148_5 := Aside0.mk hl148_5
                        clear hi148_5 hl148_5
                        have HR148_6 := Aside0.mk hi148_6
                        have HC148_6 := Aside0.mk hl148_6
                        clear hi148_6 hl148_6
                        replace p148 := eq_true p148
                        replace q148 := eq_true q148
                        have p149 : 0 ≤ (ji8 : Int) := of_decide_eq_true (by first | (with_reducible assumption) | assumption)
                        have q149 : ji8 < (l0.length : Int) := of_decide_eq_true (by first | (with_reducible assumption) | assumption)
                        obtain ⟨ad149, A149_2, c149_2, A149_3, c149_3, A149_4, c149_4, A149_5, c149_5, A149_6, c149_6, e149, hx149_0, hx149_1, hx149_2, hx149_3, hx149_4, hx149_5, hx149_6, hl149_2, hi149_2, hl149_3, hi149_3, hl149_4, hi149_4, hl149_5, hi149_5, hl149_6, hi149_6⟩ := at_T61 HR0.out ji8 p149 q149
                        obtain rfl : ad145 = ad149 := (by injection e149)
                        replace hx149_0 := (HB.out.cell (World.block_lt_of_cell? w _ hx149_0)).trans hx149_0
                        replace hx149_1 := (HB.out.cell (World.block_lt_of_cell? w _ hx149_1)).trans hx149_1
                        replace hx149_2 := (HB.out.cell (World.block_lt_of_cell? w _ hx149_2)).trans hx149_2
                        replace hx149_3 := (HB.out.cell (World.block_lt_of_cell? w _ hx149_3)).trans hx149_3
                        replace hx149_4 := (HB.out.cell (World.block_lt_of_cell? w _ hx149_4)).trans hx149_4
                        replace hx149_5 := (HB.out.cell (World.block_lt_of_cell? w _ hx149_5)).trans hx149_5
                        replace hx149_6 := (HB.out.cell (World.block_lt_of_cell? w _ hx149_6)).trans hx149_6
                        have HR149_2 := Aside0.mk hi149_2
                        have HC149_2 := Aside0.mk hl149_2
                        clear hi149_2 hl149_2
                        have HR149_3 := Aside0.mk hi149_3
                        have HC149_3 := Aside0.mk hl149_3
                        clear hi149_3 hl149_3
                        have HR149_4 := Aside0.mk hi149_4
                        have HC149_4 := Aside0.mk hl149_4
                        clear hi149_4 hl149_4
                        have HR149_5 := Aside0.mk hi149_5
                        have HC149_5 := Aside0.mk hl149_5
                        clear hi149_5 hl149_5
                        have HR149_6 := Aside0.mk hi149_6
                        have HC149_6 := Aside0.mk hl149_6
                        clear hi149_6 hl149_6
                        replace p149 := eq_true p149
                        replace q149 := eq_true q149
                        have ea_ := Option.some.inj (hx148_2.symm.trans hx149_2)
                        injection ea_ with ea_ en_ ec_
                        subst ea_
                        subst ec_
                        clear en_
                        have ea_ := Option.some.inj (hx148_3.symm.trans hx149_3)
                        injection ea_ with ea_ en_ ec_
                        subst ea_
                        subst ec_
                        clear en_
                        have ea_ := Option.some.inj (hx148_4.symm.trans hx149_4)
                        injection ea_ with ea_ en_ ec_
                        subst ea_
                        subst ec_
                        clear en_
                        have ea_ := Option.some.inj (hx148_5.symm.trans hx149_5)
                        injection ea_ with ea_ en_ ec_
                        subst ea_
                        subst ec_
                        clear en_
                        have ea_ := Option.some.inj (hx148_6.symm.trans hx149_6)
                        injection ea_ with ea_ en_ ec_
                        subst ea_
                        subst ec_
                        clear en_
                        have p150 : 0 ≤ (x12_1 : Int) := of_decide_eq_true (by first | (with_reducible assumption) | assumption)
                        have q150 : x12_1 < (((rd_T61 l0 ji8).f3).length : Int) := of_decide_eq_true (by first | (with_reducible assumption) | assumption)
                        obtain ⟨ad150, A150_1, c150_1, A150_2, c150_2, A150_3, c150_3, A150_4, c150_4, A150_5, c150_5, e150, hx150_0, hx150_1, hx150_2, hx150_3, hx150_4, hx150_5, hl150_1, hi150_1, hl150_2, hi150_2, hl150_3, hi150_3, hl150_4, hi150_4, hl150_5, hi150_5⟩ := at_T65 HR149_3.out x12_1 p150 q150
                        cases e150
                        replace hx150_0 := (HB.out.cell (World.block_lt_of_cell? w _ hx150_0)).trans hx150_0
                        replace hx150_1 := (HB.out.cell (World.block_lt_of_cell? w _ hx150_1)).trans hx150_1
                        replace hx150_2 := (HB.out.cell (World.block_lt_of_cell? w _ hx150_2)).trans hx150_2
                        replace hx150_3 := (HB.out.cell (World.block_lt_of_cell? w _ hx150_3)).trans hx150_3
                        replace hx150_4 := (HB.out.cell (World.block_lt_of_cell? w _ hx150_4)).trans hx150_4
                        replace hx150_5 := (HB.out.cell (World.block_lt_of_cell? w _ hx150_5)).trans hx150_5
                        have HR150_1 := Aside0.mk hi150_1
                        have HC150_1 := Aside0.mk hl150_1
                        clear hi150_1 hl150_1
                        have HR150_2 := Aside0.mk hi150_2
                        have HC150_2 := Aside0.mk hl150_2
                        clear hi150_2 hl150_2
                        have HR150_3 := Aside0.mk hi150_3
                        have HC150_3 := Aside0.mk hl150_3
                        clear hi150_3 hl150_3
                        have HR150_4 := Aside0.mk hi150_4
                        have HC150_4 := Aside0.mk hl150_4
                        clear hi150_4 hl150_4
                        have HR150_5 := Aside0.mk hi150_5
                        have HC150_5 := Aside0.mk hl150_5
                        clear hi150_5 hl150_5
                        replace p150 := eq_true p150
                        replace q150 := eq_true q150
                        go_wp2_with (first | ((with_reducible refine gate_callee (f := 32) rfl ?_); refine goesL_ (some 60) rfl rfl Try.func32 (by kernel_rfl) rfl #[.slice (some ad145) l0.length c0, .string ((rd_T65 ((rd_T61 l0 ji8).f3) x12_1).f0), .string t144] rfl (by (try simp only [List.map_toArray, List.map_cons, List.map_nil]); first | done | (simp only [hji8]; rfl) | rfl | (simp only [List.length_drop, List.length_take]; rfl)) ?_; (with_reducible refine (heir_Ways.calls _ _ l0 ((rd_T65 ((rd_T61 l0 ji8).f3) x12_1).f0) t144 t151 t152 _ ?side1 ?side2 A18.out).mono ?_); (case side1 => repeat (first | exact (Kd.C_below HR0.out HB.out) | (with_reducible refine Kd.C_alloc ?_ _) | (with_reducible refine Kd.C_drewN ?_ _) | (with_reducible refine Kd.C_drew ?_))); (case side2 => exact HC0.out); rintro e w20 ⟨rfl, hb⟩; refine ⟨_, rfl, ?_⟩; have n0_ := Aside0.mk (below_step (by repeat (first | (with_reducible first | exact HB.out | apply below_alloc | apply pw_below_drewN | apply below_drew1) | exact HB.out)) hb); clear HB; have HB := n0_; clear n0_; (try clear hb); (try clear hb2); (try clear hk); (try clear hi)))
                        go_roundg k1
                        case measure => have := HK1.out; omega
                        case rel => exact ⟨(wrap64 (x11_1 + t151)), (wrap64 (x12_1 + 1)), (by first | rfl | (simp; done) | (simp [*]; done)), (by first | rfl | (simp; done) | (simp [*]; done)), H', ⟨by have := HK1.out; omega⟩, ⟨by repeat (first | (with_reducible first | exact HB.out | apply below_alloc | apply pw_below_drewN | apply below_drew1) | exact HB.out)⟩⟩
                      · rw [if_neg c19] at H
                        have c19b0 : (t152 == 0) = false := beq_eq_false_iff_ne.mpr c19
                        have c19b1 : (t152 != 0) = true := bne_iff_ne.mpr c19
                        obtain rfl := Option.some.inj H
                        have p148 : 0 ≤ (ji8 : Int) := of_decide_eq_true (by first | (with_reducible assumption) | assumption)
                        have q148 : ji8 < (l0.length : Int) := of_decide_eq_true (by first | (with_reducible assumption) | assumption)
                        obtain ⟨ad148, A148_2, c148_2, A148_3, c148_3, A148_4, c148_4, A148_5, c148_5, A148_6, c148_6, e148, hx148_0, hx148_1, hx148_2, hx148_3, hx148_4, hx148_5, hx148_6, hl148_2, hi148_2, hl148_3, hi148_3, hl148_4, hi148_4, hl148_5, hi148_5, hl148_6, hi148_6⟩ := at_T61 HR0.out ji8 p148 q148
                        obtain rfl : ad145 = ad148 := (by injection e148)
                        replace hx148_0 := (HB.out.cell (World.block_lt_of_cell? w _ hx148_0)).trans hx148_0
                        replace hx148_1 := (HB.out.cell (World.block_lt_of_cell? w _ hx148_1)).trans hx148_1
                        replace hx148_2 := (HB.out.cell (World.block_lt_of_cell? w _ hx148_2)).trans hx148_2
                        replace hx148_3 := (HB.out.cell (World.block_lt_of_cell? w _ hx148_3)).trans hx148_3
                        replace hx148_4 := (HB.out.cell (World.block_lt_of_cell? w _ hx148_4)).trans hx148_4
                        replace hx148_5 := (HB.out.cell (World.block_lt_of_cell? w _ hx148_5)).trans hx148_5
                        replace hx148_6 := (HB.out.cell (World.block_lt_of_cell? w _ hx148_6)).trans hx148_6
                        have HR148_2 := Aside0.mk hi148_2
                        have HC148_2 := Aside0.mk hl148_2
                        clear hi148_2 hl148_2
                        have HR148_3 := Aside0.mk hi148_3
                        have HC148_3 := Aside0.mk hl148_3
                        clear hi148_3 hl148_3
                        have HR148_4 := Aside0.mk hi148_4
                        have HC148_4 := Aside0.mk hl148_4
                        clear hi148_4 hl148_4
                        have HR148_5 := Aside0.mk hi148_5
                        have HC148_5 := Aside0.mk hl148_5
                        clear hi148_5 hl148_5
                        have HR148_6 := Aside0.mk hi148_6
                        have HC148_6 := Aside0.mk hl148_6
                        clear hi148_6 hl148_6
                        replace p148 := eq_true p148
                        replace q148 := eq_true q148
                        have p149 : 0 ≤ (ji8 : Int) := of_decide_eq_true (by first | (with_reducible assumption) | assumption)
                        have q149 : ji8 < (l0.length : Int) := of_decide_eq_true (by first | (with_reducible assumption) | assumption)
                        obtain ⟨ad149, A149_2, c149_2, A149_3, c149_3, A149_4, c149_4, A149_5, c149_5, A149_6, c149_6, e149, hx149_0, hx149_1, hx149_2, hx149_3, hx149_4, hx149_5, hx149_6, hl149_2, hi149_2, hl149_3, hi149_3, hl149_4, hi149_4, hl149_5, hi149_5, hl149_6, hi149_6⟩ := at_T61 HR0.out ji8 p149 q149
                        obtain rfl : ad145 = ad149 := (by injection e149)
                        replace hx149_0 := (HB.out.cell (World.block_lt_of_cell? w _ hx149_0)).trans hx149_0
                        replace hx149_1 := (HB.out.cell (World.block_lt_of_cell? w _ hx149_1)).trans hx149_1
                        replace hx149_2 := (HB.out.cell (World.block_lt_of_cell? w _ hx149_2)).trans hx149_2
                        replace hx149_3 := (HB.out.cell (World.block_lt_of_cell? w _ hx149_3)).trans hx149_3
                        replace hx149_4 := (HB.out.cell (World.block_lt_of_cell? w _ hx149_4)).trans hx149_4
                        replace hx149_5 := (HB.out.cell (World.block_lt_of_cell? w _ hx149_5)).trans hx149_5
                        replace hx149_6 := (HB.out.cell (World.block_lt_of_cell? w _ hx149_6)).trans hx149_6
                        have HR149_2 := Aside0.mk hi149_2
                        have HC149_2 := Aside0.mk hl149_2
                        clear hi149_2 hl149_2
                        have HR149_3 := Aside0.mk hi149_3
                        have HC149_3 := Aside0.mk hl149_3
                        clear hi149_3 hl149_3
                        have HR149_4 := Aside0.mk hi149_4
                        have HC149_4 := Aside0.mk hl149_4
                        clear hi149_4 hl149_4
                        have HR149_5 := Aside0.mk hi149_5
                        have HC149_5 := Aside0.mk hl149_5
                        clear hi149_5 hl149_5
                        have HR149_6 := Aside0.mk hi149_6
                        have HC149_6 := Aside0.mk hl149_6
                        clear hi149_6 hl149_6
                        replace p149 := eq_true p149
                        replace q149 := eq_true q149
                        have ea_ := Option.some.inj (hx148_2.symm.trans hx149_2)
                        injection ea_ with ea_ en_ ec_
                        subst ea_
                        subst ec_
                        clear en_
                        have ea_ := Option.some.inj (hx148_3.symm.trans hx149_3)
                        injection ea_ with ea_ en_ ec_
                        subst ea_
                        subst ec_
                        clear en_
                        have ea_ := Option.some.inj (hx148_4.symm.trans hx149_4)
                        injection ea_ with ea_ en_ ec_
                        subst ea_
                        subst ec_
                        clear en_
                        have ea_ := Option.some.inj (hx148_5.symm.trans hx149_5)
                        injection ea_ with ea_ en_ ec_
                        subst ea_
                        subst ec_
                        clear en_
                        have ea_ := Option.some.inj (hx148_6.symm.trans hx149_6)
                        injection ea_ with ea_ en_ ec_
                        subst ea_
                        subst ec_
                        clear en_
                        have p150 : 0 ≤ (x12_1 : Int) := of_decide_eq_true (by first | (with_reducible assumption) | assumption)
                        have q150 : x12_1 < (((rd_T61 l0 ji8).f3).length : Int) := of_decide_eq_true (by first | (with_reducible assumption) | assumption)
                        obtain ⟨ad150, A150_1, c150_1, A150_2, c150_2, A150_3, c150_3, A150_4, c150_4, A150_5, c150_5, e150, hx150_0, hx150_1, hx150_2, hx150_3, hx150_4, hx150_5, hl150_1, hi150_1, hl150_2, hi150_2, hl150_3, hi150_3, hl150_4, hi150_4, hl150_5, hi150_5⟩ := at_T65 HR149_3.out x12_1 p150 q150
                        cases e150
                        replace hx150_0 := (HB.out.cell (World.block_lt_of_cell? w _ hx150_0)).trans hx150_0
                        replace hx150_1 := (HB.out.cell (World.block_lt_of_cell? w _ hx150_1)).trans hx150_1
                        replace hx150_2 := (HB.out.cell (World.block_lt_of_cell? w _ hx150_2)).trans hx150_2
                        replace hx150_3 := (HB.out.cell (World.block_lt_of_cell? w _ hx150_3)).trans hx150_3
                        replace hx150_4 := (HB.out.cell (World.block_lt_of_cell? w _ hx150_4)).trans hx150_4
                        replace hx150_5 := (HB.out.cell (World.block_lt_of_cell? w _ hx150_5)).trans hx150_5
                        have HR150_1 := Aside0.mk hi150_1
                        have HC150_1 := Aside0.mk hl150_1
                        clear hi150_1 hl150_1
                        have HR150_2 := Aside0.mk hi150_2
                        have HC150_2 := Aside0.mk hl150_2
                        clear hi150_2 hl150_2
                        have HR150_3 := Aside0.mk hi150_3
                        have HC150_3 := Aside0.mk hl150_3
                        clear hi150_3 hl150_3
                        have HR150_4 := Aside0.mk hi150_4
                        have HC150_4 := Aside0.mk hl150_4
                        clear hi150_4 hl150_4
                        have HR150_5 := Aside0.mk hi150_5
                        have HC150_5 := Aside0.mk hl150_5
                        clear hi150_5 hl150_5
                        replace p150 := eq_true p150
                        replace q150 := eq_true q150
                        go_wp2_with (first | ((with_reducible refine gate_callee (f := 32) rfl ?_); refine goesL_ (some 60) rfl rfl Try.func32 (by kernel_rfl) rfl #[.slice (some ad145) l0.length c0, .string ((rd_T65 ((rd_T61 l0 ji8).f3) x12_1).f0), .string t144] rfl (by (try simp only [List.map_toArray, List.map_cons, List.map_nil]); first | done | (simp only [hji8]; rfl) | rfl | (simp only [List.length_drop, List.length_take]; rfl)) ?_; (with_reducible refine (heir_Ways.calls _ _ l0 ((rd_T65 ((rd_T61 l0 ji8).f3) x12_1).f0) t144 t151 t152 _ ?side1 ?side2 A18.out).mono ?_); (case side1 => repeat (first | exact (Kd.C_below HR0.out HB.out) | (with_reducible refine Kd.C_alloc ?_ _) | (with_reducible refine Kd.C_drewN ?_ _) | (with_reducible refine Kd.C_drew ?_))); (case side2 => exact HC0.out); rintro e w21 ⟨rfl, hb⟩; refine ⟨_, rfl, ?_⟩; have n0_ := Aside0.mk (below_step (by repeat (first | (with_reducible first | exact HB.out | apply below_alloc | apply pw_below_drewN | apply below_drew1) | exact HB.out)) hb); clear HB; have HB := n0_; clear n0_; (try clear hb); (try clear hb2); (try clear hk); (try clear hi)))
                        go_ret
                        exact ⟨by first | rfl | (simp [errW_none, errW_some] <;> rfl) | (simp only [← hji8]; first | rfl | (simp [errW_none, errW_some] <;> rfl)) | (simp [*, errW_none, errW_some] <;> rfl), by repeat (first | (with_reducible first | exact HB.out | apply below_alloc | apply pw_below_drewN | apply below_drew1) | exact HB.out)⟩
                    · rw [if_neg c17] at H
                      exact absurd H (by simp)
                  · rw [if_neg c16] at H
                    have c16b0 : decide (x12_1 < (((rd_T61 l0 ji8).f3).length : Int)) = false := decide_eq_false c16
                    clear c16
                    by_cases c22 : ((rd_T61 l0 ji8).f0).toList = t144.toList
                    · rw [if_pos c22] at H
                      have c22b0 : (((rd_T61 l0 ji8).f0).toList == t144.toList) = true := beq_iff_eq.mpr c22
                      have c22b1 : (((rd_T61 l0 ji8).f0).toList != t144.toList) = false := bne_eq_false_iff_eq.mpr c22
                      clear c22
                      replace H := Option.bind_eq_some_iff.mp H
                      obtain ⟨t154, A230, H⟩ := H
                      replace H : (if t154 = true then (if t147 = 0 then (if t146 = (wrap64 (x11_1 + 1)) then ((cosignerlaw03_is.f l0 ((rd_T61 l0 ji8).f0) t144).bind fun t156 => (some ((decide (t146 > 0)) == t156))) else (some false)) else (some false)) else (some false)) = some r := H
                      have A23 := Aside0.mk A230
                      clear A230
                      by_cases c24 : t154 = true
                      · subst c24
                        have H1 : (if t147 = 0 then (if t146 = (wrap64 (x11_1 + 1)) then ((cosignerlaw03_is.f l0 ((rd_T61 l0 ji8).f0) t144).bind fun t156 => (some ((decide (t146 > 0)) == t156))) else (some false)) else (some false)) = some r := by rw [if_pos rfl] at H; exact H
                        clear H
                        have H := H1
                        clear H1
                        by_cases c25 : t147 = 0
                        · rw [if_pos c25] at H
                          have c25b0 : (t147 == 0) = true := beq_iff_eq.mpr c25
                          have c25b1 : (t147 != 0) = false := bne_eq_false_iff_eq.mpr c25
                          clear c25
                          by_cases c26 : t146 = (wrap64 (x11_1 + 1))
                          · rw [if_pos c26] at H
                            have c26b0 : (t146 == (wrap64 (x11_1 + 1))) = true := beq_iff_eq.mpr c26
                            have c26b1 : (t146 != (wrap64 (x11_1 + 1))) = false := bne_eq_false_iff_eq.mpr c26
                            clear c26
                            replace H := Option.bind_eq_some_iff.mp H
                            obtain ⟨t156, A270, H⟩ := H
                            replace H : (some ((decide (t146 > 0)) == t156)) = some r := H
                            have A27 := Aside0.mk A270
                            clear A270
                            obtain rfl := Option.some.inj H
                            have p148 : 0 ≤ (ji8 : Int) := of_decide_eq_true (by first | (with_reducible assumption) | assumption)
                            have q148 : ji8 < (l0.length : Int) := of_decide_eq_true (by first | (with_reducible assumption) | assumption)
                            obtain ⟨ad148, A148_2, c148_2, A148_3, c148_3, A148_4, c148_4, A148_5, c148_5, A148_6, c148_6, e148, hx148_0, hx148_1, hx148_2, hx148_3, hx148_4, hx148_5, hx148_6, hl148_2, hi148_2, hl148_3, hi148_3, hl148_4, hi148_4, hl148_5, hi148_5, hl148_6, hi148_6⟩ := at_T61 HR0.out ji8 p148 q148
                            obtain rfl : ad145 = ad148 := (by injection e148)
                            replace hx148_0 := (HB.out.cell (World.block_lt_of_cell? w _ hx148_0)).trans hx148_0
                            replace hx148_1 := (HB.out.cell (World.block_lt_of_cell? w _ hx148_1)).trans hx148_1
                            replace hx148_2 := (HB.out.cell (World.block_lt_of_cell? w _ hx148_2)).trans hx148_2
                            replace hx148_3 := (HB.out.cell (World.block_lt_of_cell? w _ hx148_3)).trans hx148_3
                            replace hx148_4 := (HB.out.cell (World.block_lt_of_cell? w _ hx148_4)).trans hx148_4
                            replace hx148_5 := (HB.out.cell (World.block_lt_of_cell? w _ hx148_5)).trans hx148_5
                            replace hx148_6 := (HB.out.cell (World.block_lt_of_cell? w _ hx148_6)).trans hx148_6
                            have HR148_2 := Aside0.mk hi148_2
                            have HC148_2 := Aside0.mk hl148_2
                            clear hi148_2 hl148_2
                            have HR148_3 := Aside0.mk hi148_3
                            have HC148_3 := Aside0.mk hl148_3
                            clear hi148_3 hl148_3
                            have HR148_4 := Aside0.mk hi148_4
                            have HC148_4 := Aside0.mk hl148_4
                            clear hi148_4 hl148_4
                            have HR148_5 := Aside0.mk hi148_5
                            have HC148_5 := Aside0.mk hl148_5
                            clear hi148_5 hl148_5
                            have HR148_6 := Aside0.mk hi148_6
                            have HC148_6 := Aside0.mk hl148_6
                            clear hi148_6 hl148_6
                            replace p148 := eq_true p148
                            replace q148 := eq_true q148
                            have p153 : 0 ≤ (ji8 : Int) := of_decide_eq_true (by first | (with_reducible assumption) | assumption)
                            have q153 : ji8 < (l0.length : Int) := of_decide_eq_true (by first | (with_reducible assumption) | assumption)
                            obtain ⟨ad153, A153_2, c153_2, A153_3, c153_3, A153_4, c153_4, A153_5, c153_5, A153_6, c153_6, e153, hx153_0, hx153_1, hx153_2, hx153_3, hx153_4, hx153_5, hx153_6, hl153_2, hi153_2, hl153_3, hi153_3, hl153_4, hi153_4, hl153_5, hi153_5, hl153_6, hi153_6⟩ := at_T61 HR0.out ji8 p153 q153
                            obtain rfl : ad145 = ad153 := (by injection e153)
                            replace hx153_0 := (HB.out.cell (World.block_lt_of_cell? w _ hx153_0)).trans hx153_0
                            replace hx153_1 := (HB.out.cell (World.block_lt_of_cell? w _ hx153_1)).trans hx153_1
                            replace hx153_2 := (HB.out.cell (World.block_lt_of_cell? w _ hx153_2)).trans hx153_2
                            replace hx153_3 := (HB.out.cell (World.block_lt_of_cell? w _ hx153_3)).trans hx153_3
                            replace hx153_4 := (HB.out.cell (World.block_lt_of_cell? w _ hx153_4)).trans hx153_4
                            replace hx153_5 := (HB.out.cell (World.block_lt_of_cell? w _ hx153_5)).trans hx153_5
                            replace hx153_6 := (HB.out.cell (World.block_lt_of_cell? w _ hx153_6)).trans hx153_6
                            have HR153_2 := Aside0.mk hi153_2
                            have HC153_2 := Aside0.mk hl153_2
                            clear hi153_2 hl153_2
                            have HR153_3 := Aside0.mk hi153_3
                            have HC153_3 := Aside0.mk hl153_3
                            clear hi153_3 hl153_3
                            have HR153_4 := Aside0.mk hi153_4
                            have HC153_4 := Aside0.mk hl153_4
                            clear hi153_4 hl153_4
                            have HR153_5 := Aside0.mk hi153_5
                            have HC153_5 := Aside0.mk hl153_5
                            clear hi153_5 hl153_5
                            have HR153_6 := Aside0.mk hi153_6
                            have HC153_6 := Aside0.mk hl153_6
                            clear hi153_6 hl153_6
                            replace p153 := eq_true p153
                            replace q153 := eq_true q153
                            have ea_ := Option.some.inj (hx148_2.symm.trans hx153_2)
                            injection ea_ with ea_ en_ ec_
                            subst ea_
                            subst ec_
                            clear en_
                            have ea_ := Option.some.inj (hx148_3.symm.trans hx153_3)
                            injection ea_ with ea_ en_ ec_
                            subst ea_
                            subst ec_
                            clear en_
                            have ea_ := Option.some.inj (hx148_4.symm.trans hx153_4)
                            injection ea_ with ea_ en_ ec_
                            subst ea_
                            subst ec_
                            clear en_
                            have ea_ := Option.some.inj (hx148_5.symm.trans hx153_5)
                            injection ea_ with ea_ en_ ec_
                            subst ea_
                            subst ec_
                            clear en_
                            have ea_ := Option.some.inj (hx148_6.symm.trans hx153_6)
                            injection ea_ with ea_ en_ ec_
                            subst ea_
                            subst ec_
                            clear en_
                            go_wp2_with (first | ((with_reducible refine gate_callee (f := 16) rfl ?_); refine goesL_ (some 77) rfl rfl Try.func16 (by kernel_rfl) rfl #[] rfl (by (try simp only [List.map_toArray, List.map_cons, List.map_nil]); first | done | rfl | (simp only [List.length_drop, List.length_take]; rfl)) ?_; (with_reducible refine (cosignerlaw03_sanity.calls  true _ A23.out).mono ?_); rintro e w28 ⟨rfl, hb⟩; refine ⟨_, rfl, ?_⟩; have n0_ := Aside0.mk (below_step (by repeat (first | (with_reducible first | exact HB.out | apply below_alloc | apply pw_below_drewN | apply below_drew1) | exact HB.out)) hb); clear HB; have HB := n0_; clear n0_; (try clear hb); (try clear hb2); (try clear hk); (try clear hi); have p155 : 0 ≤ (ji8 : Int) := of_decide_eq_true (by first | (with_reducible assumption) | assumption); have q155 : ji8 < (l0.length : Int) := of_decide_eq_true (by first | (with_reducible assumption) | assumption); obtain ⟨ad155, A155_2, c155_2, A155_3, c155_3, A155_4, c155_4, A155_5, c155_5, A155_6, c155_6, e155, hx155_0, hx155_1, hx155_2, hx155_3, hx155_4, hx155_5, hx155_6, hl155_2, hi155_2, hl155_3, hi155_3, hl155_4, hi155_4, hl155_5, hi155_5, hl155_6, hi155_6⟩ := at_T61 HR0.out ji8 p155 q155; obtain rfl : ad145 = ad155 := (by injection e155); replace hx155_0 := (HB.out.cell (World.block_lt_of_cell? w _ hx155_0)).trans hx155_0; replace hx155_1 := (HB.out.cell (World.block_lt_of_cell? w _ hx155_1)).trans hx155_1; replace hx155_2 := (HB.out.cell (World.block_lt_of_cell? w _ hx155_2)).trans hx155_2; replace hx155_3 := (HB.out.cell (World.block_lt_of_cell? w _ hx155_3)).trans hx155_3; replace hx155_4 := (HB.out.cell (World.block_lt_of_cell? w _ hx155_4)).trans hx155_4; replace hx155_5 := (HB.out.cell (World.block_lt_of_cell? w _ hx155_5)).trans hx155_5; replace hx155_6 := (HB.out.cell (World.block_lt_of_cell? w _ hx155_6)).trans hx155_6; have HR155_2 := Aside0.mk hi155_2; have HC155_2 := Aside0.mk hl155_2; clear hi155_2 hl155_2; have HR155_3 := Aside0.mk hi155_3; have HC155_3 := Aside0.mk hl155_3; clear hi155_3 hl155_3; have HR155_4 := Aside0.mk hi155_4; have HC155_4 := Aside0.mk hl155_4; clear hi155_4 hl155_4; have HR155_5 := Aside0.mk hi155_5; have HC155_5 := Aside0.mk hl155_5; clear hi155_5 hl155_5; have HR155_6 := Aside0.mk hi155_6; have HC155_6 := Aside0.mk hl155_6; clear hi155_6 hl155_6; replace p155 := eq_true p155; replace q155 := eq_true q155) | (go_at_call 33; (with_reducible refine (cosignerlaw03_is.calls _ _ l0 ((rd_T61 l0 ji8).f0) t144 t156 _ ?side1 ?side2 A27.out).mono ?_); (case side1 => repeat (first | exact (Kd.C_below HR0.out HB.out) | (with_reducible refine Kd.C_alloc ?_ _) | (with_reducible refine Kd.C_drewN ?_ _) | (with_reducible refine Kd.C_drew ?_))); (case side2 => exact HC0.out); rintro e w29 ⟨rfl, hb⟩; have n0_ := Aside0.mk (below_step (by repeat (first | (with_reducible first | exact HB.out | apply below_alloc | apply pw_below_drewN | apply below_drew1) | exact HB.out)) hb); clear HB; have HB := n0_; clear n0_; (try clear hb); (try clear hb2); (try clear hk); (try clear hi)))
                            go_ret
                            exact ⟨by first | rfl | (simp [errW_none, errW_some] <;> rfl) | (simp only [← hji8]; first | rfl | (simp [errW_none, errW_some] <;> rfl)) | (simp [*, errW_none, errW_some] <;> rfl), by repeat (first | (with_reducible first | exact HB.out | apply below_alloc | apply pw_below_drewN | apply below_drew1) | exact HB.out)⟩
                          · rw [if_neg c26] at H
                            have c26b0 : (t146 == (wrap64 (x11_1 + 1))) = false := beq_eq_false_iff_ne.mpr c26
                            have c26b1 : (t146 != (wrap64 (x11_1 + 1))) = true := bne_iff_ne.mpr c26
                            obtain rfl := Option.some.inj H
                            have p148 : 0 ≤ (ji8 : Int) := of_decide_eq_true (by first | (with_reducible assumption) | assumption)
                            have q148 : ji8 < (l0.length : Int) := of_decide_eq_true (by first | (with_reducible assumption) | assumption)
                            obtain ⟨ad148, A148_2, c148_2, A148_3, c148_3, A148_4, c148_4, A148_5, c148_5, A148_6, c148_6, e148, hx148_0, hx148_1, hx148_2, hx148_3, hx148_4, hx148_5, hx148_6, hl148_2, hi148_2, hl148_3, hi148_3, hl148_4, hi148_4, hl148_5, hi148_5, hl148_6, hi148_6⟩ := at_T61 HR0.out ji8 p148 q148
                            obtain rfl : ad145 = ad148 := (by injection e148)
                            replace hx148_0 := (HB.out.cell (World.block_lt_of_cell? w _ hx148_0)).trans hx148_0
                            replace hx148_1 := (HB.out.cell (World.block_lt_of_cell? w _ hx148_1)).trans hx148_1
                            replace hx148_2 := (HB.out.cell (World.block_lt_of_cell? w _ hx148_2)).trans hx148_2
                            replace hx148_3 := (HB.out.cell (World.block_lt_of_cell? w _ hx148_3)).trans hx148_3
                            replace hx148_4 := (HB.out.cell (World.block_lt_of_cell? w _ hx148_4)).trans hx148_4
                            replace hx148_5 := (HB.out.cell (World.block_lt_of_cell? w _ hx148_5)).trans hx148_5
                            replace hx148_6 := (HB.out.cell (World.block_lt_of_cell? w _ hx148_6)).trans hx148_6
                            have HR148_2 := Aside0.mk hi148_2
                            have HC148_2 := Aside0.mk hl148_2
                            clear hi148_2 hl148_2
                            have HR148_3 := Aside0.mk hi148_3
                            have HC148_3 := Aside0.mk hl148_3
                            clear hi148_3 hl148_3
                            have HR148_4 := Aside0.mk hi148_4
                            have HC148_4 := Aside0.mk hl148_4
                            clear hi148_4 hl148_4
                            have HR148_5 := Aside0.mk hi148_5
                            have HC148_5 := Aside0.mk hl148_5
                            clear hi148_5 hl148_5
                            have HR148_6 := Aside0.mk hi148_6
                            have HC148_6 := Aside0.mk hl148_6
                            clear hi148_6 hl148_6
                            replace p148 := eq_true p148
                            replace q148 := eq_true q148
                            have p153 : 0 ≤ (ji8 : Int) := of_decide_eq_true (by first | (with_reducible assumption) | assumption)
                            have q153 : ji8 < (l0.length : Int) := of_decide_eq_true (by first | (with_reducible assumption) | assumption)
                            obtain ⟨ad153, A153_2, c153_2, A153_3, c153_3, A153_4, c153_4, A153_5, c153_5, A153_6, c153_6, e153, hx153_0, hx153_1, hx153_2, hx153_3, hx153_4, hx153_5, hx153_6, hl153_2, hi153_2, hl153_3, hi153_3, hl153_4, hi153_4, hl153_5, hi153_5, hl153_6, hi153_6⟩ := at_T61 HR0.out ji8 p153 q153
                            obtain rfl : ad145 = ad153 := (by injection e153)
                            replace hx153_0 := (HB.out.cell (World.block_lt_of_cell? w _ hx153_0)).trans hx153_0
                            replace hx153_1 := (HB.out.cell (World.block_lt_of_cell? w _ hx153_1)).trans hx153_1
                            replace hx153_2 := (HB.out.cell (World.block_lt_of_cell? w _ hx153_2)).trans hx153_2
                            replace hx153_3 := (HB.out.cell (World.block_lt_of_cell? w _ hx153_3)).trans hx153_3
                            replace hx153_4 := (HB.out.cell (World.block_lt_of_cell? w _ hx153_4)).trans hx153_4
                            replace hx153_5 := (HB.out.cell (World.block_lt_of_cell? w _ hx153_5)).trans hx153_5
                            replace hx153_6 := (HB.out.cell (World.block_lt_of_cell? w _ hx153_6)).trans hx153_6
                            have HR153_2 := Aside0.mk hi153_2
                            have HC153_2 := Aside0.mk hl153_2
                            clear hi153_2 hl153_2
                            have HR153_3 := Aside0.mk hi153_3
                            have HC153_3 := Aside0.mk hl153_3
                            clear hi153_3 hl153_3
                            have HR153_4 := Aside0.mk hi153_4
                            have HC153_4 := Aside0.mk hl153_4
                            clear hi153_4 hl153_4
                            have HR153_5 := Aside0.mk hi153_5
                            have HC153_5 := Aside0.mk hl153_5
                            clear hi153_5 hl153_5
                            have HR153_6 := Aside0.mk hi153_6
                            have HC153_6 := Aside0.mk hl153_6
                            clear hi153_6 hl153_6
                            replace p153 := eq_true p153
                            replace q153 := eq_true q153
                            have ea_ := Option.some.inj (hx148_2.symm.trans hx153_2)
                            injection ea_ with ea_ en_ ec_
                            subst ea_
                            subst ec_
                            clear en_
                            have ea_ := Option.some.inj (hx148_3.symm.trans hx153_3)
                            injection ea_ with ea_ en_ ec_
                            subst ea_
                            subst ec_
                            clear en_
                            have ea_ := Option.some.inj (hx148_4.symm.trans hx153_4)
                            injection ea_ with ea_ en_ ec_
                            subst ea_
                            subst ec_
                            clear en_
                            have ea_ := Option.some.inj (hx148_5.symm.trans hx153_5)
                            injection ea_ with ea_ en_ ec_
                            subst ea_
                            subst ec_
                            clear en_
                            have ea_ := Option.some.inj (hx148_6.symm.trans hx153_6)
                            injection ea_ with ea_ en_ ec_
                            subst ea_
                            subst ec_
                            clear en_
                            go_wp2_with (first | ((with_reducible refine gate_callee (f := 16) rfl ?_); refine goesL_ (some 77) rfl rfl Try.func16 (by kernel_rfl) rfl #[] rfl (by (try simp only [List.map_toArray, List.map_cons, List.map_nil]); first | done | rfl | (simp only [List.length_drop, List.length_take]; rfl)) ?_; (with_reducible refine (cosignerlaw03_sanity.calls  true _ A23.out).mono ?_); rintro e w30 ⟨rfl, hb⟩; refine ⟨_, rfl, ?_⟩; have n0_ := Aside0.mk (below_step (by repeat (first | (with_reducible first | exact HB.out | apply below_alloc | apply pw_below_drewN | apply below_drew1) | exact HB.out)) hb); clear HB; have HB := n0_; clear n0_; (try clear hb); (try clear hb2); (try clear hk); (try clear hi)))
                            go_ret
                            exact ⟨by first | rfl | (simp [errW_none, errW_some] <;> rfl) | (simp only [← hji8]; first | rfl | (simp [errW_none, errW_some] <;> rfl)) | (simp [*, errW_none, errW_some] <;> rfl), by repeat (first | (with_reducible first | exact HB.out | apply below_alloc | apply pw_below_drewN | apply below_drew1) | exact HB.out)⟩
                        · rw [if_neg c25] at H
                          have c25b0 : (t147 == 0) = false := beq_eq_false_iff_ne.mpr c25
                          have c25b1 : (t147 != 0) = true := bne_iff_ne.mpr c25
                          obtain rfl := Option.some.inj H
                          have p148 : 0 ≤ (ji8 : Int) := of_decide_eq_true (by first | (with_reducible assumption) | assumption)
                          have q148 : ji8 < (l0.length : Int) := of_decide_eq_true (by first | (with_reducible assumption) | assumption)
                          obtain ⟨ad148, A148_2, c148_2, A148_3, c148_3, A148_4, c148_4, A148_5, c148_5, A148_6, c148_6, e148, hx148_0, hx148_1, hx148_2, hx148_3, hx148_4, hx148_5, hx148_6, hl148_2, hi148_2, hl148_3, hi148_3, hl148_4, hi148_4, hl148_5, hi148_5, hl148_6, hi148_6⟩ := at_T61 HR0.out ji8 p148 q148
                          obtain rfl : ad145 = ad148 := (by injection e148)
                          replace hx148_0 := (HB.out.cell (World.block_lt_of_cell? w _ hx148_0)).trans hx148_0
                          replace hx148_1 := (HB.out.cell (World.block_lt_of_cell? w _ hx148_1)).trans hx148_1
                          replace hx148_2 := (HB.out.cell (World.block_lt_of_cell? w _ hx148_2)).trans hx148_2
                          replace hx148_3 := (HB.out.cell (World.block_lt_of_cell? w _ hx148_3)).trans hx148_3
                          replace hx148_4 := (HB.out.cell (World.block_lt_of_cell? w _ hx148_4)).trans hx148_4
                          replace hx148_5 := (HB.out.cell (World.block_lt_of_cell? w _ hx148_5)).trans hx148_5
                          replace hx148_6 := (HB.out.cell (World.block_lt_of_cell? w _ hx148_6)).trans hx148_6
                          have HR148_2 := Aside0.mk hi148_2
                          have HC148_2 := Aside0.mk hl148_2
                          clear hi148_2 hl148_2
                          have HR148_3 := Aside0.mk hi148_3
                          have HC148_3 := Aside0.mk hl148_3
                          clear hi148_3 hl148_3
                          have HR148_4 := Aside0.mk hi148_4
                          have HC148_4 := Aside0.mk hl148_4
                          clear hi148_4 hl148_4
                          have HR148_5 := Aside0.mk hi148_5
                          have HC148_5 := Aside0.mk hl148_5
                          clear hi148_5 hl148_5
                          have HR148_6 := Aside0.mk hi148_6
                          have HC148_6 := Aside0.mk hl148_6
                          clear hi148_6 hl148_6
                          replace p148 := eq_true p148
                          replace q148 := eq_true q148
                          have p153 : 0 ≤ (ji8 : Int) := of_decide_eq_true (by first | (with_reducible assumption) | assumption)
                          have q153 : ji8 < (l0.length : Int) := of_decide_eq_true (by first | (with_reducible assumption) | assumption)
                          obtain ⟨ad153, A153_2, c153_2, A153_3, c153_3, A153_4, c153_4, A153_5, c153_5, A153_6, c153_6, e153, hx153_0, hx153_1, hx153_2, hx153_3, hx153_4, hx153_5, hx153_6, hl153_2, hi153_2, hl153_3, hi153_3, hl153_4, hi153_4, hl153_5, hi153_5, hl153_6, hi153_6⟩ := at_T61 HR0.out ji8 p153 q153
                          obtain rfl : ad145 = ad153 := (by injection e153)
                          replace hx153_0 := (HB.out.cell (World.block_lt_of_cell? w _ hx153_0)).trans hx153_0
                          replace hx153_1 := (HB.out.cell (World.block_lt_of_cell? w _ hx153_1)).trans hx153_1
                          replace hx153_2 := (HB.out.cell (World.block_lt_of_cell? w _ hx153_2)).trans hx153_2
                          replace hx153_3 := (HB.out.cell (World.block_lt_of_cell? w _ hx153_3)).trans hx153_3
                          replace hx153_4 := (HB.out.cell (World.block_lt_of_cell? w _ hx153_4)).trans hx153_4
                          replace hx153_5 := (HB.out.cell (World.block_lt_of_cell? w _ hx153_5)).trans hx153_5
                          replace hx153_6 := (HB.out.cell (World.block_lt_of_cell? w _ hx153_6)).trans hx153_6
                          have HR153_2 := Aside0.mk hi153_2
                          have HC153_2 := Aside0.mk hl153_2
                          clear hi153_2 hl153_2
                          have HR153_3 := Aside0.mk hi153_3
                          have HC153_3 := Aside0.mk hl153_3
                          clear hi153_3 hl153_3
                          have HR153_4 := Aside0.mk hi153_4
                          have HC153_4 := Aside0.mk hl153_4
                          clear hi153_4 hl153_4
                          have HR153_5 := Aside0.mk hi153_5
                          have HC153_5 := Aside0.mk hl153_5
                          clear hi153_5 hl153_5
                          have HR153_6 := Aside0.mk hi153_6
                          have HC153_6 := Aside0.mk hl153_6
                          clear hi153_6 hl153_6
                          replace p153 := eq_true p153
                          replace q153 := eq_true q153
                          have ea_ := Option.some.inj (hx148_2.symm.trans hx153_2)
                          injection ea_ with ea_ en_ ec_
                          subst ea_
                          subst ec_
                          clear en_
                          have ea_ := Option.some.inj (hx148_3.symm.trans hx153_3)
                          injection ea_ with ea_ en_ ec_
                          subst ea_
                          subst ec_
                          clear en_
                          have ea_ := Option.some.inj (hx148_4.symm.trans hx153_4)
                          injection ea_ with ea_ en_ ec_
                          subst ea_
                          subst ec_
                          clear en_
                          have ea_ := Option.some.inj (hx148_5.symm.trans hx153_5)
                          injection ea_ with ea_ en_ ec_
                          subst ea_
                          subst ec_
                          clear en_
                          have ea_ := Option.some.inj (hx148_6.symm.trans hx153_6)
                          injection ea_ with ea_ en_ ec_
                          subst ea_
                          subst ec_
                          clear en_
                          go_wp2_with (first | ((with_reducible refine gate_callee (f := 16) rfl ?_); refine goesL_ (some 77) rfl rfl Try.func16 (by kernel_rfl) rfl #[] rfl (by (try simp only [List.map_toArray, List.map_cons, List.map_nil]); first | done | rfl | (simp only [List.length_drop, List.length_take]; rfl)) ?_; (with_reducible refine (cosignerlaw03_sanity.calls  true _ A23.out).mono ?_); rintro e w31 ⟨rfl, hb⟩; refine ⟨_, rfl, ?_⟩; have n0_ := Aside0.mk (below_step (by repeat (first | (with_reducible first | exact HB.out | apply below_alloc | apply pw_below_drewN | apply below_drew1) | exact HB.out)) hb); clear HB; have HB := n0_; clear n0_; (try clear hb); (try clear hb2); (try clear hk); (try clear hi)))
                          go_ret
                          exact ⟨by first | rfl | (simp [errW_none, errW_some] <;> rfl) | (simp only [← hji8]; first | rfl | (simp [errW_none, errW_some] <;> rfl)) | (simp [*, errW_none, errW_some] <;> rfl), by repeat (first | (with_reducible first | exact HB.out | apply below_alloc | apply pw_below_drewN | apply below_drew1) | exact HB.out)⟩
                      · replace c24 := Bool.eq_false_iff.mpr c24
                        subst c24
                        have H1 : (some false) = some r := by rw [if_neg (show ¬ (false = true) by decide)] at H; exact H
                        clear H
                        have H := H1
                        clear H1
                        obtain rfl := Option.some.inj H
                        have p148 : 0 ≤ (ji8 : Int) := of_decide_eq_true (by first | (with_reducible assumption) | assumption)
                        have q148 : ji8 < (l0.length : Int) := of_decide_eq_true (by first | (with_reducible assumption) | assumption)
                        obtain ⟨ad148, A148_2, c148_2, A148_3, c148_3, A148_4, c148_4, A148_5, c148_5, A148_6, c148_6, e148, hx148_0, hx148_1, hx148_2, hx148_3, hx148_4, hx148_5, hx148_6, hl148_2, hi148_2, hl148_3, hi148_3, hl148_4, hi148_4, hl148_5, hi148_5, hl148_6, hi148_6⟩ := at_T61 HR0.out ji8 p148 q148
                        obtain rfl : ad145 = ad148 := (by injection e148)
                        replace hx148_0 := (HB.out.cell (World.block_lt_of_cell? w _ hx148_0)).trans hx148_0
                        replace hx148_1 := (HB.out.cell (World.block_lt_of_cell? w _ hx148_1)).trans hx148_1
                        replace hx148_2 := (HB.out.cell (World.block_lt_of_cell? w _ hx148_2)).trans hx148_2
                        replace hx148_3 := (HB.out.cell (World.block_lt_of_cell? w _ hx148_3)).trans hx148_3
                        replace hx148_4 := (HB.out.cell (World.block_lt_of_cell? w _ hx148_4)).trans hx148_4
                        replace hx148_5 := (HB.out.cell (World.block_lt_of_cell? w _ hx148_5)).trans hx148_5
                        replace hx148_6 := (HB.out.cell (World.block_lt_of_cell? w _ hx148_6)).trans hx148_6
                        have HR148_2 := Aside0.mk hi148_2
                        have HC148_2 := Aside0.mk hl148_2
                        clear hi148_2 hl148_2
                        have HR148_3 := Aside0.mk hi148_3
                        have HC148_3 := Aside0.mk hl148_3
                        clear hi148_3 hl148_3
                        have HR148_4 := Aside0.mk hi148_4
                        have HC148_4 := Aside0.mk hl148_4
                        clear hi148_4 hl148_4
                        have HR148_5 := Aside0.mk hi148_5
                        have HC148_5 := Aside0.mk hl148_5
                        clear hi148_5 hl148_5
                        have HR148_6 := Aside0.mk hi148_6
                        have HC148_6 := Aside0.mk hl148_6
                        clear hi148_6 hl148_6
                        replace p148 := eq_true p148
                        replace q148 := eq_true q148
                        have p153 : 0 ≤ (ji8 : Int) := of_decide_eq_true (by first | (with_reducible assumption) | assumption)
                        have q153 : ji8 < (l0.length : Int) := of_decide_eq_true (by first | (with_reducible assumption) | assumption)
                        obtain ⟨ad153, A153_2, c153_2, A153_3, c153_3, A153_4, c153_4, A153_5, c153_5, A153_6, c153_6, e153, hx153_0, hx153_1, hx153_2, hx153_3, hx153_4, hx153_5, hx153_6, hl153_2, hi153_2, hl153_3, hi153_3, hl153_4, hi153_4, hl153_5, hi153_5, hl153_6, hi153_6⟩ := at_T61 HR0.out ji8 p153 q153
                        obtain rfl : ad145 = ad153 := (by injection e153)
                        replace hx153_0 := (HB.out.cell (World.block_lt_of_cell? w _ hx153_0)).trans hx153_0
                        replace hx153_1 := (HB.out.cell (World.block_lt_of_cell? w _ hx153_1)).trans hx153_1
                        replace hx153_2 := (HB.out.cell (World.block_lt_of_cell? w _ hx153_2)).trans hx153_2
                        replace hx153_3 := (HB.out.cell (World.block_lt_of_cell? w _ hx153_3)).trans hx153_3
                        replace hx153_4 := (HB.out.cell (World.block_lt_of_cell? w _ hx153_4)).trans hx153_4
                        replace hx153_5 := (HB.out.cell (World.block_lt_of_cell? w _ hx153_5)).trans hx153_5
                        replace hx153_6 := (HB.out.cell (World.block_lt_of_cell? w _ hx153_6)).trans hx153_6
                        have HR153_2 := Aside0.mk hi153_2
                        have HC153_2 := Aside0.mk hl153_2
                        clear hi153_2 hl153_2
                        have HR153_3 := Aside0.mk hi153_3
                        have HC153_3 := Aside0.mk hl153_3
                        clear hi153_3 hl153_3
                        have HR153_4 := Aside0.mk hi153_4
                        have HC153_4 := Aside0.mk hl153_4
                        clear hi153_4 hl153_4
                        have HR153_5 := Aside0.mk hi153_5
                        have HC153_5 := Aside0.mk hl153_5
                        clear hi153_5 hl153_5
                        have HR153_6 := Aside0.mk hi153_6
                        have HC153_6 := Aside0.mk hl153_6
                        clear hi153_6 hl153_6
                        replace p153 := eq_true p153
                        replace q153 := eq_true q153
                        have ea_ := Option.some.inj (hx148_2.symm.trans hx153_2)
                        injection ea_ with ea_ en_ ec_
                        subst ea_
                        subst ec_
                        clear en_
                        have ea_ := Option.some.inj (hx148_3.symm.trans hx153_3)
                        injection ea_ with ea_ en_ ec_
                        subst ea_
                        subst ec_
                        clear en_
                        have ea_ := Option.some.inj (hx148_4.symm.trans hx153_4)
                        injection ea_ with ea_ en_ ec_
                        subst ea_
                        subst ec_
                        clear en_
                        have ea_ := Option.some.inj (hx148_5.symm.trans hx153_5)
                        injection ea_ with ea_ en_ ec_
                        subst ea_
                        subst ec_
                        clear en_
                        have ea_ := Option.some.inj (hx148_6.symm.trans hx153_6)
                        injection ea_ with ea_ en_ ec_
                        subst ea_
                        subst ec_
                        clear en_
                        go_wp2_with (first | ((with_reducible refine gate_callee (f := 16) rfl ?_); refine goesL_ (some 77) rfl rfl Try.func16 (by kernel_rfl) rfl #[] rfl (by (try simp only [List.map_toArray, List.map_cons, List.map_nil]); first | done | rfl | (simp only [List.length_drop, List.length_take]; rfl)) ?_; (with_reducible refine (cosignerlaw03_sanity.calls  false _ A23.out).mono ?_); rintro e w32 ⟨rfl, hb⟩; refine ⟨_, rfl, ?_⟩; have n0_ := Aside0.mk (below_step (by repeat (first | (with_reducible first | exact HB.out | apply below_alloc | apply pw_below_drewN | apply below_drew1) | exact HB.out)) hb); clear HB; have HB := n0_; clear n0_; (try clear hb); (try clear hb2); (try clear hk); (try clear hi)))
                        go_ret
                        exact ⟨by first | rfl | (simp [errW_none, errW_some] <;> rfl) | (simp only [← hji8]; first | rfl | (simp [errW_none, errW_some] <;> rfl)) | (simp [*, errW_none, errW_some] <;> rfl), by repeat (first | (with_reducible first | exact HB.out | apply below_alloc | apply pw_below_drewN | apply below_drew1) | exact HB.out)⟩
                    · rw [if_neg c22] at H
                      have c22b0 : (((rd_T61 l0 ji8).f0).toList == t144.toList) = false := beq_eq_false_iff_ne.mpr c22
                      have c22b1 : (((rd_T61 l0 ji8).f0).toList != t144.toList) = true := bne_iff_ne.mpr c22
                      replace H := Option.bind_eq_some_iff.mp H
                      obtain ⟨t157, A330, H⟩ := H
                      replace H : (if t157 = true then (if t147 = 0 then (if t146 = x11_1 then ((cosignerlaw03_is.f l0 ((rd_T61 l0 ji8).f0) t144).bind fun t159 => (some ((decide (t146 > 0)) == t159))) else (some false)) else (some false)) else (some false)) = some r := H
                      have A33 := Aside0.mk A330
                      clear A330
                      by_cases c34 : t157 = true
                      · subst c34
                        have H1 : (if t147 = 0 then (if t146 = x11_1 then ((cosignerlaw03_is.f l0 ((rd_T61 l0 ji8).f0) t144).bind fun t159 => (some ((decide (t146 > 0)) == t159))) else (some false)) else (some false)) = some r := by rw [if_pos rfl] at H; exact H
                        clear H
                        have H := H1
                        clear H1
                        by_cases c35 : t147 = 0
                        · rw [if_pos c35] at H
                          have c35b0 : (t147 == 0) = true := beq_iff_eq.mpr c35
                          have c35b1 : (t147 != 0) = false := bne_eq_false_iff_eq.mpr c35
                          clear c35
                          by_cases c36 : t146 = x11_1
                          · rw [if_pos c36] at H
                            have c36b0 : (t146 == x11_1) = true := beq_iff_eq.mpr c36
                            have c36b1 : (t146 != x11_1) = false := bne_eq_false_iff_eq.mpr c36
                            clear c36
                            replace H := Option.bind_eq_some_iff.mp H
                            obtain ⟨t159, A370, H⟩ := H
                            replace H : (some ((decide (t146 > 0)) == t159)) = some r := H
                            have A37 := Aside0.mk A370
                            clear A370
                            obtain rfl := Option.some.inj H
                            have p148 : 0 ≤ (ji8 : Int) := of_decide_eq_true (by first | (with_reducible assumption) | assumption)
                            have q148 : ji8 < (l0.length : Int) := of_decide_eq_true (by first | (with_reducible assumption) | assumption)
                            obtain ⟨ad148, A148_2, c148_2, A148_3, c148_3, A148_4, c148_4, A148_5, c148_5, A148_6, c148_6, e148, hx148_0, hx148_1, hx148_2, hx148_3, hx148_4, hx148_5, hx148_6, hl148_2, hi148_2, hl148_3, hi148_3, hl148_4, hi148_4, hl148_5, hi148_5, hl148_6, hi148_6⟩ := at_T61 HR0.out ji8 p148 q148
                            obtain rfl : ad145 = ad148 := (by injection e148)
                            replace hx148_0 := (HB.out.cell (World.block_lt_of_cell? w _ hx148_0)).trans hx148_0
                            replace hx148_1 := (HB.out.cell (World.block_lt_of_cell? w _ hx148_1)).trans hx148_1
                            replace hx148_2 := (HB.out.cell (World.block_lt_of_cell? w _ hx148_2)).trans hx148_2
                            replace hx148_3 := (HB.out.cell (World.block_lt_of_cell? w _ hx148_3)).trans hx148_3
                            replace hx148_4 := (HB.out.cell (World.block_lt_of_cell? w _ hx148_4)).trans hx148_4
                            replace hx148_5 := (HB.out.cell (World.block_lt_of_cell? w _ hx148_5)).trans hx148_5
                            replace hx148_6 := (HB.out.cell (World.block_lt_of_cell? w _ hx148_6)).trans hx148_6
                            have HR148_2 := Aside0.mk hi148_2
                            have HC148_2 := Aside0.mk hl148_2
                            clear hi148_2 hl148_2
                            have HR148_3 := Aside0.mk hi148_3
                            have HC148_3 := Aside0.mk hl148_3
                            clear hi148_3 hl148_3
                            have HR148_4 := Aside0.mk hi148_4
                            have HC148_4 := Aside0.mk hl148_4
                            clear hi148_4 hl148_4
                            have HR148_5 := Aside0.mk hi148_5
                            have HC148_5 := Aside0.mk hl148_5
                            clear hi148_5 hl148_5
                            have HR148_6 := Aside0.mk hi148_6
                            have HC148_6 := Aside0.mk hl148_6
                            clear hi148_6 hl148_6
                            replace p148 := eq_true p148
                            replace q148 := eq_true q148
                            have p153 : 0 ≤ (ji8 : Int) := of_decide_eq_true (by first | (with_reducible assumption) | assumption)
                            have q153 : ji8 < (l0.length : Int) := of_decide_eq_true (by first | (with_reducible assumption) | assumption)
                            obtain ⟨ad153, A153_2, c153_2, A153_3, c153_3, A153_4, c153_4, A153_5, c153_5, A153_6, c153_6, e153, hx153_0, hx153_1, hx153_2, hx153_3, hx153_4, hx153_5, hx153_6, hl153_2, hi153_2, hl153_3, hi153_3, hl153_4, hi153_4, hl153_5, hi153_5, hl153_6, hi153_6⟩ := at_T61 HR0.out ji8 p153 q153
                            obtain rfl : ad145 = ad153 := (by injection e153)
                            replace hx153_0 := (HB.out.cell (World.block_lt_of_cell? w _ hx153_0)).trans hx153_0
                            replace hx153_1 := (HB.out.cell (World.block_lt_of_cell? w _ hx153_1)).trans hx153_1
                            replace hx153_2 := (HB.out.cell (World.block_lt_of_cell? w _ hx153_2)).trans hx153_2
                            replace hx153_3 := (HB.out.cell (World.block_lt_of_cell? w _ hx153_3)).trans hx153_3
                            replace hx153_4 := (HB.out.cell (World.block_lt_of_cell? w _ hx153_4)).trans hx153_4
                            replace hx153_5 := (HB.out.cell (World.block_lt_of_cell? w _ hx153_5)).trans hx153_5
                            replace hx153_6 := (HB.out.cell (World.block_lt_of_cell? w _ hx153_6)).trans hx153_6
                            have HR153_2 := Aside0.mk hi153_2
                            have HC153_2 := Aside0.mk hl153_2
                            clear hi153_2 hl153_2
                            have HR153_3 := Aside0.mk hi153_3
                            have HC153_3 := Aside0.mk hl153_3
                            clear hi153_3 hl153_3
                            have HR153_4 := Aside0.mk hi153_4
                            have HC153_4 := Aside0.mk hl153_4
                            clear hi153_4 hl153_4
                            have HR153_5 := Aside0.mk hi153_5
                            have HC153_5 := Aside0.mk hl153_5
                            clear hi153_5 hl153_5
                            have HR153_6 := Aside0.mk hi153_6
                            have HC153_6 := Aside0.mk hl153_6
                            clear hi153_6 hl153_6
                            replace p153 := eq_true p153
                            replace q153 := eq_true q153
                            have ea_ := Option.some.inj (hx148_2.symm.trans hx153_2)
                            injection ea_ with ea_ en_ ec_
                            subst ea_
                            subst ec_
                            clear en_
                            have ea_ := Option.some.inj (hx148_3.symm.trans hx153_3)
                            injection ea_ with ea_ en_ ec_
                            subst ea_
                            subst ec_
                            clear en_
                            have ea_ := Option.some.inj (hx148_4.symm.trans hx153_4)
                            injection ea_ with ea_ en_ ec_
                            subst ea_
                            subst ec_
                            clear en_
                            have ea_ := Option.some.inj (hx148_5.symm.trans hx153_5)
                            injection ea_ with ea_ en_ ec_
                            subst ea_
                            subst ec_
                            clear en_
                            have ea_ := Option.some.inj (hx148_6.symm.trans hx153_6)
                            injection ea_ with ea_ en_ ec_
                            subst ea_
                            subst ec_
                            clear en_
                            go_wp2_with (first | ((with_reducible refine gate_callee (f := 16) rfl ?_); refine goesL_ (some 77) rfl rfl Try.func16 (by kernel_rfl) rfl #[] rfl (by (try simp only [List.map_toArray, List.map_cons, List.map_nil]); first | done | rfl | (simp only [List.length_drop, List.length_take]; rfl)) ?_; (with_reducible refine (cosignerlaw03_sanity.calls  true _ A33.out).mono ?_); rintro e w38 ⟨rfl, hb⟩; refine ⟨_, rfl, ?_⟩; have n0_ := Aside0.mk (below_step (by repeat (first | (with_reducible first | exact HB.out | apply below_alloc | apply pw_below_drewN | apply below_drew1) | exact HB.out)) hb); clear HB; have HB := n0_; clear n0_; (try clear hb); (try clear hb2); (try clear hk); (try clear hi); have p158 : 0 ≤ (ji8 : Int) := of_decide_eq_true (by first | (with_reducible assumption) | assumption); have q158 : ji8 < (l0.length : Int) := of_decide_eq_true (by first | (with_reducible assumption) | assumption); obtain ⟨ad158, A158_2, c158_2, A158_3, c158_3, A158_4, c158_4, A158_5, c158_5, A158_6, c158_6, e158, hx158_0, hx158_1, hx158_2, hx158_3, hx158_4, hx158_5, hx158_6, hl158_2, hi158_2, hl158_3, hi158_3, hl158_4, hi158_4, hl158_5, hi158_5, hl158_6, hi158_6⟩ := at_T61 HR0.out ji8 p158 q158; obtain rfl : ad145 = ad158 := (by injection e158); replace hx158_0 := (HB.out.cell (World.block_lt_of_cell? w _ hx158_0)).trans hx158_0; replace hx158_1 := (HB.out.cell (World.block_lt_of_cell? w _ hx158_1)).trans hx158_1; replace hx158_2 := (HB.out.cell (World.block_lt_of_cell? w _ hx158_2)).trans hx158_2; replace hx158_3 := (HB.out.cell (World.block_lt_of_cell? w _ hx158_3)).trans hx158_3; replace hx158_4 := (HB.out.cell (World.block_lt_of_cell? w _ hx158_4)).trans hx158_4; replace hx158_5 := (HB.out.cell (World.block_lt_of_cell? w _ hx158_5)).trans hx158_5; replace hx158_6 := (HB.out.cell (World.block_lt_of_cell? w _ hx158_6)).trans hx158_6; have HR158_2 := Aside0.mk hi158_2; have HC158_2 := Aside0.mk hl158_2; clear hi158_2 hl158_2; have HR158_3 := Aside0.mk hi158_3; have HC158_3 := Aside0.mk hl158_3; clear hi158_3 hl158_3; have HR158_4 := Aside0.mk hi158_4; have HC158_4 := Aside0.mk hl158_4; clear hi158_4 hl158_4; have HR158_5 := Aside0.mk hi158_5; have HC158_5 := Aside0.mk hl158_5; clear hi158_5 hl158_5; have HR158_6 := Aside0.mk hi158_6; have HC158_6 := Aside0.mk hl158_6; clear hi158_6 hl158_6; replace p158 := eq_true p158; replace q158 := eq_true q158) | (go_at_call 33; (with_reducible refine (cosignerlaw03_is.calls _ _ l0 ((rd_T61 l0 ji8).f0) t144 t159 _ ?side1 ?side2 A37.out).mono ?_); (case side1 => repeat (first | exact (Kd.C_below HR0.out HB.out) | (with_reducible refine Kd.C_alloc ?_ _) | (with_reducible refine Kd.C_drewN ?_ _) | (with_reducible refine Kd.C_drew ?_))); (case side2 => exact HC0.out); rintro e w39 ⟨rfl, hb⟩; have n0_ := Aside0.mk (below_step (by repeat (first | (with_reducible first | exact HB.out | apply below_alloc | apply pw_below_drewN | apply below_drew1) | exact HB.out)) hb); clear HB; have HB := n0_; clear n0_; (try clear hb); (try clear hb2); (try clear hk); (try clear hi)))
                            go_ret
                            exact ⟨by first | rfl | (simp [errW_none, errW_some] <;> rfl) | (simp only [← hji8]; first | rfl | (simp [errW_none, errW_some] <;> rfl)) | (simp [*, errW_none, errW_some] <;> rfl), by repeat (first | (with_reducible first | exact HB.out | apply below_alloc | apply pw_below_drewN | apply below_drew1) | exact HB.out)⟩
                          · rw [if_neg c36] at H
                            have c36b0 : (t146 == x11_1) = false := beq_eq_false_iff_ne.mpr c36
                            have c36b1 : (t146 != x11_1) = true := bne_iff_ne.mpr c36
                            obtain rfl := Option.some.inj H
                            have p148 : 0 ≤ (ji8 : Int) := of_decide_eq_true (by first | (with_reducible assumption) | assumption)
                            have q148 : ji8 < (l0.length : Int) := of_decide_eq_true (by first | (with_reducible assumption) | assumption)
                            obtain ⟨ad148, A148_2, c148_2, A148_3, c148_3, A148_4, c148_4, A148_5, c148_5, A148_6, c148_6, e148, hx148_0, hx148_1, hx148_2, hx148_3, hx148_4, hx148_5, hx148_6, hl148_2, hi148_2, hl148_3, hi148_3, hl148_4, hi148_4, hl148_5, hi148_5, hl148_6, hi148_6⟩ := at_T61 HR0.out ji8 p148 q148
                            obtain rfl : ad145 = ad148 := (by injection e148)
                            replace hx148_0 := (HB.out.cell (World.block_lt_of_cell? w _ hx148_0)).trans hx148_0
                            replace hx148_1 := (HB.out.cell (World.block_lt_of_cell? w _ hx148_1)).trans hx148_1
                            replace hx148_2 := (HB.out.cell (World.block_lt_of_cell? w _ hx148_2)).trans hx148_2
                            replace hx148_3 := (HB.out.cell (World.block_lt_of_cell? w _ hx148_3)).trans hx148_3
                            replace hx148_4 := (HB.out.cell (World.block_lt_of_cell? w _ hx148_4)).trans hx148_4
                            replace hx148_5 := (HB.out.cell (World.block_lt_of_cell? w _ hx148_5)).trans hx148_5
                            replace hx148_6 := (HB.out.cell (World.block_lt_of_cell? w _ hx148_6)).trans hx148_6
                            have HR148_2 := Aside0.mk hi148_2
                            have HC148_2 := Aside0.mk hl148_2
                            clear hi148_2 hl148_2
                            have HR148_3 := Aside0.mk hi148_3
                            have HC148_3 := Aside0.mk hl148_3
                            clear hi148_3 hl148_3
                            have HR148_4 := Aside0.mk hi148_4
                            have HC148_4 := Aside0.mk hl148_4
                            clear hi148_4 hl148_4
                            have HR148_5 := Aside0.mk hi148_5
                            have HC148_5 := Aside0.mk hl148_5
                            clear hi148_5 hl148_5
                            have HR148_6 := Aside0.mk hi148_6
                            have HC148_6 := Aside0.mk hl148_6
                            clear hi148_6 hl148_6
                            replace p148 := eq_true p148
                            replace q148 := eq_true q148
                            have p153 : 0 ≤ (ji8 : Int) := of_decide_eq_true (by first | (with_reducible assumption) | assumption)
                            have q153 : ji8 < (l0.length : Int) := of_decide_eq_true (by first | (with_reducible assumption) | assumption)
                            obtain ⟨ad153, A153_2, c153_2, A153_3, c153_3, A153_4, c153_4, A153_5, c153_5, A153_6, c153_6, e153, hx153_0, hx153_1, hx153_2, hx153_3, hx153_4, hx153_5, hx153_6, hl153_2, hi153_2, hl153_3, hi153_3, hl153_4, hi153_4, hl153_5, hi153_5, hl153_6, hi153_6⟩ := at_T61 HR0.out ji8 p153 q153
                            obtain rfl : ad145 = ad153 := (by injection e153)
                            replace hx153_0 := (HB.out.cell (World.block_lt_of_cell? w _ hx153_0)).trans hx153_0
                            replace hx153_1 := (HB.out.cell (World.block_lt_of_cell? w _ hx153_1)).trans hx153_1
                            replace hx153_2 := (HB.out.cell (World.block_lt_of_cell? w _ hx153_2)).trans hx153_2
                            replace hx153_3 := (HB.out.cell (World.block_lt_of_cell? w _ hx153_3)).trans hx153_3
                            replace hx153_4 := (HB.out.cell (World.block_lt_of_cell? w _ hx153_4)).trans hx153_4
                            replace hx153_5 := (HB.out.cell (World.block_lt_of_cell? w _ hx153_5)).trans hx153_5
                            replace hx153_6 := (HB.out.cell (World.block_lt_of_cell? w _ hx153_6)).trans hx153_6
                            have HR153_2 := Aside0.mk hi153_2
                            have HC153_2 := Aside0.mk hl153_2
                            clear hi153_2 hl153_2
                            have HR153_3 := Aside0.mk hi153_3
                            have HC153_3 := Aside0.mk hl153_3
                            clear hi153_3 hl153_3
                            have HR153_4 := Aside0.mk hi153_4
                            have HC153_4 := Aside0.mk hl153_4
                            clear hi153_4 hl153_4
                            have HR153_5 := Aside0.mk hi153_5
                            have HC153_5 := Aside0.mk hl153_5
                            clear hi153_5 hl153_5
                            have HR153_6 := Aside0.mk hi153_6
                            have HC153_6 := Aside0.mk hl153_6
                            clear hi153_6 hl153_6
                            replace p153 := eq_true p153
                            replace q153 := eq_true q153
                            have ea_ := Option.some.inj (hx148_2.symm.trans hx153_2)
                            injection ea_ with ea_ en_ ec_
                            subst ea_
                            subst ec_
                            clear en_
                            have ea_ := Option.some.inj (hx148_3.symm.trans hx153_3)
                            injection ea_ with ea_ en_ ec_
                            subst ea_
                            subst ec_
                            clear en_
                            have ea_ := Option.some.inj (hx148_4.symm.trans hx153_4)
                            injection ea_ with ea_ en_ ec_
                            subst ea_
                            subst ec_
                            clear en_
                            have ea_ := Option.some.inj (hx148_5.symm.trans hx153_5)
                            injection ea_ with ea_ en_ ec_
                            subst ea_
                            subst ec_
                            clear en_
                            have ea_ := Option.some.inj (hx148_6.symm.trans hx153_6)
                            injection ea_ with ea_ en_ ec_
                            subst ea_
                            subst ec_
                            clear en_
                            go_wp2_with (first | ((with_reducible refine gate_callee (f := 16) rfl ?_); refine goesL_ (some 77) rfl rfl Try.func16 (by kernel_rfl) rfl #[] rfl (by (try simp only [List.map_toArray, List.map_cons, List.map_nil]); first | done | rfl | (simp only [List.length_drop, List.length_take]; rfl)) ?_; (with_reducible refine (cosignerlaw03_sanity.calls  true _ A33.out).mono ?_); rintro e w40 ⟨rfl, hb⟩; refine ⟨_, rfl, ?_⟩; have n0_ := Aside0.mk (below_step (by repeat (first | (with_reducible first | exact HB.out | apply below_alloc | apply pw_below_drewN | apply below_drew1) | exact HB.out)) hb); clear HB; have HB := n0_; clear n0_; (try clear hb); (try clear hb2); (try clear hk); (try clear hi)))
                            go_ret
                            exact ⟨by first | rfl | (simp [errW_none, errW_some] <;> rfl) | (simp only [← hji8]; first | rfl | (simp [errW_none, errW_some] <;> rfl)) | (simp [*, errW_none, errW_some] <;> rfl), by repeat (first | (with_reducible first | exact HB.out | apply below_alloc | apply pw_below_drewN | apply below_drew1) | exact HB.out)⟩
                        · rw [if_neg c35] at H
                          have c35b0 : (t147 == 0) = false := beq_eq_false_iff_ne.mpr c35
                          have c35b1 : (t147 != 0) = true := bne_iff_ne.mpr c35
                          obtain rfl := Option.some.inj H
                          have p148 : 0 ≤ (ji8 : Int) := of_decide_eq_true (by first | (with_reducible assumption) | assumption)
                          have q148 : ji8 < (l0.length : Int) := of_decide_eq_true (by first | (with_reducible assumption) | assumption)
                          obtain ⟨ad148, A148_2, c148_2, A148_3, c148_3, A148_4, c148_4, A148_5, c148_5, A148_6, c148_6, e148, hx148_0, hx148_1, hx148_2, hx148_3, hx148_4, hx148_5, hx148_6, hl148_2, hi148_2, hl148_3, hi148_3, hl148_4, hi148_4, hl148_5, hi148_5, hl148_6, hi148_6⟩ := at_T61 HR0.out ji8 p148 q148
                          obtain rfl : ad145 = ad148 := (by injection e148)
                          replace hx148_0 := (HB.out.cell (World.block_lt_of_cell? w _ hx148_0)).trans hx148_0
                          replace hx148_1 := (HB.out.cell (World.block_lt_of_cell? w _ hx148_1)).trans hx148_1
                          replace hx148_2 := (HB.out.cell (World.block_lt_of_cell? w _ hx148_2)).trans hx148_2
                          replace hx148_3 := (HB.out.cell (World.block_lt_of_cell? w _ hx148_3)).trans hx148_3
                          replace hx148_4 := (HB.out.cell (World.block_lt_of_cell? w _ hx148_4)).trans hx148_4
                          replace hx148_5 := (HB.out.cell (World.block_lt_of_cell? w _ hx148_5)).trans hx148_5
                          replace hx148_6 := (HB.out.cell (World.block_lt_of_cell? w _ hx148_6)).trans hx148_6
                          have HR148_2 := Aside0.mk hi148_2
                          have HC148_2 := Aside0.mk hl148_2
                          clear hi148_2 hl148_2
                          have HR148_3 := Aside0.mk hi148_3
                          have HC148_3 := Aside0.mk hl148_3
                          clear hi148_3 hl148_3
                          have HR148_4 := Aside0.mk hi148_4
                          have HC148_4 := Aside0.mk hl148_4
                          clear hi148_4 hl148_4
                          have HR148_5 := Aside0.mk hi148_5
                          have HC148_5 := Aside0.mk hl148_5
                          clear hi148_5 hl148_5
                          have HR148_6 := Aside0.mk hi148_6
                          have HC148_6 := Aside0.mk hl148_6
                          clear hi148_6 hl148_6
                          replace p148 := eq_true p148
                          replace q148 := eq_true q148
                          have p153 : 0 ≤ (ji8 : Int) := of_decide_eq_true (by first | (with_reducible assumption) | assumption)
                          have q153 : ji8 < (l0.length : Int) := of_decide_eq_true (by first | (with_reducible assumption) | assumption)
                          obtain ⟨ad153, A153_2, c153_2, A153_3, c153_3, A153_4, c153_4, A153_5, c153_5, A153_6, c153_6, e153, hx153_0, hx153_1, hx153_2, hx153_3, hx153_4, hx153_5, hx153_6, hl153_2, hi153_2, hl153_3, hi153_3, hl153_4, hi153_4, hl153_5, hi153_5, hl153_6, hi153_6⟩ := at_T61 HR0.out ji8 p153 q153
                          obtain rfl : ad145 = ad153 := (by injection e153)
                          replace hx153_0 := (HB.out.cell (World.block_lt_of_cell? w _ hx153_0)).trans hx153_0
                          replace hx153_1 := (HB.out.cell (World.block_lt_of_cell? w _ hx153_1)).trans hx153_1
                          replace hx153_2 := (HB.out.cell (World.block_lt_of_cell? w _ hx153_2)).trans hx153_2
                          replace hx153_3 := (HB.out.cell (World.block_lt_of_cell? w _ hx153_3)).trans hx153_3
                          replace hx153_4 := (HB.out.cell (World.block_lt_of_cell? w _ hx153_4)).trans hx153_4
                          replace hx153_5 := (HB.out.cell (World.block_lt_of_cell? w _ hx153_5)).trans hx153_5
                          replace hx153_6 := (HB.out.cell (World.block_lt_of_cell? w _ hx153_6)).trans hx153_6
                          have HR153_2 := Aside0.mk hi153_2
                          have HC153_2 := Aside0.mk hl153_2
                          clear hi153_2 hl153_2
                          have HR153_3 := Aside0.mk hi153_3
                          have HC153_3 := Aside0.mk hl153_3
                          clear hi153_3 hl153_3
                          have HR153_4 := Aside0.mk hi153_4
                          have HC153_4 := Aside0.mk hl153_4
                          clear hi153_4 hl153_4
                          have HR153_5 := Aside0.mk hi153_5
                          have HC153_5 := Aside0.mk hl153_5
                          clear hi153_5 hl153_5
                          have HR153_6 := Aside0.mk hi153_6
                          have HC153_6 := Aside0.mk hl153_6
                          clear hi153_6 hl153_6
                          replace p153 := eq_true p153
                          replace q153 := eq_true q153
                          have ea_ := Option.some.inj (hx148_2.symm.trans hx153_2)
                          injection ea_ with ea_ en_ ec_
                          subst ea_
                          subst ec_
                          clear en_
                          have ea_ := Option.some.inj (hx148_3.symm.trans hx153_3)
                          injection ea_ with ea_ en_ ec_
                          subst ea_
                          subst ec_
                          clear en_
                          have ea_ := Option.some.inj (hx148_4.symm.trans hx153_4)
                          injection ea_ with ea_ en_ ec_
                          subst ea_
                          subst ec_
                          clear en_
                          have ea_ := Option.some.inj (hx148_5.symm.trans hx153_5)
                          injection ea_ with ea_ en_ ec_
                          subst ea_
                          subst ec_
                          clear en_
                          have ea_ := Option.some.inj (hx148_6.symm.trans hx153_6)
                          injection ea_ with ea_ en_ ec_
                          subst ea_
                          subst ec_
                          clear en_
                          go_wp2_with (first | ((with_reducible refine gate_callee (f := 16) rfl ?_); refine goesL_ (some 77) rfl rfl Try.func16 (by kernel_rfl) rfl #[] rfl (by (try simp only [List.map_toArray, List.map_cons, List.map_nil]); first | done | rfl | (simp only [List.length_drop, List.length_take]; rfl)) ?_; (with_reducible refine (cosignerlaw03_sanity.calls  true _ A33.out).mono ?_); rintro e w41 ⟨rfl, hb⟩; refine ⟨_, rfl, ?_⟩; have n0_ := Aside0.mk (below_step (by repeat (first | (with_reducible first | exact HB.out | apply below_alloc | apply pw_below_drewN | apply below_drew1) | exact HB.out)) hb); clear HB; have HB := n0_; clear n0_; (try clear hb); (try clear hb2); (try clear hk); (try clear hi)))
                          go_ret
                          exact ⟨by first | rfl | (simp [errW_none, errW_some] <;> rfl) | (simp only [← hji8]; first | rfl | (simp [errW_none, errW_some] <;> rfl)) | (simp [*, errW_none, errW_some] <;> rfl), by repeat (first | (with_reducible first | exact HB.out | apply below_alloc | apply pw_below_drewN | apply below_drew1) | exact HB.out)⟩
                      · replace c34 := Bool.eq_false_iff.mpr c34
                        subst c34
                        have H1 : (some false) = some r := by rw [if_neg (show ¬ (false = true) by decide)] at H; exact H
                        clear H
                        have H := H1
                        clear H1
                        obtain rfl := Option.some.inj H
                        have p148 : 0 ≤ (ji8 : Int) := of_decide_eq_true (by first | (with_reducible assumption) | assumption)
                        have q148 : ji8 < (l0.length : Int) := of_decide_eq_true (by first | (with_reducible assumption) | assumption)
                        obtain ⟨ad148, A148_2, c148_2, A148_3, c148_3, A148_4, c148_4, A148_5, c148_5, A148_6, c148_6, e148, hx148_0, hx148_1, hx148_2, hx148_3, hx148_4, hx148_5, hx148_6, hl148_2, hi148_2, hl148_3, hi148_3, hl148_4, hi148_4, hl148_5, hi148_5, hl148_6, hi148_6⟩ := at_T61 HR0.out ji8 p148 q148
                        obtain rfl : ad145 = ad148 := (by injection e148)
                        replace hx148_0 := (HB.out.cell (World.block_lt_of_cell? w _ hx148_0)).trans hx148_0
                        replace hx148_1 := (HB.out.cell (World.block_lt_of_cell? w _ hx148_1)).trans hx148_1
                        replace hx148_2 := (HB.out.cell (World.block_lt_of_cell? w _ hx148_2)).trans hx148_2
                        replace hx148_3 := (HB.out.cell (World.block_lt_of_cell? w _ hx148_3)).trans hx148_3
                        replace hx148_4 := (HB.out.cell (World.block_lt_of_cell? w _ hx148_4)).trans hx148_4
                        replace hx148_5 := (HB.out.cell (World.block_lt_of_cell? w _ hx148_5)).trans hx148_5
                        replace hx148_6 := (HB.out.cell (World.block_lt_of_cell? w _ hx148_6)).trans hx148_6
                        have HR148_2 := Aside0.mk hi148_2
                        have HC148_2 := Aside0.mk hl148_2
                        clear hi148_2 hl148_2
                        have HR148_3 := Aside0.mk hi148_3
                        have HC148_3 := Aside0.mk hl148_3
                        clear hi148_3 hl148_3
                        have HR148_4 := Aside0.mk hi148_4
                        have HC148_4 := Aside0.mk hl148_4
                        clear hi148_4 hl148_4
                        have HR148_5 := Aside0.mk hi148_5
                        have HC148_5 := Aside0.mk hl148_5
                        clear hi148_5 hl148_5
                        have HR148_6 := Aside0.mk hi148_6
                        have HC148_6 := Aside0.mk hl148_6
                        clear hi148_6 hl148_6
                        replace p148 := eq_true p148
                        replace q148 := eq_true q148
                        have p153 : 0 ≤ (ji8 : Int) := of_decide_eq_true (by first | (with_reducible assumption) | assumption)
                        have q153 : ji8 < (l0.length : Int) := of_decide_eq_true (by first | (with_reducible assumption) | assumption)
                        obtain ⟨ad153, A153_2, c153_2, A153_3, c153_3, A153_4, c153_4, A153_5, c153_5, A153_6, c153_6, e153, hx153_0, hx153_1, hx153_2, hx153_3, hx153_4, hx153_5, hx153_6, hl153_2, hi153_2, hl153_3, hi153_3, hl153_4, hi153_4, hl153_5, hi153_5, hl153_6, hi153_6⟩ := at_T61 HR0.out ji8 p153 q153
                        obtain rfl : ad145 = ad153 := (by injection e153)
                        replace hx153_0 := (HB.out.cell (World.block_lt_of_cell? w _ hx153_0)).trans hx153_0
                        replace hx153_1 := (HB.out.cell (World.block_lt_of_cell? w _ hx153_1)).trans hx153_1
                        replace hx153_2 := (HB.out.cell (World.block_lt_of_cell? w _ hx153_2)).trans hx153_2
                        replace hx153_3 := (HB.out.cell (World.block_lt_of_cell? w _ hx153_3)).trans hx153_3
                        replace hx153_4 := (HB.out.cell (World.block_lt_of_cell? w _ hx153_4)).trans hx153_4
                        replace hx153_5 := (HB.out.cell (World.block_lt_of_cell? w _ hx153_5)).trans hx153_5
                        replace hx153_6 := (HB.out.cell (World.block_lt_of_cell? w _ hx153_6)).trans hx153_6
                        have HR153_2 := Aside0.mk hi153_2
                        have HC153_2 := Aside0.mk hl153_2
                        clear hi153_2 hl153_2
                        have HR153_3 := Aside0.mk hi153_3
                        have HC153_3 := Aside0.mk hl153_3
                        clear hi153_3 hl153_3
                        have HR153_4 := Aside0.mk hi153_4
                        have HC153_4 := Aside0.mk hl153_4
                        clear hi153_4 hl153_4
                        have HR153_5 := Aside0.mk hi153_5
                        have HC153_5 := Aside0.mk hl153_5
                        clear hi153_5 hl153_5
                        have HR153_6 := Aside0.mk hi153_6
                        have HC153_6 := Aside0.mk hl153_6
                        clear hi153_6 hl153_6
                        replace p153 := eq_true p153
                        replace q153 := eq_true q153
                        have ea_ := Option.some.inj (hx148_2.symm.trans hx153_2)
                        injection ea_ with ea_ en_ ec_
                        subst ea_
                        subst ec_
                        clear en_
                        have ea_ := Option.some.inj (hx148_3.symm.trans hx153_3)
                        injection ea_ with ea_ en_ ec_
                        subst ea_
                        subst ec_
                        clear en_
                        have ea_ := Option.some.inj (hx148_4.symm.trans hx153_4)
                        injection ea_ with ea_ en_ ec_
                        subst ea_
                        subst ec_
                        clear en_
                        have ea_ := Option.some.inj (hx148_5.symm.trans hx153_5)
                        injection ea_ with ea_ en_ ec_
                        subst ea_
                        subst ec_
                        clear en_
                        have ea_ := Option.some.inj (hx148_6.symm.trans hx153_6)
                        injection ea_ with ea_ en_ ec_
                        subst ea_
                        subst ec_
                        clear en_
                        go_wp2_with (first | ((with_reducible refine gate_callee (f := 16) rfl ?_); refine goesL_ (some 77) rfl rfl Try.func16 (by kernel_rfl) rfl #[] rfl (by (try simp only [List.map_toArray, List.map_cons, List.map_nil]); first | done | rfl | (simp only [List.length_drop, List.length_take]; rfl)) ?_; (with_reducible refine (cosignerlaw03_sanity.calls  false _ A33.out).mono ?_); rintro e w42 ⟨rfl, hb⟩; refine ⟨_, rfl, ?_⟩; have n0_ := Aside0.mk (below_step (by repeat (first | (with_reducible first | exact HB.out | apply below_alloc | apply pw_below_drewN | apply below_drew1) | exact HB.out)) hb); clear HB; have HB := n0_; clear n0_; (try clear hb); (try clear hb2); (try clear hk); (try clear hi)))
                        go_ret
                        exact ⟨by first | rfl | (simp [errW_none, errW_some] <;> rfl) | (simp only [← hji8]; first | rfl | (simp [errW_none, errW_some] <;> rfl)) | (simp [*, errW_none, errW_some] <;> rfl), by repeat (first | (with_reducible first | exact HB.out | apply below_alloc | apply pw_below_drewN | apply below_drew1) | exact HB.out)⟩
                · rw [if_neg c15] at H
                  exact absurd H (by simp)
              · rw [if_neg c14] at H
                exact absurd H (by simp)
        · rw [if_neg c10] at H
          exact absurd H (by simp)
      · rw [if_neg c9] at H
        exact absurd H (by simp)
  · replace c5 := Bool.eq_false_iff.mpr c5
    subst c5
    have H1 : ((cosignerlaw03_sanity.f).bind fun t143 => (some t143)) = some r := by rw [if_neg (show ¬ (false = true) by decide)] at H; exact H
    clear H
    have H := H1
    clear H1
    replace H := Option.bind_eq_some_iff.mp H
    obtain ⟨t143, A430, H⟩ := H
    replace H : (some t143) = some r := H
    have A43 := Aside0.mk A430
    clear A430
    obtain rfl := Option.some.inj H
    go_enter Try.func5, Try.ntmps5
    go_wp2_with (first | ((with_reducible refine gate_callee (f := 30) rfl ?_); refine goesL_ (some 16) rfl rfl Try.func30 (by kernel_rfl) rfl #[.slice A0 l0.length c0] rfl (by (try simp only [List.map_toArray, List.map_cons, List.map_nil]); first | done | rfl | (simp only [List.length_drop, List.length_take]; rfl)) ?_; (with_reducible refine (cosignerlaw03_right.calls _ _ l0 false _ ?side1 ?side2 A4.out).mono ?_); (case side1 => repeat (first | exact HR0.out | (with_reducible refine Kd.C_alloc ?_ _) | (with_reducible refine Kd.C_drewN ?_ _) | (with_reducible refine Kd.C_drew ?_))); (case side2 => exact HC0.out); rintro e w44 ⟨rfl, hb⟩; refine ⟨_, rfl, ?_⟩; have n0_ := Aside0.mk (below_step (by repeat (first | (with_reducible first | exact HB.out | apply below_alloc | apply pw_below_drewN | apply below_drew1) | exact HB.out)) hb); clear HB; have HB := n0_; clear n0_; (try clear hb); (try clear hb2); (try clear hk); (try clear hi)) | ((with_reducible refine gate_callee (f := 16) rfl ?_); refine goesL_ (some 18) rfl rfl Try.func16 (by kernel_rfl) rfl #[] rfl (by (try simp only [List.map_toArray, List.map_cons, List.map_nil]); first | done | rfl | (simp only [List.length_drop, List.length_take]; rfl)) ?_; (with_reducible refine (cosignerlaw03_sanity.calls  t143 _ A43.out).mono ?_); rintro e w45 ⟨rfl, hb⟩; refine ⟨_, rfl, ?_⟩; have n0_ := Aside0.mk (below_step (by repeat (first | (with_reducible first | exact HB.out | apply below_alloc | apply pw_below_drewN | apply below_drew1) | exact HB.out)) hb); clear HB; have HB := n0_; clear n0_; (try clear hb); (try clear hb2); (try clear hk); (try clear hi)))
    go_ret
    exact ⟨by first | rfl | (simp [errW_none, errW_some] <;> rfl) | (simp [*, errW_none, errW_some] <;> rfl), by repeat (first | (with_reducible first | exact HB.out | apply below_alloc | apply pw_below_drewN | apply below_drew1) | exact HB.out)⟩
end Go.Proofs.Ytdljclokenoogaa.Hp
end
section
namespace Go.Proofs.Ytdljclokenoogaa.Hw
open Go.RowKit Go.Proofs.Ytdljclokenoogaa.Hp Go.Proofs.YtdljclokenoogaaW.PrintWords Go.Proofs.YtdljclokenoogaaW.PrintLast Go.Proofs.YtdljclokenoogaaW.PrintMore
theorem counts_loop {l : List S61} (h : Good l) {q : Nat} (hq : q < l.length) {a : ByteArray} (ha : a ∈ names l) :
    ∀ (d j k : Nat) (s : Nat), (rd_T61 l (q : Int)).f3.length - j = d → j ≤ (rd_T61 l (q : Int)).f3.length → d < k → s = (((rd_T61 l (q : Int)).f3.take j).map (fun p => waysL l p.f0 a)).sum →
      cosignerlaw03_HeirCounts.l0 k l (q : Int) a (waysL l (rd_T61 l (q : Int)).f0 a : Int) 0 (s : Int) (j : Int) = some true := by
  intro d
  induction d with
  | zero =>
    intro j k s hd hj hk hs
    obtain ⟨k, rfl⟩ := Nat.exists_eq_add_of_lt hk
    have e : j = (rd_T61 l (q : Int)).f3.length := by omega
    rw [e, List.take_length] at hs
    have hstep := h.ways_step (rd_T61 l (q : Int)).f0 a
    rw [h.ups_at hq, List.map_map] at hstep
    have hs2 : ((rd_T61 l (q : Int)).f3.map ((fun p => waysL l p a) ∘ fun x => x.f0)).sum = s := hs.symm
    rw [hs2] at hstep
    have hle := h.ways_le (rd_T61 l (q : Int)).f0 a
    have hpos := h.ways_pos (rd_T61 l (q : Int)).f0 a
    have hdec : (decide ((waysL l (rd_T61 l (q : Int)).f0 a : Int) > 0) == memS (anc l (rd_T61 l (q : Int)).f0) a) = true := by
      rw [beq_iff_eq, Bool.eq_iff_iff, decide_eq_true_iff]
      rw [← hpos]; omega
    simp only [Nat.zero_add, cosignerlaw03_HeirCounts.l0]
    rw [if_pos (by omega), if_pos (by omega), if_neg (by omega)]
    by_cases hc : (rd_T61 l (q : Int)).f0 = a
    · rw [if_pos hc] at hstep
      rw [if_pos (by rw [hc])]
      have hw : wrap64 ((s : Int) + 1) = ((1 + s : Nat) : Int) := by rw [wrap64_of_range _ (by omega) (by omega)]; push_cast; omega
      rw [hw, ← hstep]
      simp only [cosignerlaw03_sanity.f, Option.bind_some, if_true, h.is (Good.mem_at hq) ha, hdec]
    · rw [if_neg hc] at hstep
      rw [if_neg (fun e => hc (toList_inj e))]
      have hw : ((waysL l (rd_T61 l (q : Int)).f0 a : Nat) : Int) = (s : Int) := by omega
      simp only [cosignerlaw03_sanity.f, Option.bind_some, if_true, h.is (Good.mem_at hq) ha, hdec, hw]
      rw [← hw, hdec]
  | succ d ih =>
    intro j k s hd hj hk hs
    cases k with
    | zero => omega
    | succ k =>
      have hjl : j < (rd_T61 l (q : Int)).f3.length := by omega
      have e : (rd_T65 (rd_T61 l (q : Int)).f3 (j : Int)) = (rd_T61 l (q : Int)).f3[j] := by simp [rd_T65, hjl]
      have hm := h.parents_mem hq _ (List.getElem_mem hjl)
      simp only [cosignerlaw03_HeirCounts.l0]
      rw [if_pos (by omega), if_pos (by omega), if_pos (by omega), if_pos (by omega), e]
      simp only [h.ways hm ha, Option.bind_some, if_true]
      have hle := h.ways_le ((rd_T61 l (q : Int)).f3[j]).f0 a
      have hf := h.four hq
      have hsB : ∀ B, (∀ p, waysL l p a ≤ B) → s ≤ 4 * B := by
        intro B hB
        rw [hs]
        refine Nat.le_trans (sum_le (b := B) _ (fun x hx => ?_)) (Nat.mul_le_mul_right _ ?_)
        · obtain ⟨p, _, rfl⟩ := List.mem_map.1 hx
          exact hB p.f0
        · rw [List.length_map, List.length_take]; omega
      have hsb := hsB _ (fun p => h.ways_le p a)
      have hw1 : wrap64 ((s : Int) + (waysL l ((rd_T61 l (q : Int)).f3[j]).f0 a : Int)) = ((s + waysL l ((rd_T61 l (q : Int)).f3[j]).f0 a : Nat) : Int) := by rw [wrap64_of_range _ (by omega) (by omega)]; push_cast; rfl
      have hw2 : wrap64 ((j : Int) + 1) = ((j + 1 : Nat) : Int) := by rw [wrap64_of_range _ (by omega) (by omega)]; push_cast; rfl
      rw [hw1, hw2]
      clear hw1 hw2 hsb hsB hle hf
      have hd2 : (rd_T61 l (q : Int)).f3.length - (j + 1) = d := by omega
      have hk2 : d < k := by omega
      refine ih (j + 1) k _ hd2 hjl hk2 ?_
      rw [List.take_succ_eq_append_getElem hjl, List.map_append, List.sum_append, ← hs]
      simp
theorem pure_counts (l : List S61) (i j : Int) (hi : 0 ≤ i ∧ i < 256) (hj : 0 ≤ j ∧ j < 256) : cosignerlaw03_HeirCounts.f 200 l i j = some true := by
  unfold cosignerlaw03_HeirCounts.f
  rw [right_val]
  by_cases hr : (checkOf l).1 = 0 ∧ 0 < l.length
  · have h : Good l := ⟨hr.1, hr.2⟩
    obtain ⟨q, hq, eq⟩ := h.place i hi.1 hi.2
    obtain ⟨b, hb, eb⟩ := h.name j hj.1 hj.2
    have hf := h.four hq
    simp only [hr, and_self, decide_true, Option.bind_some, if_true, eb, eq]
    rw [if_neg (by omega), if_pos (by omega), if_pos (by omega)]
    simp only [h.ways (Good.mem_at hq) hb, Option.bind_some]
    exact counts_loop h hq hb _ 0 200 0 rfl (Nat.zero_le _) (by omega) (by simp)
  · simp [hr, cosignerlaw03_sanity.f]
end Go.Proofs.Ytdljclokenoogaa.Hw
end
section
namespace Go.Proofs.YtdljclokenoogaaW.PrintWords
open Go.ChangeShapes Go.WideShapes
theorem sized_ints {H : Type} {enc : TypeId × Value → H} {P : Program} {W : World} {base : Nat} {spare : Nat → Bool} {held : Bool} {t e : TypeId} {k : IntKind} {a : Option Addr} {len cap : Nat} {d : DataW H} {ps : List MemPlace} {ts : List TypeId} {ds : List (DataW H)} {j : Nat}
    (hsz : (DataW.weightsEach P ts ds).all (· ≤ reachBytes) = true) (ht : ts[j]? = some t) (hd : ds[j]? = some d) (hu : P.underlying t = some (.slice e)) (he : P.underlying e = some (.int k)) (hc : P.cellsOf e = 1) {B : Nat} (hB : P.bytesOf e = B)
    (h : DataW.Trod enc P W base spare held t (.slice a len cap) d ps) : len * B ≤ 140737488351232 := by
  obtain ⟨fuel, hf⟩ := h
  rcases open_ints hu he hc hf with ⟨hcs, _⟩ | ⟨x, l, c, zs, hcs, _, hl, _, hz, hx, _, _⟩
  · simp [Value.cells] at hcs
    obtain ⟨rfl, rfl, rfl⟩ := hcs
    simp
  · simp [Value.cells] at hcs
    obtain ⟨rfl, rfl, rfl⟩ := hcs
    obtain ⟨hx, _⟩ := Prod.mk.inj hx
    subst hx
    have z := sized_slice hsz ht hd hu
    rw [hB] at z
    have hl2 : len ≤ zs.length := by
      rw [hz]
      split
      · exact hl
      · exact Nat.le_refl _
    have h1 : (lits (H := H) k (zs.take len)).length + (lits (H := H) k (zs.drop len)).length = zs.length := by
      simp [lits]
      omega
    rw [h1] at z
    exact Nat.le_trans (Nat.mul_le_mul_right _ hl2) z
end Go.Proofs.YtdljclokenoogaaW.PrintWords
end
section
namespace Go.Proofs.Ytdljclokenoogaa.heirCounts
open Go.ChangeShapes Go.WideShapes Go.ChangeAt Go.RowKit Go.Proofs.Ytdljclokenoogaa.Hw
open Go.ChangeMaps (open_string shut_string)
set_option linter.unusedVariables false
theorem own : ownKnob Try.prog.godebug = none := by kernel_rfl
theorem laidOut : laidOutB Try.prog = true := by kernel_rfl
set_option maxRecDepth 100000 in
theorem lifted (os : Os) (started : os.Started) (H : Type) (enc : TypeId × Value → H) :
    ReturnsInHanded {} Try.checked os 5 .any (Rows.heirCountsSpec.pre6 enc Try.prog Try.f5 Rows.heirCountsRow.domain false) (Rows.heirCountsSpec.post enc Try.prog Try.f5 false true false false) := by
  refine returnsInHanded_of_change_sized (C := Try.checked) own started (by kernel_rfl) Try.func5
    (ChangeSpec.witness6 (enc := enc) (C := Try.checked) false ⟨#[], #[.slice none 0 0, .int .u8 0, .int .u8 0], []⟩ 8 (by kernel_rfl) (by kernel_rfl) (by kernel_rfl) (by kernel_rfl)) ?_
  intro W base args ds gs before hval0 hW hcnd hsz0 _
  have hsz : (DataW.weightsEach Try.prog (Try.f5.params.toList ++ Rows.heirCountsSpec.plain.varTypes Try.prog) (ds ++ gs)).all (· ≤ reachBytes) = true := hsz0
  have hval : ∀ (j : Nat) t v, Try.f5.params[j]? = some t → args[j]? = some v → Value.okWide Try.prog W .any base t v := hval0
  have hW' := hW
  obtain ⟨p, q, hA0, hV, rfl, hfz, hnd⟩ := hW
  have hA : DataW.TrodAll enc Try.prog W 0 (fun _ => true) true Try.f5.params.toList args.toList ds p := hA0
  rw [Try.params5] at hA hval hsz
  obtain ⟨v0, vs0, d0, ds0, p0, q0, hargs, rfl, rfl, h0, r0⟩ := trodAll_cons hA
  obtain ⟨v1, vs1, d1, ds1, p1, q1, rfl, rfl, rfl, h1, r1⟩ := trodAll_cons r0
  obtain ⟨v2, vs2, d2, ds2, p2, q2, rfl, rfl, rfl, h2, r2⟩ := trodAll_cons r1
  obtain ⟨rfl, rfl, rfl⟩ := trodAll_nil r2
  obtain rfl : args = #[v0, v1, v2] := by cases args; simp_all
  obtain ⟨rfl, rfl⟩ := trodVars_none hV
  obtain ⟨b0, len0, cap0, rfl⟩ := okWide_slice Try.underlying22 (hval 0 22 v0 rfl rfl)
  have k0 := h0
  have lt0 : ∀ x ∈ p0, x.block < W.heap.size := by obtain ⟨m, hm⟩ := k0; exact DataW.trod_lt m _ _ _ hm
  obtain ⟨l0, rfl, hc0, hC0⟩ := trod_classes h0
  obtain ⟨a1, rfl, rfl, rfl, x1⟩ := open_int Try.underlying5 (hval 1 5 v1 rfl rfl) h1
  have z1 : 0 ≤ a1 ∧ a1 ≤ 255 := by simpa [Lit.wf, IntKind.min, IntKind.max, IntKind.bits, IntKind.signed] using x1
  have w1 : 0 ≤ a1 ∧ a1 < 256 := by omega
  obtain ⟨a2, rfl, rfl, rfl, x2⟩ := open_int Try.underlying5 (hval 2 5 v2 rfl rfl) h2
  have z2 : 0 ≤ a2 ∧ a2 ≤ 255 := by simpa [Lit.wf, IntKind.min, IntKind.max, IntKind.bits, IntKind.signed] using x2
  have w2 : 0 ≤ a2 ∧ a2 < 256 := by omega
  clear hA0 hval0 hsz0 hsz
  refine (Hp.cosignerlaw03_HeirCounts.calls 200 b0 cap0 l0 a1 a2 true W hC0 hc0 (pure_counts l0 a1 a2 w1 w2)).mono fun e W' ⟨he, bel⟩ => ?_
  subst he
  exact ⟨_, rfl, _, _, _, [], _, [], hW', trodAll_mk1 (shut_bool Try.underlying4 _), (trodAll_cons_mk (Below.trod laidOut (by kernel_rfl) (of_decide_eq_true (by kernel_rfl)) k0 bel lt0) (trodAll_cons_mk (shut_int Try.underlying5 x1) (trodAll_cons_mk (shut_int Try.underlying5 x2) trodAll_mk0))), rfl, bel.frame _, fun h => by cases h⟩
theorem over : Rows.heirCountsRow.holds Try.pinned (OpenSpec.ofChange Rows.heirCountsSpec) :=
  OpenClaim.holds_of_wide 5 Try.f5 rfl rfl rfl rfl rfl rfl rfl ⟨rfl, rfl, rfl, rfl, rfl⟩ rfl rfl rfl rfl rfl (by kernel_rfl) Try.func5 (by kernel_rfl)
    (of_decide_eq_true (by kernel_rfl)) (by unfold Func.isWrapper; first | (rw [if_pos (by decide +kernel)]; kernel_rfl) | (rw [if_neg (by decide +kernel)]; exact ⟨rfl, rfl⟩))
    (fun os started H enc _ => lifted os started H enc)
theorem proved : Rows.HeirCountsSaid := over
#print axioms proved
end Go.Proofs.Ytdljclokenoogaa.heirCounts
namespace Go.Proofs.Ytdljclokenoogaa
theorem heirCounts_holds : Rows.HeirCountsSaid := heirCounts.proved
end Go.Proofs.Ytdljclokenoogaa
end
