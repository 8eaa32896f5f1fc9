/-
  Part 3 (Ta) of the proof: walks of functions and plain facts.
-/

import Derived.Test.YtdljclokenoogaaKTa2
set_option linter.unusedVariables false
set_option linter.unusedSimpArgs false
set_option linter.unusedSectionVars false
section
namespace Go.Proofs.Ytdljclokenoogaa.Hp
open Go.RowKit Go.Proofs.YtdljclokenoogaaW.PrintWords Go.Proofs.YtdljclokenoogaaW.PrintLast Go.Proofs.YtdljclokenoogaaW.PrintMore
attribute [local go_sem] max2_int min2_int max_two min_two max_three min_three max_four min_four
set_option linter.unusedVariables false
set_option linter.unusedSimpArgs false
def cosignerref03_index.l0 : Nat → List (S61) → ByteArray → Int → Option (Int)
 | 0, _, _, _ => none
 | k + 1, x0, x1, x5 => if x5 < (x0.length : Int) then (if 0 ≤ x5 then (if ((rd_T61 x0 x5).f0).toList = x1.toList then (some x5) else (cosignerref03_index.l0 k x0 x1 (wrap64 (x5 + 1)))) else (none)) else (some (-1))
def cosignerref03_index.f (k : Nat) (l0 : List (S61)) (a1 : ByteArray) : Option (Int) := cosignerref03_index.l0 k l0 a1 0
set_option maxHeartbeats 8000000 in
set_option maxRecDepth 100000 in
theorem cosignerref03_index.calls (k : Nat) (A0 : Option Addr) (c0 : Nat) (l0 : List (S61)) (a1 : ByteArray) (r : Int) (w : World) (hr0 : Kd.C k61 w A0 l0.length l0) (hc0 : l0.length ≤ c0) (h : cosignerref03_index.f k l0 a1 = some r) :
  Calls Try.prog 88 #[.slice A0 l0.length c0, .string a1] w fun e w' => e = .returned (.int .i64 r) ∧ Drawn0 w w' := by
 have HR0 := Aside0.mk hr0
 have HC0 := Aside0.mk hc0
 clear hr0 hc0
 have H : (cosignerref03_index.l0 k l0 a1 0) = some r := h
 clear h
 have H' := Aside0.mk H
 clear H
 go_enter Try.func88, Try.ntmps88
 go_wp2
 go_loopg [5] k (fun kq v5 w' => ∃ (x5_1 : Int), v5 = .int .i64 x5_1 ∧ Aside0 (cosignerref03_index.l0 kq l0 a1 x5_1 = some r) ∧ Aside0 (kq ≤ k) ∧ Drawn0 w w')
 case atStart => exact ⟨(0), (by first | rfl | (simp; done) | (simp [*]; done)), H', ⟨Nat.le_refl _⟩, by repeat (first | exact Drawn0.refl _ | apply Drawn0.step)⟩
 case round =>
  clear H'
  try clear p2
  obtain ⟨x5_1, rfl, HA, HK1, ⟨m1, rfl⟩⟩ := hrel
  cases gk with
  | zero => exact absurd HA.out (by simp [cosignerref03_index.l0])
  | succ k1 =>
   have H := HA.out
   clear HA
   simp only [cosignerref03_index.l0] at H
   by_cases c3 : x5_1 < (l0.length : Int)
   ·rw [if_pos c3] at H
    have c3b0 : decide (x5_1 < (l0.length : Int)) = true := decide_eq_true c3
    clear c3
    by_cases c4 : 0 ≤ x5_1
    ·rw [if_pos c4] at H
     have c4b0 : decide (0 ≤ x5_1) = true := decide_eq_true c4
     clear c4
     by_cases c5 : ((rd_T61 l0 x5_1).f0).toList = a1.toList
     ·rw [if_pos c5] at H
      have c5b0 : (((rd_T61 l0 x5_1).f0).toList == a1.toList) = true := beq_iff_eq.mpr c5
      have c5b1 : (((rd_T61 l0 x5_1).f0).toList != a1.toList) = false := bne_eq_false_iff_eq.mpr c5
      clear c5
      obtain rfl := Option.some.inj H
      have p267 : 0 ≤ (x5_1 : Int) := of_decide_eq_true (by first | (with_reducible assumption) | assumption)
      have q267 : x5_1 < (l0.length : Int) := of_decide_eq_true (by first | (with_reducible assumption) | assumption)
      obtain ⟨ad267, A267_2, c267_2, A267_3, c267_3, A267_4, c267_4, A267_5, c267_5, A267_6, c267_6, e267, hx267_0, hx267_1, hx267_2, hx267_3, hx267_4, hx267_5, hx267_6, hl267_2, hi267_2, hl267_3, hi267_3, hl267_4, hi267_4, hl267_5, hi267_5, hl267_6, hi267_6⟩ := at_T61 HR0.out x5_1 p267 q267
      cases e267
      have HR267_2 := Aside0.mk hi267_2
      have HC267_2 := Aside0.mk hl267_2
      clear hi267_2 hl267_2
      have HR267_3 := Aside0.mk hi267_3
      have HC267_3 := Aside0.mk hl267_3
      clear hi267_3 hl267_3
      have HR267_4 := Aside0.mk hi267_4
      have HC267_4 := Aside0.mk hl267_4
      clear hi267_4 hl267_4
      have HR267_5 := Aside0.mk hi267_5
      have HC267_5 := Aside0.mk hl267_5
      clear hi267_5 hl267_5
      have HR267_6 := Aside0.mk hi267_6
      have HC267_6 := Aside0.mk hl267_6
      clear hi267_6 hl267_6
      replace p267 := eq_true p267
      replace q267 := eq_true q267
      go_wp2
      go_ret
      exact ⟨by first | rfl | (simp; done) | (simp [*]; done), by repeat (first | exact Drawn0.refl _ | apply Drawn0.step)⟩
     ·rw [if_neg c5] at H
      have c5b0 : (((rd_T61 l0 x5_1).f0).toList == a1.toList) = false := beq_eq_false_iff_ne.mpr c5
      have c5b1 : (((rd_T61 l0 x5_1).f0).toList != a1.toList) = true := bne_iff_ne.mpr c5
      have H' := Aside0.mk H
      clear H
      have p267 : 0 ≤ (x5_1 : Int) := of_decide_eq_true (by first | (with_reducible assumption) | assumption)
      have q267 : x5_1 < (l0.length : Int) := of_decide_eq_true (by first | (with_reducible assumption) | assumption)
      obtain ⟨ad267, A267_2, c267_2, A267_3, c267_3, A267_4, c267_4, A267_5, c267_5, A267_6, c267_6, e267, hx267_0, hx267_1, hx267_2, hx267_3, hx267_4, hx267_5, hx267_6, hl267_2, hi267_2, hl267_3, hi267_3, hl267_4, hi267_4, hl267_5, hi267_5, hl267_6, hi267_6⟩ := at_T61 HR0.out x5_1 p267 q267
      cases e267
      have HR267_2 := Aside0.mk hi267_2
      have HC267_2 := Aside0.mk hl267_2
      clear hi267_2 hl267_2
      have HR267_3 := Aside0.mk hi267_3
      have HC267_3 := Aside0.mk hl267_3
      clear hi267_3 hl267_3
      have HR267_4 := Aside0.mk hi267_4
      have HC267_4 := Aside0.mk hl267_4
      clear hi267_4 hl267_4
      have HR267_5 := Aside0.mk hi267_5
      have HC267_5 := Aside0.mk hl267_5
      clear hi267_5 hl267_5
      have HR267_6 := Aside0.mk hi267_6
      have HC267_6 := Aside0.mk hl267_6
      clear hi267_6 hl267_6
      replace p267 := eq_true p267
      replace q267 := eq_true q267
      go_wp2
      go_roundg k1
      case measure => have := HK1.out; omega
      case rel => exact ⟨(wrap64 (x5_1 + 1)), (by first | rfl | (simp; done) | (simp [*]; done)), H', ⟨by have := HK1.out; omega⟩, by repeat (first | exact Drawn0.refl _ | apply Drawn0.step)⟩
    ·rw [if_neg c4] at H
     exact absurd H (by simp)
   ·rw [if_neg c3] at H
    have c3b0 : decide (x5_1 < (l0.length : Int)) = false := decide_eq_false c3
    clear c3
    obtain rfl := Option.some.inj H
    go_wp2
    go_ret
    exact ⟨by first | rfl | (simp; done) | (simp [*]; done), by repeat (first | exact Drawn0.refl _ | apply Drawn0.step)⟩
def cosignerref03_parents.l0 : Nat → List (S61) → Int → List ByteArray → Int → Option (List ByteArray)
 | 0, _, _, _, _ => none
 | k + 1, x0, x5, x6, x7 => if 0 ≤ x5 then (if x5 < (x0.length : Int) then (if x7 < (((rd_T61 x0 x5).f3).length : Int) then (if 0 ≤ x7 then (if x6.length < 8796093022208 then (cosignerref03_parents.l0 k x0 x5 (x6 ++ [(rd_T65 ((rd_T61 x0 x5).f3) x7).f0]) (wrap64 (x7 + 1))) else (none)) else (none)) else (some x6)) else (none)) else (none)
def cosignerref03_parents.f (k : Nat) (l0 : List (S61)) (a1 : ByteArray) : Option (List ByteArray) := (cosignerref03_index.f k l0 a1).bind fun t268 => (if t268 < 0 then (some ([] : List ByteArray)) else (cosignerref03_parents.l0 k l0 t268 ([] : List ByteArray) 0))
set_option maxHeartbeats 8000000 in
set_option maxRecDepth 100000 in
theorem cosignerref03_parents.calls (k : Nat) (A0 : Option Addr) (c0 : Nat) (l0 : List (S61)) (a1 : ByteArray) (r : List ByteArray) (w : World) (hr0 : Kd.C k61 w A0 l0.length l0) (hc0 : l0.length ≤ c0) (h : cosignerref03_parents.f k l0 a1 = some r) :
  Calls Try.prog 62 #[.slice A0 l0.length c0, .string a1] w fun e w' => ∃ v0_ : Value, e = .returned (v0_) ∧ Kd.R Kd.string 9 w' w.heap.size (fun _ => True) v0_ r ∧ Below w.heap.size w w' := by
 have HR0 := Aside0.mk hr0
 have HC0 := Aside0.mk hc0
 clear hr0 hc0
 have HB := Aside0.mk (Below.refl w.heap.size w)
 have H : ((cosignerref03_index.f k l0 a1).bind fun t268 => (if t268 < 0 then (some ([] : List ByteArray)) else (cosignerref03_parents.l0 k l0 t268 ([] : List ByteArray) 0))) = some r := h
 clear h
 replace H := Option.bind_eq_some_iff.mp H
 obtain ⟨t268, A30, H⟩ := H
 replace H : (if t268 < 0 then (some ([] : List ByteArray)) else (cosignerref03_parents.l0 k l0 t268 ([] : List ByteArray) 0)) = some r := H
 have A3 := Aside0.mk A30
 clear A30
 by_cases c4 : t268 < 0
 ·rw [if_pos c4] at H
  have c4b0 : decide (t268 < 0) = true := decide_eq_true c4
  clear c4
  obtain rfl := Option.some.inj H
  go_enter Try.func62, Try.ntmps62
  go_wp2_with (first | ((with_reducible refine gate_callee (f := 88) rfl ?_); refine goesL_ (some 10) rfl rfl Try.func88 (by kernel_rfl) rfl #[.slice A0 l0.length c0, .string a1] rfl (by (try simp only [List.map_toArray, List.map_cons, List.map_nil]); first | done | rfl | (simp only [List.length_drop, List.length_take]; rfl)) ?_; (with_reducible refine (cosignerref03_index.calls k _ _ l0 a1 t268 _ ?side1 ?side2 A3.out).mono ?_); (case side1 => repeat (first | exact HR0.out | (with_reducible refine Kd.C_alloc ?_ _) | (with_reducible refine Kd.C_drewN ?_ _) | (with_reducible refine Kd.C_drew ?_))); (case side2 => exact HC0.out); rintro e w' ⟨rfl, ⟨nd, rfl⟩⟩; refine ⟨_, rfl, ?_⟩))
  go_ret
  exact ⟨_, by first | rfl | (simp [errW_none, errW_some] <;> rfl) | (simp [*, errW_none, errW_some] <;> rfl), by first | exact Kd.R_nil _ _ _ _ _ | exact Kd.N_nil _ _ _ _ _ | exact Kd.V_nil _ _ _ _ _ | exact Kd.Q_nil _ _ _ _ _ | exact Kd.S_nil _ _ _ _ _, by repeat (first | (with_reducible first | exact HB.out | apply below_alloc | apply pw_below_drewN | apply below_drew1) | exact HB.out)⟩
 ·rw [if_neg c4] at H
  have c4b0 : decide (t268 < 0) = false := decide_eq_false c4
  clear c4
  have H' := Aside0.mk H
  clear H
  go_enter Try.func62, Try.ntmps62
  go_wp2_with (first | ((with_reducible refine gate_callee (f := 88) rfl ?_); refine goesL_ (some 10) rfl rfl Try.func88 (by kernel_rfl) rfl #[.slice A0 l0.length c0, .string a1] rfl (by (try simp only [List.map_toArray, List.map_cons, List.map_nil]); first | done | rfl | (simp only [List.length_drop, List.length_take]; rfl)) ?_; (with_reducible refine (cosignerref03_index.calls k _ _ l0 a1 t268 _ ?side1 ?side2 A3.out).mono ?_); (case side1 => repeat (first | exact HR0.out | (with_reducible refine Kd.C_alloc ?_ _) | (with_reducible refine Kd.C_drewN ?_ _) | (with_reducible refine Kd.C_drew ?_))); (case side2 => exact HC0.out); rintro e w' ⟨rfl, ⟨nd, rfl⟩⟩; refine ⟨_, rfl, ?_⟩))
  go_loopg [6, 7] k (fun kq v6 v7 w' => ∃ (x6_1 : List ByteArray) (x7_1 : Int), v7 = .int .i64 x7_1 ∧ Aside0 (cosignerref03_parents.l0 kq l0 t268 x6_1 x7_1 = some r) ∧ Aside0 (kq ≤ k) ∧ Aside0 (Kd.R Kd.string 9 w' w.heap.size (fun _ => True) v6 x6_1) ∧ Aside0 (Below w.heap.size w w'))
  case atStart => exact ⟨(([] : List ByteArray)), (0), (by first | rfl | (simp; done) | (simp [*]; done)), H', ⟨Nat.le_refl _⟩, ⟨by first | exact Kd.R_nil _ _ _ _ _ | exact Kd.N_nil _ _ _ _ _ | exact Kd.V_nil _ _ _ _ _ | exact Kd.Q_nil _ _ _ _ _ | exact Kd.S_nil _ _ _ _ _⟩, ⟨by repeat (first | (with_reducible first | exact HB.out | apply below_alloc | apply pw_below_drewN | apply below_drew1) | exact HB.out)⟩⟩
  case round =>
   clear H'
   try clear p2
   try clear c4
   try clear c4b0
   obtain ⟨x6_1, x7_1, rfl, HA, HK1, HO_6, HB⟩ := hrel
   cases gk with
   | zero => exact absurd HA.out (by simp [cosignerref03_parents.l0])
   | succ k1 =>
    have H := HA.out
    clear HA
    simp only [cosignerref03_parents.l0] at H
    by_cases c5 : 0 ≤ t268
    ·rw [if_pos c5] at H
     have c5b0 : decide (0 ≤ t268) = true := decide_eq_true c5
     clear c5
     by_cases c6 : t268 < (l0.length : Int)
     ·rw [if_pos c6] at H
      have c6b0 : decide (t268 < (l0.length : Int)) = true := decide_eq_true c6
      clear c6
      by_cases c7 : x7_1 < (((rd_T61 l0 t268).f3).length : Int)
      ·rw [if_pos c7] at H
       have c7b0 : decide (x7_1 < (((rd_T61 l0 t268).f3).length : Int)) = true := decide_eq_true c7
       clear c7
       by_cases c8 : 0 ≤ x7_1
       ·rw [if_pos c8] at H
        have c8b0 : decide (0 ≤ x7_1) = true := decide_eq_true c8
        clear c8
        by_cases c9 : x6_1.length < 8796093022208
        ·rw [if_pos c9] at H
         have LMc9 := Aside0.mk c9
         clear c9
         obtain ⟨y272, hy272⟩ : ∃ y_ : List ByteArray, y_ = (x6_1 ++ [(rd_T65 ((rd_T61 l0 t268).f3) x7_1).f0]) := ⟨_, rfl⟩
         replace H : (cosignerref03_parents.l0 k1 l0 t268 y272 (wrap64 (x7_1 + 1))) = some r := by first | (rw [hy272]; with_reducible exact H) | (have H2_ := (Option.bind_some _ _).symm.trans H; rw [hy272]; with_reducible exact H2_) | (have H2_ := (Option.bind_some _ _).symm.trans H; with_reducible exact H2_) | with_reducible exact H | (rw [hy272]; exact H) | exact H
         have Ny272 := Aside0.mk hy272
         clear hy272
         have H' := Aside0.mk H
         clear H
         have p269 : 0 ≤ (t268 : Int) := of_decide_eq_true (by first | (with_reducible assumption) | assumption)
         have q269 : t268 < (l0.length : Int) := of_decide_eq_true (by first | (with_reducible assumption) | assumption)
         obtain ⟨ad269, A269_2, c269_2, A269_3, c269_3, A269_4, c269_4, A269_5, c269_5, A269_6, c269_6, e269, hx269_0, hx269_1, hx269_2, hx269_3, hx269_4, hx269_5, hx269_6, hl269_2, hi269_2, hl269_3, hi269_3, hl269_4, hi269_4, hl269_5, hi269_5, hl269_6, hi269_6⟩ := at_T61 HR0.out t268 p269 q269
         cases e269
         replace hx269_0 := (HB.out.cell (World.block_lt_of_cell? w _ hx269_0)).trans hx269_0
         replace hx269_1 := (HB.out.cell (World.block_lt_of_cell? w _ hx269_1)).trans hx269_1
         replace hx269_2 := (HB.out.cell (World.block_lt_of_cell? w _ hx269_2)).trans hx269_2
         replace hx269_3 := (HB.out.cell (World.block_lt_of_cell? w _ hx269_3)).trans hx269_3
         replace hx269_4 := (HB.out.cell (World.block_lt_of_cell? w _ hx269_4)).trans hx269_4
         replace hx269_5 := (HB.out.cell (World.block_lt_of_cell? w _ hx269_5)).trans hx269_5
         replace hx269_6 := (HB.out.cell (World.block_lt_of_cell? w _ hx269_6)).trans hx269_6
         have HR269_2 := Aside0.mk hi269_2
         have HC269_2 := Aside0.mk hl269_2
         clear hi269_2 hl269_2
         have HR269_3 := Aside0.mk hi269_3
         have HC269_3 := Aside0.mk hl269_3
         clear hi269_3 hl269_3
         have HR269_4 := Aside0.mk hi269_4
         have HC269_4 := Aside0.mk hl269_4
         clear hi269_4 hl269_4
         have HR269_5 := Aside0.mk hi269_5
         have HC269_5 := Aside0.mk hl269_5
         clear hi269_5 hl269_5
         have HR269_6 := Aside0.mk hi269_6
         have HC269_6 := Aside0.mk hl269_6
         clear hi269_6 hl269_6
         replace p269 := eq_true p269
         replace q269 := eq_true q269
         have p270 : 0 ≤ (t268 : Int) := of_decide_eq_true (by first | (with_reducible assumption) | assumption)
         have q270 : t268 < (l0.length : Int) := of_decide_eq_true (by first | (with_reducible assumption) | assumption)
         obtain ⟨ad270, A270_2, c270_2, A270_3, c270_3, A270_4, c270_4, A270_5, c270_5, A270_6, c270_6, e270, hx270_0, hx270_1, hx270_2, hx270_3, hx270_4, hx270_5, hx270_6, hl270_2, hi270_2, hl270_3, hi270_3, hl270_4, hi270_4, hl270_5, hi270_5, hl270_6, hi270_6⟩ := at_T61 HR0.out t268 p270 q270
         obtain rfl : ad269 = ad270 := (by injection e270)
         replace hx270_0 := (HB.out.cell (World.block_lt_of_cell? w _ hx270_0)).trans hx270_0
         replace hx270_1 := (HB.out.cell (World.block_lt_of_cell? w _ hx270_1)).trans hx270_1
         replace hx270_2 := (HB.out.cell (World.block_lt_of_cell? w _ hx270_2)).trans hx270_2
         replace hx270_3 := (HB.out.cell (World.block_lt_of_cell? w _ hx270_3)).trans hx270_3
         replace hx270_4 := (HB.out.cell (World.block_lt_of_cell? w _ hx270_4)).trans hx270_4
         replace hx270_5 := (HB.out.cell (World.block_lt_of_cell? w _ hx270_5)).trans hx270_5
         replace hx270_6 := (HB.out.cell (World.block_lt_of_cell? w _ hx270_6)).trans hx270_6
         have HR270_2 := Aside0.mk hi270_2
         have HC270_2 := Aside0.mk hl270_2
         clear hi270_2 hl270_2
         have HR270_3 := Aside0.mk hi270_3
         have HC270_3 := Aside0.mk hl270_3
         clear hi270_3 hl270_3
         have HR270_4 := Aside0.mk hi270_4
         have HC270_4 := Aside0.mk hl270_4
         clear hi270_4 hl270_4
         have HR270_5 := Aside0.mk hi270_5
         have HC270_5 := Aside0.mk hl270_5
         clear hi270_5 hl270_5
         have HR270_6 := Aside0.mk hi270_6
         have HC270_6 := Aside0.mk hl270_6
         clear hi270_6 hl270_6
         replace p270 := eq_true p270
         replace q270 := eq_true q270
         have ea_ := Option.some.inj (hx269_2.symm.trans hx270_2)
         injection ea_ with ea_ en_ ec_
         subst ea_
         subst ec_
         clear en_
         have ea_ := Option.some.inj (hx269_3.symm.trans hx270_3)
         injection ea_ with ea_ en_ ec_
         subst ea_
         subst ec_
         clear en_
         have ea_ := Option.some.inj (hx269_4.symm.trans hx270_4)
         injection ea_ with ea_ en_ ec_
         subst ea_
         subst ec_
         clear en_
         have ea_ := Option.some.inj (hx269_5.symm.trans hx270_5)
         injection ea_ with ea_ en_ ec_
         subst ea_
         subst ec_
         clear en_
         have ea_ := Option.some.inj (hx269_6.symm.trans hx270_6)
         injection ea_ with ea_ en_ ec_
         subst ea_
         subst ec_
         clear en_
         have p271 : 0 ≤ (x7_1 : Int) := of_decide_eq_true (by first | (with_reducible assumption) | assumption)
         have q271 : x7_1 < (((rd_T61 l0 t268).f3).length : Int) := of_decide_eq_true (by first | (with_reducible assumption) | assumption)
         obtain ⟨ad271, A271_1, c271_1, A271_2, c271_2, A271_3, c271_3, A271_4, c271_4, A271_5, c271_5, e271, hx271_0, hx271_1, hx271_2, hx271_3, hx271_4, hx271_5, hl271_1, hi271_1, hl271_2, hi271_2, hl271_3, hi271_3, hl271_4, hi271_4, hl271_5, hi271_5⟩ := at_T65 HR270_3.out x7_1 p271 q271
         cases e271
         replace hx271_0 := (HB.out.cell (World.block_lt_of_cell? w _ hx271_0)).trans hx271_0
         replace hx271_1 := (HB.out.cell (World.block_lt_of_cell? w _ hx271_1)).trans hx271_1
         replace hx271_2 := (HB.out.cell (World.block_lt_of_cell? w _ hx271_2)).trans hx271_2
         replace hx271_3 := (HB.out.cell (World.block_lt_of_cell? w _ hx271_3)).trans hx271_3
         replace hx271_4 := (HB.out.cell (World.block_lt_of_cell? w _ hx271_4)).trans hx271_4
         replace hx271_5 := (HB.out.cell (World.block_lt_of_cell? w _ hx271_5)).trans hx271_5
         have HR271_1 := Aside0.mk hi271_1
         have HC271_1 := Aside0.mk hl271_1
         clear hi271_1 hl271_1
         have HR271_2 := Aside0.mk hi271_2
         have HC271_2 := Aside0.mk hl271_2
         clear hi271_2 hl271_2
         have HR271_3 := Aside0.mk hi271_3
         have HC271_3 := Aside0.mk hl271_3
         clear hi271_3 hl271_3
         have HR271_4 := Aside0.mk hi271_4
         have HC271_4 := Aside0.mk hl271_4
         clear hi271_4 hl271_4
         have HR271_5 := Aside0.mk hi271_5
         have HC271_5 := Aside0.mk hl271_5
         clear hi271_5 hl271_5
         replace p271 := eq_true p271
         replace q271 := eq_true q271
         go_wp2_with (first | ((with_reducible refine gate_builtin (b := .append) (xs := #[.tmp 24, .tmp 34]) rfl ?_); at_builtin; refine Kd.R_append Kd.string (w0 := w) w.heap.size rfl (.tmp 24) (.tmp 34) 25 9 (.string ⟨#[]⟩) 16 rfl Try.underlying25 info9 rfl (by decide) (by omega) u6 x6_1 ((rd_T65 ((rd_T61 l0 t268).f3) x7_1).f0) [.string ((rd_T65 ((rd_T61 l0 t268).f3) x7_1).f0)] (fun _ => True) (fun _ => False) rfl rfl ?aP (fun _ hk => hk.elim) ?aF ?aO ?aB ?aS ?aL ?_; (case aP => exact rfl); (case aB => exact (by repeat (first | (with_reducible first | exact HB.out | apply below_alloc | apply pw_below_drewN | apply below_drew1) | exact HB.out))); (case aF => exact (fun _ _ => trivial)); (case aO => exact (by (with_reducible repeat (first | apply Kd.R_alloc | apply Kd.R_drewN | apply Kd.R_drew)); exact HO_6.out)); (case aS => exact (below_size (by repeat (first | (with_reducible first | exact HB.out | apply below_alloc | apply pw_below_drewN | apply below_drew1) | exact HB.out)))); (case aL => have := LMc9.out; omega); intro v273 w10 ho hb hg hat; rw [← Ny272.out] at ho; have n0_ := Aside0.mk (hb); have n1_ := Aside0.mk (ho); clear HB; clear HO_6; have HB := n0_; have HO274 := n1_; clear n0_ n1_; clear ho hb hg hat))
         go_roundg k1
         case measure => have := HK1.out; omega
         case rel => exact ⟨(y272), (wrap64 (x7_1 + 1)), (by first | rfl | (simp; done) | (simp [*]; done)), H', ⟨by have := HK1.out; omega⟩, ⟨by (with_reducible repeat (first | apply Kd.R_alloc | apply Kd.R_drewN | apply Kd.R_drew)); exact HO274.out⟩, ⟨by repeat (first | (with_reducible first | exact HB.out | apply below_alloc | apply pw_below_drewN | apply below_drew1) | exact HB.out)⟩⟩
        ·rw [if_neg c9] at H
         exact absurd H (by simp)
       ·rw [if_neg c8] at H
        exact absurd H (by simp)
      ·rw [if_neg c7] at H
       have c7b0 : decide (x7_1 < (((rd_T61 l0 t268).f3).length : Int)) = false := decide_eq_false c7
       clear c7
       obtain rfl := Option.some.inj H
       have p269 : 0 ≤ (t268 : Int) := of_decide_eq_true (by first | (with_reducible assumption) | assumption)
       have q269 : t268 < (l0.length : Int) := of_decide_eq_true (by first | (with_reducible assumption) | assumption)
       obtain ⟨ad269, A269_2, c269_2, A269_3, c269_3, A269_4, c269_4, A269_5, c269_5, A269_6, c269_6, e269, hx269_0, hx269_1, hx269_2, hx269_3, hx269_4, hx269_5, hx269_6, hl269_2, hi269_2, hl269_3, hi269_3, hl269_4, hi269_4, hl269_5, hi269_5, hl269_6, hi269_6⟩ := at_T61 HR0.out t268 p269 q269
       cases e269
       replace hx269_0 := (HB.out.cell (World.block_lt_of_cell? w _ hx269_0)).trans hx269_0
       replace hx269_1 := (HB.out.cell (World.block_lt_of_cell? w _ hx269_1)).trans hx269_1
       replace hx269_2 := (HB.out.cell (World.block_lt_of_cell? w _ hx269_2)).trans hx269_2
       replace hx269_3 := (HB.out.cell (World.block_lt_of_cell? w _ hx269_3)).trans hx269_3
       replace hx269_4 := (HB.out.cell (World.block_lt_of_cell? w _ hx269_4)).trans hx269_4
       replace hx269_5 := (HB.out.cell (World.block_lt_of_cell? w _ hx269_5)).trans hx269_5
       replace hx269_6 := (HB.out.cell (World.block_lt_of_cell? w _ hx269_6)).trans hx269_6
       have HR269_2 := Aside0.mk hi269_2
       have HC269_2 := Aside0.mk hl269_2
       clear hi269_2 hl269_2
       have HR269_3 := Aside0.mk hi269_3
       have HC269_3 := Aside0.mk hl269_3
       clear hi269_3 hl269_3
       have HR269_4 := Aside0.mk hi269_4
       have HC269_4 := Aside0.mk hl269_4
       clear hi269_4 hl269_4
       have HR269_5 := Aside0.mk hi269_5
       have HC269_5 := Aside0.mk hl269_5
       clear hi269_5 hl269_5
       have HR269_6 := Aside0.mk hi269_6
       have HC269_6 := Aside0.mk hl269_6
       clear hi269_6 hl269_6
       replace p269 := eq_true p269
       replace q269 := eq_true q269
       go_wp2
       go_ret
       exact ⟨_, by first | rfl | (simp [errW_none, errW_some] <;> rfl) | (simp [*, errW_none, errW_some] <;> rfl), by (with_reducible repeat (first | apply Kd.R_alloc | apply Kd.R_drewN | apply Kd.R_drew)); exact HO_6.out, by repeat (first | (with_reducible first | exact HB.out | apply below_alloc | apply pw_below_drewN | apply below_drew1) | exact HB.out)⟩
     ·rw [if_neg c6] at H
      exact absurd H (by simp)
    ·rw [if_neg c5] at H
     exact absurd H (by simp)
mutual
def cosignerref03_Before.l0 : Nat → List ByteArray → List ByteArray → Int → Option (Bool)
 | 0, _, _, _ => none
 | k + 1, x0, x1, x5 => if x5 < (x0.length : Int) then (cosignerref03_Before.j1 k x0 x1 x5 (decide (x5 < (x1.length : Int)))) else (cosignerref03_Before.j1 k x0 x1 x5 false)
def cosignerref03_Before.j1 : Nat → List ByteArray → List ByteArray → Int → Bool → Option (Bool)
 | 0, _, _, _, _ => none
 | k + 1, x0, x1, x5, x15 => if x15 = true then (if 0 ≤ x5 then (if x5 < (x0.length : Int) then (if x5 < (x1.length : Int) then (if (rdOf ByteArray.empty x0 x5).toList = (rdOf ByteArray.empty x1 x5).toList then (cosignerref03_Before.l0 k x0 x1 (wrap64 (x5 + 1))) else (some (Op.bytesLess ((rdOf ByteArray.empty x0 x5).toList) ((rdOf ByteArray.empty x1 x5).toList)))) else (none)) else (none)) else (none)) else (some (decide ((x0.length : Int) < (x1.length : Int))))
end
def cosignerref03_Before.f (k : Nat) (l0 : List ByteArray) (l1 : List ByteArray) : Option (Bool) := cosignerref03_Before.l0 k l0 l1 0
set_option maxHeartbeats 8000000 in
set_option maxRecDepth 100000 in
theorem cosignerref03_Before.calls (k : Nat) (A0 : Option Addr) (c0 : Nat) (l0 : List ByteArray) (A1 : Option Addr) (c1 : Nat) (l1 : List ByteArray) (r : Bool) (w : World) (hr0 : Kd.C Kd.string w A0 l0.length l0) (hc0 : l0.length ≤ c0) (hr1 : Kd.C Kd.string w A1 l1.length l1) (hc1 : l1.length ≤ c1) (h : cosignerref03_Before.f k l0 l1 = some r) :
  Calls Try.prog 94 #[.slice A0 l0.length c0, .slice A1 l1.length c1] w fun e w' => e = .returned (.bool r) ∧ Drawn0 w w' := by
 have HR0 := Aside0.mk hr0
 have HC0 := Aside0.mk hc0
 clear hr0 hc0
 have HR1 := Aside0.mk hr1
 have HC1 := Aside0.mk hc1
 clear hr1 hc1
 have H : (cosignerref03_Before.l0 k l0 l1 0) = some r := h
 clear h
 have H' := Aside0.mk H
 clear H
 go_enter Try.func94, Try.ntmps94
 go_wp2
 repeat (go_quiet (fail); try go_wp2)
 go_loopg [5] k (fun kq v5 w' => ∃ (x5_1 : Int), v5 = .int .i64 x5_1 ∧ Aside0 (cosignerref03_Before.l0 kq l0 l1 x5_1 = some r) ∧ Aside0 (kq ≤ k) ∧ Drawn0 w w')
 case atStart => exact ⟨(0), (by first | rfl | (simp; done) | (simp [*]; done)), H', ⟨Nat.le_refl _⟩, by repeat (first | exact Drawn0.refl _ | apply Drawn0.step)⟩
 case round =>
  clear H'
  try clear c1
  try clear p2
  obtain ⟨x5_1, rfl, HA, HK1, ⟨m1, rfl⟩⟩ := hrel
  cases gk with
  | zero => exact absurd HA.out (by simp [cosignerref03_Before.l0])
  | succ k1 =>
   have H := HA.out
   clear HA
   simp only [cosignerref03_Before.l0] at H
   have HC3 := Aside0.mk H
   clear H
   go_upto_region 2 with (fail)
   repeat (go_quiet (fail); go_upto_region 2 with (fail))
   go_cut [15] (fun v15 wc => ∃ (kq : Nat) (x15_2 : Bool), v15 = .bool x15_2 ∧ Aside0 (cosignerref03_Before.j1 kq l0 l1 x5_1 x15_2 = some r) ∧ Aside0 (kq ≤ k1) ∧ Drawn0 w wc)
   case first =>
    have H := HC3.out
    clear HC3
    by_cases c4 : x5_1 < (l0.length : Int)
    ·rw [if_pos c4] at H
     have c4b0 : decide (x5_1 < (l0.length : Int)) = true := decide_eq_true c4
     clear c4
     (first | rw [c4b0] | (simp only [i64_w, i32_w]; rw [c4b0]) | skip)
     have H' := Aside0.mk H
     clear H
     go_wp2
     repeat (go_quiet (fail); try go_wp2)
     go_meet
     case rel => exact ⟨_, (decide (x5_1 < (l1.length : Int))), (by first | rfl | (simp; done) | (simp [*]; done)), H', ⟨by have := HK1.out; first | omega | exact Nat.le_refl _⟩, by repeat (first | exact Drawn0.refl _ | apply Drawn0.step)⟩
    ·rw [if_neg c4] at H
     have c4b0 : decide (x5_1 < (l0.length : Int)) = false := decide_eq_false c4
     clear c4
     (first | rw [c4b0] | (simp only [i64_w, i32_w]; rw [c4b0]) | skip)
     have H' := Aside0.mk H
     clear H
     go_wp2
     repeat (go_quiet (fail); try go_wp2)
     go_meet
     case rel => exact ⟨_, (false), (by first | rfl | (simp; done) | (simp [*]; done)), H', ⟨by have := HK1.out; first | omega | exact Nat.le_refl _⟩, by repeat (first | exact Drawn0.refl _ | apply Drawn0.step)⟩
   case rest =>
    clear HC3
    try clear c1
    try clear p2
    try clear c4
    try clear c4b0
    try clear p2
    obtain ⟨kq, x15_2, rfl, HA, HJ2, ⟨mc2, rfl⟩⟩ := hcut
    cases kq with
    | zero => exact absurd HA.out (by simp [cosignerref03_Before.j1])
    | succ kj2 =>
     have H := HA.out
     clear HA
     simp only [cosignerref03_Before.j1] at H
     by_cases c5 : x15_2 = true
     ·subst c5
      have H1 : (if 0 ≤ x5_1 then (if x5_1 < (l0.length : Int) then (if x5_1 < (l1.length : Int) then (if (rdOf ByteArray.empty l0 x5_1).toList = (rdOf ByteArray.empty l1 x5_1).toList then (cosignerref03_Before.l0 kj2 l0 l1 (wrap64 (x5_1 + 1))) else (some (Op.bytesLess ((rdOf ByteArray.empty l0 x5_1).toList) ((rdOf ByteArray.empty l1 x5_1).toList)))) else (none)) else (none)) else (none)) = some r := by rw [if_pos rfl] at H; exact H
      clear H
      have H := H1
      clear H1
      by_cases c6 : 0 ≤ x5_1
      ·rw [if_pos c6] at H
       have c6b0 : decide (0 ≤ x5_1) = true := decide_eq_true c6
       clear c6
       by_cases c7 : x5_1 < (l0.length : Int)
       ·rw [if_pos c7] at H
        have c7b0 : decide (x5_1 < (l0.length : Int)) = true := decide_eq_true c7
        clear c7
        by_cases c8 : x5_1 < (l1.length : Int)
        ·rw [if_pos c8] at H
         have c8b0 : decide (x5_1 < (l1.length : Int)) = true := decide_eq_true c8
         clear c8
         by_cases c9 : (rdOf ByteArray.empty l0 x5_1).toList = (rdOf ByteArray.empty l1 x5_1).toList
         ·rw [if_pos c9] at H
          have c9b0 : ((rdOf ByteArray.empty l0 x5_1).toList == (rdOf ByteArray.empty l1 x5_1).toList) = true := beq_iff_eq.mpr c9
          have c9b1 : ((rdOf ByteArray.empty l0 x5_1).toList != (rdOf ByteArray.empty l1 x5_1).toList) = false := bne_eq_false_iff_eq.mpr c9
          clear c9
          have H' := Aside0.mk H
          clear H
          have p275 : 0 ≤ (x5_1 : Int) := of_decide_eq_true (by first | (with_reducible assumption) | assumption)
          have q275 : x5_1 < (l0.length : Int) := of_decide_eq_true (by first | (with_reducible assumption) | assumption)
          obtain ⟨ad275, e275, hx275_0⟩ := Kd.at_string HR0.out x5_1 p275 q275
          cases e275
          replace p275 := eq_true p275
          replace q275 := eq_true q275
          have p276 : 0 ≤ (x5_1 : Int) := of_decide_eq_true (by first | (with_reducible assumption) | assumption)
          have q276 : x5_1 < (l1.length : Int) := of_decide_eq_true (by first | (with_reducible assumption) | assumption)
          obtain ⟨ad276, e276, hx276_0⟩ := Kd.at_string HR1.out x5_1 p276 q276
          cases e276
          replace p276 := eq_true p276
          replace q276 := eq_true q276
          go_wp2
          repeat (go_quiet (fail); try go_wp2)
          go_roundg kj2
          case measure => have := HK1.out; have := HJ2.out; omega
          case rel => exact ⟨(wrap64 (x5_1 + 1)), (by first | rfl | (simp; done) | (simp [*]; done)), H', ⟨by have := HK1.out; have := HJ2.out; omega⟩, by repeat (first | exact Drawn0.refl _ | apply Drawn0.step)⟩
         ·rw [if_neg c9] at H
          have c9b0 : ((rdOf ByteArray.empty l0 x5_1).toList == (rdOf ByteArray.empty l1 x5_1).toList) = false := beq_eq_false_iff_ne.mpr c9
          have c9b1 : ((rdOf ByteArray.empty l0 x5_1).toList != (rdOf ByteArray.empty l1 x5_1).toList) = true := bne_iff_ne.mpr c9
          obtain rfl := Option.some.inj H
          have p275 : 0 ≤ (x5_1 : Int) := of_decide_eq_true (by first | (with_reducible assumption) | assumption)
          have q275 : x5_1 < (l0.length : Int) := of_decide_eq_true (by first | (with_reducible assumption) | assumption)
          obtain ⟨ad275, e275, hx275_0⟩ := Kd.at_string HR0.out x5_1 p275 q275
          cases e275
          replace p275 := eq_true p275
          replace q275 := eq_true q275
          have p276 : 0 ≤ (x5_1 : Int) := of_decide_eq_true (by first | (with_reducible assumption) | assumption)
          have q276 : x5_1 < (l1.length : Int) := of_decide_eq_true (by first | (with_reducible assumption) | assumption)
          obtain ⟨ad276, e276, hx276_0⟩ := Kd.at_string HR1.out x5_1 p276 q276
          cases e276
          replace p276 := eq_true p276
          replace q276 := eq_true q276
          have p277 : 0 ≤ (x5_1 : Int) := of_decide_eq_true (by first | (with_reducible assumption) | assumption)
          have q277 : x5_1 < (l0.length : Int) := of_decide_eq_true (by first | (with_reducible assumption) | assumption)
          obtain ⟨ad277, e277, hx277_0⟩ := Kd.at_string HR0.out x5_1 p277 q277
          obtain rfl : ad275 = ad277 := (by injection e277)
          replace p277 := eq_true p277
          replace q277 := eq_true q277
          have p278 : 0 ≤ (x5_1 : Int) := of_decide_eq_true (by first | (with_reducible assumption) | assumption)
          have q278 : x5_1 < (l1.length : Int) := of_decide_eq_true (by first | (with_reducible assumption) | assumption)
          obtain ⟨ad278, e278, hx278_0⟩ := Kd.at_string HR1.out x5_1 p278 q278
          obtain rfl : ad276 = ad278 := (by injection e278)
          replace p278 := eq_true p278
          replace q278 := eq_true q278
          go_wp2
          repeat (go_quiet (fail); try go_wp2)
          go_ret
          exact ⟨by first | rfl | (simp; done) | (simp [*]; done), by repeat (first | exact Drawn0.refl _ | apply Drawn0.step)⟩
        ·rw [if_neg c8] at H
         exact absurd H (by simp)
       ·rw [if_neg c7] at H
        exact absurd H (by simp)
      ·rw [if_neg c6] at H
       exact absurd H (by simp)
     ·replace c5 := Bool.eq_false_iff.mpr c5
      subst c5
      have H1 : (some (decide ((l0.length : Int) < (l1.length : Int)))) = some r := by rw [if_neg (show ¬ (false = true) by decide)] at H; exact H
      clear H
      have H := H1
      clear H1
      obtain rfl := Option.some.inj H
      go_wp2
      repeat (go_quiet (fail); try go_wp2)
      go_ret
      exact ⟨by first | rfl | (simp; done) | (simp [*]; done), by repeat (first | exact Drawn0.refl _ | apply Drawn0.step)⟩
end Go.Proofs.Ytdljclokenoogaa.Hp
end
section
namespace Go.Proofs.Ytdljclokenoogaa.Hp
open Go.RowKit Go.Proofs.YtdljclokenoogaaW.PrintWords Go.Proofs.YtdljclokenoogaaW.PrintLast Go.Proofs.YtdljclokenoogaaW.PrintMore
attribute [local go_sem] max2_int min2_int max_two min_two max_three min_three max_four min_four
set_option linter.unusedVariables false
set_option linter.unusedSimpArgs false
def cosignerref03_reserved.f (a0 : ByteArray) : Option (Bool) := if a0.toList = ([73, 78, 84, 69, 71, 69, 82] : List UInt8) then (some true) else (if a0.toList = ([66, 79, 79, 76, 69, 65, 78] : List UInt8) then (some true) else (if a0.toList = ([65, 78, 89] : List UInt8) then (some true) else (some (a0.toList == ([78, 79, 78, 69] : List UInt8)))))
set_option maxHeartbeats 8000000 in
set_option maxRecDepth 100000 in
theorem cosignerref03_reserved.calls (a0 : ByteArray) (r : Bool) (w : World) (h : cosignerref03_reserved.f a0 = some r) :
  Calls Try.prog 124 #[.string a0] w fun e w' => e = .returned (.bool r) ∧ Drawn0 w w' := by
 have H : (if a0.toList = ([73, 78, 84, 69, 71, 69, 82] : List UInt8) then (some true) else (if a0.toList = ([66, 79, 79, 76, 69, 65, 78] : List UInt8) then (some true) else (if a0.toList = ([65, 78, 89] : List UInt8) then (some true) else (some (a0.toList == ([78, 79, 78, 69] : List UInt8)))))) = some r := h
 clear h
 by_cases c2 : a0.toList = ([73, 78, 84, 69, 71, 69, 82] : List UInt8)
 ·rw [if_pos c2] at H
  have c2b0 : (a0.toList == ([73, 78, 84, 69, 71, 69, 82] : List UInt8)) = true := beq_iff_eq.mpr c2
  have c2b1 : (a0.toList != ([73, 78, 84, 69, 71, 69, 82] : List UInt8)) = false := bne_eq_false_iff_eq.mpr c2
  clear c2
  obtain rfl := Option.some.inj H
  go_enter Try.func124, Try.ntmps124
  go_wp2
  go_ret
  exact ⟨by first | rfl | (simp; done) | (simp [*]; done), by repeat (first | exact Drawn0.refl _ | apply Drawn0.step)⟩
 ·rw [if_neg c2] at H
  have c2b0 : (a0.toList == ([73, 78, 84, 69, 71, 69, 82] : List UInt8)) = false := beq_eq_false_iff_ne.mpr c2
  have c2b1 : (a0.toList != ([73, 78, 84, 69, 71, 69, 82] : List UInt8)) = true := bne_iff_ne.mpr c2
  by_cases c3 : a0.toList = ([66, 79, 79, 76, 69, 65, 78] : List UInt8)
  ·rw [if_pos c3] at H
   have c3b0 : (a0.toList == ([66, 79, 79, 76, 69, 65, 78] : List UInt8)) = true := beq_iff_eq.mpr c3
   have c3b1 : (a0.toList != ([66, 79, 79, 76, 69, 65, 78] : List UInt8)) = false := bne_eq_false_iff_eq.mpr c3
   clear c3
   obtain rfl := Option.some.inj H
   go_enter Try.func124, Try.ntmps124
   go_wp2
   go_ret
   exact ⟨by first | rfl | (simp; done) | (simp [*]; done), by repeat (first | exact Drawn0.refl _ | apply Drawn0.step)⟩
  ·rw [if_neg c3] at H
   have c3b0 : (a0.toList == ([66, 79, 79, 76, 69, 65, 78] : List UInt8)) = false := beq_eq_false_iff_ne.mpr c3
   have c3b1 : (a0.toList != ([66, 79, 79, 76, 69, 65, 78] : List UInt8)) = true := bne_iff_ne.mpr c3
   by_cases c4 : a0.toList = ([65, 78, 89] : List UInt8)
   ·rw [if_pos c4] at H
    have c4b0 : (a0.toList == ([65, 78, 89] : List UInt8)) = true := beq_iff_eq.mpr c4
    have c4b1 : (a0.toList != ([65, 78, 89] : List UInt8)) = false := bne_eq_false_iff_eq.mpr c4
    clear c4
    obtain rfl := Option.some.inj H
    go_enter Try.func124, Try.ntmps124
    go_wp2
    go_ret
    exact ⟨by first | rfl | (simp; done) | (simp [*]; done), by repeat (first | exact Drawn0.refl _ | apply Drawn0.step)⟩
   ·rw [if_neg c4] at H
    have c4b0 : (a0.toList == ([65, 78, 89] : List UInt8)) = false := beq_eq_false_iff_ne.mpr c4
    have c4b1 : (a0.toList != ([65, 78, 89] : List UInt8)) = true := bne_iff_ne.mpr c4
    obtain rfl := Option.some.inj H
    go_enter Try.func124, Try.ntmps124
    go_wp2
    go_ret
    exact ⟨by first | rfl | (simp; done) | (simp [*]; done), by repeat (first | exact Drawn0.refl _ | apply Drawn0.step)⟩
mutual
def cosignerref03_named.j0 : Nat → ByteArray → Bool → Option (Bool)
 | 0, _, _ => none
 | k + 1, x0, x24 => if x24 = true then (some false) else (cosignerref03_named.l0 k x0 0)
def cosignerref03_named.l0 : Nat → ByteArray → Int → Option (Bool)
 | 0, _, _ => none
 | k + 1, x0, x3 => if x3 < (x0.size : Int) then (if 0 ≤ x3 then (if (bt x0 x3) ≥ 65 then (if (bt x0 x3) ≥ 48 then (if ((bt x0 x3) ≤ 90) then (cosignerref03_named.l0 k x0 (wrap64 (x3 + 1))) else (if ((bt x0 x3) ≤ 57) then (cosignerref03_named.l0 k x0 (wrap64 (x3 + 1))) else (if (bt x0 x3) = 95 then (cosignerref03_named.l0 k x0 (wrap64 (x3 + 1))) else (some false)))) else (if ((bt x0 x3) ≤ 90) then (cosignerref03_named.l0 k x0 (wrap64 (x3 + 1))) else (if (bt x0 x3) = 95 then (cosignerref03_named.l0 k x0 (wrap64 (x3 + 1))) else (some false)))) else (if (bt x0 x3) ≥ 48 then (if ((bt x0 x3) ≤ 57) then (cosignerref03_named.l0 k x0 (wrap64 (x3 + 1))) else (if (bt x0 x3) = 95 then (cosignerref03_named.l0 k x0 (wrap64 (x3 + 1))) else (some false))) else (if (bt x0 x3) = 95 then (cosignerref03_named.l0 k x0 (wrap64 (x3 + 1))) else (some false)))) else (none)) else ((cosignerref03_reserved.f x0).bind fun t322 => (some (!t322)))
end
def cosignerref03_named.f (k : Nat) (a0 : ByteArray) : Option (Bool) := if (a0.size : Int) = 0 then (cosignerref03_named.j0 k a0 true) else (if (a0.size : Int) > 20 then (cosignerref03_named.j0 k a0 true) else (if 0 < (a0.size : Int) then (if (bt a0 0) < 65 then (cosignerref03_named.j0 k a0 true) else (cosignerref03_named.j0 k a0 (decide ((bt a0 0) > 90)))) else (none)))
set_option maxHeartbeats 8000000 in
set_option maxRecDepth 100000 in
theorem cosignerref03_named.calls (k : Nat) (a0 : ByteArray) (r : Bool) (w : World) (h : cosignerref03_named.f k a0 = some r) :
  Calls Try.prog 106 #[.string a0] w fun e w' => e = .returned (.bool r) ∧ Drawn0 w w' := by
 have H : (if (a0.size : Int) = 0 then (cosignerref03_named.j0 k a0 true) else (if (a0.size : Int) > 20 then (cosignerref03_named.j0 k a0 true) else (if 0 < (a0.size : Int) then (if (bt a0 0) < 65 then (cosignerref03_named.j0 k a0 true) else (cosignerref03_named.j0 k a0 (decide ((bt a0 0) > 90)))) else (none)))) = some r := h
 clear h
 have HC2 := Aside0.mk H
 clear H
 go_enter Try.func106, Try.ntmps106
 go_upto_region 1 with (fail)
 go_cut [24] (fun v24 wc => ∃ (kq : Nat) (x24_1 : Bool), v24 = .bool x24_1 ∧ Aside0 (cosignerref03_named.j0 kq a0 x24_1 = some r) ∧ Aside0 (kq ≤ k) ∧ Drawn0 w wc)
 case first =>
  have H := HC2.out
  clear HC2
  by_cases c3 : (a0.size : Int) = 0
  ·rw [if_pos c3] at H
   have c3b0 : ((a0.size : Int) == 0) = true := beq_iff_eq.mpr c3
   have c3b1 : ((a0.size : Int) != 0) = false := bne_eq_false_iff_eq.mpr c3
   clear c3
   (first | rw [c3b0] | (simp only [i64_w, i32_w]; rw [c3b0]) | skip)
   have H' := Aside0.mk H
   clear H
   go_wp2
   go_meet
   case rel => exact ⟨_, (true), (by first | rfl | (simp; done) | (simp [*]; done)), H', ⟨by first | omega | exact Nat.le_refl _⟩, by repeat (first | exact Drawn0.refl _ | apply Drawn0.step)⟩
  ·rw [if_neg c3] at H
   have c3b0 : ((a0.size : Int) == 0) = false := beq_eq_false_iff_ne.mpr c3
   have c3b1 : ((a0.size : Int) != 0) = true := bne_iff_ne.mpr c3
   (first | rw [c3b0] | (simp only [i64_w, i32_w]; rw [c3b0]) | skip)
   by_cases c4 : (a0.size : Int) > 20
   ·rw [if_pos c4] at H
    have c4b0 : decide (20 < (a0.size : Int)) = true := decide_eq_true c4
    have c4b1 : decide (20 < a0.size) = true := decide_eq_true (by omega)
    clear c4
    have H' := Aside0.mk H
    clear H
    go_wp2
    go_meet
    case rel => exact ⟨_, (true), (by first | rfl | (simp; done) | (simp [*]; done)), H', ⟨by first | omega | exact Nat.le_refl _⟩, by repeat (first | exact Drawn0.refl _ | apply Drawn0.step)⟩
   ·rw [if_neg c4] at H
    have c4b0 : decide (20 < (a0.size : Int)) = false := decide_eq_false c4
    have c4b1 : decide (20 < a0.size) = false := decide_eq_false (by omega)
    clear c4
    by_cases c5 : 0 < (a0.size : Int)
    ·rw [if_pos c5] at H
     have c5b0 : decide (0 < (a0.size : Int)) = true := decide_eq_true c5
     have c5b1 : decide (0 < a0.size) = true := decide_eq_true (by omega)
     clear c5
     by_cases c7 : (bt a0 0) < 65
     ·rw [if_pos c7] at H
      have c7b0 : decide ((bt a0 0) < 65) = true := decide_eq_true c7
      clear c7
      have H' := Aside0.mk H
      clear H
      have p6 : 0 ≤ (0 : Int) := (by omega)
      have q6 : 0 < a0.size := (by have : (0 : Int) < (a0.size : Int) := of_decide_eq_true (by first | (with_reducible assumption) | assumption); omega)
      have hx6 : ∀ h : 0 < a0.size, ((a0[0]'h).toNat : Int) = bt a0 0 := bt_at a0 0
      clear p6
      have qi6 : (0 < (a0.size : Int)) = True := eq_true (of_decide_eq_true (by first | (with_reducible assumption) | assumption))
      replace q6 := eq_true q6
      go_wp2
      go_meet
      case rel => exact ⟨_, (true), (by first | rfl | (simp; done) | (simp [*]; done)), H', ⟨by first | omega | exact Nat.le_refl _⟩, by repeat (first | exact Drawn0.refl _ | apply Drawn0.step)⟩
     ·rw [if_neg c7] at H
      have c7b0 : decide ((bt a0 0) < 65) = false := decide_eq_false c7
      clear c7
      have H' := Aside0.mk H
      clear H
      have p6 : 0 ≤ (0 : Int) := (by omega)
      have q6 : 0 < a0.size := (by have : (0 : Int) < (a0.size : Int) := of_decide_eq_true (by first | (with_reducible assumption) | assumption); omega)
      have hx6 : ∀ h : 0 < a0.size, ((a0[0]'h).toNat : Int) = bt a0 0 := bt_at a0 0
      clear p6
      have qi6 : (0 < (a0.size : Int)) = True := eq_true (of_decide_eq_true (by first | (with_reducible assumption) | assumption))
      replace q6 := eq_true q6
      have p8 : 0 ≤ (0 : Int) := (by omega)
      have q8 : 0 < a0.size := (by have : (0 : Int) < (a0.size : Int) := of_decide_eq_true (by first | (with_reducible assumption) | assumption); omega)
      have hx8 : ∀ h : 0 < a0.size, ((a0[0]'h).toNat : Int) = bt a0 0 := bt_at a0 0
      clear p8
      have qi8 : (0 < (a0.size : Int)) = True := eq_true (of_decide_eq_true (by first | (with_reducible assumption) | assumption))
      replace q8 := eq_true q8
      go_wp2
      go_meet
      case rel => exact ⟨_, (decide ((bt a0 0) > 90)), (by first | rfl | (simp; done) | (simp [*]; done)), H', ⟨by first | omega | exact Nat.le_refl _⟩, by repeat (first | exact Drawn0.refl _ | apply Drawn0.step)⟩
    ·rw [if_neg c5] at H
     exact absurd H (by simp)
 case rest =>
  clear HC2
  try clear c1
  try clear p2
  try clear c3
  try clear c3b0
  try clear c3b1
  try clear c4
  try clear c4b0
  try clear c4b1
  try clear c5
  try clear c5b0
  try clear c5b1
  try clear p6
  try clear q6
  try clear hx6
  try clear qi6
  try clear c7
  try clear c7b0
  try clear p8
  try clear q8
  try clear hx8
  try clear qi8
  try clear p6
  try clear p8
  try clear q6
  try clear q8
  obtain ⟨kq, x24_1, rfl, HA, HJ1, ⟨mc1, rfl⟩⟩ := hcut
  cases kq with
  | zero => exact absurd HA.out (by simp [cosignerref03_named.j0])
  | succ kj1 =>
   have H := HA.out
   clear HA
   simp only [cosignerref03_named.j0] at H
   by_cases c9 : x24_1 = true
   ·subst c9
    have H1 : (some false) = some r := by rw [if_pos rfl] at H; exact H
    clear H
    have H := H1
    clear H1
    obtain rfl := Option.some.inj H
    go_wp2
    go_ret
    exact ⟨by first | rfl | (simp; done) | (simp [*]; done), by repeat (first | exact Drawn0.refl _ | apply Drawn0.step)⟩
   ·replace c9 := Bool.eq_false_iff.mpr c9
    subst c9
    have H1 : (cosignerref03_named.l0 kj1 a0 0) = some r := by rw [if_neg (show ¬ (false = true) by decide)] at H; exact H
    clear H
    have H := H1
    clear H1
    have H' := Aside0.mk H
    clear H
    go_wp2
    go_loopg [3] kj1 (fun kq v3 w' => ∃ (x3_2 : Int), v3 = .int .i64 x3_2 ∧ Aside0 (cosignerref03_named.l0 kq a0 x3_2 = some r) ∧ Aside0 (kq ≤ kj1) ∧ Drawn0 w w')
    case atStart => exact ⟨(0), (by first | rfl | (simp; done) | (simp [*]; done)), H', ⟨Nat.le_refl _⟩, by repeat (first | exact Drawn0.refl _ | apply Drawn0.step)⟩
    case round =>
     clear H'
     try clear c1
     try clear p2
     try clear c3
     try clear c3b0
     try clear c3b1
     try clear c4
     try clear c4b0
     try clear c4b1
     try clear c5
     try clear c5b0
     try clear c5b1
     try clear p6
     try clear q6
     try clear hx6
     try clear qi6
     try clear c7
     try clear c7b0
     try clear p8
     try clear q8
     try clear hx8
     try clear qi8
     try clear c9
     try clear p2
     try clear p6
     try clear p8
     try clear q6
     try clear q8
     obtain ⟨x3_2, rfl, HA, HK2, ⟨m2, rfl⟩⟩ := hrel
     cases gk with
     | zero => exact absurd HA.out (by simp [cosignerref03_named.l0])
     | succ k2 =>
      have H := HA.out
      clear HA
      simp only [cosignerref03_named.l0] at H
      by_cases c10 : x3_2 < (a0.size : Int)
      ·rw [if_pos c10] at H
       have c10b0 : decide (x3_2 < (a0.size : Int)) = true := decide_eq_true c10
       clear c10
       by_cases c11 : 0 ≤ x3_2
       ·rw [if_pos c11] at H
        have c11b0 : decide (0 ≤ x3_2) = true := decide_eq_true c11
        clear c11
        by_cases c13 : (bt a0 x3_2) ≥ 65
        ·rw [if_pos c13] at H
         have c13b0 : decide (65 ≤ (bt a0 x3_2)) = true := decide_eq_true c13
         clear c13
         by_cases c16 : (bt a0 x3_2) ≥ 48
         ·rw [if_pos c16] at H
          have c16b0 : decide (48 ≤ (bt a0 x3_2)) = true := decide_eq_true c16
          clear c16
          by_cases c18 : ((bt a0 x3_2) ≤ 90)
          ·rw [if_pos c18] at H
           have c18b0 : decide ((bt a0 x3_2) ≤ 90) = true := decide_eq_true c18
           clear c18
           have H' := Aside0.mk H
           clear H
           have p12 : 0 ≤ (x3_2 : Int) := of_decide_eq_true (by first | (with_reducible assumption) | assumption)
           have q12 : x3_2 < (a0.size : Int) := of_decide_eq_true (by first | (with_reducible assumption) | assumption)
           have hx12 := bt_at a0 x3_2
           replace p12 := eq_true p12
           replace q12 := eq_true q12
           have p14 : 0 ≤ (x3_2 : Int) := of_decide_eq_true (by first | (with_reducible assumption) | assumption)
           have q14 : x3_2 < (a0.size : Int) := of_decide_eq_true (by first | (with_reducible assumption) | assumption)
           have hx14 := bt_at a0 x3_2
           replace p14 := eq_true p14
           replace q14 := eq_true q14
           have p15 : 0 ≤ (x3_2 : Int) := of_decide_eq_true (by first | (with_reducible assumption) | assumption)
           have q15 : x3_2 < (a0.size : Int) := of_decide_eq_true (by first | (with_reducible assumption) | assumption)
           have hx15 := bt_at a0 x3_2
           replace p15 := eq_true p15
           replace q15 := eq_true q15
           have p17 : 0 ≤ (x3_2 : Int) := of_decide_eq_true (by first | (with_reducible assumption) | assumption)
           have q17 : x3_2 < (a0.size : Int) := of_decide_eq_true (by first | (with_reducible assumption) | assumption)
           have hx17 := bt_at a0 x3_2
           replace p17 := eq_true p17
           replace q17 := eq_true q17
           go_wp2
           go_roundg k2
           case measure => have := HJ1.out; have := HK2.out; omega
           case rel => exact ⟨(wrap64 (x3_2 + 1)), (by first | rfl | (simp; done) | (simp [*]; done)), H', ⟨by have := HJ1.out; have := HK2.out; omega⟩, by repeat (first | exact Drawn0.refl _ | apply Drawn0.step)⟩
          ·rw [if_neg c18] at H
           have c18b0 : decide ((bt a0 x3_2) ≤ 90) = false := decide_eq_false c18
           clear c18
           by_cases c19 : ((bt a0 x3_2) ≤ 57)
           ·rw [if_pos c19] at H
            have c19b0 : decide ((bt a0 x3_2) ≤ 57) = true := decide_eq_true c19
            clear c19
            have H' := Aside0.mk H
            clear H
            have p12 : 0 ≤ (x3_2 : Int) := of_decide_eq_true (by first | (with_reducible assumption) | assumption)
            have q12 : x3_2 < (a0.size : Int) := of_decide_eq_true (by first | (with_reducible assumption) | assumption)
            have hx12 := bt_at a0 x3_2
            replace p12 := eq_true p12
            replace q12 := eq_true q12
            have p14 : 0 ≤ (x3_2 : Int) := of_decide_eq_true (by first | (with_reducible assumption) | assumption)
            have q14 : x3_2 < (a0.size : Int) := of_decide_eq_true (by first | (with_reducible assumption) | assumption)
            have hx14 := bt_at a0 x3_2
            replace p14 := eq_true p14
            replace q14 := eq_true q14
            have p15 : 0 ≤ (x3_2 : Int) := of_decide_eq_true (by first | (with_reducible assumption) | assumption)
            have q15 : x3_2 < (a0.size : Int) := of_decide_eq_true (by first | (with_reducible assumption) | assumption)
            have hx15 := bt_at a0 x3_2
            replace p15 := eq_true p15
            replace q15 := eq_true q15
            have p17 : 0 ≤ (x3_2 : Int) := of_decide_eq_true (by first | (with_reducible assumption) | assumption)
            have q17 : x3_2 < (a0.size : Int) := of_decide_eq_true (by first | (with_reducible assumption) | assumption)
            have hx17 := bt_at a0 x3_2
            replace p17 := eq_true p17
            replace q17 := eq_true q17
            go_wp2
            go_roundg k2
            case measure => have := HJ1.out; have := HK2.out; omega
            case rel => exact ⟨(wrap64 (x3_2 + 1)), (by first | rfl | (simp; done) | (simp [*]; done)), H', ⟨by have := HJ1.out; have := HK2.out; omega⟩, by repeat (first | exact Drawn0.refl _ | apply Drawn0.step)⟩
           ·rw [if_neg c19] at H
            have c19b0 : decide ((bt a0 x3_2) ≤ 57) = false := decide_eq_false c19
            clear c19
            by_cases c21 : (bt a0 x3_2) = 95
            ·rw [if_pos c21] at H
             have c21b0 : ((bt a0 x3_2) == 95) = true := beq_iff_eq.mpr c21
             have c21b1 : ((bt a0 x3_2) != 95) = false := bne_eq_false_iff_eq.mpr c21
             clear c21
             have H' := Aside0.mk H
             clear H
             have p12 : 0 ≤ (x3_2 : Int) := of_decide_eq_true (by first | (with_reducible assumption) | assumption)
             have q12 : x3_2 < (a0.size : Int) := of_decide_eq_true (by first | (with_reducible assumption) | assumption)
             have hx12 := bt_at a0 x3_2
             replace p12 := eq_true p12
             replace q12 := eq_true q12
             have p14 : 0 ≤ (x3_2 : Int) := of_decide_eq_true (by first | (with_reducible assumption) | assumption)
             have q14 : x3_2 < (a0.size : Int) := of_decide_eq_true (by first | (with_reducible assumption) | assumption)
             have hx14 := bt_at a0 x3_2
             replace p14 := eq_true p14
             replace q14 := eq_true q14
             have p15 : 0 ≤ (x3_2 : Int) := of_decide_eq_true (by first | (with_reducible assumption) | assumption)
             have q15 : x3_2 < (a0.size : Int) := of_decide_eq_true (by first | (with_reducible assumption) | assumption)
             have hx15 := bt_at a0 x3_2
             replace p15 := eq_true p15
             replace q15 := eq_true q15
             have p17 : 0 ≤ (x3_2 : Int) := of_decide_eq_true (by first | (with_reducible assumption) | assumption)
             have q17 : x3_2 < (a0.size : Int) := of_decide_eq_true (by first | (with_reducible assumption) | assumption)
             have hx17 := bt_at a0 x3_2
             replace p17 := eq_true p17
             replace q17 := eq_true q17
             have p20 : 0 ≤ (x3_2 : Int) := of_decide_eq_true (by first | (with_reducible assumption) | assumption)
             have q20 : x3_2 < (a0.size : Int) := of_decide_eq_true (by first | (with_reducible assumption) | assumption)
             have hx20 := bt_at a0 x3_2
             replace p20 := eq_true p20
             replace q20 := eq_true q20
             go_wp2
             go_roundg k2
             case measure => have := HJ1.out; have := HK2.out; omega
             case rel => exact ⟨(wrap64 (x3_2 + 1)), (by first | rfl | (simp; done) | (simp [*]; done)), H', ⟨by have := HJ1.out; have := HK2.out; omega⟩, by repeat (first | exact Drawn0.refl _ | apply Drawn0.step)⟩
            ·rw [if_neg c21] at H
             have c21b0 : ((bt a0 x3_2) == 95) = false := beq_eq_false_iff_ne.mpr c21
             have c21b1 : ((bt a0 x3_2) != 95) = true := bne_iff_ne.mpr c21
             obtain rfl := Option.some.inj H
             have p12 : 0 ≤ (x3_2 : Int) := of_decide_eq_true (by first | (with_reducible assumption) | assumption)
             have q12 : x3_2 < (a0.size : Int) := of_decide_eq_true (by first | (with_reducible assumption) | assumption)
             have hx12 := bt_at a0 x3_2
             replace p12 := eq_true p12
             replace q12 := eq_true q12
             have p14 : 0 ≤ (x3_2 : Int) := of_decide_eq_true (by first | (with_reducible assumption) | assumption)
             have q14 : x3_2 < (a0.size : Int) := of_decide_eq_true (by first | (with_reducible assumption) | assumption)
             have hx14 := bt_at a0 x3_2
             replace p14 := eq_true p14
             replace q14 := eq_true q14
             have p15 : 0 ≤ (x3_2 : Int) := of_decide_eq_true (by first | (with_reducible assumption) | assumption)
             have q15 : x3_2 < (a0.size : Int) := of_decide_eq_true (by first | (with_reducible assumption) | assumption)
             have hx15 := bt_at a0 x3_2
             replace p15 := eq_true p15
             replace q15 := eq_true q15
             have p17 : 0 ≤ (x3_2 : Int) := of_decide_eq_true (by first | (with_reducible assumption) | assumption)
             have q17 : x3_2 < (a0.size : Int) := of_decide_eq_true (by first | (with_reducible assumption) | assumption)
             have hx17 := bt_at a0 x3_2
             replace p17 := eq_true p17
             replace q17 := eq_true q17
             have p20 : 0 ≤ (x3_2 : Int) := of_decide_eq_true (by first | (with_reducible assumption) | assumption)
             have q20 : x3_2 < (a0.size : Int) := of_decide_eq_true (by first | (with_reducible assumption) | assumption)
             have hx20 := bt_at a0 x3_2
             replace p20 := eq_true p20
             replace q20 := eq_true q20
             go_wp2
             go_ret
             exact ⟨by first | rfl | (simp; done) | (simp [*]; done), by repeat (first | exact Drawn0.refl _ | apply Drawn0.step)⟩
         ·rw [if_neg c16] at H
          have c16b0 : decide (48 ≤ (bt a0 x3_2)) = false := decide_eq_false c16
          clear c16
          by_cases c22 : ((bt a0 x3_2) ≤ 90)
          ·rw [if_pos c22] at H
           have c22b0 : decide ((bt a0 x3_2) ≤ 90) = true := decide_eq_true c22
           clear c22
           have H' := Aside0.mk H
           clear H
           have p12 : 0 ≤ (x3_2 : Int) := of_decide_eq_true (by first | (with_reducible assumption) | assumption)
           have q12 : x3_2 < (a0.size : Int) := of_decide_eq_true (by first | (with_reducible assumption) | assumption)
           have hx12 := bt_at a0 x3_2
           replace p12 := eq_true p12
           replace q12 := eq_true q12
           have p14 : 0 ≤ (x3_2 : Int) := of_decide_eq_true (by first | (with_reducible assumption) | assumption)
           have q14 : x3_2 < (a0.size : Int) := of_decide_eq_true (by first | (with_reducible assumption) | assumption)
           have hx14 := bt_at a0 x3_2
           replace p14 := eq_true p14
           replace q14 := eq_true q14
           have p15 : 0 ≤ (x3_2 : Int) := of_decide_eq_true (by first | (with_reducible assumption) | assumption)
           have q15 : x3_2 < (a0.size : Int) := of_decide_eq_true (by first | (with_reducible assumption) | assumption)
           have hx15 := bt_at a0 x3_2
           replace p15 := eq_true p15
           replace q15 := eq_true q15
           go_wp2
           go_roundg k2
           case measure => have := HJ1.out; have := HK2.out; omega
           case rel => exact ⟨(wrap64 (x3_2 + 1)), (by first | rfl | (simp; done) | (simp [*]; done)), H', ⟨by have := HJ1.out; have := HK2.out; omega⟩, by repeat (first | exact Drawn0.refl _ | apply Drawn0.step)⟩
          ·rw [if_neg c22] at H
           have c22b0 : decide ((bt a0 x3_2) ≤ 90) = false := decide_eq_false c22
           clear c22
           by_cases c24 : (bt a0 x3_2) = 95
           ·rw [if_pos c24] at H
            have c24b0 : ((bt a0 x3_2) == 95) = true := beq_iff_eq.mpr c24
            have c24b1 : ((bt a0 x3_2) != 95) = false := bne_eq_false_iff_eq.mpr c24
            clear c24
            have H' := Aside0.mk H
            clear H
            have p12 : 0 ≤ (x3_2 : Int) := of_decide_eq_true (by first | (with_reducible assumption) | assumption)
            have q12 : x3_2 < (a0.size : Int) := of_decide_eq_true (by first | (with_reducible assumption) | assumption)
            have hx12 := bt_at a0 x3_2
            replace p12 := eq_true p12
            replace q12 := eq_true q12
            have p14 : 0 ≤ (x3_2 : Int) := of_decide_eq_true (by first | (with_reducible assumption) | assumption)
            have q14 : x3_2 < (a0.size : Int) := of_decide_eq_true (by first | (with_reducible assumption) | assumption)
            have hx14 := bt_at a0 x3_2
            replace p14 := eq_true p14
            replace q14 := eq_true q14
            have p15 : 0 ≤ (x3_2 : Int) := of_decide_eq_true (by first | (with_reducible assumption) | assumption)
            have q15 : x3_2 < (a0.size : Int) := of_decide_eq_true (by first | (with_reducible assumption) | assumption)
            have hx15 := bt_at a0 x3_2
            replace p15 := eq_true p15
            replace q15 := eq_true q15
            have p23 : 0 ≤ (x3_2 : Int) := of_decide_eq_true (by first | (with_reducible assumption) | assumption)
            have q23 : x3_2 < (a0.size : Int) := of_decide_eq_true (by first | (with_reducible assumption) | assumption)
            have hx23 := bt_at a0 x3_2
            replace p23 := eq_true p23
            replace q23 := eq_true q23
            go_wp2
            go_roundg k2
            case measure => have := HJ1.out; have := HK2.out; omega
            case rel => exact ⟨(wrap64 (x3_2 + 1)), (by first | rfl | (simp; done) | (simp [*]; done)), H', ⟨by have := HJ1.out; have := HK2.out; omega⟩, by repeat (first | exact Drawn0.refl _ | apply Drawn0.step)⟩
           ·rw [if_neg c24] at H
            have c24b0 : ((bt a0 x3_2) == 95) = false := beq_eq_false_iff_ne.mpr c24
            have c24b1 : ((bt a0 x3_2) != 95) = true := bne_iff_ne.mpr c24
            obtain rfl := Option.some.inj H
            have p12 : 0 ≤ (x3_2 : Int) := of_decide_eq_true (by first | (with_reducible assumption) | assumption)
            have q12 : x3_2 < (a0.size : Int) := of_decide_eq_true (by first | (with_reducible assumption) | assumption)
            have hx12 := bt_at a0 x3_2
            replace p12 := eq_true p12
            replace q12 := eq_true q12
            have p14 : 0 ≤ (x3_2 : Int) := of_decide_eq_true (by first | (with_reducible assumption) | assumption)
            have q14 : x3_2 < (a0.size : Int) := of_decide_eq_true (by first | (with_reducible assumption) | assumption)
            have hx14 := bt_at a0 x3_2
            replace p14 := eq_true p14
            replace q14 := eq_true q14
            have p15 : 0 ≤ (x3_2 : Int) := of_decide_eq_true (by first | (with_reducible assumption) | assumption)
            have q15 : x3_2 < (a0.size : Int) := of_decide_eq_true (by first | (with_reducible assumption) | assumption)
            have hx15 := bt_at a0 x3_2
            replace p15 := eq_true p15
            replace q15 := eq_true q15
            have p23 : 0 ≤ (x3_2 : Int) := of_decide_eq_true (by first | (with_reducible assumption) | assumption)
            have q23 : x3_2 < (a0.size : Int) := of_decide_eq_true (by first | (with_reducible assumption) | assumption)
            have hx23 := bt_at a0 x3_2
            replace p23 := eq_true p23
            replace q23 := eq_true q23
            go_wp2
            go_ret
            exact ⟨by first | rfl | (simp; done) | (simp [*]; done), by repeat (first | exact Drawn0.refl _ | apply Drawn0.step)⟩
        ·rw [if_neg c13] at H
         have c13b0 : decide (65 ≤ (bt a0 x3_2)) = false := decide_eq_false c13
         clear c13
         by_cases c26 : (bt a0 x3_2) ≥ 48
         ·rw [if_pos c26] at H
          have c26b0 : decide (48 ≤ (bt a0 x3_2)) = true := decide_eq_true c26
          clear c26
          by_cases c28 : ((bt a0 x3_2) ≤ 57)
          ·rw [if_pos c28] at H
           have c28b0 : decide ((bt a0 x3_2) ≤ 57) = true := decide_eq_true c28
           clear c28
           have H' := Aside0.mk H
           clear H
           have p12 : 0 ≤ (x3_2 : Int) := of_decide_eq_true (by first | (with_reducible assumption) | assumption)
           have q12 : x3_2 < (a0.size : Int) := of_decide_eq_true (by first | (with_reducible assumption) | assumption)
           have hx12 := bt_at a0 x3_2
           replace p12 := eq_true p12
           replace q12 := eq_true q12
           have p25 : 0 ≤ (x3_2 : Int) := of_decide_eq_true (by first | (with_reducible assumption) | assumption)
           have q25 : x3_2 < (a0.size : Int) := of_decide_eq_true (by first | (with_reducible assumption) | assumption)
           have hx25 := bt_at a0 x3_2
           replace p25 := eq_true p25
           replace q25 := eq_true q25
           have p27 : 0 ≤ (x3_2 : Int) := of_decide_eq_true (by first | (with_reducible assumption) | assumption)
           have q27 : x3_2 < (a0.size : Int) := of_decide_eq_true (by first | (with_reducible assumption) | assumption)
           have hx27 := bt_at a0 x3_2
           replace p27 := eq_true p27
           replace q27 := eq_true q27
           go_wp2
           go_roundg k2
           case measure => have := HJ1.out; have := HK2.out; omega
           case rel => exact ⟨(wrap64 (x3_2 + 1)), (by first | rfl | (simp; done) | (simp [*]; done)), H', ⟨by have := HJ1.out; have := HK2.out; omega⟩, by repeat (first | exact Drawn0.refl _ | apply Drawn0.step)⟩
          ·rw [if_neg c28] at H
           have c28b0 : decide ((bt a0 x3_2) ≤ 57) = false := decide_eq_false c28
           clear c28
           by_cases c30 : (bt a0 x3_2) = 95
           ·rw [if_pos c30] at H
            have c30b0 : ((bt a0 x3_2) == 95) = true := beq_iff_eq.mpr c30
            have c30b1 : ((bt a0 x3_2) != 95) = false := bne_eq_false_iff_eq.mpr c30
            clear c30
            have H' := Aside0.mk H
            clear H
            have p12 : 0 ≤ (x3_2 : Int) := of_decide_eq_true (by first | (with_reducible assumption) | assumption)
            have q12 : x3_2 < (a0.size : Int) := of_decide_eq_true (by first | (with_reducible assumption) | assumption)
            have hx12 := bt_at a0 x3_2
            replace p12 := eq_true p12
            replace q12 := eq_true q12
            have p25 : 0 ≤ (x3_2 : Int) := of_decide_eq_true (by first | (with_reducible assumption) | assumption)
            have q25 : x3_2 < (a0.size : Int) := of_decide_eq_true (by first | (with_reducible assumption) | assumption)
            have hx25 := bt_at a0 x3_2
            replace p25 := eq_true p25
            replace q25 := eq_true q25
            have p27 : 0 ≤ (x3_2 : Int) := of_decide_eq_true (by first | (with_reducible assumption) | assumption)
            have q27 : x3_2 < (a0.size : Int) := of_decide_eq_true (by first | (with_reducible assumption) | assumption)
            have hx27 := bt_at a0 x3_2
            replace p27 := eq_true p27
            replace q27 := eq_true q27
            have p29 : 0 ≤ (x3_2 : Int) := of_decide_eq_true (by first | (with_reducible assumption) | assumption)
            have q29 : x3_2 < (a0.size : Int) := of_decide_eq_true (by first | (with_reducible assumption) | assumption)
            have hx29 := bt_at a0 x3_2
            replace p29 := eq_true p29
            replace q29 := eq_true q29
            go_wp2
            go_roundg k2
            case measure => have := HJ1.out; have := HK2.out; omega
            case rel => exact ⟨(wrap64 (x3_2 + 1)), (by first | rfl | (simp; done) | (simp [*]; done)), H', ⟨by have := HJ1.out; have := HK2.out; omega⟩, by repeat (first | exact Drawn0.refl _ | apply Drawn0.step)⟩
           ·rw [if_neg c30] at H
            have c30b0 : ((bt a0 x3_2) == 95) = false := beq_eq_false_iff_ne.mpr c30
            have c30b1 : ((bt a0 x3_2) != 95) = true := bne_iff_ne.mpr c30
            obtain rfl := Option.some.inj H
            have p12 : 0 ≤ (x3_2 : Int) := of_decide_eq_true (by first | (with_reducible assumption) | assumption)
            have q12 : x3_2 < (a0.size : Int) := of_decide_eq_true (by first | (with_reducible assumption) | assumption)
            have hx12 := bt_at a0 x3_2
            replace p12 := eq_true p12
            replace q12 := eq_true q12
            have p25 : 0 ≤ (x3_2 : Int) := of_decide_eq_true (by first | (with_reducible assumption) | assumption)
            have q25 : x3_2 < (a0.size : Int) := of_decide_eq_true (by first | (with_reducible assumption) | assumption)
            have hx25 := bt_at a0 x3_2
            replace p25 := eq_true p25
            replace q25 := eq_true q25
            have p27 : 0 ≤ (x3_2 : Int) := of_decide_eq_true (by first | (with_reducible assumption) | assumption)
            have q27 : x3_2 < (a0.size : Int) := of_decide_eq_true (by first | (with_reducible assumption) | assumption)
            have hx27 := bt_at a0 x3_2
            replace p27 := eq_true p27
            replace q27 := eq_true q27
            have p29 : 0 ≤ (x3_2 : Int) := of_decide_eq_true (by first | (with_reducible assumption) | assumption)
            have q29 : x3_2 < (a0.size : Int) := of_decide_eq_true (by first | (with_reducible assumption) | assumption)
            have hx29 := bt_at a0 x3_2
            replace p29 := eq_true p29
            replace q29 := eq_true q29
            go_wp2
            go_ret
            exact ⟨by first | rfl | (simp; done) | (simp [*]; done), by repeat (first | exact Drawn0.refl _ | apply Drawn0.step)⟩
         ·rw [if_neg c26] at H
          have c26b0 : decide (48 ≤ (bt a0 x3_2)) = false := decide_eq_false c26
          clear c26
          by_cases c32 : (bt a0 x3_2) = 95
          ·rw [if_pos c32] at H
           have c32b0 : ((bt a0 x3_2) == 95) = true := beq_iff_eq.mpr c32
           have c32b1 : ((bt a0 x3_2) != 95) = false := bne_eq_false_iff_eq.mpr c32
           clear c32
           have H' := Aside0.mk H
           clear H
           have p12 : 0 ≤ (x3_2 : Int) := of_decide_eq_true (by first | (with_reducible assumption) | assumption)
           have q12 : x3_2 < (a0.size : Int) := of_decide_eq_true (by first | (with_reducible assumption) | assumption)
           have hx12 := bt_at a0 x3_2
           replace p12 := eq_true p12
           replace q12 := eq_true q12
           have p25 : 0 ≤ (x3_2 : Int) := of_decide_eq_true (by first | (with_reducible assumption) | assumption)
           have q25 : x3_2 < (a0.size : Int) := of_decide_eq_true (by first | (with_reducible assumption) | assumption)
           have hx25 := bt_at a0 x3_2
           replace p25 := eq_true p25
           replace q25 := eq_true q25
           have p31 : 0 ≤ (x3_2 : Int) := of_decide_eq_true (by first | (with_reducible assumption) | assumption)
           have q31 : x3_2 < (a0.size : Int) := of_decide_eq_true (by first | (with_reducible assumption) | assumption)
           have hx31 := bt_at a0 x3_2
           replace p31 := eq_true p31
           replace q31 := eq_true q31
           go_wp2
           go_roundg k2
           case measure => have := HJ1.out; have := HK2.out; omega
           case rel => exact ⟨(wrap64 (x3_2 + 1)), (by first | rfl | (simp; done) | (simp [*]; done)), H', ⟨by have := HJ1.out; have := HK2.out; omega⟩, by repeat (first | exact Drawn0.refl _ | apply Drawn0.step)⟩
          ·rw [if_neg c32] at H
           have c32b0 : ((bt a0 x3_2) == 95) = false := beq_eq_false_iff_ne.mpr c32
           have c32b1 : ((bt a0 x3_2) != 95) = true := bne_iff_ne.mpr c32
           obtain rfl := Option.some.inj H
           have p12 : 0 ≤ (x3_2 : Int) := of_decide_eq_true (by first | (with_reducible assumption) | assumption)
           have q12 : x3_2 < (a0.size : Int) := of_decide_eq_true (by first | (with_reducible assumption) | assumption)
           have hx12 := bt_at a0 x3_2
           replace p12 := eq_true p12
           replace q12 := eq_true q12
           have p25 : 0 ≤ (x3_2 : Int) := of_decide_eq_true (by first | (with_reducible assumption) | assumption)
           have q25 : x3_2 < (a0.size : Int) := of_decide_eq_true (by first | (with_reducible assumption) | assumption)
           have hx25 := bt_at a0 x3_2
           replace p25 := eq_true p25
           replace q25 := eq_true q25
           have p31 : 0 ≤ (x3_2 : Int) := of_decide_eq_true (by first | (with_reducible assumption) | assumption)
           have q31 : x3_2 < (a0.size : Int) := of_decide_eq_true (by first | (with_reducible assumption) | assumption)
           have hx31 := bt_at a0 x3_2
           replace p31 := eq_true p31
           replace q31 := eq_true q31
           go_wp2
           go_ret
           exact ⟨by first | rfl | (simp; done) | (simp [*]; done), by repeat (first | exact Drawn0.refl _ | apply Drawn0.step)⟩
       ·rw [if_neg c11] at H
        exact absurd H (by simp)
      ·rw [if_neg c10] at H
       have c10b0 : decide (x3_2 < (a0.size : Int)) = false := decide_eq_false c10
       clear c10
       replace H := Option.bind_eq_some_iff.mp H
       obtain ⟨t322, A330, H⟩ := H
       replace H : (some (!t322)) = some r := H
       have A33 := Aside0.mk A330
       clear A330
       obtain rfl := Option.some.inj H
       go_wp2_with (first | ((with_reducible refine gate_callee (f := 124) rfl ?_); refine goesL_ (some 64) rfl rfl Try.func124 (by kernel_rfl) rfl #[.string a0] rfl (by (try simp only [List.map_toArray, List.map_cons, List.map_nil]); first | done | rfl | (simp only [List.length_drop, List.length_take]; rfl)) ?_; (with_reducible refine (cosignerref03_reserved.calls a0 t322 _ A33.out).mono ?_); rintro e w' ⟨rfl, ⟨nd, rfl⟩⟩; refine ⟨_, rfl, ?_⟩))
       go_ret
       exact ⟨by first | rfl | (simp; done) | (simp [*]; done), by repeat (first | exact Drawn0.refl _ | apply Drawn0.step)⟩
end Go.Proofs.Ytdljclokenoogaa.Hp
end
section
namespace Go.Proofs.Ytdljclokenoogaa.Hp
open Go.RowKit Go.Proofs.YtdljclokenoogaaW.PrintWords Go.Proofs.YtdljclokenoogaaW.PrintLast Go.Proofs.YtdljclokenoogaaW.PrintMore
attribute [local go_sem] max2_int min2_int max_two min_two max_three min_three max_four min_four
set_option linter.unusedVariables false
set_option linter.unusedSimpArgs false
mutual
def cosignerref03_alone.l0 : Nat → List (S61) → Int → Int → Option (Int)
 | 0, _, _, _ => none
 | k + 1, x0, x1, x6 => if 0 ≤ x1 then (if x1 < (x0.length : Int) then (if x6 < (((rd_T61 x0 x1).f3).length : Int) then (cosignerref03_alone.l1 k x0 x1 x6 0) else (some 0)) else (none)) else (none)
def cosignerref03_alone.l1 : Nat → List (S61) → Int → Int → Int → Option (Int)
 | 0, _, _, _, _ => none
 | k + 1, x0, x1, x6, x7 => if x7 < x6 then (if 0 ≤ x1 then (if x1 < (x0.length : Int) then (if 0 ≤ x7 then (if x7 < (((rd_T61 x0 x1).f3).length : Int) then (if 0 ≤ x6 then (if x6 < (((rd_T61 x0 x1).f3).length : Int) then (if ((rd_T65 ((rd_T61 x0 x1).f3) x7).f0).toList = ((rd_T65 ((rd_T61 x0 x1).f3) x6).f0).toList then (some 6) else (cosignerref03_alone.l1 k x0 x1 x6 (wrap64 (x7 + 1)))) else (none)) else (none)) else (none)) else (none)) else (none)) else (none)) else (cosignerref03_alone.l0 k x0 x1 (wrap64 (x6 + 1)))
end
def cosignerref03_alone.f (k : Nat) (l0 : List (S61)) (a1 : Int) : Option (Int) := if 0 ≤ a1 then (if a1 < (l0.length : Int) then (if (((rd_T61 l0 a1).f3).length : Int) > 4 then (some 3) else ((cosignerref03_named.f k ((rd_T61 l0 a1).f0)).bind fun t325 => (if t325 = true then ((cosignerref03_index.f k l0 ((rd_T61 l0 a1).f0)).bind fun t327 => (if t327 < a1 then (some 6) else (cosignerref03_alone.l0 k l0 a1 0))) else (some 4)))) else (none)) else (none)
set_option maxHeartbeats 8000000 in
set_option maxRecDepth 100000 in
theorem cosignerref03_alone.calls (k : Nat) (A0 : Option Addr) (c0 : Nat) (l0 : List (S61)) (a1 : Int) (r : Int) (w : World) (hr0 : Kd.C k61 w A0 l0.length l0) (hc0 : l0.length ≤ c0) (h : cosignerref03_alone.f k l0 a1 = some r) :
  Calls Try.prog 87 #[.slice A0 l0.length c0, .int .i64 a1] w fun e w' => e = .returned (.int .i64 r) ∧ Drawn0 w w' := by
 have HR0 := Aside0.mk hr0
 have HC0 := Aside0.mk hc0
 clear hr0 hc0
 have H : (if 0 ≤ a1 then (if a1 < (l0.length : Int) then (if (((rd_T61 l0 a1).f3).length : Int) > 4 then (some 3) else ((cosignerref03_named.f k ((rd_T61 l0 a1).f0)).bind fun t325 => (if t325 = true then ((cosignerref03_index.f k l0 ((rd_T61 l0 a1).f0)).bind fun t327 => (if t327 < a1 then (some 6) else (cosignerref03_alone.l0 k l0 a1 0))) else (some 4)))) else (none)) else (none)) = some r := h
 clear h
 by_cases c3 : 0 ≤ a1
 ·rw [if_pos c3] at H
  have c3b0 : decide (0 ≤ a1) = true := decide_eq_true c3
  clear c3
  by_cases c4 : a1 < (l0.length : Int)
  ·rw [if_pos c4] at H
   have c4b0 : decide (a1 < (l0.length : Int)) = true := decide_eq_true c4
   clear c4
   by_cases c5 : (((rd_T61 l0 a1).f3).length : Int) > 4
   ·rw [if_pos c5] at H
    have c5b0 : decide (4 < (((rd_T61 l0 a1).f3).length : Int)) = true := decide_eq_true c5
    have c5b1 : decide (4 < ((rd_T61 l0 a1).f3).length) = true := decide_eq_true (by omega)
    clear c5
    obtain rfl := Option.some.inj H
    have p323 : 0 ≤ (a1 : Int) := of_decide_eq_true (by first | (with_reducible assumption) | assumption)
    have q323 : a1 < (l0.length : Int) := of_decide_eq_true (by first | (with_reducible assumption) | assumption)
    obtain ⟨ad323, A323_2, c323_2, A323_3, c323_3, A323_4, c323_4, A323_5, c323_5, A323_6, c323_6, e323, hx323_0, hx323_1, hx323_2, hx323_3, hx323_4, hx323_5, hx323_6, hl323_2, hi323_2, hl323_3, hi323_3, hl323_4, hi323_4, hl323_5, hi323_5, hl323_6, hi323_6⟩ := at_T61 HR0.out a1 p323 q323
    cases e323
    have HR323_2 := Aside0.mk hi323_2
    have HC323_2 := Aside0.mk hl323_2
    clear hi323_2 hl323_2
    have HR323_3 := Aside0.mk hi323_3
    have HC323_3 := Aside0.mk hl323_3
    clear hi323_3 hl323_3
    have HR323_4 := Aside0.mk hi323_4
    have HC323_4 := Aside0.mk hl323_4
    clear hi323_4 hl323_4
    have HR323_5 := Aside0.mk hi323_5
    have HC323_5 := Aside0.mk hl323_5
    clear hi323_5 hl323_5
    have HR323_6 := Aside0.mk hi323_6
    have HC323_6 := Aside0.mk hl323_6
    clear hi323_6 hl323_6
    replace p323 := eq_true p323
    replace q323 := eq_true q323
    go_enter Try.func87, Try.ntmps87
    go_wp2
    repeat (go_quiet (fail); try go_wp2)
    go_ret
    exact ⟨by first | rfl | (simp; done) | (simp [*]; done), by repeat (first | exact Drawn0.refl _ | apply Drawn0.step)⟩
   ·rw [if_neg c5] at H
    have c5b0 : decide (4 < (((rd_T61 l0 a1).f3).length : Int)) = false := decide_eq_false c5
    have c5b1 : decide (4 < ((rd_T61 l0 a1).f3).length) = false := decide_eq_false (by omega)
    clear c5
    replace H := Option.bind_eq_some_iff.mp H
    obtain ⟨t325, A60, H⟩ := H
    replace H : (if t325 = true then ((cosignerref03_index.f k l0 ((rd_T61 l0 a1).f0)).bind fun t327 => (if t327 < a1 then (some 6) else (cosignerref03_alone.l0 k l0 a1 0))) else (some 4)) = some r := H
    have A6 := Aside0.mk A60
    clear A60
    by_cases c7 : t325 = true
    ·subst c7
     have H1 : ((cosignerref03_index.f k l0 ((rd_T61 l0 a1).f0)).bind fun t327 => (if t327 < a1 then (some 6) else (cosignerref03_alone.l0 k l0 a1 0))) = some r := by rw [if_pos rfl] at H; exact H
     clear H
     have H := H1
     clear H1
     replace H := Option.bind_eq_some_iff.mp H
     obtain ⟨t327, A80, H⟩ := H
     replace H : (if t327 < a1 then (some 6) else (cosignerref03_alone.l0 k l0 a1 0)) = some r := H
     have A8 := Aside0.mk A80
     clear A80
     by_cases c9 : t327 < a1
     ·rw [if_pos c9] at H
      have c9b0 : decide (t327 < a1) = true := decide_eq_true c9
      clear c9
      obtain rfl := Option.some.inj H
      have p323 : 0 ≤ (a1 : Int) := of_decide_eq_true (by first | (with_reducible assumption) | assumption)
      have q323 : a1 < (l0.length : Int) := of_decide_eq_true (by first | (with_reducible assumption) | assumption)
      obtain ⟨ad323, A323_2, c323_2, A323_3, c323_3, A323_4, c323_4, A323_5, c323_5, A323_6, c323_6, e323, hx323_0, hx323_1, hx323_2, hx323_3, hx323_4, hx323_5, hx323_6, hl323_2, hi323_2, hl323_3, hi323_3, hl323_4, hi323_4, hl323_5, hi323_5, hl323_6, hi323_6⟩ := at_T61 HR0.out a1 p323 q323
      cases e323
      have HR323_2 := Aside0.mk hi323_2
      have HC323_2 := Aside0.mk hl323_2
      clear hi323_2 hl323_2
      have HR323_3 := Aside0.mk hi323_3
      have HC323_3 := Aside0.mk hl323_3
      clear hi323_3 hl323_3
      have HR323_4 := Aside0.mk hi323_4
      have HC323_4 := Aside0.mk hl323_4
      clear hi323_4 hl323_4
      have HR323_5 := Aside0.mk hi323_5
      have HC323_5 := Aside0.mk hl323_5
      clear hi323_5 hl323_5
      have HR323_6 := Aside0.mk hi323_6
      have HC323_6 := Aside0.mk hl323_6
      clear hi323_6 hl323_6
      replace p323 := eq_true p323
      replace q323 := eq_true q323
      have p324 : 0 ≤ (a1 : Int) := of_decide_eq_true (by first | (with_reducible assumption) | assumption)
      have q324 : a1 < (l0.length : Int) := of_decide_eq_true (by first | (with_reducible assumption) | assumption)
      obtain ⟨ad324, A324_2, c324_2, A324_3, c324_3, A324_4, c324_4, A324_5, c324_5, A324_6, c324_6, e324, hx324_0, hx324_1, hx324_2, hx324_3, hx324_4, hx324_5, hx324_6, hl324_2, hi324_2, hl324_3, hi324_3, hl324_4, hi324_4, hl324_5, hi324_5, hl324_6, hi324_6⟩ := at_T61 HR0.out a1 p324 q324
      obtain rfl : ad323 = ad324 := (by injection e324)
      have HR324_2 := Aside0.mk hi324_2
      have HC324_2 := Aside0.mk hl324_2
      clear hi324_2 hl324_2
      have HR324_3 := Aside0.mk hi324_3
      have HC324_3 := Aside0.mk hl324_3
      clear hi324_3 hl324_3
      have HR324_4 := Aside0.mk hi324_4
      have HC324_4 := Aside0.mk hl324_4
      clear hi324_4 hl324_4
      have HR324_5 := Aside0.mk hi324_5
      have HC324_5 := Aside0.mk hl324_5
      clear hi324_5 hl324_5
      have HR324_6 := Aside0.mk hi324_6
      have HC324_6 := Aside0.mk hl324_6
      clear hi324_6 hl324_6
      replace p324 := eq_true p324
      replace q324 := eq_true q324
      have ea_ := Option.some.inj (hx323_2.symm.trans hx324_2)
      injection ea_ with ea_ en_ ec_
      subst ea_
      subst ec_
      clear en_
      have ea_ := Option.some.inj (hx323_3.symm.trans hx324_3)
      injection ea_ with ea_ en_ ec_
      subst ea_
      subst ec_
      clear en_
      have ea_ := Option.some.inj (hx323_4.symm.trans hx324_4)
      injection ea_ with ea_ en_ ec_
      subst ea_
      subst ec_
      clear en_
      have ea_ := Option.some.inj (hx323_5.symm.trans hx324_5)
      injection ea_ with ea_ en_ ec_
      subst ea_
      subst ec_
      clear en_
      have ea_ := Option.some.inj (hx323_6.symm.trans hx324_6)
      injection ea_ with ea_ en_ ec_
      subst ea_
      subst ec_
      clear en_
      go_enter Try.func87, Try.ntmps87
      go_wp2_with (first | (go_at_call 106; (with_reducible refine (cosignerref03_named.calls k ((rd_T61 l0 a1).f0) true _ A6.out).mono ?_); rintro e w' ⟨rfl, ⟨nd, rfl⟩⟩; (try first | exact ⟨rfl, _, World.drewN_drewN _ _ _⟩ | exact ⟨rfl, _, Eq.trans (World.drewN_drewN _ _ _) (congrArg (World.drewN _) (Nat.add_assoc _ _ _))⟩); have p326 : 0 ≤ (a1 : Int) := of_decide_eq_true (by first | (with_reducible assumption) | assumption); have q326 : a1 < (l0.length : Int) := of_decide_eq_true (by first | (with_reducible assumption) | assumption); obtain ⟨ad326, A326_2, c326_2, A326_3, c326_3, A326_4, c326_4, A326_5, c326_5, A326_6, c326_6, e326, hx326_0, hx326_1, hx326_2, hx326_3, hx326_4, hx326_5, hx326_6, hl326_2, hi326_2, hl326_3, hi326_3, hl326_4, hi326_4, hl326_5, hi326_5, hl326_6, hi326_6⟩ := at_T61 HR0.out a1 p326 q326; obtain rfl : ad323 = ad326 := (by injection e326); have HR326_2 := Aside0.mk hi326_2; have HC326_2 := Aside0.mk hl326_2; clear hi326_2 hl326_2; have HR326_3 := Aside0.mk hi326_3; have HC326_3 := Aside0.mk hl326_3; clear hi326_3 hl326_3; have HR326_4 := Aside0.mk hi326_4; have HC326_4 := Aside0.mk hl326_4; clear hi326_4 hl326_4; have HR326_5 := Aside0.mk hi326_5; have HC326_5 := Aside0.mk hl326_5; clear hi326_5 hl326_5; have HR326_6 := Aside0.mk hi326_6; have HC326_6 := Aside0.mk hl326_6; clear hi326_6 hl326_6; replace p326 := eq_true p326; replace q326 := eq_true q326; have ea_ := Option.some.inj (hx323_2.symm.trans hx326_2); injection ea_ with ea_ en_ ec_; subst ea_; subst ec_; clear en_; have ea_ := Option.some.inj (hx323_3.symm.trans hx326_3); injection ea_ with ea_ en_ ec_; subst ea_; subst ec_; clear en_; have ea_ := Option.some.inj (hx323_4.symm.trans hx326_4); injection ea_ with ea_ en_ ec_; subst ea_; subst ec_; clear en_; have ea_ := Option.some.inj (hx323_5.symm.trans hx326_5); injection ea_ with ea_ en_ ec_; subst ea_; subst ec_; clear en_; have ea_ := Option.some.inj (hx323_6.symm.trans hx326_6); injection ea_ with ea_ en_ ec_; subst ea_; subst ec_; clear en_) | (go_at_call 88; (with_reducible refine (cosignerref03_index.calls k _ _ l0 ((rd_T61 l0 a1).f0) t327 _ ?side1 ?side2 A8.out).mono ?_); (case side1 => repeat (first | exact HR0.out | (with_reducible refine Kd.C_alloc ?_ _) | (with_reducible refine Kd.C_drewN ?_ _) | (with_reducible refine Kd.C_drew ?_))); (case side2 => exact HC0.out); rintro e w' ⟨rfl, ⟨nd, rfl⟩⟩; (try first | exact ⟨rfl, _, World.drewN_drewN _ _ _⟩ | exact ⟨rfl, _, Eq.trans (World.drewN_drewN _ _ _) (congrArg (World.drewN _) (Nat.add_assoc _ _ _))⟩)))
      repeat (go_quiet (first | (go_at_call 106; (with_reducible refine (cosignerref03_named.calls k ((rd_T61 l0 a1).f0) true _ A6.out).mono ?_); rintro e w' ⟨rfl, ⟨nd, rfl⟩⟩; (try first | exact ⟨rfl, _, World.drewN_drewN _ _ _⟩ | exact ⟨rfl, _, Eq.trans (World.drewN_drewN _ _ _) (congrArg (World.drewN _) (Nat.add_assoc _ _ _))⟩); have p326 : 0 ≤ (a1 : Int) := of_decide_eq_true (by first | (with_reducible assumption) | assumption); have q326 : a1 < (l0.length : Int) := of_decide_eq_true (by first | (with_reducible assumption) | assumption); obtain ⟨ad326, A326_2, c326_2, A326_3, c326_3, A326_4, c326_4, A326_5, c326_5, A326_6, c326_6, e326, hx326_0, hx326_1, hx326_2, hx326_3, hx326_4, hx326_5, hx326_6, hl326_2, hi326_2, hl326_3, hi326_3, hl326_4, hi326_4, hl326_5, hi326_5, hl326_6, hi326_6⟩ := at_T61 HR0.out a1 p326 q326; obtain rfl : ad323 = ad326 := (by injection e326); have HR326_2 := Aside0.mk hi326_2; have HC326_2 := Aside0.mk hl326_2; clear hi326_2 hl326_2; have HR326_3 := Aside0.mk hi326_3; have HC326_3 := Aside0.mk hl326_3; clear hi326_3 hl326_3; have HR326_4 := Aside0.mk hi326_4; have HC326_4 := Aside0.mk hl326_4; clear hi326_4 hl326_4; have HR326_5 := Aside0.mk hi326_5; have HC326_5 := Aside0.mk hl326_5; clear hi326_5 hl326_5; have HR326_6 := Aside0.mk hi326_6; have HC326_6 := Aside0.mk hl326_6; clear hi326_6 hl326_6; replace p326 := eq_true p326; replace q326 := eq_true q326; have ea_ := Option.some.inj (hx323_2.symm.trans hx326_2); injection ea_ with ea_ en_ ec_; subst ea_; subst ec_; clear en_; have ea_ := Option.some.inj (hx323_3.symm.trans hx326_3); injection ea_ with ea_ en_ ec_; subst ea_; subst ec_; clear en_; have ea_ := Option.some.inj (hx323_4.symm.trans hx326_4); injection ea_ with ea_ en_ ec_; subst ea_; subst ec_; clear en_; have ea_ := Option.some.inj (hx323_5.symm.trans hx326_5); injection ea_ with ea_ en_ ec_; subst ea_; subst ec_; clear en_; have ea_ := Option.some.inj (hx323_6.symm.trans hx326_6); injection ea_ with ea_ en_ ec_; subst ea_; subst ec_; clear en_) | (go_at_call 88; (with_reducible refine (cosignerref03_index.calls k _ _ l0 ((rd_T61 l0 a1).f0) t327 _ ?side1 ?side2 A8.out).mono ?_); (case side1 => repeat (first | exact HR0.out | (with_reducible refine Kd.C_alloc ?_ _) | (with_reducible refine Kd.C_drewN ?_ _) | (with_reducible refine Kd.C_drew ?_))); (case side2 => exact HC0.out); rintro e w' ⟨rfl, ⟨nd, rfl⟩⟩; (try first | exact ⟨rfl, _, World.drewN_drewN _ _ _⟩ | exact ⟨rfl, _, Eq.trans (World.drewN_drewN _ _ _) (congrArg (World.drewN _) (Nat.add_assoc _ _ _))⟩))); try go_wp2_with (first | (go_at_call 106; (with_reducible refine (cosignerref03_named.calls k ((rd_T61 l0 a1).f0) true _ A6.out).mono ?_); rintro e w' ⟨rfl, ⟨nd, rfl⟩⟩; (try first | exact ⟨rfl, _, World.drewN_drewN _ _ _⟩ | exact ⟨rfl, _, Eq.trans (World.drewN_drewN _ _ _) (congrArg (World.drewN _) (Nat.add_assoc _ _ _))⟩); have p326 : 0 ≤ (a1 : Int) := of_decide_eq_true (by first | (with_reducible assumption) | assumption); have q326 : a1 < (l0.length : Int) := of_decide_eq_true (by first | (with_reducible assumption) | assumption); obtain ⟨ad326, A326_2, c326_2, A326_3, c326_3, A326_4, c326_4, A326_5, c326_5, A326_6, c326_6, e326, hx326_0, hx326_1, hx326_2, hx326_3, hx326_4, hx326_5, hx326_6, hl326_2, hi326_2, hl326_3, hi326_3, hl326_4, hi326_4, hl326_5, hi326_5, hl326_6, hi326_6⟩ := at_T61 HR0.out a1 p326 q326; obtain rfl : ad323 = ad326 := (by injection e326); have HR326_2 := Aside0.mk hi326_2; have HC326_2 := Aside0.mk hl326_2; clear hi326_2 hl326_2; have HR326_3 := Aside0.mk hi326_3; have HC326_3 := Aside0.mk hl326_3; clear hi326_3 hl326_3; have HR326_4 := Aside0.mk hi326_4; have HC326_4 := Aside0.mk hl326_4; clear hi326_4 hl326_4; have HR326_5 := Aside0.mk hi326_5; have HC326_5 := Aside0.mk hl326_5; clear hi326_5 hl326_5; have HR326_6 := Aside0.mk hi326_6; have HC326_6 := Aside0.mk hl326_6; clear hi326_6 hl326_6; replace p326 := eq_true p326; replace q326 := eq_true q326; have ea_ := Option.some.inj (hx323_2.symm.trans hx326_2); injection ea_ with ea_ en_ ec_; subst ea_; subst ec_; clear en_; have ea_ := Option.some.inj (hx323_3.symm.trans hx326_3); injection ea_ with ea_ en_ ec_; subst ea_; subst ec_; clear en_; have ea_ := Option.some.inj (hx323_4.symm.trans hx326_4); injection ea_ with ea_ en_ ec_; subst ea_; subst ec_; clear en_; have ea_ := Option.some.inj (hx323_5.symm.trans hx326_5); injection ea_ with ea_ en_ ec_; subst ea_; subst ec_; clear en_; have ea_ := Option.some.inj (hx323_6.symm.trans hx326_6); injection ea_ with ea_ en_ ec_; subst ea_; subst ec_; clear en_) | (go_at_call 88; (with_reducible refine (cosignerref03_index.calls k _ _ l0 ((rd_T61 l0 a1).f0) t327 _ ?side1 ?side2 A8.out).mono ?_); (case side1 => repeat (first | exact HR0.out | (with_reducible refine Kd.C_alloc ?_ _) | (with_reducible refine Kd.C_drewN ?_ _) | (with_reducible refine Kd.C_drew ?_))); (case side2 => exact HC0.out); rintro e w' ⟨rfl, ⟨nd, rfl⟩⟩; (try first | exact ⟨rfl, _, World.drewN_drewN _ _ _⟩ | exact ⟨rfl, _, Eq.trans (World.drewN_drewN _ _ _) (congrArg (World.drewN _) (Nat.add_assoc _ _ _))⟩))))
      go_ret
      exact ⟨by first | rfl | (simp; done) | (simp [*]; done), by repeat (first | exact Drawn0.refl _ | apply Drawn0.step)⟩
     ·rw [if_neg c9] at H
      have c9b0 : decide (t327 < a1) = false := decide_eq_false c9
      clear c9
      have H' := Aside0.mk H
      clear H
      have p323 : 0 ≤ (a1 : Int) := of_decide_eq_true (by first | (with_reducible assumption) | assumption)
      have q323 : a1 < (l0.length : Int) := of_decide_eq_true (by first | (with_reducible assumption) | assumption)
      obtain ⟨ad323, A323_2, c323_2, A323_3, c323_3, A323_4, c323_4, A323_5, c323_5, A323_6, c323_6, e323, hx323_0, hx323_1, hx323_2, hx323_3, hx323_4, hx323_5, hx323_6, hl323_2, hi323_2, hl323_3, hi323_3, hl323_4, hi323_4, hl323_5, hi323_5, hl323_6, hi323_6⟩ := at_T61 HR0.out a1 p323 q323
      cases e323
      have HR323_2 := Aside0.mk hi323_2
      have HC323_2 := Aside0.mk hl323_2
      clear hi323_2 hl323_2
      have HR323_3 := Aside0.mk hi323_3
      have HC323_3 := Aside0.mk hl323_3
      clear hi323_3 hl323_3
      have HR323_4 := Aside0.mk hi323_4
      have HC323_4 := Aside0.mk hl323_4
      clear hi323_4 hl323_4
      have HR323_5 := Aside0.mk hi323_5
      have HC323_5 := Aside0.mk hl323_5
      clear hi323_5 hl323_5
      have HR323_6 := Aside0.mk hi323_6
      have HC323_6 := Aside0.mk hl323_6
      clear hi323_6 hl323_6
      replace p323 := eq_true p323
      replace q323 := eq_true q323
      have p324 : 0 ≤ (a1 : Int) := of_decide_eq_true (by first | (with_reducible assumption) | assumption)
      have q324 : a1 < (l0.length : Int) := of_decide_eq_true (by first | (with_reducible assumption) | assumption)
      obtain ⟨ad324, A324_2, c324_2, A324_3, c324_3, A324_4, c324_4, A324_5, c324_5, A324_6, c324_6, e324, hx324_0, hx324_1, hx324_2, hx324_3, hx324_4, hx324_5, hx324_6, hl324_2, hi324_2, hl324_3, hi324_3, hl324_4, hi324_4, hl324_5, hi324_5, hl324_6, hi324_6⟩ := at_T61 HR0.out a1 p324 q324
      obtain rfl : ad323 = ad324 := (by injection e324)
      have HR324_2 := Aside0.mk hi324_2
      have HC324_2 := Aside0.mk hl324_2
      clear hi324_2 hl324_2
      have HR324_3 := Aside0.mk hi324_3
      have HC324_3 := Aside0.mk hl324_3
      clear hi324_3 hl324_3
      have HR324_4 := Aside0.mk hi324_4
      have HC324_4 := Aside0.mk hl324_4
      clear hi324_4 hl324_4
      have HR324_5 := Aside0.mk hi324_5
      have HC324_5 := Aside0.mk hl324_5
      clear hi324_5 hl324_5
      have HR324_6 := Aside0.mk hi324_6
      have HC324_6 := Aside0.mk hl324_6
      clear hi324_6 hl324_6
      replace p324 := eq_true p324
      replace q324 := eq_true q324
      have ea_ := Option.some.inj (hx323_2.symm.trans hx324_2)
      injection ea_ with ea_ en_ ec_
      subst ea_
      subst ec_
      clear en_
      have ea_ := Option.some.inj (hx323_3.symm.trans hx324_3)
      injection ea_ with ea_ en_ ec_
      subst ea_
      subst ec_
      clear en_
      have ea_ := Option.some.inj (hx323_4.symm.trans hx324_4)
      injection ea_ with ea_ en_ ec_
      subst ea_
      subst ec_
      clear en_
      have ea_ := Option.some.inj (hx323_5.symm.trans hx324_5)
      injection ea_ with ea_ en_ ec_
      subst ea_
      subst ec_
      clear en_
      have ea_ := Option.some.inj (hx323_6.symm.trans hx324_6)
      injection ea_ with ea_ en_ ec_
      subst ea_
      subst ec_
      clear en_
      go_enter Try.func87, Try.ntmps87
      go_wp2_with (first | (go_at_call 106; (with_reducible refine (cosignerref03_named.calls k ((rd_T61 l0 a1).f0) true _ A6.out).mono ?_); rintro e w' ⟨rfl, ⟨nd, rfl⟩⟩; (try first | exact ⟨rfl, _, World.drewN_drewN _ _ _⟩ | exact ⟨rfl, _, Eq.trans (World.drewN_drewN _ _ _) (congrArg (World.drewN _) (Nat.add_assoc _ _ _))⟩); have p326 : 0 ≤ (a1 : Int) := of_decide_eq_true (by first | (with_reducible assumption) | assumption); have q326 : a1 < (l0.length : Int) := of_decide_eq_true (by first | (with_reducible assumption) | assumption); obtain ⟨ad326, A326_2, c326_2, A326_3, c326_3, A326_4, c326_4, A326_5, c326_5, A326_6, c326_6, e326, hx326_0, hx326_1, hx326_2, hx326_3, hx326_4, hx326_5, hx326_6, hl326_2, hi326_2, hl326_3, hi326_3, hl326_4, hi326_4, hl326_5, hi326_5, hl326_6, hi326_6⟩ := at_T61 HR0.out a1 p326 q326; obtain rfl : ad323 = ad326 := (by injection e326); have HR326_2 := Aside0.mk hi326_2; have HC326_2 := Aside0.mk hl326_2; clear hi326_2 hl326_2; have HR326_3 := Aside0.mk hi326_3; have HC326_3 := Aside0.mk hl326_3; clear hi326_3 hl326_3; have HR326_4 := Aside0.mk hi326_4; have HC326_4 := Aside0.mk hl326_4; clear hi326_4 hl326_4; have HR326_5 := Aside0.mk hi326_5; have HC326_5 := Aside0.mk hl326_5; clear hi326_5 hl326_5; have HR326_6 := Aside0.mk hi326_6; have HC326_6 := Aside0.mk hl326_6; clear hi326_6 hl326_6; replace p326 := eq_true p326; replace q326 := eq_true q326; have ea_ := Option.some.inj (hx323_2.symm.trans hx326_2); injection ea_ with ea_ en_ ec_; subst ea_; subst ec_; clear en_; have ea_ := Option.some.inj (hx323_3.symm.trans hx326_3); injection ea_ with ea_ en_ ec_; subst ea_; subst ec_; clear en_; have ea_ := Option.some.inj (hx323_4.symm.trans hx326_4); injection ea_ with ea_ en_ ec_; subst ea_; subst ec_; clear en_; have ea_ := Option.some.inj (hx323_5.symm.trans hx326_5); injection ea_ with ea_ en_ ec_; subst ea_; subst ec_; clear en_; have ea_ := Option.some.inj (hx323_6.symm.trans hx326_6); injection ea_ with ea_ en_ ec_; subst ea_; subst ec_; clear en_) | (go_at_call 88; (with_reducible refine (cosignerref03_index.calls k _ _ l0 ((rd_T61 l0 a1).f0) t327 _ ?side1 ?side2 A8.out).mono ?_); (case side1 => repeat (first | exact HR0.out | (with_reducible refine Kd.C_alloc ?_ _) | (with_reducible refine Kd.C_drewN ?_ _) | (with_reducible refine Kd.C_drew ?_))); (case side2 => exact HC0.out); rintro e w' ⟨rfl, ⟨nd, rfl⟩⟩; (try first | exact ⟨rfl, _, World.drewN_drewN _ _ _⟩ | exact ⟨rfl, _, Eq.trans (World.drewN_drewN _ _ _) (congrArg (World.drewN _) (Nat.add_assoc _ _ _))⟩)))
      repeat (go_quiet (first | (go_at_call 106; (with_reducible refine (cosignerref03_named.calls k ((rd_T61 l0 a1).f0) true _ A6.out).mono ?_); rintro e w' ⟨rfl, ⟨nd, rfl⟩⟩; (try first | exact ⟨rfl, _, World.drewN_drewN _ _ _⟩ | exact ⟨rfl, _, Eq.trans (World.drewN_drewN _ _ _) (congrArg (World.drewN _) (Nat.add_assoc _ _ _))⟩); have p326 : 0 ≤ (a1 : Int) := of_decide_eq_true (by first | (with_reducible assumption) | assumption); have q326 : a1 < (l0.length : Int) := of_decide_eq_true (by first | (with_reducible assumption) | assumption); obtain ⟨ad326, A326_2, c326_2, A326_3, c326_3, A326_4, c326_4, A326_5, c326_5, A326_6, c326_6, e326, hx326_0, hx326_1, hx326_2, hx326_3, hx326_4, hx326_5, hx326_6, hl326_2, hi326_2, hl326_3, hi326_3, hl326_4, hi326_4, hl326_5, hi326_5, hl326_6, hi326_6⟩ := at_T61 HR0.out a1 p326 q326; obtain rfl : ad323 = ad326 := (by injection e326); have HR326_2 := Aside0.mk hi326_2; have HC326_2 := Aside0.mk hl326_2; clear hi326_2 hl326_2; have HR326_3 := Aside0.mk hi326_3; have HC326_3 := Aside0.mk hl326_3; clear hi326_3 hl326_3; have HR326_4 := Aside0.mk hi326_4; have HC326_4 := Aside0.mk hl326_4; clear hi326_4 hl326_4; have HR326_5 := Aside0.mk hi326_5; have HC326_5 := Aside0.mk hl326_5; clear hi326_5 hl326_5; have HR326_6 := Aside0.mk hi326_6; have HC326_6 := Aside0.mk hl326_6; clear hi326_6 hl326_6; replace p326 := eq_true p326; replace q326 := eq_true q326; have ea_ := Option.some.inj (hx323_2.symm.trans hx326_2); injection ea_ with ea_ en_ ec_; subst ea_; subst ec_; clear en_; have ea_ := Option.some.inj (hx323_3.symm.trans hx326_3); injection ea_ with ea_ en_ ec_; subst ea_; subst ec_; clear en_; have ea_ := Option.some.inj (hx323_4.symm.trans hx326_4); injection ea_ with ea_ en_ ec_; subst ea_; subst ec_; clear en_; have ea_ := Option.some.inj (hx323_5.symm.trans hx326_5); injection ea_ with ea_ en_ ec_; subst ea_; subst ec_; clear en_; have ea_ := Option.some.inj (hx323_6.symm.trans hx326_6); injection ea_ with ea_ en_ ec_; subst ea_; subst ec_; clear en_) | (go_at_call 88; (with_reducible refine (cosignerref03_index.calls k _ _ l0 ((rd_T61 l0 a1).f0) t327 _ ?side1 ?side2 A8.out).mono ?_); (case side1 => repeat (first | exact HR0.out | (with_reducible refine Kd.C_alloc ?_ _) | (with_reducible refine Kd.C_drewN ?_ _) | (with_reducible refine Kd.C_drew ?_))); (case side2 => exact HC0.out); rintro e w' ⟨rfl, ⟨nd, rfl⟩⟩; (try first | exact ⟨rfl, _, World.drewN_drewN _ _ _⟩ | exact ⟨rfl, _, Eq.trans (World.drewN_drewN _ _ _) (congrArg (World.drewN _) (Nat.add_assoc _ _ _))⟩))); try go_wp2_with (first | (go_at_call 106; (with_reducible refine (cosignerref03_named.calls k ((rd_T61 l0 a1).f0) true _ A6.out).mono ?_); rintro e w' ⟨rfl, ⟨nd, rfl⟩⟩; (try first | exact ⟨rfl, _, World.drewN_drewN _ _ _⟩ | exact ⟨rfl, _, Eq.trans (World.drewN_drewN _ _ _) (congrArg (World.drewN _) (Nat.add_assoc _ _ _))⟩); have p326 : 0 ≤ (a1 : Int) := of_decide_eq_true (by first | (with_reducible assumption) | assumption); have q326 : a1 < (l0.length : Int) := of_decide_eq_true (by first | (with_reducible assumption) | assumption); obtain ⟨ad326, A326_2, c326_2, A326_3, c326_3, A326_4, c326_4, A326_5, c326_5, A326_6, c326_6, e326, hx326_0, hx326_1, hx326_2, hx326_3, hx326_4, hx326_5, hx326_6, hl326_2, hi326_2, hl326_3, hi326_3, hl326_4, hi326_4, hl326_5, hi326_5, hl326_6, hi326_6⟩ := at_T61 HR0.out a1 p326 q326; obtain rfl : ad323 = ad326 := (by injection e326); have HR326_2 := Aside0.mk hi326_2; have HC326_2 := Aside0.mk hl326_2; clear hi326_2 hl326_2; have HR326_3 := Aside0.mk hi326_3; have HC326_3 := Aside0.mk hl326_3; clear hi326_3 hl326_3; have HR326_4 := Aside0.mk hi326_4; have HC326_4 := Aside0.mk hl326_4; clear hi326_4 hl326_4; have HR326_5 := Aside0.mk hi326_5; have HC326_5 := Aside0.mk hl326_5; clear hi326_5 hl326_5; have HR326_6 := Aside0.mk hi326_6; have HC326_6 := Aside0.mk hl326_6; clear hi326_6 hl326_6; replace p326 := eq_true p326; replace q326 := eq_true q326; have ea_ := Option.some.inj (hx323_2.symm.trans hx326_2); injection ea_ with ea_ en_ ec_; subst ea_; subst ec_; clear en_; have ea_ := Option.some.inj (hx323_3.symm.trans hx326_3); injection ea_ with ea_ en_ ec_; subst ea_; subst ec_; clear en_; have ea_ := Option.some.inj (hx323_4.symm.trans hx326_4); injection ea_ with ea_ en_ ec_; subst ea_; subst ec_; clear en_; have ea_ := Option.some.inj (hx323_5.symm.trans hx326_5); injection ea_ with ea_ en_ ec_; subst ea_; subst ec_; clear en_; have ea_ := Option.some.inj (hx323_6.symm.trans hx326_6); injection ea_ with ea_ en_ ec_; subst ea_; subst ec_; clear en_) | (go_at_call 88; (with_reducible refine (cosignerref03_index.calls k _ _ l0 ((rd_T61 l0 a1).f0) t327 _ ?side1 ?side2 A8.out).mono ?_); (case side1 => repeat (first | exact HR0.out | (with_reducible refine Kd.C_alloc ?_ _) | (with_reducible refine Kd.C_drewN ?_ _) | (with_reducible refine Kd.C_drew ?_))); (case side2 => exact HC0.out); rintro e w' ⟨rfl, ⟨nd, rfl⟩⟩; (try first | exact ⟨rfl, _, World.drewN_drewN _ _ _⟩ | exact ⟨rfl, _, Eq.trans (World.drewN_drewN _ _ _) (congrArg (World.drewN _) (Nat.add_assoc _ _ _))⟩))))
      go_loopg [6] k (fun kq v6 w' => ∃ (x6_1 : Int), v6 = .int .i64 x6_1 ∧ Aside0 (cosignerref03_alone.l0 kq l0 a1 x6_1 = some r) ∧ Aside0 (kq ≤ k) ∧ Drawn0 w w')
      case atStart => exact ⟨(0), (by first | rfl | (simp; done) | (simp [*]; done)), H', ⟨Nat.le_refl _⟩, by repeat (first | exact Drawn0.refl _ | apply Drawn0.step)⟩
      case round =>
       clear H'
       try clear p2
       try clear c3
       try clear c3b0
       try clear p3
       try clear q3
       try clear hx3
       try clear c4
       try clear c4b0
       try clear c5
       try clear c5b0
       try clear c5b1
       try clear c7
       try clear c8
       try clear c9
       try clear c9b0
       try clear hx323_0
       try clear hx323_1
       try clear hx323_2
       try clear hx323_3
       try clear hx323_4
       try clear hx323_5
       try clear hx323_6
       try clear hx324_0
       try clear hx324_1
       try clear hx324_2
       try clear hx324_3
       try clear hx324_4
       try clear hx324_5
       try clear hx324_6
       try clear hx326_0
       try clear hx326_1
       try clear hx326_2
       try clear hx326_3
       try clear hx326_4
       try clear hx326_5
       try clear hx326_6
       try clear p323
       try clear p324
       try clear p326
       try clear q323
       try clear q324
       try clear q326
       obtain ⟨x6_1, rfl, HA, HK1, ⟨m1, rfl⟩⟩ := hrel
       cases gk with
       | zero => exact absurd HA.out (by simp [cosignerref03_alone.l0])
       | succ k1 =>
        have H := HA.out
        clear HA
        simp only [cosignerref03_alone.l0] at H
        by_cases c10 : 0 ≤ a1
        ·rw [if_pos c10] at H
         have c10b0 : decide (0 ≤ a1) = true := decide_eq_true c10
         clear c10
         by_cases c11 : a1 < (l0.length : Int)
         ·rw [if_pos c11] at H
          have c11b0 : decide (a1 < (l0.length : Int)) = true := decide_eq_true c11
          clear c11
          by_cases c12 : x6_1 < (((rd_T61 l0 a1).f3).length : Int)
          ·rw [if_pos c12] at H
           have c12b0 : decide (x6_1 < (((rd_T61 l0 a1).f3).length : Int)) = true := decide_eq_true c12
           clear c12
           have H' := Aside0.mk H
           clear H
           have p328 : 0 ≤ (a1 : Int) := of_decide_eq_true (by first | (with_reducible assumption) | assumption)
           have q328 : a1 < (l0.length : Int) := of_decide_eq_true (by first | (with_reducible assumption) | assumption)
           obtain ⟨ad328, A328_2, c328_2, A328_3, c328_3, A328_4, c328_4, A328_5, c328_5, A328_6, c328_6, e328, hx328_0, hx328_1, hx328_2, hx328_3, hx328_4, hx328_5, hx328_6, hl328_2, hi328_2, hl328_3, hi328_3, hl328_4, hi328_4, hl328_5, hi328_5, hl328_6, hi328_6⟩ := at_T61 HR0.out a1 p328 q328
           obtain rfl : ad323 = ad328 := (by injection e328)
           have HR328_2 := Aside0.mk hi328_2
           have HC328_2 := Aside0.mk hl328_2
           clear hi328_2 hl328_2
           have HR328_3 := Aside0.mk hi328_3
           have HC328_3 := Aside0.mk hl328_3
           clear hi328_3 hl328_3
           have HR328_4 := Aside0.mk hi328_4
           have HC328_4 := Aside0.mk hl328_4
           clear hi328_4 hl328_4
           have HR328_5 := Aside0.mk hi328_5
           have HC328_5 := Aside0.mk hl328_5
           clear hi328_5 hl328_5
           have HR328_6 := Aside0.mk hi328_6
           have HC328_6 := Aside0.mk hl328_6
           clear hi328_6 hl328_6
           replace p328 := eq_true p328
           replace q328 := eq_true q328
           go_wp2
           repeat (go_quiet (fail); try go_wp2)
           go_loopg [7] k1 (fun kq v7 w' => ∃ (x7_2 : Int), v7 = .int .i64 x7_2 ∧ Aside0 (cosignerref03_alone.l1 kq l0 a1 x6_1 x7_2 = some r) ∧ Aside0 (kq ≤ k1) ∧ Drawn0 w w')
           case atStart => exact ⟨(0), (by first | rfl | (simp; done) | (simp [*]; done)), H', ⟨Nat.le_refl _⟩, by repeat (first | exact Drawn0.refl _ | apply Drawn0.step)⟩
           case round =>
            clear H'
            try clear c1
            try clear p2
            try clear c3
            try clear c3b0
            try clear p3
            try clear q3
            try clear hx3
            try clear c4
            try clear c4b0
            try clear c5
            try clear c5b0
            try clear c5b1
            try clear c7
            try clear c8
            try clear c9
            try clear c9b0
            try clear c10
            try clear c10b0
            try clear c11
            try clear c11b0
            try clear c12
            try clear c12b0
            try clear hx323_0
            try clear hx323_1
            try clear hx323_2
            try clear hx323_3
            try clear hx323_4
            try clear hx323_5
            try clear hx323_6
            try clear hx324_0
            try clear hx324_1
            try clear hx324_2
            try clear hx324_3
            try clear hx324_4
            try clear hx324_5
            try clear hx324_6
            try clear hx326_0
            try clear hx326_1
            try clear hx326_2
            try clear hx326_3
            try clear hx326_4
            try clear hx326_5
            try clear hx326_6
            try clear hx328_0
            try clear hx328_1
            try clear hx328_2
            try clear hx328_3
            try clear hx328_4
            try clear hx328_5
            try clear hx328_6
            try clear p2
            try clear p3
            try clear p323
            try clear p324
            try clear p326
            try clear p328
            try clear q3
            try clear q323
            try clear q324
            try clear q326
            try clear q328
            obtain ⟨x7_2, rfl, HA, HK2, ⟨m2, rfl⟩⟩ := hrel
            cases gk with
            | zero => exact absurd HA.out (by simp [cosignerref03_alone.l1])
            | succ k2 =>
             have H := HA.out
             clear HA
             simp only [cosignerref03_alone.l1] at H
             by_cases c13 : x7_2 < x6_1
             ·rw [if_pos c13] at H
              have c13b0 : decide (x7_2 < x6_1) = true := decide_eq_true c13
              clear c13
              by_cases c14 : 0 ≤ a1
              ·rw [if_pos c14] at H
               have c14b0 : decide (0 ≤ a1) = true := decide_eq_true c14
               clear c14
               by_cases c15 : a1 < (l0.length : Int)
               ·rw [if_pos c15] at H
                have c15b0 : decide (a1 < (l0.length : Int)) = true := decide_eq_true c15
                clear c15
                by_cases c16 : 0 ≤ x7_2
                ·rw [if_pos c16] at H
                 have c16b0 : decide (0 ≤ x7_2) = true := decide_eq_true c16
                 clear c16
                 by_cases c17 : x7_2 < (((rd_T61 l0 a1).f3).length : Int)
                 ·rw [if_pos c17] at H
                  have c17b0 : decide (x7_2 < (((rd_T61 l0 a1).f3).length : Int)) = true := decide_eq_true c17
                  clear c17
                  by_cases c18 : 0 ≤ x6_1
                  ·rw [if_pos c18] at H
                   have c18b0 : decide (0 ≤ x6_1) = true := decide_eq_true c18
                   clear c18
                   by_cases c19 : x6_1 < (((rd_T61 l0 a1).f3).length : Int)
                   ·rw [if_pos c19] at H
                    have c19b0 : decide (x6_1 < (((rd_T61 l0 a1).f3).length : Int)) = true := decide_eq_true c19
                    clear c19
                    by_cases c20 : ((rd_T65 ((rd_T61 l0 a1).f3) x7_2).f0).toList = ((rd_T65 ((rd_T61 l0 a1).f3) x6_1).f0).toList
                    ·rw [if_pos c20] at H
                     have c20b0 : (((rd_T65 ((rd_T61 l0 a1).f3) x7_2).f0).toList == ((rd_T65 ((rd_T61 l0 a1).f3) x6_1).f0).toList) = true := beq_iff_eq.mpr c20
                     have c20b1 : (((rd_T65 ((rd_T61 l0 a1).f3) x7_2).f0).toList != ((rd_T65 ((rd_T61 l0 a1).f3) x6_1).f0).toList) = false := bne_eq_false_iff_eq.mpr c20
                     clear c20
                     obtain rfl := Option.some.inj H
                     have p329 : 0 ≤ (a1 : Int) := of_decide_eq_true (by first | (with_reducible assumption) | assumption)
                     have q329 : a1 < (l0.length : Int) := of_decide_eq_true (by first | (with_reducible assumption) | assumption)
                     obtain ⟨ad329, A329_2, c329_2, A329_3, c329_3, A329_4, c329_4, A329_5, c329_5, A329_6, c329_6, e329, hx329_0, hx329_1, hx329_2, hx329_3, hx329_4, hx329_5, hx329_6, hl329_2, hi329_2, hl329_3, hi329_3, hl329_4, hi329_4, hl329_5, hi329_5, hl329_6, hi329_6⟩ := at_T61 HR0.out a1 p329 q329
                     obtain rfl : ad323 = ad329 := (by injection e329)
                     have HR329_2 := Aside0.mk hi329_2
                     have HC329_2 := Aside0.mk hl329_2
                     clear hi329_2 hl329_2
                     have HR329_3 := Aside0.mk hi329_3
                     have HC329_3 := Aside0.mk hl329_3
                     clear hi329_3 hl329_3
                     have HR329_4 := Aside0.mk hi329_4
                     have HC329_4 := Aside0.mk hl329_4
                     clear hi329_4 hl329_4
                     have HR329_5 := Aside0.mk hi329_5
                     have HC329_5 := Aside0.mk hl329_5
                     clear hi329_5 hl329_5
                     have HR329_6 := Aside0.mk hi329_6
                     have HC329_6 := Aside0.mk hl329_6
                     clear hi329_6 hl329_6
                     replace p329 := eq_true p329
                     replace q329 := eq_true q329
                     have p330 : 0 ≤ (x7_2 : Int) := of_decide_eq_true (by first | (with_reducible assumption) | assumption)
                     have q330 : x7_2 < (((rd_T61 l0 a1).f3).length : Int) := of_decide_eq_true (by first | (with_reducible assumption) | assumption)
                     obtain ⟨ad330, A330_1, c330_1, A330_2, c330_2, A330_3, c330_3, A330_4, c330_4, A330_5, c330_5, e330, hx330_0, hx330_1, hx330_2, hx330_3, hx330_4, hx330_5, hl330_1, hi330_1, hl330_2, hi330_2, hl330_3, hi330_3, hl330_4, hi330_4, hl330_5, hi330_5⟩ := at_T65 HR329_3.out x7_2 p330 q330
                     cases e330
                     have HR330_1 := Aside0.mk hi330_1
                     have HC330_1 := Aside0.mk hl330_1
                     clear hi330_1 hl330_1
                     have HR330_2 := Aside0.mk hi330_2
                     have HC330_2 := Aside0.mk hl330_2
                     clear hi330_2 hl330_2
                     have HR330_3 := Aside0.mk hi330_3
                     have HC330_3 := Aside0.mk hl330_3
                     clear hi330_3 hl330_3
                     have HR330_4 := Aside0.mk hi330_4
                     have HC330_4 := Aside0.mk hl330_4
                     clear hi330_4 hl330_4
                     have HR330_5 := Aside0.mk hi330_5
                     have HC330_5 := Aside0.mk hl330_5
                     clear hi330_5 hl330_5
                     replace p330 := eq_true p330
                     replace q330 := eq_true q330
                     have p331 : 0 ≤ (a1 : Int) := of_decide_eq_true (by first | (with_reducible assumption) | assumption)
                     have q331 : a1 < (l0.length : Int) := of_decide_eq_true (by first | (with_reducible assumption) | assumption)
                     obtain ⟨ad331, A331_2, c331_2, A331_3, c331_3, A331_4, c331_4, A331_5, c331_5, A331_6, c331_6, e331, hx331_0, hx331_1, hx331_2, hx331_3, hx331_4, hx331_5, hx331_6, hl331_2, hi331_2, hl331_3, hi331_3, hl331_4, hi331_4, hl331_5, hi331_5, hl331_6, hi331_6⟩ := at_T61 HR0.out a1 p331 q331
                     obtain rfl : ad323 = ad331 := (by injection e331)
                     have HR331_2 := Aside0.mk hi331_2
                     have HC331_2 := Aside0.mk hl331_2
                     clear hi331_2 hl331_2
                     have HR331_3 := Aside0.mk hi331_3
                     have HC331_3 := Aside0.mk hl331_3
                     clear hi331_3 hl331_3
                     have HR331_4 := Aside0.mk hi331_4
                     have HC331_4 := Aside0.mk hl331_4
                     clear hi331_4 hl331_4
                     have HR331_5 := Aside0.mk hi331_5
                     have HC331_5 := Aside0.mk hl331_5
                     clear hi331_5 hl331_5
                     have HR331_6 := Aside0.mk hi331_6
                     have HC331_6 := Aside0.mk hl331_6
                     clear hi331_6 hl331_6
                     replace p331 := eq_true p331
                     replace q331 := eq_true q331
                     have ea_ := Option.some.inj (hx329_2.symm.trans hx331_2)
                     injection ea_ with ea_ en_ ec_
                     subst ea_
                     subst ec_
                     clear en_
                     have ea_ := Option.some.inj (hx329_3.symm.trans hx331_3)
                     injection ea_ with ea_ en_ ec_
                     subst ea_
                     subst ec_
                     clear en_
                     have ea_ := Option.some.inj (hx329_4.symm.trans hx331_4)
                     injection ea_ with ea_ en_ ec_
                     subst ea_
                     subst ec_
                     clear en_
                     have ea_ := Option.some.inj (hx329_5.symm.trans hx331_5)
                     injection ea_ with ea_ en_ ec_
                     subst ea_
                     subst ec_
                     clear en_
                     have ea_ := Option.some.inj (hx329_6.symm.trans hx331_6)
                     injection ea_ with ea_ en_ ec_
                     subst ea_
                     subst ec_
                     clear en_
                     have p332 : 0 ≤ (x6_1 : Int) := of_decide_eq_true (by first | (with_reducible assumption) | assumption)
                     have q332 : x6_1 < (((rd_T61 l0 a1).f3).length : Int) := of_decide_eq_true (by first | (with_reducible assumption) | assumption)
                     obtain ⟨ad332, A332_1, c332_1, A332_2, c332_2, A332_3, c332_3, A332_4, c332_4, A332_5, c332_5, e332, hx332_0, hx332_1, hx332_2, hx332_3, hx332_4, hx332_5, hl332_1, hi332_1, hl332_2, hi332_2, hl332_3, hi332_3, hl332_4, hi332_4, hl332_5, hi332_5⟩ := at_T65 HR331_3.out x6_1 p332 q332
                     cases e332
                     have HR332_1 := Aside0.mk hi332_1
                     have HC332_1 := Aside0.mk hl332_1
                     clear hi332_1 hl332_1
                     have HR332_2 := Aside0.mk hi332_2
                     have HC332_2 := Aside0.mk hl332_2
                     clear hi332_2 hl332_2
                     have HR332_3 := Aside0.mk hi332_3
                     have HC332_3 := Aside0.mk hl332_3
                     clear hi332_3 hl332_3
                     have HR332_4 := Aside0.mk hi332_4
                     have HC332_4 := Aside0.mk hl332_4
                     clear hi332_4 hl332_4
                     have HR332_5 := Aside0.mk hi332_5
                     have HC332_5 := Aside0.mk hl332_5
                     clear hi332_5 hl332_5
                     replace p332 := eq_true p332
                     replace q332 := eq_true q332
                     go_wp2
                     repeat (go_quiet (fail); try go_wp2)
                     go_ret
                     exact ⟨by first | rfl | (simp; done) | (simp [*]; done), by repeat (first | exact Drawn0.refl _ | apply Drawn0.step)⟩
                    ·rw [if_neg c20] at H
                     have c20b0 : (((rd_T65 ((rd_T61 l0 a1).f3) x7_2).f0).toList == ((rd_T65 ((rd_T61 l0 a1).f3) x6_1).f0).toList) = false := beq_eq_false_iff_ne.mpr c20
                     have c20b1 : (((rd_T65 ((rd_T61 l0 a1).f3) x7_2).f0).toList != ((rd_T65 ((rd_T61 l0 a1).f3) x6_1).f0).toList) = true := bne_iff_ne.mpr c20
                     have H' := Aside0.mk H
                     clear H
                     have p329 : 0 ≤ (a1 : Int) := of_decide_eq_true (by first | (with_reducible assumption) | assumption)
                     have q329 : a1 < (l0.length : Int) := of_decide_eq_true (by first | (with_reducible assumption) | assumption)
                     obtain ⟨ad329, A329_2, c329_2, A329_3, c329_3, A329_4, c329_4, A329_5, c329_5, A329_6, c329_6, e329, hx329_0, hx329_1, hx329_2, hx329_3, hx329_4, hx329_5, hx329_6, hl329_2, hi329_2, hl329_3, hi329_3, hl329_4, hi329_4, hl329_5, hi329_5, hl329_6, hi329_6⟩ := at_T61 HR0.out a1 p329 q329
                     obtain rfl : ad323 = ad329 := (by injection e329)
                     have HR329_2 := Aside0.mk hi329_2
                     have HC329_2 := Aside0.mk hl329_2
                     clear hi329_2 hl329_2
                     have HR329_3 := Aside0.mk hi329_3
                     have HC329_3 := Aside0.mk hl329_3
                     clear hi329_3 hl329_3
                     have HR329_4 := Aside0.mk hi329_4
                     have HC329_4 := Aside0.mk hl329_4
                     clear hi329_4 hl329_4
                     have HR329_5 := Aside0.mk hi329_5
                     have HC329_5 := Aside0.mk hl329_5
                     clear hi329_5 hl329_5
                     have HR329_6 := Aside0.mk hi329_6
                     have HC329_6 := Aside0.mk hl329_6
                     clear hi329_6 hl329_6
                     replace p329 := eq_true p329
                     replace q329 := eq_true q329
                     have p330 : 0 ≤ (x7_2 : Int) := of_decide_eq_true (by first | (with_reducible assumption) | assumption)
                     have q330 : x7_2 < (((rd_T61 l0 a1).f3).length : Int) := of_decide_eq_true (by first | (with_reducible assumption) | assumption)
                     obtain ⟨ad330, A330_1, c330_1, A330_2, c330_2, A330_3, c330_3, A330_4, c330_4, A330_5, c330_5, e330, hx330_0, hx330_1, hx330_2, hx330_3, hx330_4, hx330_5, hl330_1, hi330_1, hl330_2, hi330_2, hl330_3, hi330_3, hl330_4, hi330_4, hl330_5, hi330_5⟩ := at_T65 HR329_3.out x7_2 p330 q330
                     cases e330
                     have HR330_1 := Aside0.mk hi330_1
                     have HC330_1 := Aside0.mk hl330_1
                     clear hi330_1 hl330_1
                     have HR330_2 := Aside0.mk hi330_2
                     have HC330_2 := Aside0.mk hl330_2
                     clear hi330_2 hl330_2
                     have HR330_3 := Aside0.mk hi330_3
                     have HC330_3 := Aside0.mk hl330_3
                     clear hi330_3 hl330_3
                     have HR330_4 := Aside0.mk hi330_4
                     have HC330_4 := Aside0.mk hl330_4
                     clear hi330_4 hl330_4
                     have HR330_5 := Aside0.mk hi330_5
                     have HC330_5 := Aside0.mk hl330_5
                     clear hi330_5 hl330_5
                     replace p330 := eq_true p330
                     replace q330 := eq_true q330
                     have p331 : 0 ≤ (a1 : Int) := of_decide_eq_true (by first | (with_reducible assumption) | assumption)
                     have q331 : a1 < (l0.length : Int) := of_decide_eq_true (by first | (with_reducible assumption) | assumption)
                     obtain ⟨ad331, A331_2, c331_2, A331_3, c331_3, A331_4, c331_4, A331_5, c331_5, A331_6, c331_6, e331, hx331_0, hx331_1, hx331_2, hx331_3, hx331_4, hx331_5, hx331_6, hl331_2, hi331_2, hl331_3, hi331_3, hl331_4, hi331_4, hl331_5, hi331_5, hl331_6, hi331_6⟩ := at_T61 HR0.out a1 p331 q331
                     obtain rfl : ad323 = ad331 := (by injection e331)
                     have HR331_2 := Aside0.mk hi331_2
                     have HC331_2 := Aside0.mk hl331_2
                     clear hi331_2 hl331_2
                     have HR331_3 := Aside0.mk hi331_3
                     have HC331_3 := Aside0.mk hl331_3
                     clear hi331_3 hl331_3
                     have HR331_4 := Aside0.mk hi331_4
                     have HC331_4 := Aside0.mk hl331_4
                     clear hi331_4 hl331_4
                     have HR331_5 := Aside0.mk hi331_5
                     have HC331_5 := Aside0.mk hl331_5
                     clear hi331_5 hl331_5
                     have HR331_6 := Aside0.mk hi331_6
                     have HC331_6 := Aside0.mk hl331_6
                     clear hi331_6 hl331_6
                     replace p331 := eq_true p331
                     replace q331 := eq_true q331
                     have ea_ := Option.some.inj (hx329_2.symm.trans hx331_2)
                     injection ea_ with ea_ en_ ec_
                     subst ea_
                     subst ec_
                     clear en_
                     have ea_ := Option.some.inj (hx329_3.symm.trans hx331_3)
                     injection ea_ with ea_ en_ ec_
                     subst ea_
                     subst ec_
                     clear en_
                     have ea_ := Option.some.inj (hx329_4.symm.trans hx331_4)
                     injection ea_ with ea_ en_ ec_
                     subst ea_
                     subst ec_
                     clear en_
                     have ea_ := Option.some.inj (hx329_5.symm.trans hx331_5)
                     injection ea_ with ea_ en_ ec_
                     subst ea_
                     subst ec_
                     clear en_
                     have ea_ := Option.some.inj (hx329_6.symm.trans hx331_6)
                     injection ea_ with ea_ en_ ec_
                     subst ea_
                     subst ec_
                     clear en_
                     have p332 : 0 ≤ (x6_1 : Int) := of_decide_eq_true (by first | (with_reducible assumption) | assumption)
                     have q332 : x6_1 < (((rd_T61 l0 a1).f3).length : Int) := of_decide_eq_true (by first | (with_reducible assumption) | assumption)
                     obtain ⟨ad332, A332_1, c332_1, A332_2, c332_2, A332_3, c332_3, A332_4, c332_4, A332_5, c332_5, e332, hx332_0, hx332_1, hx332_2, hx332_3, hx332_4, hx332_5, hl332_1, hi332_1, hl332_2, hi332_2, hl332_3, hi332_3, hl332_4, hi332_4, hl332_5, hi332_5⟩ := at_T65 HR331_3.out x6_1 p332 q332
                     cases e332
                     have HR332_1 := Aside0.mk hi332_1
                     have HC332_1 := Aside0.mk hl332_1
                     clear hi332_1 hl332_1
                     have HR332_2 := Aside0.mk hi332_2
                     have HC332_2 := Aside0.mk hl332_2
                     clear hi332_2 hl332_2
                     have HR332_3 := Aside0.mk hi332_3
                     have HC332_3 := Aside0.mk hl332_3
                     clear hi332_3 hl332_3
                     have HR332_4 := Aside0.mk hi332_4
                     have HC332_4 := Aside0.mk hl332_4
                     clear hi332_4 hl332_4
                     have HR332_5 := Aside0.mk hi332_5
                     have HC332_5 := Aside0.mk hl332_5
                     clear hi332_5 hl332_5
                     replace p332 := eq_true p332
                     replace q332 := eq_true q332
                     go_wp2
                     repeat (go_quiet (fail); try go_wp2)
                     go_roundg k2
                     case measure => have := HK1.out; have := HK2.out; omega
                     case rel => exact ⟨(wrap64 (x7_2 + 1)), (by first | rfl | (simp; done) | (simp [*]; done)), H', ⟨by have := HK1.out; have := HK2.out; omega⟩, by repeat (first | exact Drawn0.refl _ | apply Drawn0.step)⟩
                   ·rw [if_neg c19] at H
                    exact absurd H (by simp)
                  ·rw [if_neg c18] at H
                   exact absurd H (by simp)
                 ·rw [if_neg c17] at H
                  exact absurd H (by simp)
                ·rw [if_neg c16] at H
                 exact absurd H (by simp)
               ·rw [if_neg c15] at H
                exact absurd H (by simp)
              ·rw [if_neg c14] at H
               exact absurd H (by simp)
             ·rw [if_neg c13] at H
              have c13b0 : decide (x7_2 < x6_1) = false := decide_eq_false c13
              clear c13
              have H' := Aside0.mk H
              clear H
              go_wp2
              repeat (go_quiet (fail); try go_wp2)
              go_roundg k2
              case measure => have := HK1.out; have := HK2.out; omega
              case rel => exact ⟨(wrap64 (x6_1 + 1)), (by first | rfl | (simp; done) | (simp [*]; done)), H', ⟨by have := HK1.out; have := HK2.out; omega⟩, by repeat (first | exact Drawn0.refl _ | apply Drawn0.step)⟩
          ·rw [if_neg c12] at H
           have c12b0 : decide (x6_1 < (((rd_T61 l0 a1).f3).length : Int)) = false := decide_eq_false c12
           clear c12
           obtain rfl := Option.some.inj H
           have p328 : 0 ≤ (a1 : Int) := of_decide_eq_true (by first | (with_reducible assumption) | assumption)
           have q328 : a1 < (l0.length : Int) := of_decide_eq_true (by first | (with_reducible assumption) | assumption)
           obtain ⟨ad328, A328_2, c328_2, A328_3, c328_3, A328_4, c328_4, A328_5, c328_5, A328_6, c328_6, e328, hx328_0, hx328_1, hx328_2, hx328_3, hx328_4, hx328_5, hx328_6, hl328_2, hi328_2, hl328_3, hi328_3, hl328_4, hi328_4, hl328_5, hi328_5, hl328_6, hi328_6⟩ := at_T61 HR0.out a1 p328 q328
           obtain rfl : ad323 = ad328 := (by injection e328)
           have HR328_2 := Aside0.mk hi328_2
           have HC328_2 := Aside0.mk hl328_2
           clear hi328_2 hl328_2
           have HR328_3 := Aside0.mk hi328_3
           have HC328_3 := Aside0.mk hl328_3
           clear hi328_3 hl328_3
           have HR328_4 := Aside0.mk hi328_4
           have HC328_4 := Aside0.mk hl328_4
           clear hi328_4 hl328_4
           have HR328_5 := Aside0.mk hi328_5
           have HC328_5 := Aside0.mk hl328_5
           clear hi328_5 hl328_5
           have HR328_6 := Aside0.mk hi328_6
           have HC328_6 := Aside0.mk hl328_6
           clear hi328_6 hl328_6
           replace p328 := eq_true p328
           replace q328 := eq_true q328
           go_wp2
           repeat (go_quiet (fail); try go_wp2)
           go_ret
           exact ⟨by first | rfl | (simp; done) | (simp [*]; done), by repeat (first | exact Drawn0.refl _ | apply Drawn0.step)⟩
         ·rw [if_neg c11] at H
          exact absurd H (by simp)
        ·rw [if_neg c10] at H
         exact absurd H (by simp)
    ·replace c7 := Bool.eq_false_iff.mpr c7
     subst c7
     have H1 : (some 4) = some r := by rw [if_neg (show ¬ (false = true) by decide)] at H; exact H
     clear H
     have H := H1
     clear H1
     obtain rfl := Option.some.inj H
     have p323 : 0 ≤ (a1 : Int) := of_decide_eq_true (by first | (with_reducible assumption) | assumption)
     have q323 : a1 < (l0.length : Int) := of_decide_eq_true (by first | (with_reducible assumption) | assumption)
     obtain ⟨ad323, A323_2, c323_2, A323_3, c323_3, A323_4, c323_4, A323_5, c323_5, A323_6, c323_6, e323, hx323_0, hx323_1, hx323_2, hx323_3, hx323_4, hx323_5, hx323_6, hl323_2, hi323_2, hl323_3, hi323_3, hl323_4, hi323_4, hl323_5, hi323_5, hl323_6, hi323_6⟩ := at_T61 HR0.out a1 p323 q323
     cases e323
     have HR323_2 := Aside0.mk hi323_2
     have HC323_2 := Aside0.mk hl323_2
     clear hi323_2 hl323_2
     have HR323_3 := Aside0.mk hi323_3
     have HC323_3 := Aside0.mk hl323_3
     clear hi323_3 hl323_3
     have HR323_4 := Aside0.mk hi323_4
     have HC323_4 := Aside0.mk hl323_4
     clear hi323_4 hl323_4
     have HR323_5 := Aside0.mk hi323_5
     have HC323_5 := Aside0.mk hl323_5
     clear hi323_5 hl323_5
     have HR323_6 := Aside0.mk hi323_6
     have HC323_6 := Aside0.mk hl323_6
     clear hi323_6 hl323_6
     replace p323 := eq_true p323
     replace q323 := eq_true q323
     have p324 : 0 ≤ (a1 : Int) := of_decide_eq_true (by first | (with_reducible assumption) | assumption)
     have q324 : a1 < (l0.length : Int) := of_decide_eq_true (by first | (with_reducible assumption) | assumption)
     obtain ⟨ad324, A324_2, c324_2, A324_3, c324_3, A324_4, c324_4, A324_5, c324_5, A324_6, c324_6, e324, hx324_0, hx324_1, hx324_2, hx324_3, hx324_4, hx324_5, hx324_6, hl324_2, hi324_2, hl324_3, hi324_3, hl324_4, hi324_4, hl324_5, hi324_5, hl324_6, hi324_6⟩ := at_T61 HR0.out a1 p324 q324
     obtain rfl : ad323 = ad324 := (by injection e324)
     have HR324_2 := Aside0.mk hi324_2
     have HC324_2 := Aside0.mk hl324_2
     clear hi324_2 hl324_2
     have HR324_3 := Aside0.mk hi324_3
     have HC324_3 := Aside0.mk hl324_3
     clear hi324_3 hl324_3
     have HR324_4 := Aside0.mk hi324_4
     have HC324_4 := Aside0.mk hl324_4
     clear hi324_4 hl324_4
     have HR324_5 := Aside0.mk hi324_5
     have HC324_5 := Aside0.mk hl324_5
     clear hi324_5 hl324_5
     have HR324_6 := Aside0.mk hi324_6
     have HC324_6 := Aside0.mk hl324_6
     clear hi324_6 hl324_6
     replace p324 := eq_true p324
     replace q324 := eq_true q324
     have ea_ := Option.some.inj (hx323_2.symm.trans hx324_2)
     injection ea_ with ea_ en_ ec_
     subst ea_
     subst ec_
     clear en_
     have ea_ := Option.some.inj (hx323_3.symm.trans hx324_3)
     injection ea_ with ea_ en_ ec_
     subst ea_
     subst ec_
     clear en_
     have ea_ := Option.some.inj (hx323_4.symm.trans hx324_4)
     injection ea_ with ea_ en_ ec_
     subst ea_
     subst ec_
     clear en_
     have ea_ := Option.some.inj (hx323_5.symm.trans hx324_5)
     injection ea_ with ea_ en_ ec_
     subst ea_
     subst ec_
     clear en_
     have ea_ := Option.some.inj (hx323_6.symm.trans hx324_6)
     injection ea_ with ea_ en_ ec_
     subst ea_
     subst ec_
     clear en_
     go_enter Try.func87, Try.ntmps87
     go_wp2_with (first | (go_at_call 106; (with_reducible refine (cosignerref03_named.calls k ((rd_T61 l0 a1).f0) false _ A6.out).mono ?_); rintro e w' ⟨rfl, ⟨nd, rfl⟩⟩; (try first | exact ⟨rfl, _, World.drewN_drewN _ _ _⟩ | exact ⟨rfl, _, Eq.trans (World.drewN_drewN _ _ _) (congrArg (World.drewN _) (Nat.add_assoc _ _ _))⟩)))
     repeat (go_quiet (first | (go_at_call 106; (with_reducible refine (cosignerref03_named.calls k ((rd_T61 l0 a1).f0) false _ A6.out).mono ?_); rintro e w' ⟨rfl, ⟨nd, rfl⟩⟩; (try first | exact ⟨rfl, _, World.drewN_drewN _ _ _⟩ | exact ⟨rfl, _, Eq.trans (World.drewN_drewN _ _ _) (congrArg (World.drewN _) (Nat.add_assoc _ _ _))⟩))); try go_wp2_with (first | (go_at_call 106; (with_reducible refine (cosignerref03_named.calls k ((rd_T61 l0 a1).f0) false _ A6.out).mono ?_); rintro e w' ⟨rfl, ⟨nd, rfl⟩⟩; (try first | exact ⟨rfl, _, World.drewN_drewN _ _ _⟩ | exact ⟨rfl, _, Eq.trans (World.drewN_drewN _ _ _) (congrArg (World.drewN _) (Nat.add_assoc _ _ _))⟩))))
     go_ret
     exact ⟨by first | rfl | (simp; done) | (simp [*]; done), by repeat (first | exact Drawn0.refl _ | apply Drawn0.step)⟩
  ·rw [if_neg c4] at H
   exact absurd H (by simp)
 ·rw [if_neg c3] at H
  exact absurd H (by simp)
end Go.Proofs.Ytdljclokenoogaa.Hp
end
section
namespace Go.Proofs.Ytdljclokenoogaa.Hw
open Go.Proofs.Ytdljclokenoogaa.Hp
open Go.RowKit Go.Proofs.YtdljclokenoogaaW.PrintWords Go.Proofs.YtdljclokenoogaaW.PrintLast Go.Proofs.YtdljclokenoogaaW.PrintMore in
theorem toList_inj {a b : ByteArray} (h : a.toList = b.toList) : a = b := by
  have := toList_beq a b
  rw [h] at this
  simpa using this
open Go.RowKit Go.Proofs.YtdljclokenoogaaW.PrintWords Go.Proofs.YtdljclokenoogaaW.PrintLast Go.Proofs.YtdljclokenoogaaW.PrintMore in
theorem wrap64_of_range (i : Int) (h0 : -9223372036854775808 ≤ i) (h1 : i < 9223372036854775808) : wrap64 i = i := by unfold wrap64; omega
def lastS (x : List ByteArray) : ByteArray := x.getLastD ⟨#[]⟩
theorem lastS_snoc (x : List ByteArray) (p : ByteArray) : lastS (x ++ [p]) = p := by simp [lastS]
def firstOf : List (List ByteArray) → List ByteArray → List (List ByteArray)
  | [], one => [one]
  | x :: xs, one => if lastS x = lastS one then (if lexB one x then one :: xs else x :: xs) else x :: firstOf xs one
def pushAll (nx : List (List ByteArray)) (x : List ByteArray) (ps : List ByteArray) : List (List ByteArray) := ps.foldl (fun nx p => firstOf nx (x ++ [p])) nx
def stepAll (up : ByteArray → List ByteArray) (ls : List (List ByteArray)) : List (List ByteArray) := ls.foldl (fun nx x => pushAll nx x (up (lastS x))) []
def furN (up : ByteArray → List ByteArray) (a : ByteArray) : Nat → List (List ByteArray) → List ByteArray
  | 0, _ => []
  | n + 1, ls => match (stepAll up ls).find? (fun x => decide (lastS x = a)) with
    | some r => r
    | none => furN up a n (stepAll up ls)
def furtherOf (up : ByteArray → List ByteArray) (N : Nat) (c a : ByteArray) : List ByteArray := furN up a (N + 1) [[c]]
theorem lexB_le_trans {x y z : List ByteArray} (h : lexB y x = false) (k : lexB z y = false) : lexB z x = false := by
  cases e : lexB z x with
  | false => rfl
  | true =>
    cases e2 : lexB x y with
    | true => rw [lexB_trans _ _ _ e e2] at k; cases k
    | false => have := lexB_tri _ _ e2 h; subst this; rw [e] at k; cases k
structure Firsts (nx : List (List ByteArray)) (S : List ByteArray → Prop) : Prop where
  nd : (nx.map lastS).Nodup
  mem : ∀ r ∈ nx, S r ∧ ∀ r', S r' → lastS r' = lastS r → lexB r' r = false
  all : ∀ r', S r' → ∃ r ∈ nx, lastS r = lastS r'
instance decMemS (a : ByteArray) (l : List ByteArray) : Decidable (a ∈ l) := decidable_of_iff (memS l a = true) memS_iff
theorem firstOf_lasts (one : List ByteArray) : ∀ (nx : List (List ByteArray)), (firstOf nx one).map lastS = if lastS one ∈ nx.map lastS then nx.map lastS else nx.map lastS ++ [lastS one]
  | [] => by simp [firstOf]
  | x :: xs => by
    by_cases h : lastS x = lastS one
    · by_cases h2 : lexB one x = true
      · simp [firstOf, h, h2]
      · simp [firstOf, h, h2]
    · have ih := firstOf_lasts one xs
      simp only [firstOf, if_neg h, List.map_cons, ih, List.mem_cons]
      by_cases h3 : lastS one ∈ xs.map lastS
      · rw [if_pos h3, if_pos (.inr h3)]
      · rw [if_neg h3, if_neg (by rintro (e | e); exact h e.symm; exact h3 e)]; rfl
theorem firstOf_mem {one r : List ByteArray} : ∀ {nx : List (List ByteArray)}, (nx.map lastS).Nodup → r ∈ firstOf nx one → (r = one ∧ ∀ x ∈ nx, lastS x = lastS one → lexB one x = true) ∨ (r ∈ nx ∧ (lastS r = lastS one → lexB one r = false))
  | [], _, h => by simp [firstOf] at h; exact .inl ⟨h, by simp⟩
  | x :: xs, hn, h => by
    rw [List.map_cons, List.nodup_cons] at hn
    by_cases hx : lastS x = lastS one
    · by_cases h2 : lexB one x = true
      · simp only [firstOf, if_pos hx, if_pos h2, List.mem_cons] at h
        rcases h with rfl | h
        · refine .inl ⟨rfl, fun y hy e => ?_⟩
          rcases List.mem_cons.1 hy with rfl | hy
          · exact h2
          · exact absurd (List.mem_map.2 ⟨y, hy, e.trans hx.symm⟩) hn.1
        · exact .inr ⟨List.mem_cons_of_mem _ h, fun e => absurd (List.mem_map.2 ⟨r, h, e.trans hx.symm⟩) hn.1⟩
      · simp only [firstOf, if_pos hx, if_neg h2, List.mem_cons] at h
        rcases h with rfl | h
        · exact .inr ⟨List.mem_cons_self .., fun _ => by simpa using h2⟩
        · exact .inr ⟨List.mem_cons_of_mem _ h, fun e => absurd (List.mem_map.2 ⟨r, h, e.trans hx.symm⟩) hn.1⟩
    · simp only [firstOf, if_neg hx, List.mem_cons] at h
      rcases h with rfl | h
      · exact .inr ⟨List.mem_cons_self .., fun e => absurd e hx⟩
      · rcases firstOf_mem hn.2 h with ⟨e, h1⟩ | ⟨h1, h2⟩
        · refine .inl ⟨e, fun y hy e2 => ?_⟩
          rcases List.mem_cons.1 hy with rfl | hy
          · exact absurd e2 hx
          · exact h1 y hy e2
        · exact .inr ⟨List.mem_cons_of_mem _ h1, h2⟩
theorem Firsts.nil : Firsts [] (fun _ => False) := ⟨List.nodup_nil, by simp, fun _ h => h.elim⟩
theorem Firsts.push {nx : List (List ByteArray)} {S : List ByteArray → Prop} (h : Firsts nx S) (one : List ByteArray) : Firsts (firstOf nx one) (fun r => S r ∨ r = one) := by
  have hl := firstOf_lasts one nx
  refine ⟨?_, fun r hr => ?_, fun r' hr' => ?_⟩
  · rw [hl]
    split
    · exact h.nd
    · rename_i hn
      rw [List.nodup_append]
      exact ⟨h.nd, by simp, fun a ha b hb => by simp at hb; subst hb; exact fun e => hn (e ▸ ha)⟩
  · rcases firstOf_mem h.nd hr with ⟨rfl, h1⟩ | ⟨h1, h2⟩
    · refine ⟨.inr rfl, fun r' hr' e => ?_⟩
      rcases hr' with hr' | rfl
      · obtain ⟨x, hx, ex⟩ := h.all r' hr'
        have h3 := (h.mem x hx).2 r' hr' ex.symm
        exact lexB_le_trans (lexB_asymm (h1 x hx (ex.trans e))) h3
      · exact lexB_irrefl _
    · refine ⟨.inl (h.mem r h1).1, fun r' hr' e => ?_⟩
      rcases hr' with hr' | rfl
      · exact (h.mem r h1).2 r' hr' e
      · exact h2 e.symm
  · have : lastS r' ∈ (firstOf nx one).map lastS := by
      rw [hl]
      rcases hr' with hr' | rfl
      · obtain ⟨x, hx, ex⟩ := h.all r' hr'
        have : lastS r' ∈ nx.map lastS := List.mem_map.2 ⟨x, hx, ex⟩
        split
        · exact this
        · exact List.mem_append_left _ this
      · split
        · assumption
        · simp
    obtain ⟨r, h1, h2⟩ := List.mem_map.1 this
    exact ⟨r, h1, h2⟩
theorem Firsts.congr {nx : List (List ByteArray)} {S T : List ByteArray → Prop} (h : Firsts nx S) (e : ∀ r, S r ↔ T r) : Firsts nx T :=
  ⟨h.nd, fun r hr => ⟨(e r).1 (h.mem r hr).1, fun r' hr' => (h.mem r hr).2 r' ((e r').2 hr')⟩, fun r' hr' => h.all r' ((e r').2 hr')⟩
theorem Firsts.pushAll {x : List ByteArray} : ∀ (ps : List ByteArray) {nx : List (List ByteArray)} {S : List ByteArray → Prop}, Firsts nx S → Firsts (pushAll nx x ps) (fun r => S r ∨ ∃ p ∈ ps, r = x ++ [p])
  | [], nx, S, h => h.congr (by simp)
  | p :: ps, nx, S, h => (Firsts.pushAll ps (h.push (x ++ [p]))).congr (fun r => by simp [or_assoc])
theorem Firsts.stepAll (up : ByteArray → List ByteArray) (ls : List (List ByteArray)) : Firsts (stepAll up ls) (fun r => ∃ x ∈ ls, ∃ p ∈ up (lastS x), r = x ++ [p]) := by
  have key : ∀ (ls : List (List ByteArray)) (nx : List (List ByteArray)) (S : List ByteArray → Prop), Firsts nx S → Firsts (ls.foldl (fun nx x => Hw.pushAll nx x (up (lastS x))) nx) (fun r => S r ∨ ∃ x ∈ ls, ∃ p ∈ up (lastS x), r = x ++ [p]) := by
    intro ls
    induction ls with
    | nil => intro nx S h; exact h.congr (by simp)
    | cons x ls ih => intro nx S h; exact (ih _ _ (Firsts.pushAll _ h)).congr (fun r => by simp [or_assoc])
  exact (key ls [] _ Firsts.nil).congr (by simp)
section
variable {up : ByteArray → List ByteArray}
structure Layer (up : ByteArray → List ByteArray) (c : ByteArray) (n : Nat) (ls : List (List ByteArray)) : Prop where
  mem : ∀ r ∈ ls, LeastW up n c (lastS r) r
  all : ∀ b, Hw.reach up n c b → ∃ r ∈ ls, lastS r = b
theorem Layer.zero (c : ByteArray) : Layer up c 0 [[c]] :=
  ⟨fun r hr => by simp at hr; subst hr; exact ⟨⟨rfl, rfl⟩, fun r' h => by rw [h.2]; exact lexB_irrefl _⟩, fun b h => ⟨[c], by simp, h⟩⟩
theorem Layer.step {c : ByteArray} {n : Nat} {ls : List (List ByteArray)} (h : Layer up c n ls) : Layer up c (n + 1) (stepAll up ls) := by
  have hF := Firsts.stepAll up ls
  refine ⟨fun r hr => ?_, fun b hb => ?_⟩
  · obtain ⟨⟨x, hx, p, hp, rfl⟩, h2⟩ := hF.mem r hr
    rw [lastS_snoc] at h2 ⊢
    refine ⟨(h.mem x hx).1.snoc hp, fun r' hr' => ?_⟩
    obtain ⟨q, s, h3, h4, rfl⟩ := hr'.unsnoc
    obtain ⟨y, hy, ey⟩ := h.all q h3.reach
    have hL := h.mem y hy
    rw [ey] at hL
    have h5 := h2 (y ++ [p]) ⟨y, hy, p, by rw [ey]; exact h4, rfl⟩ (lastS_snoc _ _)
    have h6 : lexB (s ++ [p]) (y ++ [p]) = false := by rw [lexB_snoc _ _ _ (by rw [h3.len, hL.1.len])]; exact hL.2 s h3
    exact lexB_le_trans h5 h6
  · obtain ⟨r, hr⟩ := hb.wk
    obtain ⟨q, s, h3, h4, rfl⟩ := hr.unsnoc
    obtain ⟨y, hy, ey⟩ := h.all q h3.reach
    obtain ⟨z, hz, ez⟩ := hF.all (y ++ [b]) ⟨y, hy, b, by rw [ey]; exact h4, rfl⟩
    exact ⟨z, hz, ez.trans (lastS_snoc _ _)⟩
theorem furN_spec {c a : ByteArray} : ∀ (m n : Nat) (ls : List (List ByteArray)), Layer up c n ls →
    (furN up a m ls = [] ∧ ∀ j, 1 ≤ j → j ≤ m → ¬ Hw.reach up (n + j) c a) ∨ (∃ j, 1 ≤ j ∧ j ≤ m ∧ LeastW up (n + j) c a (furN up a m ls) ∧ ∀ i, 1 ≤ i → i < j → ¬ Hw.reach up (n + i) c a)
  | 0, n, ls, _ => .inl ⟨rfl, fun j h1 h2 => by omega⟩
  | m + 1, n, ls, h => by
    have hs := h.step
    simp only [furN]
    cases hf : (stepAll up ls).find? (fun x => decide (lastS x = a)) with
    | some r =>
      have h1 := List.find?_some hf
      have h2 := List.mem_of_find?_eq_some hf
      have h3 := hs.mem r h2
      rw [of_decide_eq_true h1] at h3
      exact .inr ⟨1, Nat.le_refl _, by omega, h3, fun i h4 h5 => by omega⟩
    | none =>
      have hn : ¬ Hw.reach up (n + 1) c a := fun hr => by
        obtain ⟨r, hr1, hr2⟩ := hs.all a hr
        have := List.find?_eq_none.1 hf r hr1
        simp [hr2] at this
      rcases furN_spec (a := a) m (n + 1) (stepAll up ls) hs with ⟨h1, h2⟩ | ⟨j, h1, h2, h3, h4⟩
      · refine .inl ⟨h1, fun j h3 h4 => ?_⟩
        by_cases e : j = 1
        · rw [e]; exact hn
        · have := h2 (j - 1) (by omega) (by omega)
          rwa [show n + 1 + (j - 1) = n + j by omega] at this
      · refine .inr ⟨j + 1, by omega, by omega, by rw [show n + (j + 1) = n + 1 + j by omega]; exact h3, fun i h5 h6 => ?_⟩
        by_cases e : i = 1
        · rw [e]; exact hn
        · have := h4 (i - 1) (by omega) (by omega)
          rwa [show n + 1 + (i - 1) = n + i by omega] at this
theorem furtherOf_spec {names : List ByteArray} (hup : ∀ c p, p ∈ up c → c ∈ names) (c a : ByteArray) :
    (furtherOf up names.length c a = [] ∧ ∀ n, ¬ Hw.reach up (n + 1) c a) ∨ (∃ n, LeastW up (n + 1) c a (furtherOf up names.length c a) ∧ ∀ i, i < n → ¬ Hw.reach up (i + 1) c a) := by
  rcases furN_spec (a := a) (names.length + 1) 0 [[c]] (Layer.zero c) with ⟨h1, h2⟩ | ⟨j, h1, h2, h3, h4⟩
  · refine .inl ⟨h1, fun n hn => ?_⟩
    obtain ⟨p, hp, hr⟩ := hn
    obtain ⟨n', hn', hd⟩ := dist_of_reach hup hr
    obtain ⟨h5, h6, _⟩ := distF_some.1 hd
    have := h2 (n' + 1) (by omega) (by omega)
    rw [Nat.zero_add] at this
    exact this ⟨p, hp, h6⟩
  · refine .inr ⟨j - 1, by rw [show j - 1 + 1 = 0 + j by omega]; exact h3, fun i hi => ?_⟩
    have := h4 (i + 1) (by omega) (by omega)
    rwa [Nat.zero_add] at this
theorem furtherOf_len {names : List ByteArray} {c a : ByteArray} : (furtherOf up names.length c a).length ≤ names.length + 2 := by
  rcases furN_spec (a := a) (names.length + 1) 0 [[c]] (Layer.zero c) with ⟨h1, _⟩ | ⟨j, h1, h2, h3, _⟩
  · show (furN up a (names.length + 1) [[c]]).length ≤ _
    rw [h1]; simp
  · show (furN up a (names.length + 1) [[c]]).length ≤ _
    rw [h3.1.len]; omega
end
end Go.Proofs.Ytdljclokenoogaa.Hw
end
section
namespace Go.Proofs.Ytdljclokenoogaa.Hw
open Go.RowKit Go.Proofs.Ytdljclokenoogaa.Hp Go.Proofs.YtdljclokenoogaaW.PrintWords Go.Proofs.YtdljclokenoogaaW.PrintLast Go.Proofs.YtdljclokenoogaaW.PrintMore
theorem toList_eq_iff {a b : ByteArray} : a.toList = b.toList ↔ a = b := ⟨toList_inj, fun e => e ▸ rfl⟩
theorem wrap_nat (n : Nat) (h : n < 4611686018427387904) : wrap64 ((n : Int) + 1) = ((n + 1 : Nat) : Int) := by rw [wrap64_of_range _ (by omega) (by omega)]; push_cast; rfl
theorem rd_class {l : List S61} {i : Nat} (h : i < l.length) : rd_T61 l (i : Int) = l[i] := by simp [rd_T61, h]
theorem rd_parent {l : List S65} {i : Nat} (h : i < l.length) : rd_T65 l (i : Int) = l[i] := by simp [rd_T65, h]
theorem rdOf_nat {z : ByteArray} {l : List ByteArray} {i : Nat} (h : i < l.length) : rdOf z l (i : Int) = l[i] := by simp [rdOf, h]
def idxI (l : List S61) (s : ByteArray) : Int := match idx l s with | some i => (i : Int) | none => -1
theorem idxI_neg {l : List S61} {s : ByteArray} : idxI l s < 0 ↔ idx l s = none := by
  unfold idxI
  cases idx l s with
  | none => simp
  | some i => simp
theorem index_val (l : List S61) (s : ByteArray) (hl : l.length < 4611686018427387904) (k : Nat) (hk : l.length < k) : cosignerref03_index.f k l s = some (idxI l s) := by
  have key : ∀ (d i k : Nat), l.length - i = d → i ≤ l.length → d < k → cosignerref03_index.l0 k l s (i : Int) = some (match idx (l.drop i) s with | some j => ((i + j : Nat) : Int) | none => -1) := by
    intro d
    induction d with
    | zero =>
      intro i k hd hi hk
      obtain ⟨k, rfl⟩ := Nat.exists_eq_add_of_lt hk
      have e : i = l.length := by omega
      subst e
      rw [List.drop_length]
      simp [cosignerref03_index.l0, idx]
    | succ d ih =>
      intro i k hd hi hk
      have hil : i < l.length := by omega
      cases k with
      | zero => omega
      | succ k =>
        rw [cosignerref03_index.l0, if_pos (by omega), if_pos (by omega), rd_class hil, List.drop_eq_getElem_cons hil]
        by_cases hs : l[i].f0 = s
        · rw [if_pos (by rw [hs])]
          simp [idx, hs]
        · rw [if_neg (fun e => hs (toList_inj e)), wrap_nat i (by omega), ih (i + 1) k (by omega) hil (by omega)]
          have hs' : ¬ s = l[i].f0 := fun e => hs e.symm
          rw [idx, if_neg hs']
          cases idx (l.drop (i + 1)) s with
          | none => rfl
          | some j => simp only [Option.map_some]; congr 2; omega
  have := key l.length 0 k (by omega) (by omega) hk
  rw [List.drop_zero] at this
  unfold cosignerref03_index.f idxI
  rw [show (0 : Int) = ((0 : Nat) : Int) from rfl, this]
  cases idx l s with
  | none => rfl
  | some j => simp
def parN (l : List S61) (c : ByteArray) : List ByteArray := match idx l c with | some i => (rd_T61 l (i : Int)).f3.map (·.f0) | none => []
theorem ups_parN (l : List S61) (c : ByteArray) : ups l c = (parN l c).filter (fun p => (idx l p).isSome) := by
  unfold ups parN
  cases idx l c <;> rfl
theorem parents_val (l : List S61) (c : ByteArray) (hl : l.length < 4611686018427387904) {B : Nat} (hB : B ≤ 1100000000000) (hup : ∀ x ∈ l, x.f3.length ≤ B) (k : Nat) (hk : l.length < k) (hk2 : B < k) : cosignerref03_parents.f k l c = some (parN l c) := by
  unfold cosignerref03_parents.f parN
  rw [index_val l c hl k hk, Option.bind_some]
  unfold idxI
  cases hi : idx l c with
  | none => rfl
  | some i =>
    have hil := idx_lt hi
    simp only []
    rw [if_neg (by omega), rd_class hil]
    have hm := hup _ (List.getElem_mem hil)
    have key : ∀ (d j k : Nat), l[i].f3.length - j = d → j ≤ l[i].f3.length → d < k → cosignerref03_parents.l0 k l (i : Int) ((l[i].f3.take j).map (·.f0)) (j : Int) = some (l[i].f3.map (·.f0)) := by
      intro d
      induction d with
      | zero =>
        intro j k hd hj hk
        obtain ⟨k, rfl⟩ : ∃ m, k = m + 1 := ⟨k - 1, by omega⟩
        have e : j = l[i].f3.length := by omega
        rw [cosignerref03_parents.l0, if_pos (by omega), if_pos (by omega), rd_class hil, if_neg (by omega), e, List.take_length]
      | succ d ih =>
        intro j k hd hj hk
        have hjl : j < l[i].f3.length := by omega
        cases k with
        | zero => omega
        | succ k =>
          rw [cosignerref03_parents.l0, if_pos (by omega), if_pos (by omega), rd_class hil, if_pos (by omega), if_pos (by omega), if_pos (by rw [List.length_map, List.length_take]; omega), wrap_nat j (by omega), rd_parent hjl]
          have := ih (j + 1) k (by omega) hjl (by omega)
          rw [List.take_succ_eq_append_getElem hjl, List.map_append] at this
          exact this
    have := key l[i].f3.length 0 k (by omega) (by omega) (by omega)
    simpa using this
theorem before_val (a b : List ByteArray) (ha : a.length < 4611686018427387904) (k : Nat) (hk : 2 * a.length + 2 ≤ k) : cosignerref03_Before.f k a b = some (lexB a b) := by
  have key : ∀ (d i k : Nat), a.length - i = d → i ≤ a.length → i ≤ b.length → 2 * d + 2 ≤ k → cosignerref03_Before.l0 k a b (i : Int) = some (if a.drop i = [] ∨ b.drop i = [] then decide (a.length < b.length) else lexB (a.drop i) (b.drop i)) := by
    intro d
    induction d with
    | zero =>
      intro i k hd hi hib hk
      obtain ⟨k, rfl⟩ : ∃ m, k = m + 2 := ⟨k - 2, by omega⟩
      have e : i = a.length := by omega
      rw [cosignerref03_Before.l0, if_neg (by omega), cosignerref03_Before.j1, if_neg (by decide), e, List.drop_length, if_pos (.inl rfl)]
      congr 1; exact decide_eq_decide.2 (by omega)
    | succ d ih =>
      intro i k hd hi hib hk
      have hia : i < a.length := by omega
      obtain ⟨k, rfl⟩ : ∃ m, k = m + 2 := ⟨k - 2, by omega⟩
      rw [cosignerref03_Before.l0, if_pos (by omega), cosignerref03_Before.j1]
      by_cases hb : i < b.length
      · rw [if_pos (by simpa using hb), if_pos (by omega), if_pos (by omega), if_pos (by omega), rdOf_nat hia, rdOf_nat hb, List.drop_eq_getElem_cons hia, List.drop_eq_getElem_cons hb]
        have hR : (if a[i] :: a.drop (i + 1) = [] ∨ b[i] :: b.drop (i + 1) = [] then decide (a.length < b.length) else lexB (a[i] :: a.drop (i + 1)) (b[i] :: b.drop (i + 1))) = lexB (a[i] :: a.drop (i + 1)) (b[i] :: b.drop (i + 1)) := if_neg (by rintro (h | h) <;> cases h)
        rw [hR]
        by_cases e : a[i] = b[i]
        · rw [if_pos (by rw [e]), wrap_nat i (by omega), ih (i + 1) k (by omega) hia hb (by omega)]
          simp only [lexB, if_pos e]
          by_cases h0 : a.drop (i + 1) = [] ∨ b.drop (i + 1) = []
          · rw [if_pos h0]
            have hla : (a.drop (i + 1)).length = a.length - (i + 1) := List.length_drop
            have hlb : (b.drop (i + 1)).length = b.length - (i + 1) := List.length_drop
            rcases h0 with h0 | h0
            · rw [h0] at hla ⊢
              cases hb0 : b.drop (i + 1) with
              | nil => rw [hb0] at hlb; simp at hla hlb; simp [lexB]; omega
              | cons y t => rw [hb0] at hlb; simp at hla hlb; simp [lexB]; omega
            · rw [h0] at hlb ⊢
              cases ha0 : a.drop (i + 1) with
              | nil => rw [ha0] at hla; simp at hla hlb; simp [lexB]; omega
              | cons y t => rw [ha0] at hla; simp at hla hlb; simp [lexB]; omega
          · rw [if_neg h0]
        · rw [if_neg (fun e2 => e (toList_inj e2))]
          simp only [lexB, if_neg e]; rfl
      · rw [if_neg (by simpa using hb)]
        have : b.drop i = [] := List.drop_eq_nil_of_le (by omega)
        rw [if_pos (.inr this)]
        congr 1; exact decide_eq_decide.2 (by omega)
  have := key a.length 0 k (by omega) (by omega) (by omega) hk
  unfold cosignerref03_Before.f
  rw [show (0 : Int) = ((0 : Nat) : Int) from rfl, this]
  congr 1
  simp only [List.drop_zero]
  by_cases h0 : a = [] ∨ b = []
  · rw [if_pos h0]
    rcases h0 with rfl | rfl
    · cases b <;> simp [lexB]
    · cases a <;> simp [lexB]
  · rw [if_neg h0]
end Go.Proofs.Ytdljclokenoogaa.Hw
end
section
namespace Go.Proofs.Ytdljclokenoogaa.Hw
open Go.RowKit Go.Proofs.Ytdljclokenoogaa.Hp Go.Proofs.YtdljclokenoogaaW.PrintWords Go.Proofs.YtdljclokenoogaaW.PrintLast Go.Proofs.YtdljclokenoogaaW.PrintMore
section
variable {α : Type} {enc : α → Value} {h1 : ∀ x, (enc x).oneCell' = true} {e base : Nat} {ok : Nat → Prop} {W W' : World} {u v : Value} {xs : List α}
theorem R_stays (h : (Kd.scalar enc h1).R e W base ok v xs) (hg : W.grownBy W' u.ownBlock) (hne : ∀ k, v.ownBlock = some k → u.ownBlock ≠ some k) : (Kd.scalar enc h1).R e W' base ok v xs :=
  Kd.R_of_own (own_move (Kd.own_of_R h) (fun k hk => hg.block k (Kd.R_lt h k hk) (fun e => hne k hk e.symm))) h.1
end
section
variable {P : Program} {ops : Array Oper} {o : Oper} {a : Act} {Q : Exit → Act → World → Prop} {Kc : Act → World → Prop} {α : Type} {enc : α → Value} {h1 : ∀ x, (enc x).oneCell' = true}
theorem lit0_step {w W : World} (e : Nat) (hw : Region.wanted o (yielded ops a.tmps) = true) {N : Tmp} (hd : o.dst = some N)
    (hrun : (execOp a.eval o).run P W = .ok (.value (.slice (some ⟨W.heap.size, 0, none⟩) 0 0)) (W.alloc (.cells #[] e))) (HB : Below w.heap.size w W)
    (h : ∀ v1 w1, (Kd.scalar enc h1).R e w1 w.heap.size (fun _ => True) v1 [] → Below w.heap.size w w1 → W.grownBy w1 none → (∃ b, v1.ownBlock = some b ∧ W.heap.size ≤ b) → Kc (a.put o.dst v1) w1) : if Region.wanted o (yielded ops a.tmps) = true then Oper.wp P o a W Kc Q else Kc (a.put o.dst undef) W :=
  Kd.R_lit_step (Kd.scalar enc h1) w.heap.size e hw hd (xs := []) (inner := []) (okp := fun _ => True) hrun (Reps.none _ _) (fun _ _ => trivial) trivial HB HB.size (by simp) h
theorem lit1_step {w W : World} (e : Nat) (x : α) (hw : Region.wanted o (yielded ops a.tmps) = true) {N : Tmp} (hd : o.dst = some N)
    (hrun : (execOp a.eval o).run P W = .ok (.value (.slice (some ⟨W.heap.size, 0, none⟩) 1 1)) (W.alloc (.cells #[enc x] e))) (HB : Below w.heap.size w W)
    (h : ∀ v1 w1, (Kd.scalar enc h1).R e w1 w.heap.size (fun _ => True) v1 [x] → Below w.heap.size w w1 → W.grownBy w1 none → (∃ b, v1.ownBlock = some b ∧ W.heap.size ≤ b) → Kc (a.put o.dst v1) w1) : if Region.wanted o (yielded ops a.tmps) = true then Oper.wp P o a W Kc Q else Kc (a.put o.dst undef) W :=
  Kd.R_lit_step (Kd.scalar enc h1) w.heap.size e hw hd (xs := [x]) (inner := [enc x]) (okp := fun _ => True) hrun (Reps.one rfl (Reps.none _ _)) (fun _ _ => trivial) trivial HB HB.size (by simp) h
theorem app_step {w W : World} (hw : Region.wanted o (yielded ops a.tmps) = true) (s x : Operand) (t e : TypeId) (z : Value) (bytes : Nat)
    (ho : o.op = .call { callee := .builtin .append, args := #[s, x], argTypes := #[t, t] })
    (ht : P.underlying t = some (.slice e)) (hinfo : (P.info? e).map (fun i => (i.zero, i.size, i.bytes)) = some (some z, 1, bytes)) (hz : z.cells.size = 1) (hb0 : 0 < bytes)
    (v : Value) (xs ys : List α) (A : Option Addr) (m c : Nat) (hs : a.eval s = v) (hx : a.eval x = .slice A m c)
    (HO : (Kd.scalar enc h1).R e W w.heap.size (fun _ => True) v xs) (HR : (Kd.scalar enc h1).C W A m ys)
    (HB : Below w.heap.size w W) (hl : (xs.length + m) * bytes ≤ 140737488355328)
    (h : ∀ v1 w1, (Kd.scalar enc h1).R e w1 w.heap.size (fun _ => True) v1 (xs ++ ys) → Below w.heap.size w w1 → W.grownBy w1 v.ownBlock → (v1.ownBlock = v.ownBlock ∨ ∃ b, v1.ownBlock = some b ∧ W.heap.size ≤ b) → Kc (a.put o.dst v1) w1) :
    if Region.wanted o (yielded ops a.tmps) = true then Oper.wp P o a W Kc Q else Kc (a.put o.dst undef) W :=
  Kd.R_append_rows_step (Kd.scalar enc h1) (w0 := w) w.heap.size hw s x t e z bytes ho ht hinfo hz Nat.one_pos hb0 v xs ys A m c (fun _ => True) (fun k => some k ≠ v.ownBlock) hs hx HO HR (fun _ _ hp => hp) (fun _ hk => ⟨trivial, hk⟩) (fun _ _ => trivial) HB HB.size hl h
theorem lit0_l {w W : World} {rest : List Oper} (e : Nat) (hg : o.guard = none) {N : Tmp} (hd : o.dst = some N)
    (hrun : (execOp a.eval o).run P W = .ok (.value (.slice (some ⟨W.heap.size, 0, none⟩) 0 0)) (W.alloc (.cells #[] e))) (HB : Below w.heap.size w W)
    (h : ∀ v1 w1, (Kd.scalar enc h1).R e w1 w.heap.size (fun _ => True) v1 [] → Below w.heap.size w w1 → W.grownBy w1 none → (∃ b, v1.ownBlock = some b ∧ W.heap.size ≤ b) → wpList P ops Q rest (a.put o.dst v1) w1) : wpList P ops Q (o :: rest) a W :=
  Kd.R_lit (Kd.scalar enc h1) w.heap.size e hg hd (xs := []) (inner := []) (okp := fun _ => True) hrun (Reps.none _ _) (fun _ _ => trivial) trivial HB HB.size (by simp) h
theorem lit1_l {w W : World} {rest : List Oper} (e : Nat) (x : α) (hg : o.guard = none) {N : Tmp} (hd : o.dst = some N)
    (hrun : (execOp a.eval o).run P W = .ok (.value (.slice (some ⟨W.heap.size, 0, none⟩) 1 1)) (W.alloc (.cells #[enc x] e))) (HB : Below w.heap.size w W)
    (h : ∀ v1 w1, (Kd.scalar enc h1).R e w1 w.heap.size (fun _ => True) v1 [x] → Below w.heap.size w w1 → W.grownBy w1 none → (∃ b, v1.ownBlock = some b ∧ W.heap.size ≤ b) → wpList P ops Q rest (a.put o.dst v1) w1) : wpList P ops Q (o :: rest) a W :=
  Kd.R_lit (Kd.scalar enc h1) w.heap.size e hg hd (xs := [x]) (inner := [enc x]) (okp := fun _ => True) hrun (Reps.one rfl (Reps.none _ _)) (fun _ _ => trivial) trivial HB HB.size (by simp) h
theorem app_l {w W : World} {rest : List Oper} (hg : o.guard = none) (s x : Operand) (t e : TypeId) (z : Value) (bytes : Nat)
    (ho : o.op = .call { callee := .builtin .append, args := #[s, x], argTypes := #[t, t] })
    (ht : P.underlying t = some (.slice e)) (hinfo : (P.info? e).map (fun i => (i.zero, i.size, i.bytes)) = some (some z, 1, bytes)) (hz : z.cells.size = 1) (hb0 : 0 < bytes)
    (v : Value) (xs ys : List α) (A : Option Addr) (m c : Nat) (hs : a.eval s = v) (hx : a.eval x = .slice A m c)
    (HO : (Kd.scalar enc h1).R e W w.heap.size (fun _ => True) v xs) (HR : (Kd.scalar enc h1).C W A m ys)
    (HB : Below w.heap.size w W) (hl : (xs.length + m) * bytes ≤ 140737488355328)
    (h : ∀ v1 w1, (Kd.scalar enc h1).R e w1 w.heap.size (fun _ => True) v1 (xs ++ ys) → Below w.heap.size w w1 → W.grownBy w1 v.ownBlock → (v1.ownBlock = v.ownBlock ∨ ∃ b, v1.ownBlock = some b ∧ W.heap.size ≤ b) → wpList P ops Q rest (a.put o.dst v1) w1) :
    wpList P ops Q (o :: rest) a W :=
  Kd.R_append_rows (Kd.scalar enc h1) (w0 := w) w.heap.size hg s x t e z bytes ho ht hinfo hz Nat.one_pos hb0 v xs ys A m c (fun _ => True) (fun k => some k ≠ v.ownBlock) hs hx HO HR (fun _ _ hp => hp) (fun _ hk => ⟨trivial, hk⟩) (fun _ _ => trivial) HB HB.size hl h
end
end Go.Proofs.Ytdljclokenoogaa.Hw
end
section
namespace Go.Proofs.Ytdljclokenoogaa.Hw
open Go.RowKit Go.Proofs.Ytdljclokenoogaa.Hp Go.Proofs.YtdljclokenoogaaW.PrintWords Go.Proofs.YtdljclokenoogaaW.PrintLast Go.Proofs.YtdljclokenoogaaW.PrintMore
theorem info_rr : (Try.prog.info? 25).map (fun i => (i.zero, i.size, i.bytes)) = some (some (.slice none 0 0), 1, 24) := by kernel_rfl
structure Lists (W : World) (base : Nat) (vs : List Sl) (xss : List (List ByteArray)) : Prop where
  len : vs.length = xss.length
  row : ∀ i, i < xss.length → Row W base (fun _ => True) (encSl (vs.getD i nilSl)) (xss.getD i [])
theorem Lists.later {W W' : World} {base : Nat} {vs : List Sl} {xss : List (List ByteArray)} (h : Lists W base vs xss) (hb : Below W.heap.size W W') : Lists W' base vs xss := ⟨h.len, fun i hi => (h.row i hi).later hb⟩
theorem lists_iff {W : World} {base : Nat} {vs : List Sl} {xss : List (List ByteArray)} : Lists W base vs xss ↔ vs.length = xss.length ∧ ∀ z ∈ vs.zip xss, Row W base (fun _ => True) (encSl z.1) z.2 := by
  constructor
  · rintro ⟨h1, h2⟩
    refine ⟨h1, fun z hz => ?_⟩
    obtain ⟨i, hi, rfl⟩ := List.mem_iff_getElem.1 hz
    have hi' : i < xss.length := by rw [List.length_zip] at hi; omega
    have := h2 i hi'
    simpa [List.getD_eq_getElem?_getD, hi', show i < vs.length by omega] using this
  · rintro ⟨h1, h2⟩
    refine ⟨h1, fun i hi => ?_⟩
    have hi' : i < vs.length := by omega
    have := h2 (vs[i], xss[i]) (List.mem_iff_getElem.2 ⟨i, by rw [List.length_zip]; omega, by simp⟩)
    simpa [List.getD_eq_getElem?_getD, hi, hi'] using this
theorem Lists.app {W : World} {base : Nat} {vs us : List Sl} {xss yss : List (List ByteArray)} (h : Lists W base vs xss) (k : Lists W base us yss) : Lists W base (vs ++ us) (xss ++ yss) := by
  obtain ⟨h1, h2⟩ := lists_iff.1 h
  obtain ⟨k1, k2⟩ := lists_iff.1 k
  refine lists_iff.2 ⟨by rw [List.length_append, List.length_append, h1, k1], fun z hz => ?_⟩
  rw [List.zip_append h1] at hz
  rcases List.mem_append.1 hz with hz | hz
  · exact h2 z hz
  · exact k2 z hz
theorem Lists.one {W : World} {base : Nat} {u : Sl} {x : List ByteArray} (h : Row W base (fun _ => True) (encSl u) x) : Lists W base [u] [x] := lists_iff.2 ⟨rfl, fun z hz => by simp at hz; subst hz; exact h⟩
theorem Lists.take {W : World} {base : Nat} {vs : List Sl} {xss : List (List ByteArray)} (h : Lists W base vs xss) (n : Nat) : Lists W base (vs.take n) (xss.take n) := by
  refine ⟨by simp [h.len], fun i hi => ?_⟩
  rw [List.length_take] at hi
  have := h.row i (by omega)
  simpa [List.getD_eq_getElem?_getD, List.getElem?_take, show i < n by omega] using this
theorem Lists.drop {W : World} {base : Nat} {vs : List Sl} {xss : List (List ByteArray)} (h : Lists W base vs xss) (n : Nat) : Lists W base (vs.drop n) (xss.drop n) := by
  refine ⟨by simp [h.len], fun i hi => ?_⟩
  rw [List.length_drop] at hi
  have := h.row (n + i) (by omega)
  simpa [List.getD_eq_getElem?_getD, List.getElem?_drop] using this
theorem at_Sl {w : World} {A : Option Addr} {vs : List Sl} (h : kSl.C w A vs.length vs) {i : Nat} (hi : i < vs.length) : ∃ ad, A = some ad ∧ w.cell? (ad.add i) = some (encSl (vs.getD i nilSl)) := by
  obtain ⟨ad, c, e, hl, hK, hc⟩ := Kd.C_get h nilSl (i : Int) (by omega) (by omega)
  rw [Int.toNat_natCast] at hK hc
  have hK' : c = [encSl (vs.getD i nilSl)] := hK
  subst hK'
  have := hc 0 _ rfl
  rw [show kSl.sz = 1 from rfl, Nat.mul_one, Nat.add_zero] at this
  exact ⟨ad, e, this⟩
theorem firstOf_at {one : List ByteArray} : ∀ {xss : List (List ByteArray)} {i : Nat}, i < xss.length → (∀ j, j < i → lastS (xss.getD j []) ≠ lastS one) → lastS (xss.getD i []) = lastS one → firstOf xss one = if lexB one (xss.getD i []) then xss.take i ++ [one] ++ xss.drop (i + 1) else xss
  | x :: xss, 0, _, _, h => by
    simp only [List.getD_cons_zero] at h ⊢
    simp only [firstOf, if_pos h]
    split <;> simp
  | x :: xss, i + 1, hi, h1, h2 => by
    have h0 := h1 0 (by omega)
    simp only [List.getD_cons_zero] at h0
    have := firstOf_at (one := one) (xss := xss) (i := i) (by simpa using hi) (fun j hj => by have := h1 (j + 1) (by omega); simpa using this) (by simpa using h2)
    simp only [firstOf, if_neg h0, this, List.getD_cons_succ]
    split <;> simp
theorem firstOf_none {one : List ByteArray} : ∀ {xss : List (List ByteArray)}, (∀ j, j < xss.length → lastS (xss.getD j []) ≠ lastS one) → firstOf xss one = xss ++ [one]
  | [], _ => rfl
  | x :: xss, h => by
    have h0 := h 0 (by simp)
    simp only [List.getD_cons_zero] at h0
    have := firstOf_none (one := one) (xss := xss) (fun j hj => by have := h (j + 1) (by simpa using hj); simpa using this)
    simp only [firstOf, if_neg h0, this, List.cons_append]
theorem addr_at (g n : Nat) : (⟨g, 0, none⟩ : Addr).add n = ⟨g, n, none⟩ := by
  unfold Addr.add
  split
  · rename_i h; rw [h]
  · simp
theorem lastS_get {x : List ByteArray} (h : x ≠ []) : lastS x = nth x (x.length - 1) := by
  have := List.length_pos_iff.2 h
  simp [lastS, nth, List.getLastD_eq_getLast?, List.getLast?_eq_getElem?]
  rfl
set_option maxHeartbeats 16000000 in
set_option maxRecDepth 100000 in
theorem first_calls (A0 : Option Addr) (c0 : Nat) (vs : List Sl) (xss : List (List ByteArray)) (u1 : Sl) (one : List ByteArray) (base : Nat) (w : World) (hr0 : kSl.C w A0 vs.length vs) (hc0 : vs.length ≤ c0) (hL : Lists w base vs xss) (h1 : Row w base (fun _ => True) (encSl u1) one)
    (hone : one ≠ []) (hne : ∀ x ∈ xss, x ≠ []) (hl : xss.length ≤ 1000000) (hlx : ∀ x ∈ xss, x.length ≤ 1000000) (hl1 : one.length ≤ 1000000) :
    Calls Try.prog 110 #[.slice A0 vs.length c0, encSl u1] w fun e w' => ∃ A c vs', e = .returned (.slice A vs'.length c) ∧ vs'.length ≤ c ∧ kSl.C w' A vs'.length vs' ∧ Lists w' base vs' (firstOf xss one) ∧ Below w.heap.size w w' := by
  obtain ⟨i0, hi0, _, hsz0, _⟩ := info_parts info_rr
  obtain ⟨g1, c1, e1⟩ := h1.form hone
  obtain ⟨_, m1, _, e2, hc1, hC1⟩ : ∃ A m c, encSl u1 = .slice A m c ∧ one.length ≤ c ∧ Kd.string.C w (some ⟨g1, 0, none⟩) one.length one := by
    obtain ⟨A, c, e, h2, h3⟩ := h1.reads
    rw [e1] at e; cases e
    exact ⟨_, _, _, e1, h2, h3⟩
  rw [e1] at e2
  cases e2
  obtain ⟨a9, m9, c9⟩ := u1
  cases e1
  have H1 := Lib.hid h1
  have HC1 := Lib.hid hC1
  have HL := Lib.hid hL
  have HR0 := Lib.hid hr0
  have hlen := hL.len
  have hp1 : 0 < one.length := List.length_pos_iff.2 hone
  have HNE := Lib.hid hne
  have HLX := Lib.hid hlx
  clear h1 hC1 hL hr0 hne hlx
  unfold encSl
  go_enter Try.func110, Try.ntmps110
  go_wp2
  go_loopg [5] xss.length (fun kq v5 w' => ∃ (i : Nat), v5 = .int .i64 (i : Int) ∧ i ≤ xss.length ∧ Aside0 (∀ j, j < i → lastS (xss.getD j []) ≠ lastS one) ∧ kq = xss.length - i ∧ Aside0 (Below w.heap.size w w'))
  case atStart => exact ⟨0, rfl, Nat.zero_le _, ⟨fun j h => absurd h (Nat.not_lt_zero j)⟩, rfl, ⟨Below.refl _ _⟩⟩
  case round =>
    obtain ⟨i, rfl, hi, hall, hk, hB⟩ := hrel
    have c4b : (0 : Int) ≤ (i : Int) := by omega
    by_cases c3 : i < xss.length
    · have c3b : (i : Int) < (vs.length : Int) := by omega
      obtain ⟨ad, e, hx⟩ := at_Sl (Kd.C_below HR0.out hB.out) (show i < vs.length by omega)
      subst e
      obtain ⟨x, hxe⟩ : ∃ x, xss.getD i [] = x := ⟨_, rfl⟩
      have hxm : x ∈ xss := by rw [← hxe, List.getD_eq_getElem?_getD, List.getElem?_eq_getElem c3]; exact List.getElem_mem c3
      have hxn := HNE.out x hxm
      have hxl := HLX.out x hxm
      have hrow := (HL.out.row i c3).later hB.out
      rw [hxe] at hrow
      obtain ⟨gx, cx, ex⟩ := hrow.form hxn
      obtain ⟨Ax, cx', ex', hcx, hCx⟩ := hrow.reads
      rw [ex] at ex' hx
      cases ex'
      have hpx : 0 < x.length := List.length_pos_iff.2 hxn
      obtain ⟨_, ea, hy⟩ := at_s hCx (x.length - 1) (by omega)
      cases ea
      obtain ⟨_, ea, hz⟩ := at_s (Kd.C_below HC1.out hB.out) (one.length - 1) (by omega)
      cases ea
      rw [← lastS_get hxn] at hy
      rw [← lastS_get hone] at hz
      have ay : (⟨gx, 0, none⟩ : Addr).add (x.length - 1) = ⟨gx, x.length - 1, none⟩ := addr_at gx _
      have az : (⟨g1, 0, none⟩ : Addr).add (one.length - 1) = ⟨g1, one.length - 1, none⟩ := addr_at g1 _
      rw [ay] at hy
      rw [az] at hz
      have hwx : IntKind.i64.wrap ((x.length : Int) - 1) = ((x.length - 1 : Nat) : Int) := by rw [Go.IntWalk.i64_in _ ⟨by omega, by omega⟩]; omega
      have hw1 : IntKind.i64.wrap ((one.length : Int) - 1) = ((one.length - 1 : Nat) : Int) := by rw [Go.IntWalk.i64_in _ ⟨by omega, by omega⟩]; omega
      have hbx : ((x.length - 1 : Nat) : Int) < (x.length : Int) := by omega
      have hb1 : ((one.length - 1 : Nat) : Int) < (one.length : Int) := by omega
      have HCX := Lib.hid hCx
      have HROW := Lib.hid hrow
      clear hCx hrow
      go_upto_region 4 with fail
      refine start_ (n := 19) (S := fun Y => Y.cell? (ad.add i) = some (.slice (some ⟨gx, 0, none⟩) x.length cx) ∧ Y.cell? ⟨gx, x.length - 1, none⟩ = some (.string (lastS x)) ∧ Y.cell? ⟨g1, one.length - 1, none⟩ = some (.string (lastS one))) (ds := []) #[false, false, false, false, false, false, false, false, false, false, false, false, false, false, false, false, false, false, false] (by kernel_rfl) rfl rfl ⟨hx, hy, hz⟩ (fun hHeld => ?_)
      have hBd : Below w.heap.size w wr.drew := hB.out.drew
      have hBdr : Below wr.heap.size wr wr.drew := (Below.refl _ _).drew
      generalize wr.drew = w2 at hBd hBdr hHeld ⊢
      refine pure_ (i := 0) (N := some 13) (v := ?_) (a' := ?_) #[true, false, false, false, false, false, false, false, false, false, false, false, false, false, false, false, false, false, false] rfl rfl (by kernel_rfl) (fun _ _ _ h => h) (Or.inl ⟨by rfl, ?_⟩) ?_ ?_
      rotate_left
      · intro w'; go_simp <;> (with_reducible rfl)
      rotate_left
      · simp only [Act.put, List.setIfInBounds_toArray, List.set_cons_zero, List.set_cons_succ]; rfl
      refine pure_ (i := 1) (N := some 14) (v := ?_) (a' := ?_) #[true, true, false, false, false, false, false, false, false, false, false, false, false, false, false, false, false, false, false] rfl rfl (by kernel_rfl) (fun _ _ _ h => h) (Or.inl ⟨by rfl, ?_⟩) ?_ ?_
      rotate_left
      · intro w'; go_simp <;> (with_reducible rfl)
      rotate_left
      · simp only [Act.put, List.setIfInBounds_toArray, List.set_cons_zero, List.set_cons_succ]; rfl
      refine pure_ (i := 2) (N := some 15) (v := ?_) (a' := ?_) #[true, true, true, false, false, false, false, false, false, false, false, false, false, false, false, false, false, false, false] rfl rfl (by kernel_rfl) (fun _ _ _ h => h) (Or.inl ⟨by rfl, ?_⟩) ?_ ?_
      rotate_left
      · intro w'; go_simp <;> (with_reducible rfl)
      rotate_left
      · simp only [Act.put, List.setIfInBounds_toArray, List.set_cons_zero, List.set_cons_succ]; rfl
      refine take_ (i := 3) (N := some 16) (v := ?_) (a' := ?_) #[true, true, true, true, false, false, false, false, false, false, false, false, false, false, false, false, false, false, false] rfl rfl (by kernel_rfl) (fun _ _ _ h => h) (Or.inl ⟨by rfl, ?_⟩) hHeld ?_ ?_
      rotate_left
      · rintro w' ⟨s0, s1, s2⟩; go_simp <;> (with_reducible rfl)
      rotate_left
      · simp only [Act.put, List.setIfInBounds_toArray, List.set_cons_zero, List.set_cons_succ]; rfl
      refine pure_ (i := 4) (N := some 17) (v := ?_) (a' := ?_) #[true, true, true, true, true, false, false, false, false, false, false, false, false, false, false, false, false, false, false] rfl rfl (by kernel_rfl) (fun _ _ _ h => h) (Or.inl ⟨by rfl, ?_⟩) ?_ ?_
      rotate_left
      · intro w'; go_simp <;> (with_reducible rfl)
      rotate_left
      · simp only [Act.put, List.setIfInBounds_toArray, List.set_cons_zero, List.set_cons_succ]; rfl
      refine pure_ (i := 5) (N := some 18) (v := ?_) (a' := ?_) #[true, true, true, true, true, true, false, false, false, false, false, false, false, false, false, false, false, false, false] rfl rfl (by kernel_rfl) (fun _ _ _ h => h) (Or.inl ⟨by rfl, ?_⟩) ?_ ?_
      rotate_left
      · intro w'; go_simp <;> (with_reducible rfl)
      rotate_left
      · simp only [Act.put, List.setIfInBounds_toArray, List.set_cons_zero, List.set_cons_succ]; rfl
      refine pure_ (i := 6) (N := some 19) (v := ?_) (a' := ?_) #[true, true, true, true, true, true, true, false, false, false, false, false, false, false, false, false, false, false, false] rfl rfl (by kernel_rfl) (fun _ _ _ h => h) (Or.inl ⟨by rfl, ?_⟩) ?_ ?_
      rotate_left
      · intro w'; go_simp <;> (with_reducible rfl)
      rotate_left
      · simp only [Act.put, List.setIfInBounds_toArray, List.set_cons_zero, List.set_cons_succ]; rfl
      refine take_ (i := 7) (N := some 20) (v := ?_) (a' := ?_) #[true, true, true, true, true, true, true, true, false, false, false, false, false, false, false, false, false, false, false] rfl rfl (by kernel_rfl) (fun _ _ _ h => h) (Or.inl ⟨by rfl, ?_⟩) hHeld ?_ ?_
      rotate_left
      · rintro w' ⟨s0, s1, s2⟩; go_simp <;> (with_reducible rfl)
      rotate_left
      · simp only [Act.put, List.setIfInBounds_toArray, List.set_cons_zero, List.set_cons_succ]; rfl
      refine pure_ (i := 8) (N := some 21) (v := ?_) (a' := ?_) #[true, true, true, true, true, true, true, true, true, false, false, false, false, false, false, false, false, false, false] rfl rfl (by kernel_rfl) (fun _ _ _ h => h) (Or.inl ⟨by rfl, ?_⟩) ?_ ?_
      rotate_left
      · intro w'; go_simp <;> (with_reducible rfl)
      rotate_left
      · simp only [Act.put, List.setIfInBounds_toArray, List.set_cons_zero, List.set_cons_succ]; rfl
      refine pure_ (i := 9) (N := some 22) (v := ?_) (a' := ?_) #[true, true, true, true, true, true, true, true, true, true, false, false, false, false, false, false, false, false, false] rfl rfl (by kernel_rfl) (fun _ _ _ h => h) (Or.inl ⟨by rfl, ?_⟩) ?_ ?_
      rotate_left
      · intro w'; go_simp <;> (with_reducible rfl)
      rotate_left
      · simp only [Act.put, List.setIfInBounds_toArray, List.set_cons_zero, List.set_cons_succ]; rfl
      refine pure_ (i := 10) (N := some 23) (v := ?_) (a' := ?_) #[true, true, true, true, true, true, true, true, true, true, true, false, false, false, false, false, false, false, false] rfl rfl (by kernel_rfl) (fun _ _ _ h => h) (Or.inl ⟨by rfl, ?_⟩) ?_ ?_
      rotate_left
      · intro w'; go_simp <;> (with_reducible rfl)
      rotate_left
      · simp only [Act.put, List.setIfInBounds_toArray, List.set_cons_zero, List.set_cons_succ]; rfl
      refine take_ (i := 11) (N := some 24) (v := ?_) (a' := ?_) #[true, true, true, true, true, true, true, true, true, true, true, true, false, false, false, false, false, false, false] rfl rfl (by kernel_rfl) (fun _ _ _ h => h) (Or.inl ⟨by rfl, ?_⟩) hHeld ?_ ?_
      rotate_left
      · rintro w' ⟨s0, s1, s2⟩; go_simp <;> (with_reducible rfl)
      rotate_left
      · simp only [Act.put, List.setIfInBounds_toArray, List.set_cons_zero, List.set_cons_succ]; rfl
      refine pure_ (i := 12) (N := some 25) (v := ?_) (a' := ?_) #[true, true, true, true, true, true, true, true, true, true, true, true, true, false, false, false, false, false, false] rfl rfl (by kernel_rfl) (fun _ _ _ h => h) (Or.inl ⟨by rfl, ?_⟩) ?_ ?_
      rotate_left
      · intro w'; go_simp <;> (with_reducible rfl)
      rotate_left
      · simp only [Act.put, List.setIfInBounds_toArray, List.set_cons_zero, List.set_cons_succ]; rfl
      refine pure_ (i := 13) (N := some 26) (v := ?_) (a' := ?_) #[true, true, true, true, true, true, true, true, true, true, true, true, true, true, false, false, false, false, false] rfl rfl (by kernel_rfl) (fun _ _ _ h => h) (Or.inl ⟨by rfl, ?_⟩) ?_ ?_
      rotate_left
      · intro w'; go_simp <;> (with_reducible rfl)
      rotate_left
      · simp only [Act.put, List.setIfInBounds_toArray, List.set_cons_zero, List.set_cons_succ]; rfl
      refine pure_ (i := 14) (N := some 27) (v := ?_) (a' := ?_) #[true, true, true, true, true, true, true, true, true, true, true, true, true, true, true, false, false, false, false] rfl rfl (by kernel_rfl) (fun _ _ _ h => h) (Or.inl ⟨by rfl, ?_⟩) ?_ ?_
      rotate_left
      · intro w'; go_simp <;> (with_reducible rfl)
      rotate_left
      · simp only [Act.put, List.setIfInBounds_toArray, List.set_cons_zero, List.set_cons_succ]; rfl
      refine pure_ (i := 15) (N := some 28) (v := ?_) (a' := ?_) #[true, true, true, true, true, true, true, true, true, true, true, true, true, true, true, true, false, false, false] rfl rfl (by kernel_rfl) (fun _ _ _ h => h) (Or.inl ⟨by rfl, ?_⟩) ?_ ?_
      rotate_left
      · intro w'; go_simp <;> (with_reducible rfl)
      rotate_left
      · simp only [Act.put, List.setIfInBounds_toArray, List.set_cons_zero, List.set_cons_succ]; rfl
      refine pure_ (i := 16) (N := some 29) (v := ?_) (a' := ?_) #[true, true, true, true, true, true, true, true, true, true, true, true, true, true, true, true, true, false, false] rfl rfl (by kernel_rfl) (fun _ _ _ h => h) (Or.inl ⟨by rfl, ?_⟩) ?_ ?_
      rotate_left
      · intro w'; go_simp <;> (with_reducible rfl)
      rotate_left
      · simp only [Act.put, List.setIfInBounds_toArray, List.set_cons_zero, List.set_cons_succ]; rfl
      refine take_ (i := 17) (N := some 30) (v := ?_) (a' := ?_) #[true, true, true, true, true, true, true, true, true, true, true, true, true, true, true, true, true, true, false] rfl rfl (by kernel_rfl) (fun _ _ _ h => h) (Or.inl ⟨by rfl, ?_⟩) hHeld ?_ ?_
      rotate_left
      · rintro w' ⟨s0, s1, s2⟩; go_simp <;> (with_reducible rfl)
      rotate_left
      · simp only [Act.put, List.setIfInBounds_toArray, List.set_cons_zero, List.set_cons_succ]; rfl
      refine pure_ (i := 18) (N := some 31) (v := ?_) (a' := ?_) #[true, true, true, true, true, true, true, true, true, true, true, true, true, true, true, true, true, true, true] rfl rfl (by kernel_rfl) (fun _ _ _ h => h) (Or.inl ⟨by rfl, ?_⟩) ?_ ?_
      rotate_left
      · intro w'; go_simp <;> (with_reducible rfl)
      rotate_left
      · simp only [Act.put, List.setIfInBounds_toArray, List.set_cons_zero, List.set_cons_succ]; rfl
      refine done_ (by kernel_rfl) ?_
      by_cases he : lastS x = lastS one
      · have hbe : ((lastS x).toList == (lastS one).toList) = true := by rw [he]; exact beq_self_eq_true _
        rw [hbe]
        have hfo := firstOf_at c3 hall.out (by rw [hxe]; exact he)
        rw [hxe] at hfo
        have HFO := Lib.hid hfo
        clear hfo he
        have hbv := before_val one x (by omega) (2 * one.length + 2) (Nat.le_refl _)
        cases hb : lexB one x with
        | true =>
          rw [hb] at hbv
          have hfo2 := HFO.out
          rw [hb, if_pos rfl] at hfo2
          have HFO2 := Lib.hid hfo2
          clear hfo2
          have hcc := hc0
          have HCt := Lib.hid (Kd.C_take HR0.out (show i ≤ vs.length by omega))
          have HCd := Lib.hid (Kd.C_drop (c := c0) HR0.out (show i + 1 ≤ vs.length by omega) hc0)
          have hlt : (vs.take i).length = i := by rw [List.length_take]; omega
          have hld : (vs.drop (i + 1)).length = vs.length - (i + 1) := List.length_drop
          have hsz1 : kSl.sz = 1 := rfl
          rw [hlt] at HCt
          rw [hld, hsz1, hlen] at HCd
          have hcut1 := cut_to (P := Try.prog) 32 25 .i64 Try.underlying32 hi0 (some ad) vs.length c0 (i : Int) (by omega) (by omega) hc0
          have hcut2 := cut_from (P := Try.prog) 32 25 .i64 Try.underlying32 hi0 1 hsz0 (some ad) vs.length c0 ((i : Int) + 1) (by omega) (by omega)
          have ht1 : ((i : Int) + 1).toNat = i + 1 := by omega
          rw [Int.toNat_natCast] at hcut1
          rw [ht1] at hcut2
          clear ht1
          have hwi : IntKind.i64.wrap ((i : Int) + 1) = (i : Int) + 1 := Go.IntWalk.i64_in _ ⟨by omega, by omega⟩
          obtain ⟨AD, hAD⟩ : ∃ AD, (if c0 = i + 1 then some ad else (some ad : Option Addr).map (·.add ((i + 1) * 1))) = AD := ⟨_, rfl⟩
          rw [hAD] at hcut2 HCd
          clear hAD hsz1
          rw [hlen] at hcut1 hcut2
          go_upto_region 7 with (first | (go_at_call 94; refine (cosignerref03_Before.calls _ _ _ one _ _ x true _ (Kd.C_below HC1.out hBd) hc1 (Kd.C_below HCX.out hBdr) hcx hbv).mono ?_; rintro e w3 ⟨rfl, ⟨nd, rfl⟩⟩))
          have hwB0 : Below w.heap.size w (w2.drewN nd).drew := (pw_below_drewN hBd nd).drew
          refine start_ (n := 14) (S := fun _ => True) (ds := []) #[false, false, false, false, false, false, false, false, false, false, false, false, false, false] (by kernel_rfl) rfl rfl trivial (fun hHeld => ?_)
          generalize (w2.drewN nd).drew = w8 at hwB0 hHeld ⊢
          have hwB := hwB0
          clear hHeld
          refine pure_ (i := 1) (N := some 40) (v := ?_) (a' := ?_) #[false, true, false, false, false, false, false, false, false, false, false, false, false, false] rfl rfl (by kernel_rfl) (fun _ _ _ h => h) (Or.inl ⟨by rfl, ?_⟩) ?_ ?_
          rotate_left
          · intro w'; go_simp <;> (with_reducible rfl)
          rotate_left
          · simp only [Act.put, List.setIfInBounds_toArray, List.set_cons_zero, List.set_cons_succ]; rfl
          refine pure_ (i := 2) (N := some 41) (v := ?_) (a' := ?_) #[false, true, true, false, false, false, false, false, false, false, false, false, false, false] rfl rfl (by kernel_rfl) (fun _ _ _ h => h) (Or.inl ⟨by rfl, ?_⟩) ?_ ?_
          rotate_left
          · intro w'; go_simp <;> (with_reducible rfl)
          rotate_left
          · simp only [Act.put, List.setIfInBounds_toArray, List.set_cons_zero, List.set_cons_succ]; rfl
          refine pure_ (i := 3) (N := some 42) (v := ?_) (a' := ?_) #[false, true, true, true, false, false, false, false, false, false, false, false, false, false] rfl rfl (by kernel_rfl) (fun _ _ _ h => h) (Or.inl ⟨by rfl, ?_⟩) ?_ ?_
          rotate_left
          · intro w'; go_simp <;> (with_reducible rfl)
          rotate_left
          · simp only [Act.put, List.setIfInBounds_toArray, List.set_cons_zero, List.set_cons_succ]; rfl
          refine pure_ (i := 5) (N := some 44) (v := ?_) (a' := ?_) #[false, true, true, true, false, true, false, false, false, false, false, false, false, false] rfl rfl (by kernel_rfl) (fun _ _ _ h => h) (Or.inl ⟨by rfl, ?_⟩) ?_ ?_
          rotate_left
          · intro w'; go_simp <;> (with_reducible rfl)
          rotate_left
          · simp only [Act.put, List.setIfInBounds_toArray, List.set_cons_zero, List.set_cons_succ]; rfl
          refine pure_ (i := 8) (N := some 47) (v := ?_) (a' := ?_) #[false, true, true, true, false, true, false, false, true, false, false, false, false, false] rfl rfl (by kernel_rfl) (fun _ _ _ h => h) (Or.inl ⟨by rfl, ?_⟩) ?_ ?_
          rotate_left
          · intro w'; go_simp <;> (with_reducible rfl)
          rotate_left
          · simp only [Act.put, List.setIfInBounds_toArray, List.set_cons_zero, List.set_cons_succ]; rfl
          refine pure_ (i := 9) (N := some 48) (v := ?_) (a' := ?_) #[false, true, true, true, false, true, false, false, true, true, false, false, false, false] rfl rfl (by kernel_rfl) (fun _ _ _ h => h) (Or.inl ⟨by rfl, ?_⟩) ?_ ?_
          rotate_left
          · intro w'; go_simp <;> (with_reducible rfl)
          rotate_left
          · simp only [Act.put, List.setIfInBounds_toArray, List.set_cons_zero, List.set_cons_succ]; rfl
          refine pure_ (i := 10) (N := some 49) (v := ?_) (a' := ?_) #[false, true, true, true, false, true, false, false, true, true, true, false, false, false] rfl rfl (by kernel_rfl) (fun _ _ _ h => h) (Or.inl ⟨by rfl, ?_⟩) ?_ ?_
          rotate_left
          · intro w'; go_simp <;> (with_reducible rfl)
          rotate_left
          · simp only [Act.put, List.setIfInBounds_toArray, List.set_cons_zero, List.set_cons_succ]; rfl
          refine pure_ (i := 11) (N := some 50) (v := ?_) (a' := ?_) #[false, true, true, true, false, true, false, false, true, true, true, true, false, false] rfl rfl (by kernel_rfl) (fun _ _ _ h => h) (Or.inl ⟨by rfl, ?_⟩) ?_ ?_
          rotate_left
          · intro w'; go_simp <;> (with_reducible rfl)
          rotate_left
          · simp only [Act.put, List.setIfInBounds_toArray, List.set_cons_zero, List.set_cons_succ]; rfl
          refine join_ (σ := Value × Value × Value × Value) 2 #[true, true, true, true, true, true, true, true, true, true, true, true, false, false] (fun s_ => [(39, s_.1), (43, s_.2.1), (45, s_.2.2.1), (46, s_.2.2.2)]) (fun s_ w' => (Kd.scalar encSl (fun _ => rfl)).R 25 w' w.heap.size (fun _ => True) s_.2.2.2 ((vs.take i) ++ [(some ⟨g1, 0, none⟩, one.length, c9)]) ∧ Below w.heap.size w w') ?_ ?_
          · rintro ⟨s1, s2, s3, s4⟩ w5 ⟨hR4, HB⟩
            refine norm_ (a' := ?_) ?_ ?_
            rotate_left
            · simp only [putAll, Act.put, List.setIfInBounds_toArray, List.set_cons_zero, List.set_cons_succ]; rfl
            refine one_ (i := 12) (N := some 51) #[true, true, true, true, true, true, true, true, true, true, true, true, true, false] rfl rfl (by kernel_rfl) (by decide) (fun K hK => ?_)
            refine app_step (enc := encSl) (h1 := fun _ => rfl) (by rfl) (.tmp 46) (.tmp 50) 32 25 (.slice none 0 0) 24 rfl Try.underlying32 info_rr rfl (by decide) s4 ((vs.take i) ++ [(some ⟨g1, 0, none⟩, one.length, c9)]) (vs.drop (i + 1)) AD (xss.length - (i + 1)) (c0 - (i + 1)) rfl rfl hR4 (Kd.C_below HCd.out HB) HB (by rw [List.length_append, hlt]; simp; omega) ?_
            intro v6 w6 hR6 hB6 hG6 hat6
            refine hK.out _ _ trivial (fun hHeld => ?_)
            clear hK K
            refine norm_ (a' := ?_) ?_ ?_
            rotate_left
            · show Act.put _ (some 51) _ = _; simp only [Act.put, List.setIfInBounds_toArray, List.set_cons_zero, List.set_cons_succ]; rfl
            refine pure_ (i := 13) (N := some 4) (v := ?_) (a' := ?_) #[true, true, true, true, true, true, true, true, true, true, true, true, true, true] rfl rfl (by kernel_rfl) (fun _ _ _ h => h) (Or.inl ⟨by rfl, ?_⟩) ?_ ?_
            rotate_left
            · intro w'; go_simp <;> (with_reducible rfl)
            rotate_left
            · simp only [Act.put, List.setIfInBounds_toArray, List.set_cons_zero, List.set_cons_succ]; rfl
            refine done_ (by kernel_rfl) ?_
            have hR6' : kSl.R 25 w6 w.heap.size (fun _ => True) v6 (vs.take i ++ [(some ⟨g1, 0, none⟩, one.length, c9)] ++ vs.drop (i + 1)) := hR6
            have HLS := Lib.hid (Lists.later (((HL.out.take i).app (Lists.one H1.out)).app (HL.out.drop (i + 1))) hB6)
            rw [← HFO2.out] at HLS
            obtain ⟨vs6, hvs6⟩ : ∃ z, vs.take i ++ [(some ⟨g1, 0, none⟩, one.length, c9)] ++ vs.drop (i + 1) = z := ⟨_, rfl⟩
            rw [hvs6] at hR6' HLS
            clear hvs6 hR6
            obtain ⟨A6, c6, e6, hc6, hC6⟩ := Kd.R_reads hR6'
            cases e6
            go_wp2
            go_ret
            exact ⟨A6, c6, vs6, rfl, hc6, hC6, HLS.out, hB6⟩
          · intro hCont
            refine two_ (i := 0) (j := 6) (Ni := some 39) (Nj := some 45) #[true, true, true, true, false, true, false, false, true, true, true, true, false, false] #[false, true, true, true, false, true, true, false, true, true, true, true, false, false] rfl rfl rfl rfl (by kernel_rfl) (by decide) (by decide) (fun K hK => ?_) (fun K hK => ?_)
            · have HB := hwB
              refine lit0_step (enc := encSl) (h1 := fun _ => rfl) 25 (by rfl) rfl (by first | (go_simp; done) | (go_simp; rfl)) HB ?_
              intro vE w3 hRE hBw3 hGw3 ⟨bE, hbE, hlE⟩
              refine hK.out _ _ trivial (fun hHeld => ?_)
              clear hK K
              refine norm_ (a' := ?_) ?_ ?_
              rotate_left
              · show Act.put _ (some 39) _ = _; simp only [Act.put, List.setIfInBounds_toArray, List.set_cons_zero, List.set_cons_succ]; rfl
              have HB := hBw3
              refine two_ (i := 4) (j := 6) (Ni := some 43) (Nj := some 45) #[true, true, true, true, true, true, false, false, true, true, true, true, false, false] #[true, true, true, true, false, true, true, false, true, true, true, true, false, false] rfl rfl rfl rfl (by kernel_rfl) (by decide) (by decide) (fun K hK => ?_) (fun K hK => ?_)
              · skip
                refine app_step (enc := encSl) (h1 := fun _ => rfl) (by rfl) (.tmp 39) (.tmp 42) 32 25 (.slice none 0 0) 24 rfl Try.underlying32 info_rr rfl (by decide) vE [] (vs.take i) (some ad) i c0 rfl rfl hRE (Kd.C_below HCt.out HB) HB (by simp; omega) ?_
                intro vT wT hRT hBT hGT hatT
                refine hK.out _ _ trivial (fun hHeld => ?_)
                clear hK K
                refine norm_ (a' := ?_) ?_ ?_
                rotate_left
                · show Act.put _ (some 43) _ = _; simp only [Act.put, List.setIfInBounds_toArray, List.set_cons_zero, List.set_cons_succ]; rfl
                have HB := hBT
                refine one_ (i := 6) (N := some 45) #[true, true, true, true, true, true, true, false, true, true, true, true, false, false] rfl rfl (by kernel_rfl) (by decide) (fun K hK => ?_)
                refine lit1_step (enc := encSl) (h1 := fun _ => rfl) 25 (some ⟨g1, 0, none⟩, one.length, c9) (by rfl) rfl (by first | (go_simp; done) | (go_simp; rfl)) HB ?_
                intro vO w7 hRO hBw7 hGw7 ⟨bO, hbO, hlO⟩
                refine hK.out _ _ trivial (fun hHeld => ?_)
                clear hK K
                refine norm_ (a' := ?_) ?_ ?_
                rotate_left
                · show Act.put _ (some 45) _ = _; simp only [Act.put, List.setIfInBounds_toArray, List.set_cons_zero, List.set_cons_succ]; rfl
                have HB := hBw7
                replace hRT := R_stays (u := .slice none 0 0) hRT hGw7 (fun k _ e => by cases e)
                obtain ⟨AO, cO, eO, hlO', CO⟩ := Kd.R_reads hRO
                cases eO
                refine one_ (i := 7) (N := some 46) #[true, true, true, true, true, true, true, true, true, true, true, true, false, false] rfl rfl (by kernel_rfl) (by decide) (fun K hK => ?_)
                refine app_step (enc := encSl) (h1 := fun _ => rfl) (by rfl) (.tmp 43) (.tmp 45) 32 25 (.slice none 0 0) 24 rfl Try.underlying32 info_rr rfl (by decide) vT (vs.take i) [(some ⟨g1, 0, none⟩, one.length, c9)] _ 1 _ rfl rfl hRT CO HB (by rw [hlt]; omega) ?_
                intro vU wU hRU hBU hGU hatU
                refine hK.out _ _ trivial (fun hHeld => ?_)
                clear hK K
                exact hCont (vE, vT, _, vU) wU ⟨hRU, hBU⟩
              · skip
                refine lit1_step (enc := encSl) (h1 := fun _ => rfl) 25 (some ⟨g1, 0, none⟩, one.length, c9) (by rfl) rfl (by first | (go_simp; done) | (go_simp; rfl)) HB ?_
                intro vO w7 hRO hBw7 hGw7 ⟨bO, hbO, hlO⟩
                refine hK.out _ _ trivial (fun hHeld => ?_)
                clear hK K
                refine norm_ (a' := ?_) ?_ ?_
                rotate_left
                · show Act.put _ (some 45) _ = _; simp only [Act.put, List.setIfInBounds_toArray, List.set_cons_zero, List.set_cons_succ]; rfl
                have HB := hBw7
                have hREo := hRE
                replace hRE := R_stays (u := .slice none 0 0) hRE hGw7 (fun k _ e => by cases e)
                refine one_ (i := 4) (N := some 43) #[true, true, true, true, true, true, true, false, true, true, true, true, false, false] rfl rfl (by kernel_rfl) (by decide) (fun K hK => ?_)
                refine app_step (enc := encSl) (h1 := fun _ => rfl) (by rfl) (.tmp 39) (.tmp 42) 32 25 (.slice none 0 0) 24 rfl Try.underlying32 info_rr rfl (by decide) vE [] (vs.take i) (some ad) i c0 rfl rfl hRE (Kd.C_below HCt.out HB) HB (by simp; omega) ?_
                intro vT wT hRT hBT hGT hatT
                refine hK.out _ _ trivial (fun hHeld => ?_)
                clear hK K
                refine norm_ (a' := ?_) ?_ ?_
                rotate_left
                · show Act.put _ (some 43) _ = _; simp only [Act.put, List.setIfInBounds_toArray, List.set_cons_zero, List.set_cons_succ]; rfl
                have HB := hBT
                replace hRO := R_stays hRO hGT (fun k hk e => by rw [hbE] at e; cases e; rw [hbO] at hk; cases hk; have := Kd.R_lt hREo bE hbE; omega)
                obtain ⟨AO, cO, eO, hlO', CO⟩ := Kd.R_reads hRO
                cases eO
                refine one_ (i := 7) (N := some 46) #[true, true, true, true, true, true, true, true, true, true, true, true, false, false] rfl rfl (by kernel_rfl) (by decide) (fun K hK => ?_)
                refine app_step (enc := encSl) (h1 := fun _ => rfl) (by rfl) (.tmp 43) (.tmp 45) 32 25 (.slice none 0 0) 24 rfl Try.underlying32 info_rr rfl (by decide) vT (vs.take i) [(some ⟨g1, 0, none⟩, one.length, c9)] _ 1 _ rfl rfl hRT CO HB (by rw [hlt]; omega) ?_
                intro vU wU hRU hBU hGU hatU
                refine hK.out _ _ trivial (fun hHeld => ?_)
                clear hK K
                exact hCont (vE, vT, _, vU) wU ⟨hRU, hBU⟩
            · have HB := hwB
              refine lit1_step (enc := encSl) (h1 := fun _ => rfl) 25 (some ⟨g1, 0, none⟩, one.length, c9) (by rfl) rfl (by first | (go_simp; done) | (go_simp; rfl)) HB ?_
              intro vO w3 hRO hBw3 hGw3 ⟨bO, hbO, hlO⟩
              refine hK.out _ _ trivial (fun hHeld => ?_)
              clear hK K
              refine norm_ (a' := ?_) ?_ ?_
              rotate_left
              · show Act.put _ (some 45) _ = _; simp only [Act.put, List.setIfInBounds_toArray, List.set_cons_zero, List.set_cons_succ]; rfl
              have HB := hBw3
              refine one_ (i := 0) (N := some 39) #[true, true, true, true, false, true, true, false, true, true, true, true, false, false] rfl rfl (by kernel_rfl) (by decide) (fun K hK => ?_)
              refine lit0_step (enc := encSl) (h1 := fun _ => rfl) 25 (by rfl) rfl (by first | (go_simp; done) | (go_simp; rfl)) HB ?_
              intro vE w7 hRE hBw7 hGw7 ⟨bE, hbE, hlE⟩
              refine hK.out _ _ trivial (fun hHeld => ?_)
              clear hK K
              refine norm_ (a' := ?_) ?_ ?_
              rotate_left
              · show Act.put _ (some 39) _ = _; simp only [Act.put, List.setIfInBounds_toArray, List.set_cons_zero, List.set_cons_succ]; rfl
              have HB := hBw7
              have hROo := hRO
              replace hRO := R_stays (u := .slice none 0 0) hRO hGw7 (fun k _ e => by cases e)
              refine one_ (i := 4) (N := some 43) #[true, true, true, true, true, true, true, false, true, true, true, true, false, false] rfl rfl (by kernel_rfl) (by decide) (fun K hK => ?_)
              refine app_step (enc := encSl) (h1 := fun _ => rfl) (by rfl) (.tmp 39) (.tmp 42) 32 25 (.slice none 0 0) 24 rfl Try.underlying32 info_rr rfl (by decide) vE [] (vs.take i) (some ad) i c0 rfl rfl hRE (Kd.C_below HCt.out HB) HB (by simp; omega) ?_
              intro vT wT hRT hBT hGT hatT
              refine hK.out _ _ trivial (fun hHeld => ?_)
              clear hK K
              refine norm_ (a' := ?_) ?_ ?_
              rotate_left
              · show Act.put _ (some 43) _ = _; simp only [Act.put, List.setIfInBounds_toArray, List.set_cons_zero, List.set_cons_succ]; rfl
              have HB := hBT
              replace hRO := R_stays hRO hGT (fun k hk e => by rw [hbE] at e; cases e; have := Kd.R_lt hROo _ hk; omega)
              obtain ⟨AO, cO, eO, hlO', CO⟩ := Kd.R_reads hRO
              cases eO
              refine one_ (i := 7) (N := some 46) #[true, true, true, true, true, true, true, true, true, true, true, true, false, false] rfl rfl (by kernel_rfl) (by decide) (fun K hK => ?_)
              refine app_step (enc := encSl) (h1 := fun _ => rfl) (by rfl) (.tmp 43) (.tmp 45) 32 25 (.slice none 0 0) 24 rfl Try.underlying32 info_rr rfl (by decide) vT (vs.take i) [(some ⟨g1, 0, none⟩, one.length, c9)] _ 1 _ rfl rfl hRT CO HB (by rw [hlt]; omega) ?_
              intro vU wU hRU hBU hGU hatU
              refine hK.out _ _ trivial (fun hHeld => ?_)
              clear hK K
              exact hCont (vE, vT, _, vU) wU ⟨hRU, hBU⟩
        | false =>
          rw [hb] at hbv
          have hfo2 := HFO.out
          rw [hb, if_neg (by decide)] at hfo2
          go_wp2_with (first | (go_at_call 94; refine (cosignerref03_Before.calls _ _ _ one _ _ x false _ (Kd.C_below HC1.out hBd) hc1 (Kd.C_below HCX.out hBdr) hcx hbv).mono ?_; rintro e w3 ⟨rfl, ⟨nd, rfl⟩⟩))
          go_ret
          refine ⟨some ad, c0, vs, by simp [hlen], hc0, Kd.C_below HR0.out (pw_below_drewN hBd nd), ?_, pw_below_drewN hBd nd⟩
          rw [hfo2]
          exact HL.out.later (pw_below_drewN hBd nd)
      · have hbe : ((lastS x).toList == (lastS one).toList) = false := by rw [beq_eq_false_iff_ne]; exact fun e => he (toList_inj e)
        rw [hbe]
        go_wp2
        go_roundg (xss.length - (i + 1))
        case measure => omega
        case rel =>
          refine ⟨i + 1, rfl, by omega, ⟨fun j hj => ?_⟩, rfl, ⟨hBd⟩⟩
          rcases Nat.lt_or_ge j i with h2 | h2
          · exact hall.out j h2
          · obtain rfl : j = i := by omega
            rw [hxe]; exact he
    · have c3b : ¬ (i : Int) < (vs.length : Int) := by omega
      have hall2 := firstOf_none (one := one) (xss := xss) (fun j hj => hall.out j (by omega))
      have HALL := Lib.hid hall2
      clear hall2
      obtain ⟨HB⟩ := hB
      go_wp2_with (first
        | ((with_reducible refine gate_dst (N := 53) rfl ?_); refine lit0_l (enc := encSl) (h1 := fun _ => rfl) 25 rfl rfl (by first | (go_simp; done) | (go_simp; rfl)) HB ?_; intro vE w3 hRE hB3 hG3 hbE; have HB := hB3)
        | ((with_reducible refine gate_dst (N := 55) rfl ?_); refine app_l (enc := encSl) (h1 := fun _ => rfl) rfl (.tmp 53) (.tmp 54) 32 25 (.slice none 0 0) 24 rfl Try.underlying32 info_rr rfl (by decide) vE [] vs A0 xss.length c0 rfl rfl hRE (by rw [← hlen]; exact Kd.C_below HR0.out HB) HB (by simp; omega) ?_; intro vT w4 hRT hB4 hG4 hatT; have HB := hB4)
        | ((with_reducible refine gate_dst (N := 57) rfl ?_); refine lit1_l (enc := encSl) (h1 := fun _ => rfl) 25 (some ⟨g1, 0, none⟩, one.length, c9) rfl rfl (by first | (go_simp; done) | (go_simp; rfl)) HB ?_; intro vO w5 hRO hB5 hG5 hbO; have HB := hB5; replace hRT := R_stays (u := .slice none 0 0) hRT hG5 (fun k _ e => by cases e); obtain ⟨AO, cO, eO, hlO', CO⟩ := Kd.R_reads hRO; cases eO)
        | ((with_reducible refine gate_dst (N := 58) rfl ?_); refine app_l (enc := encSl) (h1 := fun _ => rfl) rfl (.tmp 55) (.tmp 57) 32 25 (.slice none 0 0) 24 rfl Try.underlying32 info_rr rfl (by decide) vT vs [(some ⟨g1, 0, none⟩, one.length, c9)] _ 1 _ rfl rfl hRT CO HB (by omega) ?_; intro v6 w6 hR6 hB6 hG6 hat6; have HB := hB6))
      have hR6' : kSl.R 25 w6 w.heap.size (fun _ => True) v6 (vs ++ [(some ⟨g1, 0, none⟩, one.length, c9)]) := hR6
      obtain ⟨A6, c6, e6, hc6, hC6⟩ := Kd.R_reads hR6'
      cases e6
      go_ret
      refine ⟨A6, c6, _, rfl, hc6, hC6, ?_, hB6⟩
      rw [HALL.out]
      exact Lists.later (HL.out.app (Lists.one H1.out)) hB6
end Go.Proofs.Ytdljclokenoogaa.Hw
end
section
namespace Go.Proofs.Ytdljclokenoogaa.Hw
open Go.RowKit Go.Proofs.Ytdljclokenoogaa.Hp Go.Proofs.YtdljclokenoogaaW.PrintWords Go.Proofs.YtdljclokenoogaaW.PrintLast Go.Proofs.YtdljclokenoogaaW.PrintMore
theorem fo_map (one : List ByteArray) (nx : List (List ByteArray)) : (firstOf nx one).map lastS = if lastS one ∈ nx.map lastS then nx.map lastS else nx.map lastS ++ [lastS one] := firstOf_lasts one nx
theorem fo_sub {one y : List ByteArray} : ∀ {nx : List (List ByteArray)}, y ∈ firstOf nx one → y = one ∨ y ∈ nx
  | [], h => by simp [firstOf] at h; exact .inl h
  | x :: nx, h => by
    unfold firstOf at h
    split at h
    · split at h
      · rcases List.mem_cons.1 h with rfl | h
        · exact .inl rfl
        · exact .inr (List.mem_cons_of_mem _ h)
      · exact .inr h
    · rcases List.mem_cons.1 h with rfl | h
      · exact .inr (List.mem_cons_self ..)
      · rcases fo_sub h with h | h
        · exact .inl h
        · exact .inr (List.mem_cons_of_mem _ h)
structure Nxt (nm : List ByteArray) (n : Nat) (nx : List (List ByteArray)) : Prop where
  nd : (nx.map lastS).Nodup
  cl : ∀ x ∈ nx, lastS x ∈ nm
  ln : ∀ x ∈ nx, x.length = n
theorem Nxt.nil (nm : List ByteArray) (n : Nat) : Nxt nm n [] := ⟨List.nodup_nil, by simp, by simp⟩
theorem Nxt.push {nm : List ByteArray} {n : Nat} {nx : List (List ByteArray)} (h : Nxt nm n nx) {one : List ByteArray} (h1 : lastS one ∈ nm) (h2 : one.length = n) : Nxt nm n (firstOf nx one) := by
  refine ⟨?_, fun x hx => ?_, fun x hx => ?_⟩
  · rw [fo_map]
    split
    · exact h.nd
    · rename_i hn
      rw [List.nodup_append]
      exact ⟨h.nd, by simp, fun a ha b hb => by simp at hb; subst hb; exact fun e => hn (e ▸ ha)⟩
  · rcases fo_sub hx with rfl | hx
    · exact h1
    · exact h.cl x hx
  · rcases fo_sub hx with rfl | hx
    · exact h2
    · exact h.ln x hx
theorem Nxt.len {nm : List ByteArray} {n : Nat} {nx : List (List ByteArray)} (h : Nxt nm n nx) : nx.length ≤ nm.length := by
  have := length_le_of_subset (nx.map lastS) nm h.nd (fun x hx => by obtain ⟨y, hy, rfl⟩ := List.mem_map.1 hx; exact h.cl y hy)
  simpa using this
def nxB (l : List S61) (ls : List (List ByteArray)) : List (List ByteArray) := ls.foldl (fun nx x => pushAll nx x (ups l (lastS x))) []
def nxC (l : List S61) (nx : List (List ByteArray)) (x : List ByteArray) (ps : List ByteArray) : List (List ByteArray) := pushAll nx x (ps.filter (fun p => (idx l p).isSome))
theorem nxB_snoc (l : List S61) (ls : List (List ByteArray)) (x : List ByteArray) : nxB l (ls ++ [x]) = nxC l (nxB l ls) x (parN l (lastS x)) := by
  unfold nxB nxC
  rw [List.foldl_append]
  show pushAll _ x (ups l (lastS x)) = _
  rw [ups_parN]
theorem nxC_snoc (l : List S61) (nx : List (List ByteArray)) (x ps : List ByteArray) (p : ByteArray) : nxC l nx x (ps ++ [p]) = if (idx l p).isSome then firstOf (nxC l nx x ps) (x ++ [p]) else nxC l nx x ps := by
  unfold nxC pushAll
  rw [List.filter_append, List.foldl_append]
  cases h : (idx l p).isSome <;> simp [List.filter, h]
theorem parN_len {l : List S61} {c : ByteArray} {B : Nat} (h : ∀ x ∈ l, x.f3.length ≤ B) : (parN l c).length ≤ B := by
  unfold parN
  cases hi : idx l c with
  | none => simp
  | some i => rw [List.length_map, rd_class (idx_lt hi)]; exact h _ (List.getElem_mem _)
theorem furN_found {up : ByteArray → List ByteArray} {a : ByteArray} {m i : Nat} {ls nx : List (List ByteArray)} (hs : stepAll up ls = nx) (hi : i < nx.length) (h0 : ∀ j, j < i → lastS (nx.getD j []) ≠ a) (h : lastS (nx.getD i []) = a) : furN up a (m + 1) ls = nx.getD i [] := by
  have : nx.find? (fun x => decide (lastS x = a)) = some (nx.getD i []) := by
    rw [List.find?_eq_some_iff_getElem]
    have e : nx.getD i [] = nx[i] := by simp [List.getD_eq_getElem?_getD, hi]
    refine ⟨by simpa using h, i, hi, e.symm, fun j hj => ?_⟩
    have h1 := h0 j hj
    have e1 : nx.getD j [] = nx[j] := by simp [List.getD_eq_getElem?_getD, show j < nx.length by omega]
    rw [e1] at h1
    simpa using h1
  rw [furN, hs, this]
theorem furN_next {up : ByteArray → List ByteArray} {a : ByteArray} {m : Nat} {ls nx : List (List ByteArray)} (hs : stepAll up ls = nx) (h0 : ∀ j, j < nx.length → lastS (nx.getD j []) ≠ a) : furN up a (m + 1) ls = furN up a m nx := by
  have : nx.find? (fun x => decide (lastS x = a)) = none := by
    rw [List.find?_eq_none]
    intro x hx
    obtain ⟨j, hj, rfl⟩ := List.mem_iff_getElem.1 hx
    have h1 := h0 j hj
    have e1 : nx.getD j [] = nx[j] := by simp [List.getD_eq_getElem?_getD, hj]
    rw [e1] at h1
    simpa using h1
  rw [furN, hs, this]
structure Held (w W : World) (v : Value) (xss : List (List ByteArray)) : Prop where
  ex : ∃ A c vs, v = .slice A xss.length c ∧ xss.length ≤ c ∧ kSl.C W A vs.length vs ∧ Lists W w.heap.size vs xss
theorem Held.later {w W W' : World} {v : Value} {xss : List (List ByteArray)} (h : Held w W v xss) (hb : Below W.heap.size W W') : Held w W' v xss := by
  obtain ⟨A, c, vs, e, h1, h2, h3⟩ := h.ex
  exact ⟨A, c, vs, e, h1, Kd.C_below h2 hb, h3.later hb⟩
theorem Held.nil (w W : World) : Held w W (.slice none 0 0) [] := ⟨none, 0, [], rfl, Nat.le_refl _, Kd.C_nil _ _, rfl, fun i h => absurd h (Nat.not_lt_zero i)⟩
theorem Held.at {w W : World} {A : Option Addr} {n c : Nat} {xss : List (List ByteArray)} (h : Held w W (.slice A n c) xss) {i : Nat} (hi : i < xss.length) (hne : xss.getD i [] ≠ []) :
    n = xss.length ∧ ∃ ad g cx, A = some ad ∧ W.cell? (ad.add i) = some (.slice (some ⟨g, 0, none⟩) (xss.getD i []).length cx) ∧ (xss.getD i []).length ≤ cx ∧ Row W w.heap.size (fun _ => True) (.slice (some ⟨g, 0, none⟩) (xss.getD i []).length cx) (xss.getD i []) ∧ Kd.string.C W (some ⟨g, 0, none⟩) (xss.getD i []).length (xss.getD i []) ∧ W.cell? ⟨g, (xss.getD i []).length - 1, none⟩ = some (.string (lastS (xss.getD i []))) := by
  obtain ⟨A', c', vs, e, h1, h2, h3⟩ := h.ex
  cases e
  refine ⟨rfl, ?_⟩
  obtain ⟨ad, rfl, hx⟩ := at_Sl h2 (show i < vs.length by have := h3.len; omega)
  have hrow := h3.row i hi
  obtain ⟨g, cx, ex⟩ := hrow.form hne
  obtain ⟨Ax, cx', ex', hcx, hCx⟩ := hrow.reads
  rw [ex] at ex' hx hrow
  cases ex'
  obtain ⟨_, ea, hy⟩ := at_s hCx ((xss.getD i []).length - 1) (by have := List.length_pos_iff.2 hne; omega)
  cases ea
  rw [← lastS_get hne, addr_at] at hy
  exact ⟨ad, g, _, rfl, hx, hcx, hrow, hCx, hy⟩
set_option maxHeartbeats 32000000 in
set_option maxRecDepth 100000 in
theorem further_calls (A0 : Option Addr) (c0 : Nat) (l : List S61) (c a : ByteArray) (w : World) (hr0 : k61.C w A0 l.length l) (hc0 : l.length ≤ c0) (hl : l.length ≤ 1000) (hup : ∀ x ∈ l, x.f3.length ≤ 1000) :
    Calls Try.prog 93 #[.slice A0 l.length c0, .string c, .string a] w fun e w' => ∃ v, e = .returned v ∧ Row w' w.heap.size (fun _ => True) v (furtherOf (ups l) l.length c a) ∧ Below w.heap.size w w' := by
  have HR0 := Lib.hid hr0
  have HUP := Lib.hid hup
  clear hr0 hup
  have hnl : (names l).length = l.length := names_len l
  go_enter Try.func93, Try.ntmps93
  have HB0 := Below.refl w.heap.size w
  go_wp2_with (first
    | ((with_reducible refine gate_dst (N := 15) rfl ?_); refine lit1_l (enc := Value.string) (h1 := fun _ => rfl) 9 c rfl rfl (by first | (go_simp; done) | (go_simp; rfl)) HB0 ?_; intro vO w1 hRO hB1 hG1 hbO; obtain ⟨A1, c1, e1, hl1, C1⟩ := Kd.R_reads hRO; cases e1)
    | ((with_reducible refine gate_dst (N := 16) rfl ?_); refine lit1_l (w := w) (enc := encSl) (h1 := fun _ => rfl) 25 (A1, 1, c1) rfl rfl (by first | (go_simp; done) | (go_simp; rfl)) hB1 ?_; intro vP w2 hRP hB2 hG2 hbP; obtain ⟨A2, c2, e2, hl2, C2⟩ := Kd.R_reads hRP; cases e2; replace hRO := R_stays (u := .slice none 0 0) hRO hG2 (fun k _ e => by cases e)))
  have hHeld0 : Held w w2 (.slice A2 1 c2) [[c]] := ⟨A2, c2, [(A1, 1, c1)], rfl, hl2, C2, rfl, fun i hi => by
    have h0 : i = 0 := by simpa using hi
    subst h0
    exact ⟨hRO, by simp⟩⟩
  have HH0 := Lib.hid hHeld0
  clear hHeld0 C2 C1 hRO hRP hbO hbP
  go_loopg [7, 8] (l.length + 1) (fun kq v7 v8 w' => ∃ (n : Nat) (ls : List (List ByteArray)), v8 = .int .i64 (n : Int) ∧ n ≤ l.length + 1 ∧ kq = l.length + 1 - n ∧ Aside0 (Held w w' v7 ls ∧ ls.length ≤ 1000 ∧ (∀ x ∈ ls, x.length = n + 1) ∧ furtherOf (ups l) l.length c a = furN (ups l) a (l.length + 1 - n) ls ∧ Below w.heap.size w w'))
  case atStart => exact ⟨0, [[c]], rfl, Nat.zero_le _, rfl, ⟨HH0.out, by simp, by simp, rfl, hB2⟩⟩
  case round =>
    obtain ⟨n, ls, rfl, hn, hk, hI⟩ := hrel
    obtain ⟨A7, c7, vs7, e7, _⟩ := hI.out.1.ex
    subst e7
    by_cases cA : n ≤ l.length
    · have cA1 : (n : Int) ≤ (l.length : Int) := by omega
      have hls := hI.out.2.1
      go_wp2
      go_loopg [9, 10] ls.length (fun kq v9 v10 w' => ∃ (i : Nat), v10 = .int .i64 (i : Int) ∧ i ≤ ls.length ∧ kq = ls.length - i ∧ Aside0 (Held w w' v9 (nxB l (ls.take i)) ∧ Nxt (names l) (n + 2) (nxB l (ls.take i)) ∧ Held w w' (.slice A7 ls.length c7) ls ∧ Below w.heap.size w w'))
      case atStart => exact ⟨0, rfl, Nat.zero_le _, rfl, ⟨Held.nil _ _, Nxt.nil _ _, hI.out.1, hI.out.2.2.2.2⟩⟩
      case round =>
        obtain ⟨i, rfl, hi, hkB, hIB⟩ := hrel
        obtain ⟨A9, c9, vs9, e9, _⟩ := hIB.out.1.ex
        subst e9
        by_cases cB : i < ls.length
        · have cB1 : (i : Int) < (ls.length : Int) := by omega
          have cB0 : (0 : Int) ≤ (i : Int) := by omega
          obtain ⟨x, hxe⟩ : ∃ x, ls.getD i [] = x := ⟨_, rfl⟩
          have hxm : x ∈ ls := by rw [← hxe, List.getD_eq_getElem?_getD, List.getElem?_eq_getElem cB]; exact List.getElem_mem cB
          have hxl := hI.out.2.2.1 x hxm
          have hxn : x ≠ [] := fun e => by rw [e] at hxl; simp at hxl
          have hpx0 : 0 < x.length := List.length_pos_iff.2 hxn
          have hxle : x.length ≤ 1001 := by omega
          have HXL := Lib.hid hxl
          clear hxl
          have htk : ls.take (i + 1) = ls.take i ++ [x] := by
            rw [List.take_succ_eq_append_getElem cB, ← hxe]
            simp [List.getD_eq_getElem?_getD, cB]
          have hnb := nxB_snoc l (ls.take i) x
          rw [← htk] at hnb
          have HNB := Lib.hid hnb
          clear hnb htk
          obtain ⟨nx0, hnx0⟩ : ∃ z, nxB l (ls.take i) = z := ⟨_, rfl⟩
          rw [hnx0] at hIB HNB ⊢
          clear hnx0
          obtain ⟨_, ad, g, cx, e7, hx, hcx, hrow, hCx, hy⟩ := hIB.out.2.2.1.at cB (by rw [hxe]; exact hxn)
          subst e7
          rw [hxe] at hx hcx hrow hCx hy
          have hwx : IntKind.i64.wrap ((x.length : Int) - 1) = ((x.length - 1 : Nat) : Int) := by rw [Go.IntWalk.i64_in _ ⟨by omega, by omega⟩]; omega
          have hbx : ((x.length - 1 : Nat) : Int) < (x.length : Int) := by omega
          have ay := addr_at g (x.length - 1)
          have hpv := parents_val l (lastS x) (by omega) (by omega) HUP.out 1001 (by omega) (by omega)
          have HROW := Lib.hid hrow
          have HCX := Lib.hid hCx
          clear hrow hCx
          go_upto_region 9 with fail
          refine start_ (n := 15) (S := fun Y => Y.cell? (ad.add i) = some (.slice (some ⟨g, 0, none⟩) x.length cx) ∧ Y.cell? ⟨g, x.length - 1, none⟩ = some (.string (lastS x))) (ds := [13]) #[false, false, false, false, false, false, false, false, false, false, false, false, false, false, false] (by kernel_rfl) rfl rfl ⟨hx, hy⟩ (fun hHeld => ?_)
          have hB9 : Below wr.heap.size wr wr.drew := (Below.refl _ _).drew
          generalize wr.drew = w3 at hB9 hHeld ⊢
          refine pure_ (i := 0) (N := some 29) (v := ?_) (a' := ?_) #[true, false, false, false, false, false, false, false, false, false, false, false, false, false, false] rfl rfl (by kernel_rfl) (fun _ _ _ h => h) (Or.inl ⟨by rfl, ?_⟩) ?_ ?_
          rotate_left
          · intro w'; go_simp <;> (with_reducible rfl)
          rotate_left
          · simp only [Act.put, List.setIfInBounds_toArray, List.set_cons_zero, List.set_cons_succ]; rfl
          refine pure_ (i := 1) (N := some 30) (v := ?_) (a' := ?_) #[true, true, false, false, false, false, false, false, false, false, false, false, false, false, false] rfl rfl (by kernel_rfl) (fun _ _ _ h => h) (Or.inl ⟨by rfl, ?_⟩) ?_ ?_
          rotate_left
          · intro w'; go_simp <;> (with_reducible rfl)
          rotate_left
          · simp only [Act.put, List.setIfInBounds_toArray, List.set_cons_zero, List.set_cons_succ]; rfl
          refine pure_ (i := 2) (N := some 31) (v := ?_) (a' := ?_) #[true, true, true, false, false, false, false, false, false, false, false, false, false, false, false] rfl rfl (by kernel_rfl) (fun _ _ _ h => h) (Or.inl ⟨by rfl, ?_⟩) ?_ ?_
          rotate_left
          · intro w'; go_simp <;> (with_reducible rfl)
          rotate_left
          · simp only [Act.put, List.setIfInBounds_toArray, List.set_cons_zero, List.set_cons_succ]; rfl
          refine pure_ (i := 3) (N := some 32) (v := ?_) (a' := ?_) #[true, true, true, true, false, false, false, false, false, false, false, false, false, false, false] rfl rfl (by kernel_rfl) (fun _ _ _ h => h) (Or.inl ⟨by rfl, ?_⟩) ?_ ?_
          rotate_left
          · intro w'; go_simp <;> (with_reducible rfl)
          rotate_left
          · simp only [Act.put, List.setIfInBounds_toArray, List.set_cons_zero, List.set_cons_succ]; rfl
          refine take_ (i := 4) (N := some 33) (v := ?_) (a' := ?_) #[true, true, true, true, true, false, false, false, false, false, false, false, false, false, false] rfl rfl (by kernel_rfl) (fun _ _ _ h => h) (Or.inl ⟨by rfl, ?_⟩) hHeld ?_ ?_
          rotate_left
          · rintro w' ⟨s0, s1⟩; go_simp <;> (with_reducible rfl)
          rotate_left
          · simp only [Act.put, List.setIfInBounds_toArray, List.set_cons_zero, List.set_cons_succ]; rfl
          refine pure_ (i := 5) (N := some 34) (v := ?_) (a' := ?_) #[true, true, true, true, true, true, false, false, false, false, false, false, false, false, false] rfl rfl (by kernel_rfl) (fun _ _ _ h => h) (Or.inl ⟨by rfl, ?_⟩) ?_ ?_
          rotate_left
          · intro w'; go_simp <;> (with_reducible rfl)
          rotate_left
          · simp only [Act.put, List.setIfInBounds_toArray, List.set_cons_zero, List.set_cons_succ]; rfl
          refine pure_ (i := 6) (N := some 35) (v := ?_) (a' := ?_) #[true, true, true, true, true, true, true, false, false, false, false, false, false, false, false] rfl rfl (by kernel_rfl) (fun _ _ _ h => h) (Or.inl ⟨by rfl, ?_⟩) ?_ ?_
          rotate_left
          · intro w'; go_simp <;> (with_reducible rfl)
          rotate_left
          · simp only [Act.put, List.setIfInBounds_toArray, List.set_cons_zero, List.set_cons_succ]; rfl
          refine pure_ (i := 7) (N := some 36) (v := ?_) (a' := ?_) #[true, true, true, true, true, true, true, true, false, false, false, false, false, false, false] rfl rfl (by kernel_rfl) (fun _ _ _ h => h) (Or.inl ⟨by rfl, ?_⟩) ?_ ?_
          rotate_left
          · intro w'; go_simp <;> (with_reducible rfl)
          rotate_left
          · simp only [Act.put, List.setIfInBounds_toArray, List.set_cons_zero, List.set_cons_succ]; rfl
          refine take_ (i := 8) (N := some 37) (v := ?_) (a' := ?_) #[true, true, true, true, true, true, true, true, true, false, false, false, false, false, false] rfl rfl (by kernel_rfl) (fun _ _ _ h => h) (Or.inl ⟨by rfl, ?_⟩) hHeld ?_ ?_
          rotate_left
          · rintro w' ⟨s0, s1⟩; go_simp <;> (with_reducible rfl)
          rotate_left
          · simp only [Act.put, List.setIfInBounds_toArray, List.set_cons_zero, List.set_cons_succ]; rfl
          refine pure_ (i := 9) (N := some 38) (v := ?_) (a' := ?_) #[true, true, true, true, true, true, true, true, true, true, false, false, false, false, false] rfl rfl (by kernel_rfl) (fun _ _ _ h => h) (Or.inl ⟨by rfl, ?_⟩) ?_ ?_
          rotate_left
          · intro w'; go_simp <;> (with_reducible rfl)
          rotate_left
          · simp only [Act.put, List.setIfInBounds_toArray, List.set_cons_zero, List.set_cons_succ]; rfl
          refine pure_ (i := 10) (N := some 39) (v := ?_) (a' := ?_) #[true, true, true, true, true, true, true, true, true, true, true, false, false, false, false] rfl rfl (by kernel_rfl) (fun _ _ _ h => h) (Or.inl ⟨by rfl, ?_⟩) ?_ ?_
          rotate_left
          · intro w'; go_simp <;> (with_reducible rfl)
          rotate_left
          · simp only [Act.put, List.setIfInBounds_toArray, List.set_cons_zero, List.set_cons_succ]; rfl
          refine pure_ (i := 11) (N := some 40) (v := ?_) (a' := ?_) #[true, true, true, true, true, true, true, true, true, true, true, true, false, false, false] rfl rfl (by kernel_rfl) (fun _ _ _ h => h) (Or.inl ⟨by rfl, ?_⟩) ?_ ?_
          rotate_left
          · intro w'; go_simp <;> (with_reducible rfl)
          rotate_left
          · simp only [Act.put, List.setIfInBounds_toArray, List.set_cons_zero, List.set_cons_succ]; rfl
          refine take_ (i := 12) (N := some 41) (v := ?_) (a' := ?_) #[true, true, true, true, true, true, true, true, true, true, true, true, true, false, false] rfl rfl (by kernel_rfl) (fun _ _ _ h => h) (Or.inl ⟨by rfl, ?_⟩) hHeld ?_ ?_
          rotate_left
          · rintro w' ⟨s0, s1⟩; go_simp <;> (with_reducible rfl)
          rotate_left
          · simp only [Act.put, List.setIfInBounds_toArray, List.set_cons_zero, List.set_cons_succ]; rfl
          refine last_ (i := 13) (N := some 42) #[true, true, true, true, true, true, true, true, true, true, true, true, true, true, false] rfl rfl (by kernel_rfl) (by decide) (fun K hK => ?_)
          refine goes_ Try.func62 (by kernel_rfl) rfl #[.slice A0 l.length c0, .string (lastS x)] (by rfl) rfl rfl (by simp only [List.map_toArray, List.map_cons, List.map_nil]; first | done | rfl) ?_
          have hB3 := hIB.out.2.2.2.trans (hB9.mono hIB.out.2.2.2.size)
          refine (cosignerref03_parents.calls 1001 A0 c0 l (lastS x) _ _ (Kd.C_below HR0.out hB3) hc0 hpv).mono ?_
          rintro e w4 ⟨vp, rfl, hRp, hB4⟩
          refine ⟨_, rfl, ?_⟩
          refine hK.out _ _ ?_
          clear hK K
          refine norm_ (a' := ?_) ?_ ?_
          rotate_left
          · show Act.put _ (some 42) _ = _; simp only [Act.put, List.setIfInBounds_toArray, List.set_cons_zero, List.set_cons_succ]; rfl
          refine pure_ (i := 14) (N := some 11) (v := ?_) (a' := ?_) #[true, true, true, true, true, true, true, true, true, true, true, true, true, true, true] rfl rfl (by kernel_rfl) (fun _ _ _ h => h) (Or.inl ⟨by rfl, ?_⟩) ?_ ?_
          rotate_left
          · intro w'; go_simp <;> (with_reducible rfl)
          rotate_left
          · simp only [Act.put, List.setIfInBounds_toArray, List.set_cons_zero, List.set_cons_succ]; rfl
          refine done_ (by kernel_rfl) ?_
          obtain ⟨ps, hps⟩ : ∃ z, parN l (lastS x) = z := ⟨_, rfl⟩
          have hpsl := parN_len (c := lastS x) HUP.out
          rw [hps] at hRp HNB hpsl
          clear hps hpv
          obtain ⟨Ap, cp, ep, hcp, Cp⟩ := Kd.R_reads hRp
          cases ep
          have hB14 : Below w.heap.size w w4 := hB3.trans (hB4.mono hB3.size)
          have hBr4 : Below wr.heap.size wr w4 := hB9.trans (hB4.mono hB9.size)
          have hC0 : Aside0 (Held w w4 (.slice A9 nx0.length c9) nx0 ∧ Nxt (names l) (n + 2) nx0 ∧ Held w w4 (.slice (some ad) ls.length c7) ls ∧ Kd.string.C w4 Ap ps.length ps ∧ Below w.heap.size w w4) := ⟨hIB.out.1.later hBr4, hIB.out.2.1, hIB.out.2.2.1.later hBr4, Cp, hB14⟩
          clear hRp Cp
          go_wp2
          go_loopg [9, 12] ps.length (fun kq v9 v12 w' => ∃ (k : Nat), v12 = .int .i64 (k : Int) ∧ k ≤ ps.length ∧ kq = ps.length - k ∧ Aside0 (Held w w' v9 (nxC l nx0 x (ps.take k)) ∧ Nxt (names l) (n + 2) (nxC l nx0 x (ps.take k)) ∧ Held w w' (.slice (some ad) ls.length c7) ls ∧ Kd.string.C w' Ap ps.length ps ∧ Below w.heap.size w w'))
          case atStart => exact ⟨0, rfl, Nat.zero_le _, rfl, hC0⟩
          case round =>
            obtain ⟨k, rfl, hk2, hkC, hIC⟩ := hrel
            obtain ⟨A8, c8, vs8, e8, _⟩ := hIC.out.1.ex
            subst e8
            by_cases cC : k < ps.length
            · have cC1 : (k : Int) < (ps.length : Int) := by omega
              have cC0 : (0 : Int) ≤ (k : Int) := by omega
              obtain ⟨adp, ea, hpx⟩ := at_s hIC.out.2.2.2.1 k cC
              subst ea
              obtain ⟨q, hq⟩ : ∃ q, nth ps k = q := ⟨_, rfl⟩
              rw [hq] at hpx
              have htk : ps.take (k + 1) = ps.take k ++ [q] := by
                rw [List.take_succ_eq_append_getElem cC, ← hq]
                simp [nth, cC]
              have hnc := nxC_snoc l nx0 x (ps.take k) q
              rw [← htk] at hnc
              have HNC := Lib.hid hnc
              clear hnc htk hq
              have hiv := index_val l q (by omega) 1001 (by omega)
              obtain ⟨r, hr⟩ : ∃ r, idxI l q = r := ⟨_, rfl⟩
              rw [hr] at hiv
              by_cases hneg : r < 0
              · have hge : ¬ (0 : Int) ≤ r := by omega
                have hnone : (idx l q).isSome = false := by rw [idxI_neg.1 (by rw [hr]; exact hneg)]; rfl
                go_wp2_with (first | (go_at_call 88; refine (cosignerref03_index.calls 1001 A0 c0 l q r _ (Kd.C_below HR0.out hIC.out.2.2.2.2) hc0 hiv).mono ?_; rintro e w5 ⟨rfl, ⟨nd, rfl⟩⟩))
                have hB5 := pw_below_drewN (Below.refl wr.heap.size wr) nd
                go_roundg (ps.length - (k + 1))
                case measure => omega
                case rel =>
                  refine ⟨k + 1, (by first | rfl | rw [wrap_nat k (by omega)]), by omega, rfl, ?_⟩
                  rw [HNC.out, hnone, if_neg (by decide)]
                  exact ⟨hIC.out.1.later hB5, hIC.out.2.1, hIC.out.2.2.1.later hB5, Kd.C_below hIC.out.2.2.2.1 hB5, hIC.out.2.2.2.2.trans (hB5.mono hIC.out.2.2.2.2.size)⟩
              · have hge : (0 : Int) ≤ r := by omega
                have hsome : (idx l q).isSome = true := by
                  cases h : idx l q with
                  | none => exact absurd (hr ▸ idxI_neg.2 h) hneg
                  | some _ => rfl
                go_upto_region 14 with (first | (go_at_call 88; refine (cosignerref03_index.calls 1001 A0 c0 l q r _ (Kd.C_below HR0.out hIC.out.2.2.2.2) hc0 hiv).mono ?_; rintro e w5 ⟨rfl, ⟨nd, rfl⟩⟩))
                obtain ⟨_, ad2, g2, cx2, e7, hx2, hcx2, hrow2, hCx2, _⟩ := hIC.out.2.2.1.at cB (by rw [hxe]; exact hxn)
                cases e7
                rw [hxe] at hx2 hcx2 hrow2 hCx2
                have hB6 : Below wr.heap.size wr (wr.drewN nd).drew := (pw_below_drewN (Below.refl wr.heap.size wr) nd).drew
                clear hrow2
                refine start_ (n := 15) (S := fun Y => Y.cell? (ad.add i) = some (.slice (some ⟨g2, 0, none⟩) x.length cx2) ∧ Y.cell? (adp.add k) = some (.string q)) (ds := [13]) #[false, false, false, false, false, false, false, false, false, false, false, false, false, false, false] (by kernel_rfl) rfl rfl ⟨hx2, hpx⟩ (fun hHeld => ?_)
                generalize (wr.drewN nd).drew = w2 at hB6 hHeld ⊢
                have hSt : Hid (∀ Y, Below w2.heap.size w2 Y → Y.cell? (ad.add i) = some (.slice (some ⟨g2, 0, none⟩) x.length cx2) ∧ Y.cell? (adp.add k) = some (.string q)) := by
                  show ∀ Y, _
                  intro Y hY
                  exact ⟨(hY.cell (World.block_lt_of_cell? _ _ hHeld.1)).trans hHeld.1, (hY.cell (World.block_lt_of_cell? _ _ hHeld.2)).trans hHeld.2⟩
                have HCX2 := Lib.hid (Kd.C_below hCx2 hB6)
                clear hCx2
                have hwB := Below.refl w2.heap.size w2
                refine pure_ (i := 0) (N := some 56) (v := ?_) (a' := ?_) #[true, false, false, false, false, false, false, false, false, false, false, false, false, false, false] rfl rfl (by kernel_rfl) (fun _ _ _ h => h) (Or.inl ⟨by rfl, ?_⟩) ?_ ?_
                rotate_left
                · intro w'; go_simp <;> (with_reducible rfl)
                rotate_left
                · simp only [Act.put, List.setIfInBounds_toArray, List.set_cons_zero, List.set_cons_succ]; rfl
                refine pure_ (i := 2) (N := some 58) (v := ?_) (a' := ?_) #[true, false, true, false, false, false, false, false, false, false, false, false, false, false, false] rfl rfl (by kernel_rfl) (fun _ _ _ h => h) (Or.inl ⟨by rfl, ?_⟩) ?_ ?_
                rotate_left
                · intro w'; go_simp <;> (with_reducible rfl)
                rotate_left
                · simp only [Act.put, List.setIfInBounds_toArray, List.set_cons_zero, List.set_cons_succ]; rfl
                refine pure_ (i := 3) (N := some 59) (v := ?_) (a' := ?_) #[true, false, true, true, false, false, false, false, false, false, false, false, false, false, false] rfl rfl (by kernel_rfl) (fun _ _ _ h => h) (Or.inl ⟨by rfl, ?_⟩) ?_ ?_
                rotate_left
                · intro w'; go_simp <;> (with_reducible rfl)
                rotate_left
                · simp only [Act.put, List.setIfInBounds_toArray, List.set_cons_zero, List.set_cons_succ]; rfl
                refine pure_ (i := 4) (N := some 60) (v := ?_) (a' := ?_) #[true, false, true, true, true, false, false, false, false, false, false, false, false, false, false] rfl rfl (by kernel_rfl) (fun _ _ _ h => h) (Or.inl ⟨by rfl, ?_⟩) ?_ ?_
                rotate_left
                · intro w'; go_simp <;> (with_reducible rfl)
                rotate_left
                · simp only [Act.put, List.setIfInBounds_toArray, List.set_cons_zero, List.set_cons_succ]; rfl
                refine take_ (i := 5) (N := some 61) (v := ?_) (a' := ?_) #[true, false, true, true, true, true, false, false, false, false, false, false, false, false, false] rfl rfl (by kernel_rfl) (fun _ _ _ h => h) (Or.inl ⟨by rfl, ?_⟩) hHeld ?_ ?_
                rotate_left
                · rintro w' ⟨s0, s1⟩; go_simp <;> (with_reducible rfl)
                rotate_left
                · simp only [Act.put, List.setIfInBounds_toArray, List.set_cons_zero, List.set_cons_succ]; rfl
                refine pure_ (i := 7) (N := some 63) (v := ?_) (a' := ?_) #[true, false, true, true, true, true, false, true, false, false, false, false, false, false, false] rfl rfl (by kernel_rfl) (fun _ _ _ h => h) (Or.inl ⟨by rfl, ?_⟩) ?_ ?_
                rotate_left
                · intro w'; go_simp <;> (with_reducible rfl)
                rotate_left
                · simp only [Act.put, List.setIfInBounds_toArray, List.set_cons_zero, List.set_cons_succ]; rfl
                refine pure_ (i := 8) (N := some 64) (v := ?_) (a' := ?_) #[true, false, true, true, true, true, false, true, true, false, false, false, false, false, false] rfl rfl (by kernel_rfl) (fun _ _ _ h => h) (Or.inl ⟨by rfl, ?_⟩) ?_ ?_
                rotate_left
                · intro w'; go_simp <;> (with_reducible rfl)
                rotate_left
                · simp only [Act.put, List.setIfInBounds_toArray, List.set_cons_zero, List.set_cons_succ]; rfl
                refine pure_ (i := 9) (N := some 65) (v := ?_) (a' := ?_) #[true, false, true, true, true, true, false, true, true, true, false, false, false, false, false] rfl rfl (by kernel_rfl) (fun _ _ _ h => h) (Or.inl ⟨by rfl, ?_⟩) ?_ ?_
                rotate_left
                · intro w'; go_simp <;> (with_reducible rfl)
                rotate_left
                · simp only [Act.put, List.setIfInBounds_toArray, List.set_cons_zero, List.set_cons_succ]; rfl
                refine take_ (i := 10) (N := some 66) (v := ?_) (a' := ?_) #[true, false, true, true, true, true, false, true, true, true, true, false, false, false, false] rfl rfl (by kernel_rfl) (fun _ _ _ h => h) (Or.inl ⟨by rfl, ?_⟩) hHeld ?_ ?_
                rotate_left
                · rintro w' ⟨s0, s1⟩; go_simp <;> (with_reducible rfl)
                rotate_left
                · simp only [Act.put, List.setIfInBounds_toArray, List.set_cons_zero, List.set_cons_succ]; rfl
                refine join_ (σ := Value × Value × Value × Value) 2 #[true, true, true, true, true, true, true, true, true, true, true, true, true, false, false] (fun s_ => [(57, s_.1), (62, s_.2.1), (67, s_.2.2.1), (68, s_.2.2.2)]) (fun s_ w' => (Kd.scalar Value.string (fun _ => rfl)).R 9 w' w2.heap.size (fun _ => True) s_.2.2.2 (x ++ [q]) ∧ Below w2.heap.size w2 w') ?_ ?_
                · rintro ⟨s1, s2, s3, s4⟩ w5 ⟨hR4, HB⟩
                  refine norm_ (a' := ?_) ?_ ?_
                  rotate_left
                  · simp only [putAll, Act.put, List.setIfInBounds_toArray, List.set_cons_zero, List.set_cons_succ]; rfl
                  have hR4' : Kd.string.R 9 w5 w2.heap.size (fun _ => True) s4 (x ++ [q]) := hR4
                  have hBw2 : Below w.heap.size w w2 := hIC.out.2.2.2.2.trans (hB6.mono hIC.out.2.2.2.2.size)
                  have hBw5 : Below wr.heap.size wr w5 := hB6.trans (HB.mono hB6.size)
                  obtain ⟨g4, c4, e4, _⟩ := Kd.R_form hR4' (by simp)
                  subst e4
                  have hrow4 : Row w5 w.heap.size (fun _ => True) (encSl (some ⟨g4, 0, none⟩, (x ++ [q]).length, c4)) (x ++ [q]) := ⟨Kd.R_lower hR4' hBw2.size, by simp⟩
                  obtain ⟨A8', c8', vs8', e8, h81, h82, h83⟩ := (hIC.out.1.later hBw5).ex
                  cases e8
                  have hnxl := hIC.out.2.1.len
                  have hcall := first_calls A8 c8 vs8' _ _ (x ++ [q]) w.heap.size w5 h82 (by rw [h83.len]; exact h81) h83 hrow4 (by simp) (fun y hy e => by have := hIC.out.2.1.ln y hy; rw [e] at this; simp at this) (by omega) (fun y hy => by have := hIC.out.2.1.ln y hy; omega) (by simp; omega)
                  rw [h83.len] at hcall
                  refine last_ (i := 13) (N := some 69) #[true, true, true, true, true, true, true, true, true, true, true, true, true, true, false] rfl rfl (by kernel_rfl) (by decide) (fun K hK => ?_)
                  refine goes_ Try.func110 (by kernel_rfl) rfl #[.slice A8 (nxC l nx0 x (ps.take k)).length c8, encSl (some ⟨g4, 0, none⟩, (x ++ [q]).length, c4)] (by rfl) rfl rfl (by simp only [List.map_toArray, List.map_cons, List.map_nil]; first | done | rfl) ?_
                  refine hcall.mono ?_
                  rintro e w6 ⟨A6, c6, vs6, rfl, hc6, hC6, hL6, hB7⟩
                  refine ⟨_, rfl, ?_⟩
                  refine hK.out _ _ ?_
                  clear hK K hcall
                  refine norm_ (a' := ?_) ?_ ?_
                  rotate_left
                  · show Act.put _ (some 69) _ = _; simp only [Act.put, List.setIfInBounds_toArray, List.set_cons_zero, List.set_cons_succ]; rfl
                  refine pure_ (i := 14) (N := some 9) (v := ?_) (a' := ?_) #[true, true, true, true, true, true, true, true, true, true, true, true, true, true, true] rfl rfl (by kernel_rfl) (fun _ _ _ h => h) (Or.inl ⟨by rfl, ?_⟩) ?_ ?_
                  rotate_left
                  · intro w'; go_simp <;> (with_reducible rfl)
                  rotate_left
                  · simp only [Act.put, List.setIfInBounds_toArray, List.set_cons_zero, List.set_cons_succ]; rfl
                  refine done_ (by kernel_rfl) ?_
                  have hB8 : Below wr.heap.size wr w6 := hBw5.trans (hB7.mono hBw5.size)
                  have hnx : Held w w6 (.slice A6 vs6.length c6) (firstOf (nxC l nx0 x (ps.take k)) (x ++ [q])) := ⟨A6, c6, vs6, by rw [hL6.len], by rw [← hL6.len]; exact hc6, hC6, hL6⟩
                  have HNX := Lib.hid hnx
                  clear hnx hC6 hL6 h82 h83 hrow4 hR4 hR4'
                  go_wp2
                  go_roundg (ps.length - (k + 1))
                  case measure => omega
                  case rel =>
                    refine ⟨k + 1, (by first | rfl | rw [wrap_nat k (by omega)]), by omega, rfl, ?_⟩
                    rw [HNC.out, hsome, if_pos rfl]
                    exact ⟨HNX.out, hIC.out.2.1.push (by rw [lastS_snoc]; exact idx_mem.1 hsome) (by rw [List.length_append, HXL.out]; rfl), hIC.out.2.2.1.later hB8, Kd.C_below hIC.out.2.2.2.1 hB8, hIC.out.2.2.2.2.trans (hB8.mono hIC.out.2.2.2.2.size)⟩
                · intro hCont
                  refine two_ (i := 1) (j := 11) (Ni := some 57) (Nj := some 67) #[true, true, true, true, true, true, false, true, true, true, true, false, false, false, false] #[true, false, true, true, true, true, false, true, true, true, true, true, false, false, false] rfl rfl rfl rfl (by kernel_rfl) (by decide) (by decide) (fun K hK => ?_) (fun K hK => ?_)
                  · have HB := hwB
                    refine lit0_step (enc := Value.string) (h1 := fun _ => rfl) 9 (by rfl) rfl (by first | (go_simp; done) | (go_simp; rfl)) HB ?_
                    intro vE w3 hRE hBw3 hGw3 ⟨bE, hbE, hlE⟩
                    refine hK.out _ _ (hSt.out _ hBw3) (fun hHeld => ?_)
                    clear hK K
                    refine norm_ (a' := ?_) ?_ ?_
                    rotate_left
                    · show Act.put _ (some 57) _ = _; simp only [Act.put, List.setIfInBounds_toArray, List.set_cons_zero, List.set_cons_succ]; rfl
                    have HB := hBw3
                    refine two_ (i := 6) (j := 11) (Ni := some 62) (Nj := some 67) #[true, true, true, true, true, true, true, true, true, true, true, false, false, false, false] #[true, true, true, true, true, true, false, true, true, true, true, true, false, false, false] rfl rfl rfl rfl (by kernel_rfl) (by decide) (by decide) (fun K hK => ?_) (fun K hK => ?_)
                    · skip
                      refine app_step (enc := Value.string) (h1 := fun _ => rfl) (by rfl) (.tmp 57) (.tmp 61) 25 9 (.string ⟨#[]⟩) 16 rfl Try.underlying25 info_s rfl (by decide) vE [] x (some ⟨g2, 0, none⟩) x.length cx2 rfl rfl hRE (Kd.C_below HCX2.out HB) HB (by simp; omega) ?_
                      intro vT wT hRT hBT hGT hatT
                      refine hK.out _ _ (hSt.out _ hBT) (fun hHeld => ?_)
                      clear hK K
                      refine norm_ (a' := ?_) ?_ ?_
                      rotate_left
                      · show Act.put _ (some 62) _ = _; simp only [Act.put, List.setIfInBounds_toArray, List.set_cons_zero, List.set_cons_succ]; rfl
                      have HB := hBT
                      refine one_ (i := 11) (N := some 67) #[true, true, true, true, true, true, true, true, true, true, true, true, false, false, false] rfl rfl (by kernel_rfl) (by decide) (fun K hK => ?_)
                      refine lit1_step (enc := Value.string) (h1 := fun _ => rfl) 9 q (by rfl) rfl (by first | (go_simp; done) | (go_simp; rfl)) HB ?_
                      intro vO w7 hRO hBw7 hGw7 ⟨bO, hbO, hlO⟩
                      refine hK.out _ _ (hSt.out _ hBw7) (fun hHeld => ?_)
                      clear hK K
                      refine norm_ (a' := ?_) ?_ ?_
                      rotate_left
                      · show Act.put _ (some 67) _ = _; simp only [Act.put, List.setIfInBounds_toArray, List.set_cons_zero, List.set_cons_succ]; rfl
                      have HB := hBw7
                      replace hRT := R_stays (u := .slice none 0 0) hRT hGw7 (fun k _ e => by cases e)
                      obtain ⟨AO, cO, eO, hlO', CO⟩ := Kd.R_reads hRO
                      cases eO
                      refine one_ (i := 12) (N := some 68) #[true, true, true, true, true, true, true, true, true, true, true, true, true, false, false] rfl rfl (by kernel_rfl) (by decide) (fun K hK => ?_)
                      refine app_step (enc := Value.string) (h1 := fun _ => rfl) (by rfl) (.tmp 62) (.tmp 67) 25 9 (.string ⟨#[]⟩) 16 rfl Try.underlying25 info_s rfl (by decide) vT x [q] _ 1 _ rfl rfl hRT CO HB (by omega) ?_
                      intro vU wU hRU hBU hGU hatU
                      refine hK.out _ _ (hSt.out _ hBU) (fun hHeld => ?_)
                      clear hK K
                      exact hCont (vE, vT, _, vU) wU ⟨hRU, hBU⟩
                    · skip
                      refine lit1_step (enc := Value.string) (h1 := fun _ => rfl) 9 q (by rfl) rfl (by first | (go_simp; done) | (go_simp; rfl)) HB ?_
                      intro vO w7 hRO hBw7 hGw7 ⟨bO, hbO, hlO⟩
                      refine hK.out _ _ (hSt.out _ hBw7) (fun hHeld => ?_)
                      clear hK K
                      refine norm_ (a' := ?_) ?_ ?_
                      rotate_left
                      · show Act.put _ (some 67) _ = _; simp only [Act.put, List.setIfInBounds_toArray, List.set_cons_zero, List.set_cons_succ]; rfl
                      have HB := hBw7
                      have hREo := hRE
                      replace hRE := R_stays (u := .slice none 0 0) hRE hGw7 (fun k _ e => by cases e)
                      refine one_ (i := 6) (N := some 62) #[true, true, true, true, true, true, true, true, true, true, true, true, false, false, false] rfl rfl (by kernel_rfl) (by decide) (fun K hK => ?_)
                      refine app_step (enc := Value.string) (h1 := fun _ => rfl) (by rfl) (.tmp 57) (.tmp 61) 25 9 (.string ⟨#[]⟩) 16 rfl Try.underlying25 info_s rfl (by decide) vE [] x (some ⟨g2, 0, none⟩) x.length cx2 rfl rfl hRE (Kd.C_below HCX2.out HB) HB (by simp; omega) ?_
                      intro vT wT hRT hBT hGT hatT
                      refine hK.out _ _ (hSt.out _ hBT) (fun hHeld => ?_)
                      clear hK K
                      refine norm_ (a' := ?_) ?_ ?_
                      rotate_left
                      · show Act.put _ (some 62) _ = _; simp only [Act.put, List.setIfInBounds_toArray, List.set_cons_zero, List.set_cons_succ]; rfl
                      have HB := hBT
                      replace hRO := R_stays hRO hGT (fun k hk e => by rw [hbE] at e; cases e; rw [hbO] at hk; cases hk; have := Kd.R_lt hREo bE hbE; omega)
                      obtain ⟨AO, cO, eO, hlO', CO⟩ := Kd.R_reads hRO
                      cases eO
                      refine one_ (i := 12) (N := some 68) #[true, true, true, true, true, true, true, true, true, true, true, true, true, false, false] rfl rfl (by kernel_rfl) (by decide) (fun K hK => ?_)
                      refine app_step (enc := Value.string) (h1 := fun _ => rfl) (by rfl) (.tmp 62) (.tmp 67) 25 9 (.string ⟨#[]⟩) 16 rfl Try.underlying25 info_s rfl (by decide) vT x [q] _ 1 _ rfl rfl hRT CO HB (by omega) ?_
                      intro vU wU hRU hBU hGU hatU
                      refine hK.out _ _ (hSt.out _ hBU) (fun hHeld => ?_)
                      clear hK K
                      exact hCont (vE, vT, _, vU) wU ⟨hRU, hBU⟩
                  · have HB := hwB
                    refine lit1_step (enc := Value.string) (h1 := fun _ => rfl) 9 q (by rfl) rfl (by first | (go_simp; done) | (go_simp; rfl)) HB ?_
                    intro vO w3 hRO hBw3 hGw3 ⟨bO, hbO, hlO⟩
                    refine hK.out _ _ (hSt.out _ hBw3) (fun hHeld => ?_)
                    clear hK K
                    refine norm_ (a' := ?_) ?_ ?_
                    rotate_left
                    · show Act.put _ (some 67) _ = _; simp only [Act.put, List.setIfInBounds_toArray, List.set_cons_zero, List.set_cons_succ]; rfl
                    have HB := hBw3
                    refine one_ (i := 1) (N := some 57) #[true, true, true, true, true, true, false, true, true, true, true, true, false, false, false] rfl rfl (by kernel_rfl) (by decide) (fun K hK => ?_)
                    refine lit0_step (enc := Value.string) (h1 := fun _ => rfl) 9 (by rfl) rfl (by first | (go_simp; done) | (go_simp; rfl)) HB ?_
                    intro vE w7 hRE hBw7 hGw7 ⟨bE, hbE, hlE⟩
                    refine hK.out _ _ (hSt.out _ hBw7) (fun hHeld => ?_)
                    clear hK K
                    refine norm_ (a' := ?_) ?_ ?_
                    rotate_left
                    · show Act.put _ (some 57) _ = _; simp only [Act.put, List.setIfInBounds_toArray, List.set_cons_zero, List.set_cons_succ]; rfl
                    have HB := hBw7
                    have hROo := hRO
                    replace hRO := R_stays (u := .slice none 0 0) hRO hGw7 (fun k _ e => by cases e)
                    refine one_ (i := 6) (N := some 62) #[true, true, true, true, true, true, true, true, true, true, true, true, false, false, false] rfl rfl (by kernel_rfl) (by decide) (fun K hK => ?_)
                    refine app_step (enc := Value.string) (h1 := fun _ => rfl) (by rfl) (.tmp 57) (.tmp 61) 25 9 (.string ⟨#[]⟩) 16 rfl Try.underlying25 info_s rfl (by decide) vE [] x (some ⟨g2, 0, none⟩) x.length cx2 rfl rfl hRE (Kd.C_below HCX2.out HB) HB (by simp; omega) ?_
                    intro vT wT hRT hBT hGT hatT
                    refine hK.out _ _ (hSt.out _ hBT) (fun hHeld => ?_)
                    clear hK K
                    refine norm_ (a' := ?_) ?_ ?_
                    rotate_left
                    · show Act.put _ (some 62) _ = _; simp only [Act.put, List.setIfInBounds_toArray, List.set_cons_zero, List.set_cons_succ]; rfl
                    have HB := hBT
                    replace hRO := R_stays hRO hGT (fun k hk e => by rw [hbE] at e; cases e; have := Kd.R_lt hROo _ hk; omega)
                    obtain ⟨AO, cO, eO, hlO', CO⟩ := Kd.R_reads hRO
                    cases eO
                    refine one_ (i := 12) (N := some 68) #[true, true, true, true, true, true, true, true, true, true, true, true, true, false, false] rfl rfl (by kernel_rfl) (by decide) (fun K hK => ?_)
                    refine app_step (enc := Value.string) (h1 := fun _ => rfl) (by rfl) (.tmp 62) (.tmp 67) 25 9 (.string ⟨#[]⟩) 16 rfl Try.underlying25 info_s rfl (by decide) vT x [q] _ 1 _ rfl rfl hRT CO HB (by omega) ?_
                    intro vU wU hRU hBU hGU hatU
                    refine hK.out _ _ (hSt.out _ hBU) (fun hHeld => ?_)
                    clear hK K
                    exact hCont (vE, vT, _, vU) wU ⟨hRU, hBU⟩
            · have cC1 : ¬ (k : Int) < (ps.length : Int) := by omega
              have ek : ps.take k = ps := List.take_of_length_le (by omega)
              rw [ek] at hIC
              go_wp2
              go_roundg (ls.length - (i + 1))
              case measure => omega
              case rel =>
                refine ⟨i + 1, (by first | rfl | rw [wrap_nat i (by omega)]), by omega, rfl, ?_⟩
                rw [HNB.out]
                exact ⟨hIC.out.1, hIC.out.2.1, hIC.out.2.2.1, hIC.out.2.2.2.2⟩
        · have cB1 : ¬ (i : Int) < (ls.length : Int) := by omega
          have ei : ls.take i = ls := List.take_of_length_le (by omega)
          rw [ei] at hIB ⊢
          obtain ⟨nx, hnx⟩ : ∃ z, nxB l ls = z := ⟨_, rfl⟩
          have hst : Hid (stepAll (ups l) ls = nx) := hnx
          rw [hnx] at hIB ⊢
          clear hnx ei
          have hnxl := hIB.out.2.1.len
          obtain ⟨m, hm⟩ : ∃ m, l.length + 1 - n = m + 1 := ⟨l.length - n, by omega⟩
          have hfu := hI.out.2.2.2.1
          rw [hm] at hfu
          have HFU := Lib.hid hfu
          clear hfu
          go_wp2
          go_loopg [13] nx.length (fun kq v13 w' => ∃ (j : Nat), v13 = .int .i64 (j : Int) ∧ j ≤ nx.length ∧ kq = nx.length - j ∧ Aside0 (∀ t, t < j → lastS (nx.getD t []) ≠ a) ∧ Aside0 (Held w w' (.slice A9 nx.length c9) nx ∧ Below w.heap.size w w'))
          case atStart => exact ⟨0, rfl, Nat.zero_le _, rfl, ⟨fun t h => absurd h (Nat.not_lt_zero t)⟩, ⟨hIB.out.1, hIB.out.2.2.2⟩⟩
          case round =>
            obtain ⟨j, rfl, hj, hkD, hall, hID⟩ := hrel
            by_cases cD : j < nx.length
            · have cD1 : (j : Int) < (nx.length : Int) := by omega
              have cD0 : (0 : Int) ≤ (j : Int) := by omega
              obtain ⟨y, hye⟩ : ∃ y, nx.getD j [] = y := ⟨_, rfl⟩
              have hym : y ∈ nx := by rw [← hye, List.getD_eq_getElem?_getD, List.getElem?_eq_getElem cD]; exact List.getElem_mem cD
              have hyl := hIB.out.2.1.ln y hym
              have hyn : y ≠ [] := fun e => by rw [e] at hyl; simp at hyl
              have hpy : 0 < y.length := List.length_pos_iff.2 hyn
              have hyle : y.length ≤ 1003 := by omega
              clear hyl
              obtain ⟨_, ad, g, cy, e9, hx, hcy, hrow, hCy, hy⟩ := hID.out.1.at cD (by rw [hye]; exact hyn)
              subst e9
              rw [hye] at hx hcy hrow hCy hy
              have hwy : IntKind.i64.wrap ((y.length : Int) - 1) = ((y.length - 1 : Nat) : Int) := by rw [Go.IntWalk.i64_in _ ⟨by omega, by omega⟩]; omega
              have hby : ((y.length - 1 : Nat) : Int) < (y.length : Int) := by omega
              have ay := addr_at g (y.length - 1)
              have HROW := Lib.hid hrow
              clear hrow hCy
              go_upto_region 18 with fail
              refine start_ (n := 14) (S := fun Y => Y.cell? (ad.add j) = some (.slice (some ⟨g, 0, none⟩) y.length cy) ∧ Y.cell? ⟨g, y.length - 1, none⟩ = some (.string (lastS y))) (ds := []) #[false, false, false, false, false, false, false, false, false, false, false, false, false, false] (by kernel_rfl) rfl rfl ⟨hx, hy⟩ (fun hHeld => ?_)
              have hB9 : Below wr.heap.size wr wr.drew := (Below.refl _ _).drew
              generalize wr.drew = w3 at hB9 hHeld ⊢
              refine pure_ (i := 0) (N := some 76) (v := ?_) (a' := ?_) #[true, false, false, false, false, false, false, false, false, false, false, false, false, false] rfl rfl (by kernel_rfl) (fun _ _ _ h => h) (Or.inl ⟨by rfl, ?_⟩) ?_ ?_
              rotate_left
              · intro w'; go_simp <;> (with_reducible rfl)
              rotate_left
              · simp only [Act.put, List.setIfInBounds_toArray, List.set_cons_zero, List.set_cons_succ]; rfl
              refine pure_ (i := 1) (N := some 77) (v := ?_) (a' := ?_) #[true, true, false, false, false, false, false, false, false, false, false, false, false, false] rfl rfl (by kernel_rfl) (fun _ _ _ h => h) (Or.inl ⟨by rfl, ?_⟩) ?_ ?_
              rotate_left
              · intro w'; go_simp <;> (with_reducible rfl)
              rotate_left
              · simp only [Act.put, List.setIfInBounds_toArray, List.set_cons_zero, List.set_cons_succ]; rfl
              refine pure_ (i := 2) (N := some 78) (v := ?_) (a' := ?_) #[true, true, true, false, false, false, false, false, false, false, false, false, false, false] rfl rfl (by kernel_rfl) (fun _ _ _ h => h) (Or.inl ⟨by rfl, ?_⟩) ?_ ?_
              rotate_left
              · intro w'; go_simp <;> (with_reducible rfl)
              rotate_left
              · simp only [Act.put, List.setIfInBounds_toArray, List.set_cons_zero, List.set_cons_succ]; rfl
              refine take_ (i := 3) (N := some 79) (v := ?_) (a' := ?_) #[true, true, true, true, false, false, false, false, false, false, false, false, false, false] rfl rfl (by kernel_rfl) (fun _ _ _ h => h) (Or.inl ⟨by rfl, ?_⟩) hHeld ?_ ?_
              rotate_left
              · rintro w' ⟨s0, s1⟩; go_simp <;> (with_reducible rfl)
              rotate_left
              · simp only [Act.put, List.setIfInBounds_toArray, List.set_cons_zero, List.set_cons_succ]; rfl
              refine pure_ (i := 4) (N := some 80) (v := ?_) (a' := ?_) #[true, true, true, true, true, false, false, false, false, false, false, false, false, false] rfl rfl (by kernel_rfl) (fun _ _ _ h => h) (Or.inl ⟨by rfl, ?_⟩) ?_ ?_
              rotate_left
              · intro w'; go_simp <;> (with_reducible rfl)
              rotate_left
              · simp only [Act.put, List.setIfInBounds_toArray, List.set_cons_zero, List.set_cons_succ]; rfl
              refine pure_ (i := 5) (N := some 81) (v := ?_) (a' := ?_) #[true, true, true, true, true, true, false, false, false, false, false, false, false, false] rfl rfl (by kernel_rfl) (fun _ _ _ h => h) (Or.inl ⟨by rfl, ?_⟩) ?_ ?_
              rotate_left
              · intro w'; go_simp <;> (with_reducible rfl)
              rotate_left
              · simp only [Act.put, List.setIfInBounds_toArray, List.set_cons_zero, List.set_cons_succ]; rfl
              refine pure_ (i := 6) (N := some 82) (v := ?_) (a' := ?_) #[true, true, true, true, true, true, true, false, false, false, false, false, false, false] rfl rfl (by kernel_rfl) (fun _ _ _ h => h) (Or.inl ⟨by rfl, ?_⟩) ?_ ?_
              rotate_left
              · intro w'; go_simp <;> (with_reducible rfl)
              rotate_left
              · simp only [Act.put, List.setIfInBounds_toArray, List.set_cons_zero, List.set_cons_succ]; rfl
              refine take_ (i := 7) (N := some 83) (v := ?_) (a' := ?_) #[true, true, true, true, true, true, true, true, false, false, false, false, false, false] rfl rfl (by kernel_rfl) (fun _ _ _ h => h) (Or.inl ⟨by rfl, ?_⟩) hHeld ?_ ?_
              rotate_left
              · rintro w' ⟨s0, s1⟩; go_simp <;> (with_reducible rfl)
              rotate_left
              · simp only [Act.put, List.setIfInBounds_toArray, List.set_cons_zero, List.set_cons_succ]; rfl
              refine pure_ (i := 8) (N := some 84) (v := ?_) (a' := ?_) #[true, true, true, true, true, true, true, true, true, false, false, false, false, false] rfl rfl (by kernel_rfl) (fun _ _ _ h => h) (Or.inl ⟨by rfl, ?_⟩) ?_ ?_
              rotate_left
              · intro w'; go_simp <;> (with_reducible rfl)
              rotate_left
              · simp only [Act.put, List.setIfInBounds_toArray, List.set_cons_zero, List.set_cons_succ]; rfl
              refine pure_ (i := 9) (N := some 85) (v := ?_) (a' := ?_) #[true, true, true, true, true, true, true, true, true, true, false, false, false, false] rfl rfl (by kernel_rfl) (fun _ _ _ h => h) (Or.inl ⟨by rfl, ?_⟩) ?_ ?_
              rotate_left
              · intro w'; go_simp <;> (with_reducible rfl)
              rotate_left
              · simp only [Act.put, List.setIfInBounds_toArray, List.set_cons_zero, List.set_cons_succ]; rfl
              refine pure_ (i := 10) (N := some 86) (v := ?_) (a' := ?_) #[true, true, true, true, true, true, true, true, true, true, true, false, false, false] rfl rfl (by kernel_rfl) (fun _ _ _ h => h) (Or.inl ⟨by rfl, ?_⟩) ?_ ?_
              rotate_left
              · intro w'; go_simp <;> (with_reducible rfl)
              rotate_left
              · simp only [Act.put, List.setIfInBounds_toArray, List.set_cons_zero, List.set_cons_succ]; rfl
              refine take_ (i := 11) (N := some 87) (v := ?_) (a' := ?_) #[true, true, true, true, true, true, true, true, true, true, true, true, false, false] rfl rfl (by kernel_rfl) (fun _ _ _ h => h) (Or.inl ⟨by rfl, ?_⟩) hHeld ?_ ?_
              rotate_left
              · rintro w' ⟨s0, s1⟩; go_simp <;> (with_reducible rfl)
              rotate_left
              · simp only [Act.put, List.setIfInBounds_toArray, List.set_cons_zero, List.set_cons_succ]; rfl
              refine pure_ (i := 12) (N := some 88) (v := ?_) (a' := ?_) #[true, true, true, true, true, true, true, true, true, true, true, true, true, false] rfl rfl (by kernel_rfl) (fun _ _ _ h => h) (Or.inl ⟨by rfl, ?_⟩) ?_ ?_
              rotate_left
              · intro w'; go_simp <;> (with_reducible rfl)
              rotate_left
              · simp only [Act.put, List.setIfInBounds_toArray, List.set_cons_zero, List.set_cons_succ]; rfl
              refine pure_ (i := 13) (N := some 89) (v := ?_) (a' := ?_) #[true, true, true, true, true, true, true, true, true, true, true, true, true, true] rfl rfl (by kernel_rfl) (fun _ _ _ h => h) (Or.inl ⟨by rfl, ?_⟩) ?_ ?_
              rotate_left
              · intro w'; go_simp <;> (with_reducible rfl)
              rotate_left
              · simp only [Act.put, List.setIfInBounds_toArray, List.set_cons_zero, List.set_cons_succ]; rfl
              refine done_ (by kernel_rfl) ?_
              obtain ⟨hx3, hy3⟩ := hHeld
              by_cases he : lastS y = a
              · have hbe : ((lastS y).toList == a.toList) = true := by rw [he]; exact beq_self_eq_true _
                rw [hbe]
                have hfd := furN_found (m := m) hst.out cD hall.out (by rw [hye]; exact he)
                rw [hye, ← HFU.out] at hfd
                have HFD := Lib.hid hfd
                clear hfd he
                go_wp2
                go_ret
                refine ⟨_, rfl, ?_, hID.out.2.trans (hB9.mono hID.out.2.size)⟩
                rw [HFD.out]
                exact HROW.out.later hB9
              · have hbe : ((lastS y).toList == a.toList) = false := by rw [beq_eq_false_iff_ne]; exact fun e => he (toList_inj e)
                rw [hbe]
                go_wp2
                go_roundg (nx.length - (j + 1))
                case measure => omega
                case rel =>
                  refine ⟨j + 1, (by first | rfl | rw [wrap_nat j (by omega)]), by omega, rfl, ⟨fun t ht => ?_⟩, ⟨hID.out.1.later hB9, hID.out.2.trans (hB9.mono hID.out.2.size)⟩⟩
                  rcases Nat.lt_or_ge t j with h2 | h2
                  · exact hall.out t h2
                  · obtain rfl : t = j := by omega
                    rw [hye]; exact he
            · have cD1 : ¬ (j : Int) < (nx.length : Int) := by omega
              have hnx2 := furN_next (m := m) hst.out (fun t ht => hall.out t (by omega))
              rw [← HFU.out] at hnx2
              have HN2 := Lib.hid hnx2
              clear hnx2
              go_wp2
              go_roundg (l.length + 1 - (n + 1))
              case measure => omega
              case rel =>
                refine ⟨n + 1, nx, (by first | rfl | rw [wrap_nat n (by omega)]), by omega, rfl, ⟨hID.out.1, by omega, hIB.out.2.1.ln, ?_, hID.out.2⟩⟩
                rw [HN2.out, show l.length + 1 - (n + 1) = m by omega]
    · have cA1 : ¬ (n : Int) ≤ (l.length : Int) := by omega
      go_wp2
      go_ret
      have e0 : l.length + 1 - n = 0 := by omega
      have hfu := hI.out.2.2.2.1
      rw [e0] at hfu
      exact ⟨_, rfl, by rw [hfu]; exact Row.nil _ _ _, hI.out.2.2.2.2⟩
end Go.Proofs.Ytdljclokenoogaa.Hw
end
section
namespace Go.Proofs.Ytdljclokenoogaa.Hw
open Go.RowKit Go.Proofs.Ytdljclokenoogaa.Hp Go.Proofs.YtdljclokenoogaaW.PrintWords Go.Proofs.YtdljclokenoogaaW.PrintLast Go.Proofs.YtdljclokenoogaaW.PrintMore
def ringStepR (up : ByteArray → List ByteArray) (N : Nat) (b : List ByteArray) (c : ByteArray) : List ByteArray :=
  if (furtherOf up N c c).isEmpty then b else if b.isEmpty || lessR (furtherOf up N c c).dropLast b then (furtherOf up N c c).dropLast else b
def ringRef (l : List S61) : List ByteArray := (names l).foldl (ringStepR (ups l) l.length) []
theorem ringRef_take {l : List S61} {i : Nat} (hi : i < l.length) : (names (l.take (i + 1))).foldl (ringStepR (ups l) l.length) [] = ringStepR (ups l) l.length ((names (l.take i)).foldl (ringStepR (ups l) l.length) []) l[i].f0 := by
  have : names (l.take (i + 1)) = names (l.take i) ++ [l[i].f0] := by
    unfold names
    rw [List.take_succ_eq_append_getElem hi, List.map_append]; rfl
  rw [this, List.foldl_append]; rfl
set_option maxHeartbeats 32000000 in
set_option maxRecDepth 100000 in
theorem refRing_calls (A0 : Option Addr) (c0 : Nat) (l : List S61) (w : World) (hr0 : k61.C w A0 l.length l) (hc0 : l.length ≤ c0) (hl : l.length ≤ 1000) (hup : ∀ x ∈ l, x.f3.length ≤ 1000) :
    Calls Try.prog 46 #[.slice A0 l.length c0] w fun e w' => ∃ v, e = .returned v ∧ Kd.string.R 9 w' w.heap.size (fun _ => True) v (ringRef l) ∧ Below w.heap.size w w' := by
  obtain ⟨i0, hi0, _, hsz0, _⟩ := info_parts info_s
  have HR0 := Lib.hid hr0
  have HUP := Lib.hid hup
  clear hr0 hup
  have hnl : (names l).length = l.length := names_len l
  go_enter Try.func46, Try.ntmps46
  go_wp2
  go_loopg [3, 4] l.length (fun kq v3 v4 w' => ∃ (i : Nat), v4 = .int .i64 (i : Int) ∧ i ≤ l.length ∧ kq = l.length - i ∧ Aside0 (∃ b, Kd.string.R 9 w' w.heap.size (fun _ => True) v3 b ∧ b = (names (l.take i)).foldl (ringStepR (ups l) l.length) [] ∧ b.length ≤ l.length + 1 ∧ Below w.heap.size w w'))
  case atStart => exact ⟨0, rfl, Nat.zero_le _, rfl, ⟨[], Kd.R_nil _ _ _ _ _, rfl, by simp, Below.refl _ _⟩⟩
  case round =>
    obtain ⟨i, rfl, hi, hk, ⟨b, hRb, hbe, hbl, hB⟩⟩ := hrel
    obtain ⟨A3, c3, e3, hc3, hC3⟩ := Kd.R_reads hRb
    cases e3
    have HB3 := Lib.hid hRb
    have HC3 := Lib.hid hC3
    have HBE := Lib.hid hbe
    clear hRb hC3 hbe
    by_cases cA : i < l.length
    · have cA1 : (i : Int) < (l.length : Int) := by omega
      have cA0 : (0 : Int) ≤ (i : Int) := by omega
      obtain ⟨ad, A2, c2, A3', c3', A4, c4, A5, c5, A6, c6, ea, hx0, _⟩ := at_T61 (Kd.C_below HR0.out hB) (i : Int) (by omega) (by omega)
      subst ea
      rw [Int.toNat_natCast, rd_class cA] at hx0
      obtain ⟨y, hy⟩ : ∃ y, l[i].f0 = y := ⟨_, rfl⟩
      have hnx := ringRef_take cA
      rw [← HBE.out, hy] at hnx
      rw [hy] at hx0
      have HNX0 := Lib.hid hnx
      clear hnx hy
      go_upto_region 5 with fail
      refine start_ (n := 13) (S := fun Y => Y.cell? (ad.add (i * 7)) = some (.string y)) (ds := [11]) #[false, false, false, false, false, false, false, false, false, false, false, false, false] (by kernel_rfl) rfl rfl hx0 (fun hHeld => ?_)
      have hB9 : Below wr.heap.size wr wr.drew := (Below.refl _ _).drew
      generalize wr.drew = w3 at hB9 hHeld ⊢
      refine pure_ (i := 0) (N := some 13) (v := ?_) (a' := ?_) #[true, false, false, false, false, false, false, false, false, false, false, false, false] rfl rfl (by kernel_rfl) (fun _ _ _ h => h) (Or.inl ⟨by rfl, ?_⟩) ?_ ?_
      rotate_left
      · intro w'; go_simp <;> (with_reducible rfl)
      rotate_left
      · simp only [Act.put, List.setIfInBounds_toArray, List.set_cons_zero, List.set_cons_succ]; rfl
      refine pure_ (i := 1) (N := some 14) (v := ?_) (a' := ?_) #[true, true, false, false, false, false, false, false, false, false, false, false, false] rfl rfl (by kernel_rfl) (fun _ _ _ h => h) (Or.inl ⟨by rfl, ?_⟩) ?_ ?_
      rotate_left
      · intro w'; go_simp <;> (with_reducible rfl)
      rotate_left
      · simp only [Act.put, List.setIfInBounds_toArray, List.set_cons_zero, List.set_cons_succ]; rfl
      refine pure_ (i := 2) (N := some 15) (v := ?_) (a' := ?_) #[true, true, true, false, false, false, false, false, false, false, false, false, false] rfl rfl (by kernel_rfl) (fun _ _ _ h => h) (Or.inl ⟨by rfl, ?_⟩) ?_ ?_
      rotate_left
      · intro w'; go_simp <;> (with_reducible rfl)
      rotate_left
      · simp only [Act.put, List.setIfInBounds_toArray, List.set_cons_zero, List.set_cons_succ]; rfl
      refine pure_ (i := 3) (N := some 16) (v := ?_) (a' := ?_) #[true, true, true, true, false, false, false, false, false, false, false, false, false] rfl rfl (by kernel_rfl) (fun _ _ _ h => h) (Or.inl ⟨by rfl, ?_⟩) ?_ ?_
      rotate_left
      · intro w'; go_simp <;> (with_reducible rfl)
      rotate_left
      · simp only [Act.put, List.setIfInBounds_toArray, List.set_cons_zero, List.set_cons_succ]; rfl
      refine pure_ (i := 4) (N := some 17) (v := ?_) (a' := ?_) #[true, true, true, true, true, false, false, false, false, false, false, false, false] rfl rfl (by kernel_rfl) (fun _ _ _ h => h) (Or.inl ⟨by rfl, ?_⟩) ?_ ?_
      rotate_left
      · intro w'; go_simp <;> (with_reducible rfl)
      rotate_left
      · simp only [Act.put, List.setIfInBounds_toArray, List.set_cons_zero, List.set_cons_succ]; rfl
      refine take_ (i := 5) (N := some 18) (v := ?_) (a' := ?_) #[true, true, true, true, true, true, false, false, false, false, false, false, false] rfl rfl (by kernel_rfl) (fun _ _ _ h => h) (Or.inl ⟨by rfl, ?_⟩) hHeld ?_ ?_
      rotate_left
      · rintro w' s0; go_simp <;> (with_reducible rfl)
      rotate_left
      · simp only [Act.put, List.setIfInBounds_toArray, List.set_cons_zero, List.set_cons_succ]; rfl
      refine pure_ (i := 6) (N := some 19) (v := ?_) (a' := ?_) #[true, true, true, true, true, true, true, false, false, false, false, false, false] rfl rfl (by kernel_rfl) (fun _ _ _ h => h) (Or.inl ⟨by rfl, ?_⟩) ?_ ?_
      rotate_left
      · intro w'; go_simp <;> (with_reducible rfl)
      rotate_left
      · simp only [Act.put, List.setIfInBounds_toArray, List.set_cons_zero, List.set_cons_succ]; rfl
      refine pure_ (i := 7) (N := some 20) (v := ?_) (a' := ?_) #[true, true, true, true, true, true, true, true, false, false, false, false, false] rfl rfl (by kernel_rfl) (fun _ _ _ h => h) (Or.inl ⟨by rfl, ?_⟩) ?_ ?_
      rotate_left
      · intro w'; go_simp <;> (with_reducible rfl)
      rotate_left
      · simp only [Act.put, List.setIfInBounds_toArray, List.set_cons_zero, List.set_cons_succ]; rfl
      refine pure_ (i := 8) (N := some 21) (v := ?_) (a' := ?_) #[true, true, true, true, true, true, true, true, true, false, false, false, false] rfl rfl (by kernel_rfl) (fun _ _ _ h => h) (Or.inl ⟨by rfl, ?_⟩) ?_ ?_
      rotate_left
      · intro w'; go_simp <;> (with_reducible rfl)
      rotate_left
      · simp only [Act.put, List.setIfInBounds_toArray, List.set_cons_zero, List.set_cons_succ]; rfl
      refine pure_ (i := 9) (N := some 22) (v := ?_) (a' := ?_) #[true, true, true, true, true, true, true, true, true, true, false, false, false] rfl rfl (by kernel_rfl) (fun _ _ _ h => h) (Or.inl ⟨by rfl, ?_⟩) ?_ ?_
      rotate_left
      · intro w'; go_simp <;> (with_reducible rfl)
      rotate_left
      · simp only [Act.put, List.setIfInBounds_toArray, List.set_cons_zero, List.set_cons_succ]; rfl
      refine take_ (i := 10) (N := some 23) (v := ?_) (a' := ?_) #[true, true, true, true, true, true, true, true, true, true, true, false, false] rfl rfl (by kernel_rfl) (fun _ _ _ h => h) (Or.inl ⟨by rfl, ?_⟩) hHeld ?_ ?_
      rotate_left
      · rintro w' s0; go_simp <;> (with_reducible rfl)
      rotate_left
      · simp only [Act.put, List.setIfInBounds_toArray, List.set_cons_zero, List.set_cons_succ]; rfl
      refine last_ (i := 11) (N := some 24) #[true, true, true, true, true, true, true, true, true, true, true, true, false] rfl rfl (by kernel_rfl) (by decide) (fun K hK => ?_)
      refine goes_ Try.func93 (by kernel_rfl) rfl #[.slice (some ad) l.length c0, .string y, .string y] (by rfl) rfl rfl (by simp only [List.map_toArray, List.map_cons, List.map_nil]; first | done | rfl) ?_
      have hB3 := hB.trans (hB9.mono hB.size)
      refine (further_calls (some ad) c0 l y y _ (Kd.C_below HR0.out hB3) hc0 hl HUP.out).mono ?_
      rintro e w4 ⟨vp, rfl, hRp, hB4⟩
      refine ⟨_, rfl, ?_⟩
      refine hK.out _ _ ?_
      clear hK K
      refine norm_ (a' := ?_) ?_ ?_
      rotate_left
      · show Act.put _ (some 24) _ = _; simp only [Act.put, List.setIfInBounds_toArray, List.set_cons_zero, List.set_cons_succ]; rfl
      refine pure_ (i := 12) (N := some 5) (v := ?_) (a' := ?_) #[true, true, true, true, true, true, true, true, true, true, true, true, true] rfl rfl (by kernel_rfl) (fun _ _ _ h => h) (Or.inl ⟨by rfl, ?_⟩) ?_ ?_
      rotate_left
      · intro w'; go_simp <;> (with_reducible rfl)
      rotate_left
      · simp only [Act.put, List.setIfInBounds_toArray, List.set_cons_zero, List.set_cons_succ]; rfl
      refine done_ (by kernel_rfl) ?_
      have hfl := furtherOf_len (up := ups l) (names := names l) (c := y) (a := y)
      rw [hnl] at hfl
      have hstep : ringStepR (ups l) l.length b y = if (furtherOf (ups l) l.length y y).isEmpty then b else if b.isEmpty || lessR (furtherOf (ups l) l.length y y).dropLast b then (furtherOf (ups l) l.length y y).dropLast else b := rfl
      rw [hstep] at HNX0
      generalize furtherOf (ups l) l.length y y = t at hRp hfl HNX0
      clear hstep
      have hB14 : Below w.heap.size w w4 := hB3.trans (hB4.mono hB3.size)
      have hBr4 : Below wr.heap.size wr w4 := hB9.trans (hB4.mono hB9.size)
      obtain ⟨Ap, cp, ep, hcp, Cp⟩ := hRp.reads
      cases ep
      by_cases ht : t = []
      · have ht0 : t.length = 0 := by rw [ht]; rfl
        have htb : ((t.length : Int) == 0) = true := by rw [ht0]; rfl
        have hnx2 := HNX0.out
        rw [if_pos (by rw [ht]; rfl)] at hnx2
        have HNX := Lib.hid hnx2
        have HT := Lib.hid ht
        clear hnx2 ht ht0 hRp Cp
        go_wp2
        go_roundg (l.length - (i + 1))
        case measure => omega
        case rel => exact ⟨i + 1, (by first | rfl | rw [wrap_nat i (by omega)]), by omega, rfl, ⟨b, Kd.R_below HB3.out hBr4, HNX.out.symm, hbl, hB14⟩⟩
      · have htp : 0 < t.length := List.length_pos_iff.2 ht
        have htb : ((t.length : Int) == 0) = false := by rw [beq_eq_false_iff_ne]; omega
        have hemp : ¬ t.isEmpty = true := by simpa using ht
        have HNX : Hid ((names (l.take (i + 1))).foldl (ringStepR (ups l) l.length) [] = if t.isEmpty = true then b else if (b.isEmpty || lessR t.dropLast b) = true then t.dropLast else b) := HNX0.out
        have hwt : IntKind.i64.wrap ((t.length : Int) - 1) = ((t.length - 1 : Nat) : Int) := by rw [Go.IntWalk.i64_in _ ⟨by omega, by omega⟩]; omega
        have hcut1 := cut_to (P := Try.prog) 25 9 .i64 Try.underlying25 hi0 Ap t.length cp ((t.length - 1 : Nat) : Int) (by omega) (by omega) hcp
        rw [Int.toNat_natCast] at hcut1
        have hRy : Kd.string.R 9 w4 w.heap.size (fun _ => True) (.slice Ap (t.length - 1) cp) t.dropLast := by
          rw [List.dropLast_eq_take]
          exact Kd.R_lower (Kd.R_take hRp.1 (by omega)) hB3.size
        have hyl : t.dropLast.length = t.length - 1 := by rw [List.length_dropLast]
        obtain ⟨yy, hyy⟩ : ∃ z, t.dropLast = z := ⟨_, rfl⟩
        rw [hyy] at hRy hyl HNX
        have hcpy : yy.length ≤ cp := by omega
        have hCy : Kd.string.C w4 Ap yy.length yy := (Kd.R_reads' hRy).2.2
        have hbv := before_val yy b (by omega) (2 * yy.length + 2) (Nat.le_refl _)
        rw [← hyl] at hcut1 hwt hRy
        have hyl2 : yy.length ≤ l.length + 1 := by omega
        have HY0 := Lib.hid hRy
        have HYL : Hid (yy.length ≤ l.length + 1) := hyl2
        clear hyy hRy hRp Cp HNX0 hyl
        have hbc := Kd.C_below HC3.out hBr4
        have hC8 : ∀ (r : Bool) w5, Drawn0 w4 w5 → Below w.heap.size w w5 ∧ Kd.string.R 9 w5 w.heap.size (fun _ => True) (.slice Ap yy.length cp) yy ∧ Kd.string.R 9 w5 w.heap.size (fun _ => True) (.slice A3 b.length c3) b ∧ r = r := by
          rintro r w5 ⟨nd, rfl⟩
          exact ⟨pw_below_drewN hB14 nd, Kd.R_below HY0.out (pw_below_drewN (Below.refl _ _) nd), Kd.R_below HB3.out (pw_below_drewN hBr4 nd), rfl⟩
        have HC8 := Lib.hid (hC8 true)
        clear hC8
        obtain ⟨q, hq⟩ : ∃ q, lexB yy b = q := ⟨_, rfl⟩
        rw [hq] at hbv
        by_cases hb0 : b.length = 0
        · have hbb : ((b.length : Int) == 0) = true := by rw [hb0]; rfl
          have HC : Hid ((b.isEmpty || lessR yy b) = true) := by show _ = _; rw [List.length_eq_zero_iff.1 hb0]; rfl
          clear hb0 hq
          go_wp2_with (go_at_call 94; refine (cosignerref03_Before.calls _ _ _ yy _ _ b q _ hCy hcpy hbc hc3 hbv).mono ?_; rintro e w5 ⟨rfl, hd⟩; obtain ⟨hB5, hY5, hBB5, _⟩ := HC8.out w5 hd; have HY := Lib.hid hY5; have HBB := Lib.hid hBB5; clear hd hY5 hBB5)
          go_roundg (l.length - (i + 1))
          case measure => omega
          case rel =>
            refine ⟨i + 1, (by first | rfl | rw [wrap_nat i (by omega)]), by omega, rfl, ⟨_, HY.out, ?_, ?_, hB5⟩⟩
            · rw [HNX.out, if_neg hemp, if_pos HC.out]
            · exact HYL.out
        · have hbb : ((b.length : Int) == 0) = false := by rw [beq_eq_false_iff_ne]; omega
          have hbemp : b.isEmpty = false := by rw [List.isEmpty_eq_false_iff]; exact fun e => hb0 (by rw [e]; rfl)
          by_cases h1 : yy.length < b.length
          · have h1b : (yy.length : Int) < (b.length : Int) := by omega
            have HC : Hid ((b.isEmpty || lessR yy b) = true) := by show _ = _; unfold lessR; rw [decide_eq_true h1]; simp
            go_wp2_with (go_at_call 94; refine (cosignerref03_Before.calls _ _ _ yy _ _ b q _ hCy hcpy hbc hc3 hbv).mono ?_; rintro e w5 ⟨rfl, hd⟩; obtain ⟨hB5, hY5, hBB5, _⟩ := HC8.out w5 hd; have HY := Lib.hid hY5; have HBB := Lib.hid hBB5; clear hd hY5 hBB5)
            go_roundg (l.length - (i + 1))
            case measure => omega
            case rel =>
              refine ⟨i + 1, (by first | rfl | rw [wrap_nat i (by omega)]), by omega, rfl, ⟨_, HY.out, ?_, ?_, hB5⟩⟩
              · rw [HNX.out, if_neg hemp, if_pos HC.out]
              · exact HYL.out
          · have h1b : ¬ (yy.length : Int) < (b.length : Int) := by omega
            by_cases h2 : yy.length = b.length
            · have h2b : ((yy.length : Int) == (b.length : Int)) = true := by rw [h2]; exact beq_self_eq_true _
              have hlr : lessR yy b = q := by unfold lessR; rw [decide_eq_false h1, decide_eq_true h2, Bool.false_or, Bool.true_and, hq]
              cases q with
              | true =>
                have HC : Hid ((b.isEmpty || lessR yy b) = true) := by show _ = _; rw [hlr]; simp
                have H2 := Lib.hid h2
                clear h2 hlr hq
                go_wp2_with (go_at_call 94; refine (cosignerref03_Before.calls _ _ _ yy _ _ b true _ hCy hcpy hbc hc3 hbv).mono ?_; rintro e w5 ⟨rfl, hd⟩; obtain ⟨hB5, hY5, hBB5, _⟩ := HC8.out w5 hd; have HY := Lib.hid hY5; have HBB := Lib.hid hBB5; clear hd hY5 hBB5)
                go_roundg (l.length - (i + 1))
                case measure => omega
                case rel =>
                  refine ⟨i + 1, (by first | rfl | rw [wrap_nat i (by omega)]), by omega, rfl, ⟨_, HY.out, ?_, ?_, hB5⟩⟩
                  · rw [HNX.out, if_neg hemp, if_pos HC.out]
                  · exact HYL.out
              | false =>
                have HC : Hid (¬ (b.isEmpty || lessR yy b) = true) := by show ¬ _; rw [hlr, hbemp]; decide
                have H2 := Lib.hid h2
                clear h2 hlr hq
                go_wp2_with (go_at_call 94; refine (cosignerref03_Before.calls _ _ _ yy _ _ b false _ hCy hcpy hbc hc3 hbv).mono ?_; rintro e w5 ⟨rfl, hd⟩; obtain ⟨hB5, hY5, hBB5, _⟩ := HC8.out w5 hd; have HY := Lib.hid hY5; have HBB := Lib.hid hBB5; clear hd hY5 hBB5)
                go_roundg (l.length - (i + 1))
                case measure => omega
                case rel =>
                  refine ⟨i + 1, (by first | rfl | rw [wrap_nat i (by omega)]), by omega, rfl, ⟨_, HBB.out, ?_, hbl, hB5⟩⟩
                  rw [HNX.out, if_neg hemp, if_neg HC.out]
            · have h2b : ((yy.length : Int) == (b.length : Int)) = false := by rw [beq_eq_false_iff_ne]; omega
              have HC : Hid (¬ (b.isEmpty || lessR yy b) = true) := by show ¬ _; unfold lessR; rw [decide_eq_false h1, decide_eq_false h2, hbemp]; simp
              go_wp2_with (go_at_call 94; refine (cosignerref03_Before.calls _ _ _ yy _ _ b q _ hCy hcpy hbc hc3 hbv).mono ?_; rintro e w5 ⟨rfl, hd⟩; obtain ⟨hB5, hY5, hBB5, _⟩ := HC8.out w5 hd; have HY := Lib.hid hY5; have HBB := Lib.hid hBB5; clear hd hY5 hBB5)
              go_roundg (l.length - (i + 1))
              case measure => omega
              case rel =>
                refine ⟨i + 1, (by first | rfl | rw [wrap_nat i (by omega)]), by omega, rfl, ⟨_, HBB.out, ?_, hbl, hB5⟩⟩
                rw [HNX.out, if_neg hemp, if_neg HC.out]
    · have cA1 : ¬ (i : Int) < (l.length : Int) := by omega
      have ei : l.take i = l := List.take_of_length_le (by omega)
      rw [ei] at HBE
      go_wp2
      go_ret
      exact ⟨_, rfl, by rw [show ringRef l = b from HBE.out.symm]; exact HB3.out, hB⟩
end Go.Proofs.Ytdljclokenoogaa.Hw
end
section
namespace Go.Proofs.Ytdljclokenoogaa.Hp
open Go.RowKit Go.Proofs.YtdljclokenoogaaW.PrintWords Go.Proofs.YtdljclokenoogaaW.PrintLast Go.Proofs.YtdljclokenoogaaW.PrintMore Go.Proofs.Ytdljclokenoogaa.Hw
def fewUps (l : List S61) : Bool := l.all (fun x => decide (x.f3.length ≤ 1000))
theorem fewUps_at {l : List S61} (h : fewUps l = true) : ∀ x ∈ l, x.f3.length ≤ 1000 := fun x hx => of_decide_eq_true (List.all_eq_true.1 h x hx)
def cosignerref03_Ring.f (l0 : List S61) : Option (List ByteArray) := if l0.length ≤ 1000 ∧ fewUps l0 = true then some (ringRef l0) else none
theorem cosignerref03_Ring.calls (A0 : Option Addr) (c0 : Nat) (l0 : List S61) (r : List ByteArray) (w : World) (hr0 : Kd.C k61 w A0 l0.length l0) (hc0 : l0.length ≤ c0) (h : cosignerref03_Ring.f l0 = some r) :
    Calls Try.prog 46 #[.slice A0 l0.length c0] w fun e w' => ∃ v, e = .returned v ∧ Kd.R Kd.string 9 w' w.heap.size (fun _ => True) v r ∧ Below w.heap.size w w' := by
  unfold cosignerref03_Ring.f at h
  split at h
  · rename_i hb
    obtain rfl := Option.some.inj h
    exact refRing_calls A0 c0 l0 w hr0 hc0 hb.1 (fewUps_at hb.2)
  · cases h
end Go.Proofs.Ytdljclokenoogaa.Hp
end
