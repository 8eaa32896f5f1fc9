/-
  HeirProofs: for every input the statement returns true, and each argument reads behind the call as it read before.
  Conditions: those of the given row alone. (The texts of this claim are merged by the session's program wip/pack.py; declarations that nothing names are left out.)
-/
import Derived.SizedLaws
import Derived.ChangeSlices
import Derived.Test.YtdljclokenoogaaRows
import Derived.WalkKit
import Derived.ProofKit
import Derived.OpenShut
import Derived.ShutString
import Derived.ChangeOld
import Derived.Below
import Derived.Test.YtdljclokenoogaaKTp3
set_option linter.unusedVariables false
set_option linter.unusedSimpArgs false
section
namespace Go.Proofs.Ytdljclokenoogaa.Hp
open Go.RowKit Go.Proofs.YtdljclokenoogaaW.PrintWords Go.Proofs.YtdljclokenoogaaW.PrintLast Go.Proofs.YtdljclokenoogaaW.PrintMore
attribute [local go_sem] max2_int min2_int max_two min_two max_three min_three max_four min_four
set_option linter.unusedVariables false
set_option linter.unusedSimpArgs false
mutual
def cosignerlaw03_HeirProofs.j0 : Nat → List (S61) → Int → Int → List ByteArray → Bool → Option (Bool)
  | 0, _, _, _, _, _ => none
  | k + 1, x0, x1, x2, x3, x29 => if x29 = true then ((cosignerlaw03_sanity.f).bind fun t242 => (some t242)) else ((heir_Check.f x0).bind fun bt243 => ((heir_Ring.f x0).bind fun bt245 => (if bt245.2 = true then ((heir_CheckRing.f x0 bt245.1).bind fun t249 => (if t249 = 0 then (if bt243.1 = 0 then (cosignerlaw03_HeirProofs.j1 k x0 x1 x2 x3 bt243.1 true) else (if bt243.1 = 7 then (if 0 < (bt245.1.length : Int) then (if bt243.2.toList = (rdOf ByteArray.empty bt245.1 0).toList then ((heir_CheckRing.f x0 x3).bind fun t251 => (if t251 = 0 then (cosignerlaw03_HeirProofs.j1 k x0 x1 x2 x3 bt243.1 (decide ((x3.length : Int) < (bt245.1.length : Int)))) else (cosignerlaw03_HeirProofs.j1 k x0 x1 x2 x3 bt243.1 false))) else (cosignerlaw03_HeirProofs.j1 k x0 x1 x2 x3 bt243.1 true)) else (none)) else ((heir_CheckRing.f x0 x3).bind fun t252 => (if t252 = 0 then (cosignerlaw03_HeirProofs.j1 k x0 x1 x2 x3 bt243.1 (decide ((x3.length : Int) < (bt245.1.length : Int)))) else (cosignerlaw03_HeirProofs.j1 k x0 x1 x2 x3 bt243.1 false))))) else (cosignerlaw03_HeirProofs.j1 k x0 x1 x2 x3 bt243.1 true))) else (if bt243.1 = 7 then (cosignerlaw03_HeirProofs.j1 k x0 x1 x2 x3 bt243.1 true) else ((heir_CheckRing.f x0 x3).bind fun t253 => (if t253 = 0 then (if bt243.1 = 0 then (cosignerlaw03_HeirProofs.j1 k x0 x1 x2 x3 bt243.1 true) else (cosignerlaw03_HeirProofs.j1 k x0 x1 x2 x3 bt243.1 true)) else (cosignerlaw03_HeirProofs.j1 k x0 x1 x2 x3 bt243.1 false)))))))
def cosignerlaw03_HeirProofs.j1 : Nat → List (S61) → Int → Int → List ByteArray → Int → Bool → Option (Bool)
  | 0, _, _, _, _, _, _ => none
  | k + 1, x0, x1, x2, x3, x9, x87 => if x87 = true then (some false) else (if x9 = 0 then ((cosignerlaw03_name.f x0 x1).bind fun t255 => ((cosignerlaw03_name.f x0 x2).bind fun t256 => ((heir_Way.f x0 t255 t256).bind fun bt257 => ((cosignerlaw03_is.f x0 t255 t256).bind fun t261 => (if ((bt257.2 == 0) != t261) = true then (cosignerlaw03_HeirProofs.j2 k x0 x3 t255 t256 bt257.1 true) else (if bt257.2 = 0 then ((heir_CheckWay.f x0 t255 t256 bt257.1).bind fun t262 => (cosignerlaw03_HeirProofs.j2 k x0 x3 t255 t256 bt257.1 (t262 != 0))) else (cosignerlaw03_HeirProofs.j2 k x0 x3 t255 t256 bt257.1 false))))))) else ((cosignerlaw03_sanity.f).bind fun t254 => (some t254)))
def cosignerlaw03_HeirProofs.j2 : Nat → List (S61) → List ByteArray → ByteArray → ByteArray → List ByteArray → Bool → Option (Bool)
  | 0, _, _, _, _, _, _ => none
  | k + 1, x0, x3, x13, x14, x15, x122 => if x122 = true then (some false) else ((cosignerlaw03_sanity.f).bind fun t263 => (if t263 = true then ((heir_CheckWay.f x0 x13 x14 x3).bind fun t264 => (if t264 = 0 then ((cosignerlaw03_is.f x0 x13 x14).bind fun t265 => (if t265 = true then (some (decide ((x15.length : Int) ≤ (x3.length : Int)))) else (some false))) else (some true))) else (some false)))
end
def cosignerlaw03_HeirProofs.f (k : Nat) (l0 : List (S61)) (a1 : Int) (a2 : Int) (l3 : List ByteArray) : Option (Bool) := if (l0.length : Int) = 0 then (cosignerlaw03_HeirProofs.j0 k l0 a1 a2 l3 true) else (if (l0.length : Int) > 24 then (cosignerlaw03_HeirProofs.j0 k l0 a1 a2 l3 true) else (cosignerlaw03_HeirProofs.j0 k l0 a1 a2 l3 (decide ((l3.length : Int) > 40))))
theorem cosignerlaw03_HeirProofs.mono_l : ∀ k, (∀ y0 y1 y2 y3 y4, LeO (cosignerlaw03_HeirProofs.j0 k y0 y1 y2 y3 y4) (cosignerlaw03_HeirProofs.j0 (k + 1) y0 y1 y2 y3 y4)) ∧ (∀ y0 y1 y2 y3 y4 y5, LeO (cosignerlaw03_HeirProofs.j1 k y0 y1 y2 y3 y4 y5) (cosignerlaw03_HeirProofs.j1 (k + 1) y0 y1 y2 y3 y4 y5)) ∧ (∀ y0 y1 y2 y3 y4 y5, LeO (cosignerlaw03_HeirProofs.j2 k y0 y1 y2 y3 y4 y5) (cosignerlaw03_HeirProofs.j2 (k + 1) y0 y1 y2 y3 y4 y5))
  | 0 => ⟨fun _ _ _ _ _ r h => by simp [cosignerlaw03_HeirProofs.j0] at h, fun _ _ _ _ _ _ r h => by simp [cosignerlaw03_HeirProofs.j1] at h, fun _ _ _ _ _ _ r h => by simp [cosignerlaw03_HeirProofs.j2] at h⟩
  | k + 1 => by
    obtain ⟨ih0, ih1, ih2⟩ := cosignerlaw03_HeirProofs.mono_l k
    refine ⟨?_, ?_, ?_⟩
    · intro y0 y1 y2 y3 y4
      unfold cosignerlaw03_HeirProofs.j0
      repeat' first
      | (with_reducible exact ih0 _ _ _ _ _)
      | (with_reducible exact ih1 _ _ _ _ _ _)
      | (with_reducible exact ih2 _ _ _ _ _ _)
      | (with_reducible exact LeO.refl _)
      | (with_reducible exact LeO.none _)
      | (with_reducible refine LeO.ite ?_ ?_)
      | (with_reducible refine LeO.bind ?_ (fun _ => ?_))
      | exact ih0 _ _ _ _ _
      | exact ih1 _ _ _ _ _ _
      | exact ih2 _ _ _ _ _ _
      | exact LeO.none _
      | refine LeO.ite ?_ ?_
      | refine LeO.bind ?_ (fun _ => ?_)
    · intro y0 y1 y2 y3 y4 y5
      unfold cosignerlaw03_HeirProofs.j1
      repeat' first
      | (with_reducible exact ih0 _ _ _ _ _)
      | (with_reducible exact ih1 _ _ _ _ _ _)
      | (with_reducible exact ih2 _ _ _ _ _ _)
      | (with_reducible exact LeO.refl _)
      | (with_reducible exact LeO.none _)
      | (with_reducible refine LeO.ite ?_ ?_)
      | (with_reducible refine LeO.bind ?_ (fun _ => ?_))
      | exact ih0 _ _ _ _ _
      | exact ih1 _ _ _ _ _ _
      | exact ih2 _ _ _ _ _ _
      | exact LeO.none _
      | refine LeO.ite ?_ ?_
      | refine LeO.bind ?_ (fun _ => ?_)
    · intro y0 y1 y2 y3 y4 y5
      unfold cosignerlaw03_HeirProofs.j2
      repeat' first
      | (with_reducible exact ih0 _ _ _ _ _)
      | (with_reducible exact ih1 _ _ _ _ _ _)
      | (with_reducible exact ih2 _ _ _ _ _ _)
      | (with_reducible exact LeO.refl _)
      | (with_reducible exact LeO.none _)
      | (with_reducible refine LeO.ite ?_ ?_)
      | (with_reducible refine LeO.bind ?_ (fun _ => ?_))
      | exact ih0 _ _ _ _ _
      | exact ih1 _ _ _ _ _ _
      | exact ih2 _ _ _ _ _ _
      | exact LeO.none _
      | refine LeO.ite ?_ ?_
      | refine LeO.bind ?_ (fun _ => ?_)
theorem cosignerlaw03_HeirProofs.mono : ∀ a0 a1 a2 a3 k, LeO (cosignerlaw03_HeirProofs.f k a0 a1 a2 a3) (cosignerlaw03_HeirProofs.f (k + 1) a0 a1 a2 a3) := by
  intro a0 a1 a2 a3 k
  obtain ⟨ih0, ih1, ih2⟩ := cosignerlaw03_HeirProofs.mono_l k
  unfold cosignerlaw03_HeirProofs.f
  repeat' first
      | (with_reducible exact ih0 _ _ _ _ _)
      | (with_reducible exact ih1 _ _ _ _ _ _)
      | (with_reducible exact ih2 _ _ _ _ _ _)
      | (with_reducible exact LeO.refl _)
      | (with_reducible exact LeO.none _)
      | (with_reducible refine LeO.ite ?_ ?_)
      | (with_reducible refine LeO.bind ?_ (fun _ => ?_))
      | exact ih0 _ _ _ _ _
      | exact ih1 _ _ _ _ _ _
      | exact ih2 _ _ _ _ _ _
      | exact LeO.none _
      | refine LeO.ite ?_ ?_
      | refine LeO.bind ?_ (fun _ => ?_)
set_option maxHeartbeats 8000000 in
set_option maxRecDepth 100000 in
theorem cosignerlaw03_HeirProofs.calls (k : Nat) (A0 : Option Addr) (c0 : Nat) (l0 : List (S61)) (a1 : Int) (a2 : Int) (A3 : Option Addr) (c3 : Nat) (l3 : List ByteArray) (r : Bool) (w : World) (hr0 : Kd.C k61 w A0 l0.length l0) (hc0 : l0.length ≤ c0) (hr3 : Kd.C Kd.string w A3 l3.length l3) (hc3 : l3.length ≤ c3) (h : cosignerlaw03_HeirProofs.f k l0 a1 a2 l3 = some r) :
    Calls Try.prog 14 #[.slice A0 l0.length c0, .int .u8 a1, .int .u8 a2, .slice A3 l3.length c3] w fun e w' => e = .returned (.bool r) ∧ Below w.heap.size w w' := by
  have HR0 := Aside0.mk hr0
  have HC0 := Aside0.mk hc0
  clear hr0 hc0
  have HR3 := Aside0.mk hr3
  have HC3 := Aside0.mk hc3
  clear hr3 hc3
  have HB := Aside0.mk (Below.refl w.heap.size w)
  have H : (if (l0.length : Int) = 0 then (cosignerlaw03_HeirProofs.j0 k l0 a1 a2 l3 true) else (if (l0.length : Int) > 24 then (cosignerlaw03_HeirProofs.j0 k l0 a1 a2 l3 true) else (cosignerlaw03_HeirProofs.j0 k l0 a1 a2 l3 (decide ((l3.length : Int) > 40))))) = some r := h
  clear h
  have HC5 := Aside0.mk H
  clear H
  go_enter Try.func14, Try.ntmps14
  go_upto_region 1 with (fail)
  go_cut [29] (fun v29 wc => ∃ (kq : Nat) (x29_4 : Bool), v29 = .bool x29_4 ∧ Aside0 (cosignerlaw03_HeirProofs.j0 kq l0 a1 a2 l3 x29_4 = some r) ∧ Aside0 (kq ≤ k) ∧ Aside0 (Below w.heap.size w wc))
  case first =>
    have H := HC5.out
    clear HC5
    by_cases c6 : (l0.length : Int) = 0
    · rw [if_pos c6] at H
      have c6b0 : ((l0.length : Int) == 0) = true := beq_iff_eq.mpr c6
      have c6b1 : ((l0.length : Int) != 0) = false := bne_eq_false_iff_eq.mpr c6
      clear c6
      (first | rw [c6b0] | (simp only [i64_w, i32_w]; rw [c6b0]) | skip)
      have H' := Aside0.mk H
      clear H
      go_wp2
      go_meet
      case rel => exact ⟨_, (true), (by first | rfl | (simp; done) | (simp [*]; done)), H', ⟨by first | omega | exact Nat.le_refl _⟩, ⟨by repeat (first | (with_reducible first | exact HB.out | apply below_alloc | apply pw_below_drewN | apply below_drew1) | exact HB.out)⟩⟩
    · rw [if_neg c6] at H
      have c6b0 : ((l0.length : Int) == 0) = false := beq_eq_false_iff_ne.mpr c6
      have c6b1 : ((l0.length : Int) != 0) = true := bne_iff_ne.mpr c6
      have c6b2 : ¬ (l0 = []) := fun h_ => c6 (by rw [h_]; rfl)
      (first | rw [c6b0] | (simp only [i64_w, i32_w]; rw [c6b0]) | skip)
      by_cases c7 : (l0.length : Int) > 24
      · rw [if_pos c7] at H
        have c7b0 : decide (24 < (l0.length : Int)) = true := decide_eq_true c7
        have c7b1 : decide (24 < l0.length) = true := decide_eq_true (by omega)
        clear c7
        have H' := Aside0.mk H
        clear H
        go_wp2
        go_meet
        case rel => exact ⟨_, (true), (by first | rfl | (simp; done) | (simp [*]; done)), H', ⟨by first | omega | exact Nat.le_refl _⟩, ⟨by repeat (first | (with_reducible first | exact HB.out | apply below_alloc | apply pw_below_drewN | apply below_drew1) | exact HB.out)⟩⟩
      · rw [if_neg c7] at H
        have c7b0 : decide (24 < (l0.length : Int)) = false := decide_eq_false c7
        have c7b1 : decide (24 < l0.length) = false := decide_eq_false (by omega)
        clear c7
        have H' := Aside0.mk H
        clear H
        go_wp2
        go_meet
        case rel => exact ⟨_, (decide ((l3.length : Int) > 40)), (by first | rfl | (simp; done) | (simp [*]; done)), H', ⟨by first | omega | exact Nat.le_refl _⟩, ⟨by repeat (first | (with_reducible first | exact HB.out | apply below_alloc | apply pw_below_drewN | apply below_drew1) | exact HB.out)⟩⟩
  case rest =>
    clear HC5
    try clear c1
    try clear p2
    try clear c3
    try clear c6
    try clear c6b0
    try clear c6b1
    try clear c6b2
    try clear c7
    try clear c7b0
    try clear c7b1
    obtain ⟨kq, x29_4, rfl, HA, HJ4, HB⟩ := hcut
    cases kq with
    | zero => exact absurd HA.out (by simp [cosignerlaw03_HeirProofs.j0])
    | succ kj4 =>
      have H := HA.out
      clear HA
      simp only [cosignerlaw03_HeirProofs.j0] at H
      by_cases c8 : x29_4 = true
      · subst c8
        have H1 : ((cosignerlaw03_sanity.f).bind fun t242 => (some t242)) = some r := by rw [if_pos rfl] at H; exact H
        clear H
        have H := H1
        clear H1
        replace H := Option.bind_eq_some_iff.mp H
        obtain ⟨t242, A90, H⟩ := H
        replace H : (some t242) = some r := H
        have A9 := Aside0.mk A90
        clear A90
        obtain rfl := Option.some.inj H
        go_wp2_with (first | ((with_reducible refine gate_callee (f := 16) rfl ?_); refine goesL_ (some 30) rfl rfl Try.func16 (by kernel_rfl) rfl #[] rfl (by (try simp only [List.map_toArray, List.map_cons, List.map_nil]); first | done | rfl | (simp only [List.length_drop, List.length_take]; rfl)) ?_; (with_reducible refine (cosignerlaw03_sanity.calls  t242 _ A9.out).mono ?_); rintro e w10 ⟨rfl, hb⟩; refine ⟨_, rfl, ?_⟩; have n0_ := Aside0.mk (below_step (by repeat (first | (with_reducible first | exact HB.out | apply below_alloc | apply pw_below_drewN | apply below_drew1) | exact HB.out)) hb); clear HB; have HB := n0_; clear n0_; (try clear hb); (try clear hb2); (try clear hk); (try clear hi)))
        go_ret
        exact ⟨by first | rfl | (simp [errW_none, errW_some] <;> rfl) | (simp [*, errW_none, errW_some] <;> rfl), by repeat (first | (with_reducible first | exact HB.out | apply below_alloc | apply pw_below_drewN | apply below_drew1) | exact HB.out)⟩
      · replace c8 := Bool.eq_false_iff.mpr c8
        subst c8
        have H1 : ((heir_Check.f l0).bind fun bt243 => ((heir_Ring.f l0).bind fun bt245 => (if bt245.2 = true then ((heir_CheckRing.f l0 bt245.1).bind fun t249 => (if t249 = 0 then (if bt243.1 = 0 then (cosignerlaw03_HeirProofs.j1 kj4 l0 a1 a2 l3 bt243.1 true) else (if bt243.1 = 7 then (if 0 < (bt245.1.length : Int) then (if bt243.2.toList = (rdOf ByteArray.empty bt245.1 0).toList then ((heir_CheckRing.f l0 l3).bind fun t251 => (if t251 = 0 then (cosignerlaw03_HeirProofs.j1 kj4 l0 a1 a2 l3 bt243.1 (decide ((l3.length : Int) < (bt245.1.length : Int)))) else (cosignerlaw03_HeirProofs.j1 kj4 l0 a1 a2 l3 bt243.1 false))) else (cosignerlaw03_HeirProofs.j1 kj4 l0 a1 a2 l3 bt243.1 true)) else (none)) else ((heir_CheckRing.f l0 l3).bind fun t252 => (if t252 = 0 then (cosignerlaw03_HeirProofs.j1 kj4 l0 a1 a2 l3 bt243.1 (decide ((l3.length : Int) < (bt245.1.length : Int)))) else (cosignerlaw03_HeirProofs.j1 kj4 l0 a1 a2 l3 bt243.1 false))))) else (cosignerlaw03_HeirProofs.j1 kj4 l0 a1 a2 l3 bt243.1 true))) else (if bt243.1 = 7 then (cosignerlaw03_HeirProofs.j1 kj4 l0 a1 a2 l3 bt243.1 true) else ((heir_CheckRing.f l0 l3).bind fun t253 => (if t253 = 0 then (if bt243.1 = 0 then (cosignerlaw03_HeirProofs.j1 kj4 l0 a1 a2 l3 bt243.1 true) else (cosignerlaw03_HeirProofs.j1 kj4 l0 a1 a2 l3 bt243.1 true)) else (cosignerlaw03_HeirProofs.j1 kj4 l0 a1 a2 l3 bt243.1 false))))))) = some r := by rw [if_neg (show ¬ (false = true) by decide)] at H; exact H
        clear H
        have H := H1
        clear H1
        replace H := Option.bind_eq_some_iff.mp H
        obtain ⟨⟨t243, t244⟩, A110, H⟩ := H
        replace H : ((heir_Ring.f l0).bind fun bt245 => (if bt245.2 = true then ((heir_CheckRing.f l0 bt245.1).bind fun t249 => (if t249 = 0 then (if t243 = 0 then (cosignerlaw03_HeirProofs.j1 kj4 l0 a1 a2 l3 t243 true) else (if t243 = 7 then (if 0 < (bt245.1.length : Int) then (if t244.toList = (rdOf ByteArray.empty bt245.1 0).toList then ((heir_CheckRing.f l0 l3).bind fun t251 => (if t251 = 0 then (cosignerlaw03_HeirProofs.j1 kj4 l0 a1 a2 l3 t243 (decide ((l3.length : Int) < (bt245.1.length : Int)))) else (cosignerlaw03_HeirProofs.j1 kj4 l0 a1 a2 l3 t243 false))) else (cosignerlaw03_HeirProofs.j1 kj4 l0 a1 a2 l3 t243 true)) else (none)) else ((heir_CheckRing.f l0 l3).bind fun t252 => (if t252 = 0 then (cosignerlaw03_HeirProofs.j1 kj4 l0 a1 a2 l3 t243 (decide ((l3.length : Int) < (bt245.1.length : Int)))) else (cosignerlaw03_HeirProofs.j1 kj4 l0 a1 a2 l3 t243 false))))) else (cosignerlaw03_HeirProofs.j1 kj4 l0 a1 a2 l3 t243 true))) else (if t243 = 7 then (cosignerlaw03_HeirProofs.j1 kj4 l0 a1 a2 l3 t243 true) else ((heir_CheckRing.f l0 l3).bind fun t253 => (if t253 = 0 then (if t243 = 0 then (cosignerlaw03_HeirProofs.j1 kj4 l0 a1 a2 l3 t243 true) else (cosignerlaw03_HeirProofs.j1 kj4 l0 a1 a2 l3 t243 true)) else (cosignerlaw03_HeirProofs.j1 kj4 l0 a1 a2 l3 t243 false)))))) = some r := H
        have A11 := Aside0.mk A110
        clear A110
        replace H := Option.bind_eq_some_iff.mp H
        obtain ⟨⟨t245, t246⟩, A120, H⟩ := H
        replace H : (if t246 = true then ((heir_CheckRing.f l0 t245).bind fun t249 => (if t249 = 0 then (if t243 = 0 then (cosignerlaw03_HeirProofs.j1 kj4 l0 a1 a2 l3 t243 true) else (if t243 = 7 then (if 0 < (t245.length : Int) then (if t244.toList = (rdOf ByteArray.empty t245 0).toList then ((heir_CheckRing.f l0 l3).bind fun t251 => (if t251 = 0 then (cosignerlaw03_HeirProofs.j1 kj4 l0 a1 a2 l3 t243 (decide ((l3.length : Int) < (t245.length : Int)))) else (cosignerlaw03_HeirProofs.j1 kj4 l0 a1 a2 l3 t243 false))) else (cosignerlaw03_HeirProofs.j1 kj4 l0 a1 a2 l3 t243 true)) else (none)) else ((heir_CheckRing.f l0 l3).bind fun t252 => (if t252 = 0 then (cosignerlaw03_HeirProofs.j1 kj4 l0 a1 a2 l3 t243 (decide ((l3.length : Int) < (t245.length : Int)))) else (cosignerlaw03_HeirProofs.j1 kj4 l0 a1 a2 l3 t243 false))))) else (cosignerlaw03_HeirProofs.j1 kj4 l0 a1 a2 l3 t243 true))) else (if t243 = 7 then (cosignerlaw03_HeirProofs.j1 kj4 l0 a1 a2 l3 t243 true) else ((heir_CheckRing.f l0 l3).bind fun t253 => (if t253 = 0 then (if t243 = 0 then (cosignerlaw03_HeirProofs.j1 kj4 l0 a1 a2 l3 t243 true) else (cosignerlaw03_HeirProofs.j1 kj4 l0 a1 a2 l3 t243 true)) else (cosignerlaw03_HeirProofs.j1 kj4 l0 a1 a2 l3 t243 false))))) = some r := H
        have A12 := Aside0.mk A120
        clear A120
        have HC13 := Aside0.mk H
        clear H
        go_upto_region 5 with (first | ((with_reducible refine gate_callee (f := 43) rfl ?_); refine goesL_ (some 33) rfl rfl Try.func43 (by kernel_rfl) rfl #[.slice A0 l0.length c0] rfl (by (try simp only [List.map_toArray, List.map_cons, List.map_nil]); first | done | rfl | (simp only [List.length_drop, List.length_take]; rfl)) ?_; (with_reducible refine (heir_Check.calls _ _ l0 t243 t244 _ ?side1 ?side2 A11.out).mono ?_); (case side1 => repeat (first | exact (Kd.C_below HR0.out HB.out) | (with_reducible refine Kd.C_alloc ?_ _) | (with_reducible refine Kd.C_drewN ?_ _) | (with_reducible refine Kd.C_drew ?_))); (case side2 => exact HC0.out); rintro e w14 ⟨rfl, hb⟩; refine ⟨_, rfl, ?_⟩; have n0_ := Aside0.mk (below_step (by repeat (first | (with_reducible first | exact HB.out | apply below_alloc | apply pw_below_drewN | apply below_drew1) | exact HB.out)) hb); clear HB; have HB := n0_; clear n0_; (try clear hb); (try clear hb2); (try clear hk); (try clear hi)) | ((with_reducible refine gate_callee (f := 45) rfl ?_); refine goesL_ (some 38) rfl rfl Try.func45 (by kernel_rfl) rfl #[.slice A0 l0.length c0] rfl (by (try simp only [List.map_toArray, List.map_cons, List.map_nil]); first | done | rfl | (simp only [List.length_drop, List.length_take]; rfl)) ?_; (with_reducible refine (heir_Ring.calls _ _ l0 t245 t246 _ ?side1 ?side2 A12.out).mono ?_); (case side1 => repeat (first | exact (Kd.C_below HR0.out HB.out) | (with_reducible refine Kd.C_alloc ?_ _) | (with_reducible refine Kd.C_drewN ?_ _) | (with_reducible refine Kd.C_drew ?_))); (case side2 => exact HC0.out); rintro e w15 ⟨v247, rfl, ho0, hb⟩; refine ⟨_, rfl, ?_⟩; have n0_ := Aside0.mk (Kd.R_lower ho0 (below_size (by repeat (first | (with_reducible first | exact HB.out | apply below_alloc | apply pw_below_drewN | apply below_drew1) | exact HB.out)))); have n1_ := Aside0.mk (below_step (by repeat (first | (with_reducible first | exact HB.out | apply below_alloc | apply pw_below_drewN | apply below_drew1) | exact HB.out)) hb); clear HB; have HO248 := n0_; have HB := n1_; clear n0_ n1_; (try clear hb); (try clear hb2); (try clear hk); (try clear hi); (try clear ho0)))
        (try simp only [Act.put, List.setIfInBounds_toArray, List.set_cons_zero, List.set_cons_succ])
        go_cut [87] (fun v87 wc => ∃ (kq : Nat) (x87_12 : Bool), v87 = .bool x87_12 ∧ Aside0 (cosignerlaw03_HeirProofs.j1 kq l0 a1 a2 l3 t243 x87_12 = some r) ∧ Aside0 (kq ≤ kj4) ∧ Aside0 (Below w.heap.size w wc))
        case first =>
          have H := HC13.out
          clear HC13
          by_cases c16 : t246 = true
          · subst c16
            have H1 : ((heir_CheckRing.f l0 t245).bind fun t249 => (if t249 = 0 then (if t243 = 0 then (cosignerlaw03_HeirProofs.j1 kj4 l0 a1 a2 l3 t243 true) else (if t243 = 7 then (if 0 < (t245.length : Int) then (if t244.toList = (rdOf ByteArray.empty t245 0).toList then ((heir_CheckRing.f l0 l3).bind fun t251 => (if t251 = 0 then (cosignerlaw03_HeirProofs.j1 kj4 l0 a1 a2 l3 t243 (decide ((l3.length : Int) < (t245.length : Int)))) else (cosignerlaw03_HeirProofs.j1 kj4 l0 a1 a2 l3 t243 false))) else (cosignerlaw03_HeirProofs.j1 kj4 l0 a1 a2 l3 t243 true)) else (none)) else ((heir_CheckRing.f l0 l3).bind fun t252 => (if t252 = 0 then (cosignerlaw03_HeirProofs.j1 kj4 l0 a1 a2 l3 t243 (decide ((l3.length : Int) < (t245.length : Int)))) else (cosignerlaw03_HeirProofs.j1 kj4 l0 a1 a2 l3 t243 false))))) else (cosignerlaw03_HeirProofs.j1 kj4 l0 a1 a2 l3 t243 true))) = some r := by rw [if_pos rfl] at H; exact H
            clear H
            have H := H1
            clear H1
            replace H := Option.bind_eq_some_iff.mp H
            obtain ⟨t249, A170, H⟩ := H
            replace H : (if t249 = 0 then (if t243 = 0 then (cosignerlaw03_HeirProofs.j1 kj4 l0 a1 a2 l3 t243 true) else (if t243 = 7 then (if 0 < (t245.length : Int) then (if t244.toList = (rdOf ByteArray.empty t245 0).toList then ((heir_CheckRing.f l0 l3).bind fun t251 => (if t251 = 0 then (cosignerlaw03_HeirProofs.j1 kj4 l0 a1 a2 l3 t243 (decide ((l3.length : Int) < (t245.length : Int)))) else (cosignerlaw03_HeirProofs.j1 kj4 l0 a1 a2 l3 t243 false))) else (cosignerlaw03_HeirProofs.j1 kj4 l0 a1 a2 l3 t243 true)) else (none)) else ((heir_CheckRing.f l0 l3).bind fun t252 => (if t252 = 0 then (cosignerlaw03_HeirProofs.j1 kj4 l0 a1 a2 l3 t243 (decide ((l3.length : Int) < (t245.length : Int)))) else (cosignerlaw03_HeirProofs.j1 kj4 l0 a1 a2 l3 t243 false))))) else (cosignerlaw03_HeirProofs.j1 kj4 l0 a1 a2 l3 t243 true)) = some r := H
            have A17 := Aside0.mk A170
            clear A170
            by_cases c18 : t249 = 0
            · rw [if_pos c18] at H
              have c18b0 : (t249 == 0) = true := beq_iff_eq.mpr c18
              have c18b1 : (t249 != 0) = false := bne_eq_false_iff_eq.mpr c18
              clear c18
              (first | rw [c18b0] | (simp only [i64_w, i32_w]; rw [c18b0]) | skip)
              by_cases c19 : t243 = 0
              · rw [if_pos c19] at H
                have c19b0 : (t243 == 0) = true := beq_iff_eq.mpr c19
                have c19b1 : (t243 != 0) = false := bne_eq_false_iff_eq.mpr c19
                clear c19
                have H' := Aside0.mk H
                clear H
                obtain ⟨Ao20, co20, eo20⟩ := Kd.R_slice HO248.out
                subst eo20
                go_wp2_with (first | (go_at_call 47; (with_reducible refine (heir_CheckRing.calls _ _ l0 _ _ t245 t249 _ ?side1 ?side2 ?side3 ?side4 A17.out).mono ?_); (case side1 => repeat (first | exact (Kd.C_below HR0.out HB.out) | (with_reducible refine Kd.C_alloc ?_ _) | (with_reducible refine Kd.C_drewN ?_ _) | (with_reducible refine Kd.C_drew ?_))); (case side2 => exact HC0.out); (case side3 => repeat (first | exact (Kd.R_reads' HO248.out).2.2 | (with_reducible refine Kd.C_alloc ?_ _) | (with_reducible refine Kd.C_drewN ?_ _) | (with_reducible refine Kd.C_drew ?_))); (case side4 => exact (Kd.R_reads' HO248.out).2.1); rintro e w21 ⟨rfl, hb⟩; have n0_ := Aside0.mk (Kd.R_below (by (with_reducible repeat (first | apply Kd.R_alloc | apply Kd.R_drewN | apply Kd.R_drew)); exact HO248.out) hb); have n1_ := Aside0.mk (below_step (by repeat (first | (with_reducible first | exact HB.out | apply below_alloc | apply pw_below_drewN | apply below_drew1) | exact HB.out)) hb); clear HO248; clear HB; have HO248 := n0_; have HB := n1_; clear n0_ n1_; (try clear hb); (try clear hb2); (try clear hk); (try clear hi)))
                go_meet
                case rel => exact ⟨_, (true), (by first | rfl | (simp; done) | (simp [*]; done)), H', ⟨by have := HJ4.out; first | omega | exact Nat.le_refl _⟩, ⟨by repeat (first | (with_reducible first | exact HB.out | apply below_alloc | apply pw_below_drewN | apply below_drew1) | exact HB.out)⟩⟩
              · rw [if_neg c19] at H
                have c19b0 : (t243 == 0) = false := beq_eq_false_iff_ne.mpr c19
                have c19b1 : (t243 != 0) = true := bne_iff_ne.mpr c19
                by_cases c22 : t243 = 7
                · rw [if_pos c22] at H
                  have c22b0 : (t243 == 7) = true := beq_iff_eq.mpr c22
                  have c22b1 : (t243 != 7) = false := bne_eq_false_iff_eq.mpr c22
                  clear c22
                  by_cases c23 : 0 < (t245.length : Int)
                  · rw [if_pos c23] at H
                    have c23b0 : decide (0 < (t245.length : Int)) = true := decide_eq_true c23
                    have c23b1 : decide (0 < t245.length) = true := decide_eq_true (by omega)
                    clear c23
                    by_cases c24 : t244.toList = (rdOf ByteArray.empty t245 0).toList
                    · rw [if_pos c24] at H
                      have c24b0 : (t244.toList == (rdOf ByteArray.empty t245 0).toList) = true := beq_iff_eq.mpr c24
                      have c24b1 : (t244.toList != (rdOf ByteArray.empty t245 0).toList) = false := bne_eq_false_iff_eq.mpr c24
                      clear c24
                      replace H := Option.bind_eq_some_iff.mp H
                      obtain ⟨t251, A250, H⟩ := H
                      replace H : (if t251 = 0 then (cosignerlaw03_HeirProofs.j1 kj4 l0 a1 a2 l3 t243 (decide ((l3.length : Int) < (t245.length : Int)))) else (cosignerlaw03_HeirProofs.j1 kj4 l0 a1 a2 l3 t243 false)) = some r := H
                      have A25 := Aside0.mk A250
                      clear A250
                      by_cases c26 : t251 = 0
                      · rw [if_pos c26] at H
                        have c26b0 : (t251 == 0) = true := beq_iff_eq.mpr c26
                        have c26b1 : (t251 != 0) = false := bne_eq_false_iff_eq.mpr c26
                        clear c26
                        have H' := Aside0.mk H
                        clear H
                        obtain ⟨Ao27, co27, eo27⟩ := Kd.R_slice HO248.out
                        subst eo27
                        go_wp2_with (first | (go_at_call 47; (with_reducible refine (heir_CheckRing.calls _ _ l0 _ _ t245 t249 _ ?side1 ?side2 ?side3 ?side4 A17.out).mono ?_); (case side1 => repeat (first | exact (Kd.C_below HR0.out HB.out) | (with_reducible refine Kd.C_alloc ?_ _) | (with_reducible refine Kd.C_drewN ?_ _) | (with_reducible refine Kd.C_drew ?_))); (case side2 => exact HC0.out); (case side3 => repeat (first | exact (Kd.R_reads' HO248.out).2.2 | (with_reducible refine Kd.C_alloc ?_ _) | (with_reducible refine Kd.C_drewN ?_ _) | (with_reducible refine Kd.C_drew ?_))); (case side4 => exact (Kd.R_reads' HO248.out).2.1); rintro e w28 ⟨rfl, hb⟩; have n0_ := Aside0.mk (Kd.R_below (by (with_reducible repeat (first | apply Kd.R_alloc | apply Kd.R_drewN | apply Kd.R_drew)); exact HO248.out) hb); have n1_ := Aside0.mk (below_step (by repeat (first | (with_reducible first | exact HB.out | apply below_alloc | apply pw_below_drewN | apply below_drew1) | exact HB.out)) hb); clear HO248; clear HB; have HO248 := n0_; have HB := n1_; clear n0_ n1_; (try clear hb); (try clear hb2); (try clear hk); (try clear hi); have p250 : 0 ≤ (0 : Int) := (by omega); have q250 : 0 < (t245.length : Int) := of_decide_eq_true (by first | (with_reducible assumption) | assumption); obtain ⟨ad250, e250, hx250_0⟩ := Kd.at_string (Kd.R_reads' HO248.out).2.2 0 p250 q250; cases e250; have qi250 : (0 < t245.length) = True := eq_true (by omega); (try rw [show ((0 : Int)).toNat = 0 from rfl] at hx250_0); (try rw [Addr.add_zero'] at hx250_0); replace p250 := eq_true p250; replace q250 := eq_true q250) | (go_at_call 47; (with_reducible refine (heir_CheckRing.calls _ _ l0 _ _ l3 t251 _ ?side1 ?side2 ?side3 ?side4 A25.out).mono ?_); (case side1 => repeat (first | exact (Kd.C_below HR0.out HB.out) | (with_reducible refine Kd.C_alloc ?_ _) | (with_reducible refine Kd.C_drewN ?_ _) | (with_reducible refine Kd.C_drew ?_))); (case side2 => exact HC0.out); (case side3 => repeat (first | exact (Kd.C_below HR3.out HB.out) | (with_reducible refine Kd.C_alloc ?_ _) | (with_reducible refine Kd.C_drewN ?_ _) | (with_reducible refine Kd.C_drew ?_))); (case side4 => exact HC3.out); rintro e w29 ⟨rfl, hb⟩; have n0_ := Aside0.mk (Kd.R_below (by (with_reducible repeat (first | apply Kd.R_alloc | apply Kd.R_drewN | apply Kd.R_drew)); exact HO248.out) hb); have n1_ := Aside0.mk (below_step (by repeat (first | (with_reducible first | exact HB.out | apply below_alloc | apply pw_below_drewN | apply below_drew1) | exact HB.out)) hb); clear HO248; clear HB; have HO248 := n0_; have HB := n1_; clear n0_ n1_; (try clear hb); (try clear hb2); (try clear hk); (try clear hi)))
                        go_meet
                        case rel => exact ⟨_, (decide ((l3.length : Int) < (t245.length : Int))), (by first | rfl | (simp; done) | (simp [*]; done)), H', ⟨by have := HJ4.out; first | omega | exact Nat.le_refl _⟩, ⟨by repeat (first | (with_reducible first | exact HB.out | apply below_alloc | apply pw_below_drewN | apply below_drew1) | exact HB.out)⟩⟩
                      · rw [if_neg c26] at H
                        have c26b0 : (t251 == 0) = false := beq_eq_false_iff_ne.mpr c26
                        have c26b1 : (t251 != 0) = true := bne_iff_ne.mpr c26
                        have H' := Aside0.mk H
                        clear H
                        obtain ⟨Ao30, co30, eo30⟩ := Kd.R_slice HO248.out
                        subst eo30
                        go_wp2_with (first | (go_at_call 47; (with_reducible refine (heir_CheckRing.calls _ _ l0 _ _ t245 t249 _ ?side1 ?side2 ?side3 ?side4 A17.out).mono ?_); (case side1 => repeat (first | exact (Kd.C_below HR0.out HB.out) | (with_reducible refine Kd.C_alloc ?_ _) | (with_reducible refine Kd.C_drewN ?_ _) | (with_reducible refine Kd.C_drew ?_))); (case side2 => exact HC0.out); (case side3 => repeat (first | exact (Kd.R_reads' HO248.out).2.2 | (with_reducible refine Kd.C_alloc ?_ _) | (with_reducible refine Kd.C_drewN ?_ _) | (with_reducible refine Kd.C_drew ?_))); (case side4 => exact (Kd.R_reads' HO248.out).2.1); rintro e w31 ⟨rfl, hb⟩; have n0_ := Aside0.mk (Kd.R_below (by (with_reducible repeat (first | apply Kd.R_alloc | apply Kd.R_drewN | apply Kd.R_drew)); exact HO248.out) hb); have n1_ := Aside0.mk (below_step (by repeat (first | (with_reducible first | exact HB.out | apply below_alloc | apply pw_below_drewN | apply below_drew1) | exact HB.out)) hb); clear HO248; clear HB; have HO248 := n0_; have HB := n1_; clear n0_ n1_; (try clear hb); (try clear hb2); (try clear hk); (try clear hi); have p250 : 0 ≤ (0 : Int) := (by omega); have q250 : 0 < (t245.length : Int) := of_decide_eq_true (by first | (with_reducible assumption) | assumption); obtain ⟨ad250, e250, hx250_0⟩ := Kd.at_string (Kd.R_reads' HO248.out).2.2 0 p250 q250; cases e250; have qi250 : (0 < t245.length) = True := eq_true (by omega); (try rw [show ((0 : Int)).toNat = 0 from rfl] at hx250_0); (try rw [Addr.add_zero'] at hx250_0); replace p250 := eq_true p250; replace q250 := eq_true q250) | (go_at_call 47; (with_reducible refine (heir_CheckRing.calls _ _ l0 _ _ l3 t251 _ ?side1 ?side2 ?side3 ?side4 A25.out).mono ?_); (case side1 => repeat (first | exact (Kd.C_below HR0.out HB.out) | (with_reducible refine Kd.C_alloc ?_ _) | (with_reducible refine Kd.C_drewN ?_ _) | (with_reducible refine Kd.C_drew ?_))); (case side2 => exact HC0.out); (case side3 => repeat (first | exact (Kd.C_below HR3.out HB.out) | (with_reducible refine Kd.C_alloc ?_ _) | (with_reducible refine Kd.C_drewN ?_ _) | (with_reducible refine Kd.C_drew ?_))); (case side4 => exact HC3.out); rintro e w32 ⟨rfl, hb⟩; have n0_ := Aside0.mk (Kd.R_below (by (with_reducible repeat (first | apply Kd.R_alloc | apply Kd.R_drewN | apply Kd.R_drew)); exact HO248.out) hb); have n1_ := Aside0.mk (below_step (by repeat (first | (with_reducible first | exact HB.out | apply below_alloc | apply pw_below_drewN | apply below_drew1) | exact HB.out)) hb); clear HO248; clear HB; have HO248 := n0_; have HB := n1_; clear n0_ n1_; (try clear hb); (try clear hb2); (try clear hk); (try clear hi)))
                        go_meet
                        case rel => exact ⟨_, (false), (by first | rfl | (simp; done) | (simp [*]; done)), H', ⟨by have := HJ4.out; first | omega | exact Nat.le_refl _⟩, ⟨by repeat (first | (with_reducible first | exact HB.out | apply below_alloc | apply pw_below_drewN | apply below_drew1) | exact HB.out)⟩⟩
                    · rw [if_neg c24] at H
                      have c24b0 : (t244.toList == (rdOf ByteArray.empty t245 0).toList) = false := beq_eq_false_iff_ne.mpr c24
                      have c24b1 : (t244.toList != (rdOf ByteArray.empty t245 0).toList) = true := bne_iff_ne.mpr c24
                      have H' := Aside0.mk H
                      clear H
                      obtain ⟨Ao33, co33, eo33⟩ := Kd.R_slice HO248.out
                      subst eo33
                      go_wp2_with (first | (go_at_call 47; (with_reducible refine (heir_CheckRing.calls _ _ l0 _ _ t245 t249 _ ?side1 ?side2 ?side3 ?side4 A17.out).mono ?_); (case side1 => repeat (first | exact (Kd.C_below HR0.out HB.out) | (with_reducible refine Kd.C_alloc ?_ _) | (with_reducible refine Kd.C_drewN ?_ _) | (with_reducible refine Kd.C_drew ?_))); (case side2 => exact HC0.out); (case side3 => repeat (first | exact (Kd.R_reads' HO248.out).2.2 | (with_reducible refine Kd.C_alloc ?_ _) | (with_reducible refine Kd.C_drewN ?_ _) | (with_reducible refine Kd.C_drew ?_))); (case side4 => exact (Kd.R_reads' HO248.out).2.1); rintro e w34 ⟨rfl, hb⟩; have n0_ := Aside0.mk (Kd.R_below (by (with_reducible repeat (first | apply Kd.R_alloc | apply Kd.R_drewN | apply Kd.R_drew)); exact HO248.out) hb); have n1_ := Aside0.mk (below_step (by repeat (first | (with_reducible first | exact HB.out | apply below_alloc | apply pw_below_drewN | apply below_drew1) | exact HB.out)) hb); clear HO248; clear HB; have HO248 := n0_; have HB := n1_; clear n0_ n1_; (try clear hb); (try clear hb2); (try clear hk); (try clear hi); have p250 : 0 ≤ (0 : Int) := (by omega); have q250 : 0 < (t245.length : Int) := of_decide_eq_true (by first | (with_reducible assumption) | assumption); obtain ⟨ad250, e250, hx250_0⟩ := Kd.at_string (Kd.R_reads' HO248.out).2.2 0 p250 q250; cases e250; have qi250 : (0 < t245.length) = True := eq_true (by omega); (try rw [show ((0 : Int)).toNat = 0 from rfl] at hx250_0); (try rw [Addr.add_zero'] at hx250_0); replace p250 := eq_true p250; replace q250 := eq_true q250))
                      go_meet
                      case rel => exact ⟨_, (true), (by first | rfl | (simp; done) | (simp [*]; done)), H', ⟨by have := HJ4.out; first | omega | exact Nat.le_refl _⟩, ⟨by repeat (first | (with_reducible first | exact HB.out | apply below_alloc | apply pw_below_drewN | apply below_drew1) | exact HB.out)⟩⟩
                  · rw [if_neg c23] at H
                    exact absurd H (by simp)
                · rw [if_neg c22] at H
                  have c22b0 : (t243 == 7) = false := beq_eq_false_iff_ne.mpr c22
                  have c22b1 : (t243 != 7) = true := bne_iff_ne.mpr c22
                  replace H := Option.bind_eq_some_iff.mp H
                  obtain ⟨t252, A350, H⟩ := H
                  replace H : (if t252 = 0 then (cosignerlaw03_HeirProofs.j1 kj4 l0 a1 a2 l3 t243 (decide ((l3.length : Int) < (t245.length : Int)))) else (cosignerlaw03_HeirProofs.j1 kj4 l0 a1 a2 l3 t243 false)) = some r := H
                  have A35 := Aside0.mk A350
                  clear A350
                  by_cases c36 : t252 = 0
                  · rw [if_pos c36] at H
                    have c36b0 : (t252 == 0) = true := beq_iff_eq.mpr c36
                    have c36b1 : (t252 != 0) = false := bne_eq_false_iff_eq.mpr c36
                    clear c36
                    have H' := Aside0.mk H
                    clear H
                    obtain ⟨Ao37, co37, eo37⟩ := Kd.R_slice HO248.out
                    subst eo37
                    go_wp2_with (first | (go_at_call 47; (with_reducible refine (heir_CheckRing.calls _ _ l0 _ _ t245 t249 _ ?side1 ?side2 ?side3 ?side4 A17.out).mono ?_); (case side1 => repeat (first | exact (Kd.C_below HR0.out HB.out) | (with_reducible refine Kd.C_alloc ?_ _) | (with_reducible refine Kd.C_drewN ?_ _) | (with_reducible refine Kd.C_drew ?_))); (case side2 => exact HC0.out); (case side3 => repeat (first | exact (Kd.R_reads' HO248.out).2.2 | (with_reducible refine Kd.C_alloc ?_ _) | (with_reducible refine Kd.C_drewN ?_ _) | (with_reducible refine Kd.C_drew ?_))); (case side4 => exact (Kd.R_reads' HO248.out).2.1); rintro e w38 ⟨rfl, hb⟩; have n0_ := Aside0.mk (Kd.R_below (by (with_reducible repeat (first | apply Kd.R_alloc | apply Kd.R_drewN | apply Kd.R_drew)); exact HO248.out) hb); have n1_ := Aside0.mk (below_step (by repeat (first | (with_reducible first | exact HB.out | apply below_alloc | apply pw_below_drewN | apply below_drew1) | exact HB.out)) hb); clear HO248; clear HB; have HO248 := n0_; have HB := n1_; clear n0_ n1_; (try clear hb); (try clear hb2); (try clear hk); (try clear hi)) | (go_at_call 47; (with_reducible refine (heir_CheckRing.calls _ _ l0 _ _ l3 t252 _ ?side1 ?side2 ?side3 ?side4 A35.out).mono ?_); (case side1 => repeat (first | exact (Kd.C_below HR0.out HB.out) | (with_reducible refine Kd.C_alloc ?_ _) | (with_reducible refine Kd.C_drewN ?_ _) | (with_reducible refine Kd.C_drew ?_))); (case side2 => exact HC0.out); (case side3 => repeat (first | exact (Kd.C_below HR3.out HB.out) | (with_reducible refine Kd.C_alloc ?_ _) | (with_reducible refine Kd.C_drewN ?_ _) | (with_reducible refine Kd.C_drew ?_))); (case side4 => exact HC3.out); rintro e w39 ⟨rfl, hb⟩; have n0_ := Aside0.mk (Kd.R_below (by (with_reducible repeat (first | apply Kd.R_alloc | apply Kd.R_drewN | apply Kd.R_drew)); exact HO248.out) hb); have n1_ := Aside0.mk (below_step (by repeat (first | (with_reducible first | exact HB.out | apply below_alloc | apply pw_below_drewN | apply below_drew1) | exact HB.out)) hb); clear HO248; clear HB; have HO248 := n0_; have HB := n1_; clear n0_ n1_; (try clear hb); (try clear hb2); (try clear hk); (try clear hi)))
                    go_meet
                    case rel => exact ⟨_, (decide ((l3.length : Int) < (t245.length : Int))), (by first | rfl | (simp; done) | (simp [*]; done)), H', ⟨by have := HJ4.out; first | omega | exact Nat.le_refl _⟩, ⟨by repeat (first | (with_reducible first | exact HB.out | apply below_alloc | apply pw_below_drewN | apply below_drew1) | exact HB.out)⟩⟩
                  · rw [if_neg c36] at H
                    have c36b0 : (t252 == 0) = false := beq_eq_false_iff_ne.mpr c36
                    have c36b1 : (t252 != 0) = true := bne_iff_ne.mpr c36
                    have H' := Aside0.mk H
                    clear H
                    obtain ⟨Ao40, co40, eo40⟩ := Kd.R_slice HO248.out
                    subst eo40
                    go_wp2_with (first | (go_at_call 47; (with_reducible refine (heir_CheckRing.calls _ _ l0 _ _ t245 t249 _ ?side1 ?side2 ?side3 ?side4 A17.out).mono ?_); (case side1 => repeat (first | exact (Kd.C_below HR0.out HB.out) | (with_reducible refine Kd.C_alloc ?_ _) | (with_reducible refine Kd.C_drewN ?_ _) | (with_reducible refine Kd.C_drew ?_))); (case side2 => exact HC0.out); (case side3 => repeat (first | exact (Kd.R_reads' HO248.out).2.2 | (with_reducible refine Kd.C_alloc ?_ _) | (with_reducible refine Kd.C_drewN ?_ _) | (with_reducible refine Kd.C_drew ?_))); (case side4 => exact (Kd.R_reads' HO248.out).2.1); rintro e w41 ⟨rfl, hb⟩; have n0_ := Aside0.mk (Kd.R_below (by (with_reducible repeat (first | apply Kd.R_alloc | apply Kd.R_drewN | apply Kd.R_drew)); exact HO248.out) hb); have n1_ := Aside0.mk (below_step (by repeat (first | (with_reducible first | exact HB.out | apply below_alloc | apply pw_below_drewN | apply below_drew1) | exact HB.out)) hb); clear HO248; clear HB; have HO248 := n0_; have HB := n1_; clear n0_ n1_; (try clear hb); (try clear hb2); (try clear hk); (try clear hi)) | (go_at_call 47; (with_reducible refine (heir_CheckRing.calls _ _ l0 _ _ l3 t252 _ ?side1 ?side2 ?side3 ?side4 A35.out).mono ?_); (case side1 => repeat (first | exact (Kd.C_below HR0.out HB.out) | (with_reducible refine Kd.C_alloc ?_ _) | (with_reducible refine Kd.C_drewN ?_ _) | (with_reducible refine Kd.C_drew ?_))); (case side2 => exact HC0.out); (case side3 => repeat (first | exact (Kd.C_below HR3.out HB.out) | (with_reducible refine Kd.C_alloc ?_ _) | (with_reducible refine Kd.C_drewN ?_ _) | (with_reducible refine Kd.C_drew ?_))); (case side4 => exact HC3.out); rintro e w42 ⟨rfl, hb⟩; have n0_ := Aside0.mk (Kd.R_below (by (with_reducible repeat (first | apply Kd.R_alloc | apply Kd.R_drewN | apply Kd.R_drew)); exact HO248.out) hb); have n1_ := Aside0.mk (below_step (by repeat (first | (with_reducible first | exact HB.out | apply below_alloc | apply pw_below_drewN | apply below_drew1) | exact HB.out)) hb); clear HO248; clear HB; have HO248 := n0_; have HB := n1_; clear n0_ n1_; (try clear hb); (try clear hb2); (try clear hk); (try clear hi)))
                    go_meet
                    case rel => exact ⟨_, (false), (by first | rfl | (simp; done) | (simp [*]; done)), H', ⟨by have := HJ4.out; first | omega | exact Nat.le_refl _⟩, ⟨by repeat (first | (with_reducible first | exact HB.out | apply below_alloc | apply pw_below_drewN | apply below_drew1) | exact HB.out)⟩⟩
            · rw [if_neg c18] at H
              have c18b0 : (t249 == 0) = false := beq_eq_false_iff_ne.mpr c18
              have c18b1 : (t249 != 0) = true := bne_iff_ne.mpr c18
              (first | rw [c18b0] | (simp only [i64_w, i32_w]; rw [c18b0]) | skip)
              have H' := Aside0.mk H
              clear H
              obtain ⟨Ao43, co43, eo43⟩ := Kd.R_slice HO248.out
              subst eo43
              go_wp2_with (first | (go_at_call 47; (with_reducible refine (heir_CheckRing.calls _ _ l0 _ _ t245 t249 _ ?side1 ?side2 ?side3 ?side4 A17.out).mono ?_); (case side1 => repeat (first | exact (Kd.C_below HR0.out HB.out) | (with_reducible refine Kd.C_alloc ?_ _) | (with_reducible refine Kd.C_drewN ?_ _) | (with_reducible refine Kd.C_drew ?_))); (case side2 => exact HC0.out); (case side3 => repeat (first | exact (Kd.R_reads' HO248.out).2.2 | (with_reducible refine Kd.C_alloc ?_ _) | (with_reducible refine Kd.C_drewN ?_ _) | (with_reducible refine Kd.C_drew ?_))); (case side4 => exact (Kd.R_reads' HO248.out).2.1); rintro e w44 ⟨rfl, hb⟩; have n0_ := Aside0.mk (Kd.R_below (by (with_reducible repeat (first | apply Kd.R_alloc | apply Kd.R_drewN | apply Kd.R_drew)); exact HO248.out) hb); have n1_ := Aside0.mk (below_step (by repeat (first | (with_reducible first | exact HB.out | apply below_alloc | apply pw_below_drewN | apply below_drew1) | exact HB.out)) hb); clear HO248; clear HB; have HO248 := n0_; have HB := n1_; clear n0_ n1_; (try clear hb); (try clear hb2); (try clear hk); (try clear hi)))
              go_meet
              case rel => exact ⟨_, (true), (by first | rfl | (simp; done) | (simp [*]; done)), H', ⟨by have := HJ4.out; first | omega | exact Nat.le_refl _⟩, ⟨by repeat (first | (with_reducible first | exact HB.out | apply below_alloc | apply pw_below_drewN | apply below_drew1) | exact HB.out)⟩⟩
          · replace c16 := Bool.eq_false_iff.mpr c16
            subst c16
            have H1 : (if t243 = 7 then (cosignerlaw03_HeirProofs.j1 kj4 l0 a1 a2 l3 t243 true) else ((heir_CheckRing.f l0 l3).bind fun t253 => (if t253 = 0 then (if t243 = 0 then (cosignerlaw03_HeirProofs.j1 kj4 l0 a1 a2 l3 t243 true) else (cosignerlaw03_HeirProofs.j1 kj4 l0 a1 a2 l3 t243 true)) else (cosignerlaw03_HeirProofs.j1 kj4 l0 a1 a2 l3 t243 false)))) = some r := by rw [if_neg (show ¬ (false = true) by decide)] at H; exact H
            clear H
            have H := H1
            clear H1
            by_cases c45 : t243 = 7
            · rw [if_pos c45] at H
              have c45b0 : (t243 == 7) = true := beq_iff_eq.mpr c45
              have c45b1 : (t243 != 7) = false := bne_eq_false_iff_eq.mpr c45
              clear c45
              have H' := Aside0.mk H
              clear H
              go_wp2
              go_meet
              case rel => exact ⟨_, (true), (by first | rfl | (simp; done) | (simp [*]; done)), H', ⟨by have := HJ4.out; first | omega | exact Nat.le_refl _⟩, ⟨by repeat (first | (with_reducible first | exact HB.out | apply below_alloc | apply pw_below_drewN | apply below_drew1) | exact HB.out)⟩⟩
            · rw [if_neg c45] at H
              have c45b0 : (t243 == 7) = false := beq_eq_false_iff_ne.mpr c45
              have c45b1 : (t243 != 7) = true := bne_iff_ne.mpr c45
              replace H := Option.bind_eq_some_iff.mp H
              obtain ⟨t253, A460, H⟩ := H
              replace H : (if t253 = 0 then (if t243 = 0 then (cosignerlaw03_HeirProofs.j1 kj4 l0 a1 a2 l3 t243 true) else (cosignerlaw03_HeirProofs.j1 kj4 l0 a1 a2 l3 t243 true)) else (cosignerlaw03_HeirProofs.j1 kj4 l0 a1 a2 l3 t243 false)) = some r := H
              have A46 := Aside0.mk A460
              clear A460
              by_cases c47 : t253 = 0
              · rw [if_pos c47] at H
                have c47b0 : (t253 == 0) = true := beq_iff_eq.mpr c47
                have c47b1 : (t253 != 0) = false := bne_eq_false_iff_eq.mpr c47
                clear c47
                by_cases c48 : t243 = 0
                · rw [if_pos c48] at H
                  have c48b0 : (t243 == 0) = true := beq_iff_eq.mpr c48
                  have c48b1 : (t243 != 0) = false := bne_eq_false_iff_eq.mpr c48
                  clear c48
                  have H' := Aside0.mk H
                  clear H
                  go_wp2_with (first | (go_at_call 47; (with_reducible refine (heir_CheckRing.calls _ _ l0 _ _ l3 t253 _ ?side1 ?side2 ?side3 ?side4 A46.out).mono ?_); (case side1 => repeat (first | exact (Kd.C_below HR0.out HB.out) | (with_reducible refine Kd.C_alloc ?_ _) | (with_reducible refine Kd.C_drewN ?_ _) | (with_reducible refine Kd.C_drew ?_))); (case side2 => exact HC0.out); (case side3 => repeat (first | exact (Kd.C_below HR3.out HB.out) | (with_reducible refine Kd.C_alloc ?_ _) | (with_reducible refine Kd.C_drewN ?_ _) | (with_reducible refine Kd.C_drew ?_))); (case side4 => exact HC3.out); rintro e w49 ⟨rfl, hb⟩; have n0_ := Aside0.mk (Kd.R_below (by (with_reducible repeat (first | apply Kd.R_alloc | apply Kd.R_drewN | apply Kd.R_drew)); exact HO248.out) hb); have n1_ := Aside0.mk (below_step (by repeat (first | (with_reducible first | exact HB.out | apply below_alloc | apply pw_below_drewN | apply below_drew1) | exact HB.out)) hb); clear HO248; clear HB; have HO248 := n0_; have HB := n1_; clear n0_ n1_; (try clear hb); (try clear hb2); (try clear hk); (try clear hi)))
                  go_meet
                  case rel => exact ⟨_, (true), (by first | rfl | (simp; done) | (simp [*]; done)), H', ⟨by have := HJ4.out; first | omega | exact Nat.le_refl _⟩, ⟨by repeat (first | (with_reducible first | exact HB.out | apply below_alloc | apply pw_below_drewN | apply below_drew1) | exact HB.out)⟩⟩
                · rw [if_neg c48] at H
                  have c48b0 : (t243 == 0) = false := beq_eq_false_iff_ne.mpr c48
                  have c48b1 : (t243 != 0) = true := bne_iff_ne.mpr c48
                  have H' := Aside0.mk H
                  clear H
                  go_wp2_with (first | (go_at_call 47; (with_reducible refine (heir_CheckRing.calls _ _ l0 _ _ l3 t253 _ ?side1 ?side2 ?side3 ?side4 A46.out).mono ?_); (case side1 => repeat (first | exact (Kd.C_below HR0.out HB.out) | (with_reducible refine Kd.C_alloc ?_ _) | (with_reducible refine Kd.C_drewN ?_ _) | (with_reducible refine Kd.C_drew ?_))); (case side2 => exact HC0.out); (case side3 => repeat (first | exact (Kd.C_below HR3.out HB.out) | (with_reducible refine Kd.C_alloc ?_ _) | (with_reducible refine Kd.C_drewN ?_ _) | (with_reducible refine Kd.C_drew ?_))); (case side4 => exact HC3.out); rintro e w50 ⟨rfl, hb⟩; have n0_ := Aside0.mk (Kd.R_below (by (with_reducible repeat (first | apply Kd.R_alloc | apply Kd.R_drewN | apply Kd.R_drew)); exact HO248.out) hb); have n1_ := Aside0.mk (below_step (by repeat (first | (with_reducible first | exact HB.out | apply below_alloc | apply pw_below_drewN | apply below_drew1) | exact HB.out)) hb); clear HO248; clear HB; have HO248 := n0_; have HB := n1_; clear n0_ n1_; (try clear hb); (try clear hb2); (try clear hk); (try clear hi)))
                  go_meet
                  case rel => exact ⟨_, (true), (by first | rfl | (simp; done) | (simp [*]; done)), H', ⟨by have := HJ4.out; first | omega | exact Nat.le_refl _⟩, ⟨by repeat (first | (with_reducible first | exact HB.out | apply below_alloc | apply pw_below_drewN | apply below_drew1) | exact HB.out)⟩⟩
              · rw [if_neg c47] at H
                have c47b0 : (t253 == 0) = false := beq_eq_false_iff_ne.mpr c47
                have c47b1 : (t253 != 0) = true := bne_iff_ne.mpr c47
                have H' := Aside0.mk H
                clear H
                go_wp2_with (first | (go_at_call 47; (with_reducible refine (heir_CheckRing.calls _ _ l0 _ _ l3 t253 _ ?side1 ?side2 ?side3 ?side4 A46.out).mono ?_); (case side1 => repeat (first | exact (Kd.C_below HR0.out HB.out) | (with_reducible refine Kd.C_alloc ?_ _) | (with_reducible refine Kd.C_drewN ?_ _) | (with_reducible refine Kd.C_drew ?_))); (case side2 => exact HC0.out); (case side3 => repeat (first | exact (Kd.C_below HR3.out HB.out) | (with_reducible refine Kd.C_alloc ?_ _) | (with_reducible refine Kd.C_drewN ?_ _) | (with_reducible refine Kd.C_drew ?_))); (case side4 => exact HC3.out); rintro e w51 ⟨rfl, hb⟩; have n0_ := Aside0.mk (Kd.R_below (by (with_reducible repeat (first | apply Kd.R_alloc | apply Kd.R_drewN | apply Kd.R_drew)); exact HO248.out) hb); have n1_ := Aside0.mk (below_step (by repeat (first | (with_reducible first | exact HB.out | apply below_alloc | apply pw_below_drewN | apply below_drew1) | exact HB.out)) hb); clear HO248; clear HB; have HO248 := n0_; have HB := n1_; clear n0_ n1_; (try clear hb); (try clear hb2); (try clear hk); (try clear hi)))
                go_meet
                case rel => exact ⟨_, (false), (by first | rfl | (simp; done) | (simp [*]; done)), H', ⟨by have := HJ4.out; first | omega | exact Nat.le_refl _⟩, ⟨by repeat (first | (with_reducible first | exact HB.out | apply below_alloc | apply pw_below_drewN | apply below_drew1) | exact HB.out)⟩⟩
        case rest =>
          clear HC13
          try clear c1
          try clear c2
          try clear p2
          try clear q2
          try clear hx2
          try clear qi2
          try clear c3
          try clear c4
          try clear c6
          try clear c6b0
          try clear c6b1
          try clear c6b2
          try clear c7
          try clear c7b0
          try clear c7b1
          try clear c8
          try clear c14
          try clear c16
          try clear c18
          try clear c18b0
          try clear c18b1
          try clear c19
          try clear c19b0
          try clear c19b1
          try clear c22
          try clear c22b0
          try clear c22b1
          try clear c23
          try clear c23b0
          try clear c23b1
          try clear c24
          try clear c24b0
          try clear c24b1
          try clear p25
          try clear q25
          try clear hx25
          try clear qi25
          try clear c26
          try clear c26b0
          try clear c26b1
          try clear c36
          try clear c36b0
          try clear c36b1
          try clear c43
          try clear c45
          try clear c45b0
          try clear c45b1
          try clear c47
          try clear c47b0
          try clear c47b1
          try clear c48
          try clear c48b0
          try clear c48b1
          try clear hx250_0
          try clear p2
          try clear p250
          try clear q250
          obtain ⟨kq, x87_12, rfl, HA, HJ12, HB⟩ := hcut
          cases kq with
          | zero => exact absurd HA.out (by simp [cosignerlaw03_HeirProofs.j1])
          | succ kj12 =>
            have H := HA.out
            clear HA
            simp only [cosignerlaw03_HeirProofs.j1] at H
            by_cases c52 : x87_12 = true
            · subst c52
              have H1 : (some false) = some r := by rw [if_pos rfl] at H; exact H
              clear H
              have H := H1
              clear H1
              obtain rfl := Option.some.inj H
              go_wp2
              go_ret
              exact ⟨by first | rfl | (simp [errW_none, errW_some] <;> rfl) | (simp [*, errW_none, errW_some] <;> rfl), by repeat (first | (with_reducible first | exact HB.out | apply below_alloc | apply pw_below_drewN | apply below_drew1) | exact HB.out)⟩
            · replace c52 := Bool.eq_false_iff.mpr c52
              subst c52
              have H1 : (if t243 = 0 then ((cosignerlaw03_name.f l0 a1).bind fun t255 => ((cosignerlaw03_name.f l0 a2).bind fun t256 => ((heir_Way.f l0 t255 t256).bind fun bt257 => ((cosignerlaw03_is.f l0 t255 t256).bind fun t261 => (if ((bt257.2 == 0) != t261) = true then (cosignerlaw03_HeirProofs.j2 kj12 l0 l3 t255 t256 bt257.1 true) else (if bt257.2 = 0 then ((heir_CheckWay.f l0 t255 t256 bt257.1).bind fun t262 => (cosignerlaw03_HeirProofs.j2 kj12 l0 l3 t255 t256 bt257.1 (t262 != 0))) else (cosignerlaw03_HeirProofs.j2 kj12 l0 l3 t255 t256 bt257.1 false))))))) else ((cosignerlaw03_sanity.f).bind fun t254 => (some t254))) = some r := by rw [if_neg (show ¬ (false = true) by decide)] at H; exact H
              clear H
              have H := H1
              clear H1
              by_cases c53 : t243 = 0
              · rw [if_pos c53] at H
                have c53b0 : (t243 == 0) = true := beq_iff_eq.mpr c53
                have c53b1 : (t243 != 0) = false := bne_eq_false_iff_eq.mpr c53
                clear c53
                replace H := Option.bind_eq_some_iff.mp H
                obtain ⟨t255, A540, H⟩ := H
                replace H : ((cosignerlaw03_name.f l0 a2).bind fun t256 => ((heir_Way.f l0 t255 t256).bind fun bt257 => ((cosignerlaw03_is.f l0 t255 t256).bind fun t261 => (if ((bt257.2 == 0) != t261) = true then (cosignerlaw03_HeirProofs.j2 kj12 l0 l3 t255 t256 bt257.1 true) else (if bt257.2 = 0 then ((heir_CheckWay.f l0 t255 t256 bt257.1).bind fun t262 => (cosignerlaw03_HeirProofs.j2 kj12 l0 l3 t255 t256 bt257.1 (t262 != 0))) else (cosignerlaw03_HeirProofs.j2 kj12 l0 l3 t255 t256 bt257.1 false)))))) = some r := H
                have A54 := Aside0.mk A540
                clear A540
                replace H := Option.bind_eq_some_iff.mp H
                obtain ⟨t256, A550, H⟩ := H
                replace H : ((heir_Way.f l0 t255 t256).bind fun bt257 => ((cosignerlaw03_is.f l0 t255 t256).bind fun t261 => (if ((bt257.2 == 0) != t261) = true then (cosignerlaw03_HeirProofs.j2 kj12 l0 l3 t255 t256 bt257.1 true) else (if bt257.2 = 0 then ((heir_CheckWay.f l0 t255 t256 bt257.1).bind fun t262 => (cosignerlaw03_HeirProofs.j2 kj12 l0 l3 t255 t256 bt257.1 (t262 != 0))) else (cosignerlaw03_HeirProofs.j2 kj12 l0 l3 t255 t256 bt257.1 false))))) = some r := H
                have A55 := Aside0.mk A550
                clear A550
                replace H := Option.bind_eq_some_iff.mp H
                obtain ⟨⟨t257, t258⟩, A560, H⟩ := H
                replace H : ((cosignerlaw03_is.f l0 t255 t256).bind fun t261 => (if ((t258 == 0) != t261) = true then (cosignerlaw03_HeirProofs.j2 kj12 l0 l3 t255 t256 t257 true) else (if t258 = 0 then ((heir_CheckWay.f l0 t255 t256 t257).bind fun t262 => (cosignerlaw03_HeirProofs.j2 kj12 l0 l3 t255 t256 t257 (t262 != 0))) else (cosignerlaw03_HeirProofs.j2 kj12 l0 l3 t255 t256 t257 false)))) = some r := H
                have A56 := Aside0.mk A560
                clear A560
                have HC57 := Aside0.mk H
                clear H
                go_upto_region 12 with (first | ((with_reducible refine gate_callee (f := 31) rfl ?_); refine goesL_ (some 93) rfl rfl Try.func31 (by kernel_rfl) rfl #[.slice A0 l0.length c0, .int .u8 a1] rfl (by (try simp only [List.map_toArray, List.map_cons, List.map_nil]); first | done | rfl | (simp only [List.length_drop, List.length_take]; rfl)) ?_; (with_reducible refine (cosignerlaw03_name.calls _ _ l0 a1 t255 _ ?side1 ?side2 A54.out).mono ?_); (case side1 => repeat (first | exact (Kd.C_below HR0.out HB.out) | (with_reducible refine Kd.C_alloc ?_ _) | (with_reducible refine Kd.C_drewN ?_ _) | (with_reducible refine Kd.C_drew ?_))); (case side2 => exact HC0.out); rintro e w' ⟨rfl, ⟨nd, rfl⟩⟩; refine ⟨_, rfl, ?_⟩) | ((with_reducible refine gate_callee (f := 31) rfl ?_); refine goesL_ (some 96) rfl rfl Try.func31 (by kernel_rfl) rfl #[.slice A0 l0.length c0, .int .u8 a2] rfl (by (try simp only [List.map_toArray, List.map_cons, List.map_nil]); first | done | rfl | (simp only [List.length_drop, List.length_take]; rfl)) ?_; (with_reducible refine (cosignerlaw03_name.calls _ _ l0 a2 t256 _ ?side1 ?side2 A55.out).mono ?_); (case side1 => repeat (first | exact (Kd.C_below HR0.out (by repeat (first | (with_reducible first | exact HB.out | apply below_alloc | apply pw_below_drewN | apply below_drew1) | exact HB.out))) | (with_reducible refine Kd.C_alloc ?_ _) | (with_reducible refine Kd.C_drewN ?_ _) | (with_reducible refine Kd.C_drew ?_))); (case side2 => exact HC0.out); rintro e w' ⟨rfl, ⟨nd, rfl⟩⟩; refine ⟨_, rfl, ?_⟩) | ((with_reducible refine gate_callee (f := 49) rfl ?_); refine goesL_ (some 101) rfl rfl Try.func49 (by kernel_rfl) rfl #[.slice A0 l0.length c0, .string t255, .string t256] rfl (by (try simp only [List.map_toArray, List.map_cons, List.map_nil]); first | done | rfl | (simp only [List.length_drop, List.length_take]; rfl)) ?_; (with_reducible refine (heir_Way.calls _ _ l0 t255 t256 t257 t258 _ ?side1 ?side2 A56.out).mono ?_); (case side1 => repeat (first | exact (Kd.C_below HR0.out (by repeat (first | (with_reducible first | exact HB.out | apply below_alloc | apply pw_below_drewN | apply below_drew1) | exact HB.out))) | (with_reducible refine Kd.C_alloc ?_ _) | (with_reducible refine Kd.C_drewN ?_ _) | (with_reducible refine Kd.C_drew ?_))); (case side2 => exact HC0.out); rintro e w58 ⟨v259, rfl, ho0, hb⟩; refine ⟨_, rfl, ?_⟩; have n0_ := Aside0.mk (Kd.R_lower ho0 (below_size (by repeat (first | (with_reducible first | exact HB.out | apply below_alloc | apply pw_below_drewN | apply below_drew1) | exact HB.out)))); have n1_ := Aside0.mk (below_step (by repeat (first | (with_reducible first | exact HB.out | apply below_alloc | apply pw_below_drewN | apply below_drew1) | exact HB.out)) hb); clear HB; have HO260 := n0_; have HB := n1_; clear n0_ n1_; (try clear hb); (try clear hb2); (try clear hk); (try clear hi); (try clear ho0)))
                (try simp only [Act.put, List.setIfInBounds_toArray, List.set_cons_zero, List.set_cons_succ])
                go_cut [122] (fun v122 wc => ∃ (kq : Nat) (x122_56 : Bool), v122 = .bool x122_56 ∧ Aside0 (cosignerlaw03_HeirProofs.j2 kq l0 l3 t255 t256 t257 x122_56 = some r) ∧ Aside0 (kq ≤ kj12) ∧ Aside0 (Kd.R Kd.string 9 wc w.heap.size (fun _ => True) v259 t257) ∧ Aside0 (Below w.heap.size w wc))
                case first =>
                  have H := HC57.out
                  clear HC57
                  replace H := Option.bind_eq_some_iff.mp H
                  obtain ⟨t261, A590, H⟩ := H
                  replace H : (if ((t258 == 0) != t261) = true then (cosignerlaw03_HeirProofs.j2 kj12 l0 l3 t255 t256 t257 true) else (if t258 = 0 then ((heir_CheckWay.f l0 t255 t256 t257).bind fun t262 => (cosignerlaw03_HeirProofs.j2 kj12 l0 l3 t255 t256 t257 (t262 != 0))) else (cosignerlaw03_HeirProofs.j2 kj12 l0 l3 t255 t256 t257 false))) = some r := H
                  have A59 := Aside0.mk A590
                  clear A590
                  by_cases c60 : ((t258 == 0) != t261) = true
                  · rw [if_pos c60] at H
                    have c60b0 : ((t258 == 0) != t261) = true := c60
                    (try (have c60b1 : decide ((t258 == 0) = t261) = false := by simpa using c60))
                    (try (have c60b2 : ((t258 == 0) == t261) = false := by simpa using c60))
                    (try (have c60b3 : ¬ ((t258 == 0) = t261) := by simpa using c60))
                    clear c60
                    (first | rw [c60b0] | (simp only [i64_w, i32_w]; rw [c60b0]) | skip)
                    have H' := Aside0.mk H
                    clear H
                    go_wp2_with (first | ((with_reducible refine gate_callee (f := 33) rfl ?_); refine goesL_ (some 109) rfl rfl Try.func33 (by kernel_rfl) rfl #[.slice A0 l0.length c0, .string t255, .string t256] rfl (by (try simp only [List.map_toArray, List.map_cons, List.map_nil]); first | done | rfl | (simp only [List.length_drop, List.length_take]; rfl)) ?_; (with_reducible refine (cosignerlaw03_is.calls _ _ l0 t255 t256 t261 _ ?side1 ?side2 A59.out).mono ?_); (case side1 => repeat (first | exact (Kd.C_below HR0.out HB.out) | (with_reducible refine Kd.C_alloc ?_ _) | (with_reducible refine Kd.C_drewN ?_ _) | (with_reducible refine Kd.C_drew ?_))); (case side2 => exact HC0.out); rintro e w61 ⟨rfl, hb⟩; refine ⟨_, rfl, ?_⟩; have n0_ := Aside0.mk (Kd.R_below (by (with_reducible repeat (first | apply Kd.R_alloc | apply Kd.R_drewN | apply Kd.R_drew)); exact HO260.out) hb); have n1_ := Aside0.mk (below_step (by repeat (first | (with_reducible first | exact HB.out | apply below_alloc | apply pw_below_drewN | apply below_drew1) | exact HB.out)) hb); clear HO260; clear HB; have HO260 := n0_; have HB := n1_; clear n0_ n1_; (try clear hb); (try clear hb2); (try clear hk); (try clear hi)))
                    go_meet
                    case rel => exact ⟨_, (true), (by first | rfl | (simp; done) | (simp [*]; done)), H', ⟨by have := HJ4.out; have := HJ12.out; first | omega | exact Nat.le_refl _⟩, ⟨by (with_reducible repeat (first | apply Kd.R_alloc | apply Kd.R_drewN | apply Kd.R_drew)); exact HO260.out⟩, ⟨by repeat (first | (with_reducible first | exact HB.out | apply below_alloc | apply pw_below_drewN | apply below_drew1) | exact HB.out)⟩⟩
                  · rw [if_neg c60] at H
                    have c60b0 : ((t258 == 0) != t261) = false := by simpa using c60
                    (try (have c60b1 : decide ((t258 == 0) = t261) = true := by simpa using c60))
                    (try (have c60b2 : ((t258 == 0) == t261) = true := by simpa using c60))
                    clear c60
                    (first | rw [c60b0] | (simp only [i64_w, i32_w]; rw [c60b0]) | skip)
                    by_cases c62 : t258 = 0
                    · rw [if_pos c62] at H
                      have c62b0 : (t258 == 0) = true := beq_iff_eq.mpr c62
                      obtain rfl : t261 = true := by simpa [c62b0] using c60b2
                      have c62b1 : (t258 != 0) = false := bne_eq_false_iff_eq.mpr c62
                      clear c62
                      replace H := Option.bind_eq_some_iff.mp H
                      obtain ⟨t262, A630, H⟩ := H
                      replace H : (cosignerlaw03_HeirProofs.j2 kj12 l0 l3 t255 t256 t257 (t262 != 0)) = some r := H
                      have A63 := Aside0.mk A630
                      clear A630
                      have H' := Aside0.mk H
                      clear H
                      go_wp2_with (first | ((with_reducible refine gate_callee (f := 33) rfl ?_); refine goesL_ (some 109) rfl rfl Try.func33 (by kernel_rfl) rfl #[.slice A0 l0.length c0, .string t255, .string t256] rfl (by (try simp only [List.map_toArray, List.map_cons, List.map_nil]); first | done | rfl | (simp only [List.length_drop, List.length_take]; rfl)) ?_; (with_reducible refine (cosignerlaw03_is.calls _ _ l0 t255 t256 _ _ ?side1 ?side2 A59.out).mono ?_); (case side1 => repeat (first | exact (Kd.C_below HR0.out HB.out) | (with_reducible refine Kd.C_alloc ?_ _) | (with_reducible refine Kd.C_drewN ?_ _) | (with_reducible refine Kd.C_drew ?_))); (case side2 => exact HC0.out); rintro e w64 ⟨rfl, hb⟩; refine ⟨_, rfl, ?_⟩; have n0_ := Aside0.mk (Kd.R_below (by (with_reducible repeat (first | apply Kd.R_alloc | apply Kd.R_drewN | apply Kd.R_drew)); exact HO260.out) hb); have n1_ := Aside0.mk (below_step (by repeat (first | (with_reducible first | exact HB.out | apply below_alloc | apply pw_below_drewN | apply below_drew1) | exact HB.out)) hb); clear HO260; clear HB; have HO260 := n0_; have HB := n1_; clear n0_ n1_; (try clear hb); (try clear hb2); (try clear hk); (try clear hi); obtain ⟨Ao65, co65, eo65⟩ := Kd.R_slice HO260.out; subst eo65) | (go_at_call 51; (with_reducible refine (heir_CheckWay.calls _ _ l0 t255 t256 _ _ t257 t262 _ ?side1 ?side2 ?side3 ?side4 A63.out).mono ?_); (case side1 => repeat (first | exact (Kd.C_below HR0.out HB.out) | (with_reducible refine Kd.C_alloc ?_ _) | (with_reducible refine Kd.C_drewN ?_ _) | (with_reducible refine Kd.C_drew ?_))); (case side2 => exact HC0.out); (case side3 => repeat (first | exact (Kd.R_reads' HO260.out).2.2 | (with_reducible refine Kd.C_alloc ?_ _) | (with_reducible refine Kd.C_drewN ?_ _) | (with_reducible refine Kd.C_drew ?_))); (case side4 => exact (Kd.R_reads' HO260.out).2.1); rintro e w66 ⟨rfl, hb⟩; have n0_ := Aside0.mk (Kd.R_below (by (with_reducible repeat (first | apply Kd.R_alloc | apply Kd.R_drewN | apply Kd.R_drew)); exact HO260.out) hb); have n1_ := Aside0.mk (below_step (by repeat (first | (with_reducible first | exact HB.out | apply below_alloc | apply pw_below_drewN | apply below_drew1) | exact HB.out)) hb); clear HO260; clear HB; have HO260 := n0_; have HB := n1_; clear n0_ n1_; (try clear hb); (try clear hb2); (try clear hk); (try clear hi)))
                      go_meet
                      case rel => exact ⟨_, ((t262 != 0)), (by first | rfl | (simp; done) | (simp [*]; done)), H', ⟨by have := HJ4.out; have := HJ12.out; first | omega | exact Nat.le_refl _⟩, ⟨by (with_reducible repeat (first | apply Kd.R_alloc | apply Kd.R_drewN | apply Kd.R_drew)); exact HO260.out⟩, ⟨by repeat (first | (with_reducible first | exact HB.out | apply below_alloc | apply pw_below_drewN | apply below_drew1) | exact HB.out)⟩⟩
                    · rw [if_neg c62] at H
                      have c62b0 : (t258 == 0) = false := beq_eq_false_iff_ne.mpr c62
                      obtain rfl : t261 = false := by simpa [c62b0] using c60b2
                      have c62b1 : (t258 != 0) = true := bne_iff_ne.mpr c62
                      have H' := Aside0.mk H
                      clear H
                      go_wp2_with (first | ((with_reducible refine gate_callee (f := 33) rfl ?_); refine goesL_ (some 109) rfl rfl Try.func33 (by kernel_rfl) rfl #[.slice A0 l0.length c0, .string t255, .string t256] rfl (by (try simp only [List.map_toArray, List.map_cons, List.map_nil]); first | done | rfl | (simp only [List.length_drop, List.length_take]; rfl)) ?_; (with_reducible refine (cosignerlaw03_is.calls _ _ l0 t255 t256 _ _ ?side1 ?side2 A59.out).mono ?_); (case side1 => repeat (first | exact (Kd.C_below HR0.out HB.out) | (with_reducible refine Kd.C_alloc ?_ _) | (with_reducible refine Kd.C_drewN ?_ _) | (with_reducible refine Kd.C_drew ?_))); (case side2 => exact HC0.out); rintro e w67 ⟨rfl, hb⟩; refine ⟨_, rfl, ?_⟩; have n0_ := Aside0.mk (Kd.R_below (by (with_reducible repeat (first | apply Kd.R_alloc | apply Kd.R_drewN | apply Kd.R_drew)); exact HO260.out) hb); have n1_ := Aside0.mk (below_step (by repeat (first | (with_reducible first | exact HB.out | apply below_alloc | apply pw_below_drewN | apply below_drew1) | exact HB.out)) hb); clear HO260; clear HB; have HO260 := n0_; have HB := n1_; clear n0_ n1_; (try clear hb); (try clear hb2); (try clear hk); (try clear hi)))
                      go_meet
                      case rel => exact ⟨_, (false), (by first | rfl | (simp; done) | (simp [*]; done)), H', ⟨by have := HJ4.out; have := HJ12.out; first | omega | exact Nat.le_refl _⟩, ⟨by (with_reducible repeat (first | apply Kd.R_alloc | apply Kd.R_drewN | apply Kd.R_drew)); exact HO260.out⟩, ⟨by repeat (first | (with_reducible first | exact HB.out | apply below_alloc | apply pw_below_drewN | apply below_drew1) | exact HB.out)⟩⟩
                case rest =>
                  clear HC57
                  try clear c1
                  try clear c2
                  try clear p2
                  try clear q2
                  try clear hx2
                  try clear qi2
                  try clear c3
                  try clear c4
                  try clear c5
                  try clear c6
                  try clear c6b0
                  try clear c6b1
                  try clear c6b2
                  try clear c7
                  try clear c7b0
                  try clear c7b1
                  try clear c8
                  try clear c14
                  try clear c16
                  try clear c18
                  try clear c18b0
                  try clear c18b1
                  try clear c19
                  try clear c19b0
                  try clear c19b1
                  try clear c22
                  try clear c22b0
                  try clear c22b1
                  try clear c23
                  try clear c23b0
                  try clear c23b1
                  try clear c24
                  try clear c24b0
                  try clear c24b1
                  try clear p25
                  try clear q25
                  try clear hx25
                  try clear qi25
                  try clear c26
                  try clear c26b0
                  try clear c26b1
                  try clear c31
                  try clear c33
                  try clear c36
                  try clear c36b0
                  try clear c36b1
                  try clear c43
                  try clear c45
                  try clear c45b0
                  try clear c45b1
                  try clear c47
                  try clear c47b0
                  try clear c47b1
                  try clear c48
                  try clear c48b0
                  try clear c48b1
                  try clear c49
                  try clear c52
                  try clear c53
                  try clear c53b0
                  try clear c53b1
                  try clear c60
                  try clear c60b0
                  try clear c60b1
                  try clear c60b2
                  try clear c62
                  try clear c62b0
                  try clear c62b1
                  try clear hx250_0
                  try clear p2
                  try clear p25
                  try clear p250
                  try clear q2
                  try clear q25
                  try clear q250
                  obtain ⟨kq, x122_56, rfl, HA, HJ56, HO_15, HB⟩ := hcut
                  cases kq with
                  | zero => exact absurd HA.out (by simp [cosignerlaw03_HeirProofs.j2])
                  | succ kj56 =>
                    have H := HA.out
                    clear HA
                    simp only [cosignerlaw03_HeirProofs.j2] at H
                    by_cases c68 : x122_56 = true
                    · subst c68
                      have H1 : (some false) = some r := by rw [if_pos rfl] at H; exact H
                      clear H
                      have H := H1
                      clear H1
                      obtain rfl := Option.some.inj H
                      go_wp2
                      go_ret
                      exact ⟨by first | rfl | (simp [errW_none, errW_some] <;> rfl) | (simp [*, errW_none, errW_some] <;> rfl), by repeat (first | (with_reducible first | exact HB.out | apply below_alloc | apply pw_below_drewN | apply below_drew1) | exact HB.out)⟩
                    · replace c68 := Bool.eq_false_iff.mpr c68
                      subst c68
                      have H1 : ((cosignerlaw03_sanity.f).bind fun t263 => (if t263 = true then ((heir_CheckWay.f l0 t255 t256 l3).bind fun t264 => (if t264 = 0 then ((cosignerlaw03_is.f l0 t255 t256).bind fun t265 => (if t265 = true then (some (decide ((t257.length : Int) ≤ (l3.length : Int)))) else (some false))) else (some true))) else (some false))) = some r := by rw [if_neg (show ¬ (false = true) by decide)] at H; exact H
                      clear H
                      have H := H1
                      clear H1
                      replace H := Option.bind_eq_some_iff.mp H
                      obtain ⟨t263, A690, H⟩ := H
                      replace H : (if t263 = true then ((heir_CheckWay.f l0 t255 t256 l3).bind fun t264 => (if t264 = 0 then ((cosignerlaw03_is.f l0 t255 t256).bind fun t265 => (if t265 = true then (some (decide ((t257.length : Int) ≤ (l3.length : Int)))) else (some false))) else (some true))) else (some false)) = some r := H
                      have A69 := Aside0.mk A690
                      clear A690
                      by_cases c70 : t263 = true
                      · subst c70
                        have H1 : ((heir_CheckWay.f l0 t255 t256 l3).bind fun t264 => (if t264 = 0 then ((cosignerlaw03_is.f l0 t255 t256).bind fun t265 => (if t265 = true then (some (decide ((t257.length : Int) ≤ (l3.length : Int)))) else (some false))) else (some true))) = some r := by rw [if_pos rfl] at H; exact H
                        clear H
                        have H := H1
                        clear H1
                        replace H := Option.bind_eq_some_iff.mp H
                        obtain ⟨t264, A710, H⟩ := H
                        replace H : (if t264 = 0 then ((cosignerlaw03_is.f l0 t255 t256).bind fun t265 => (if t265 = true then (some (decide ((t257.length : Int) ≤ (l3.length : Int)))) else (some false))) else (some true)) = some r := H
                        have A71 := Aside0.mk A710
                        clear A710
                        by_cases c72 : t264 = 0
                        · rw [if_pos c72] at H
                          have c72b0 : (t264 == 0) = true := beq_iff_eq.mpr c72
                          have c72b1 : (t264 != 0) = false := bne_eq_false_iff_eq.mpr c72
                          clear c72
                          replace H := Option.bind_eq_some_iff.mp H
                          obtain ⟨t265, A730, H⟩ := H
                          replace H : (if t265 = true then (some (decide ((t257.length : Int) ≤ (l3.length : Int)))) else (some false)) = some r := H
                          have A73 := Aside0.mk A730
                          clear A730
                          by_cases c74 : t265 = true
                          · subst c74
                            have H1 : (some (decide ((t257.length : Int) ≤ (l3.length : Int)))) = some r := by rw [if_pos rfl] at H; exact H
                            clear H
                            have H := H1
                            clear H1
                            obtain rfl := Option.some.inj H
                            go_wp2_with (first | ((with_reducible refine gate_callee (f := 16) rfl ?_); refine goesL_ (some 123) rfl rfl Try.func16 (by kernel_rfl) rfl #[] rfl (by (try simp only [List.map_toArray, List.map_cons, List.map_nil]); first | done | rfl | (simp only [List.length_drop, List.length_take]; rfl)) ?_; (with_reducible refine (cosignerlaw03_sanity.calls  true _ A69.out).mono ?_); rintro e w75 ⟨rfl, hb⟩; refine ⟨_, rfl, ?_⟩; have n0_ := Aside0.mk (Kd.R_below (by (with_reducible repeat (first | apply Kd.R_alloc | apply Kd.R_drewN | apply Kd.R_drew)); exact HO_15.out) hb); have n1_ := Aside0.mk (below_step (by repeat (first | (with_reducible first | exact HB.out | apply below_alloc | apply pw_below_drewN | apply below_drew1) | exact HB.out)) hb); clear HO_15; clear HB; have HO_15 := n0_; have HB := n1_; clear n0_ n1_; (try clear hb); (try clear hb2); (try clear hk); (try clear hi)) | (go_at_call 51; (with_reducible refine (heir_CheckWay.calls _ _ l0 t255 t256 _ _ l3 t264 _ ?side1 ?side2 ?side3 ?side4 A71.out).mono ?_); (case side1 => repeat (first | exact (Kd.C_below HR0.out HB.out) | (with_reducible refine Kd.C_alloc ?_ _) | (with_reducible refine Kd.C_drewN ?_ _) | (with_reducible refine Kd.C_drew ?_))); (case side2 => exact HC0.out); (case side3 => repeat (first | exact (Kd.C_below HR3.out HB.out) | (with_reducible refine Kd.C_alloc ?_ _) | (with_reducible refine Kd.C_drewN ?_ _) | (with_reducible refine Kd.C_drew ?_))); (case side4 => exact HC3.out); rintro e w76 ⟨rfl, hb⟩; have n0_ := Aside0.mk (Kd.R_below (by (with_reducible repeat (first | apply Kd.R_alloc | apply Kd.R_drewN | apply Kd.R_drew)); exact HO_15.out) hb); have n1_ := Aside0.mk (below_step (by repeat (first | (with_reducible first | exact HB.out | apply below_alloc | apply pw_below_drewN | apply below_drew1) | exact HB.out)) hb); clear HO_15; clear HB; have HO_15 := n0_; have HB := n1_; clear n0_ n1_; (try clear hb); (try clear hb2); (try clear hk); (try clear hi)) | (go_at_call 33; (with_reducible refine (cosignerlaw03_is.calls _ _ l0 t255 t256 true _ ?side1 ?side2 A73.out).mono ?_); (case side1 => repeat (first | exact (Kd.C_below HR0.out HB.out) | (with_reducible refine Kd.C_alloc ?_ _) | (with_reducible refine Kd.C_drewN ?_ _) | (with_reducible refine Kd.C_drew ?_))); (case side2 => exact HC0.out); rintro e w77 ⟨rfl, hb⟩; have n0_ := Aside0.mk (Kd.R_below (by (with_reducible repeat (first | apply Kd.R_alloc | apply Kd.R_drewN | apply Kd.R_drew)); exact HO_15.out) hb); have n1_ := Aside0.mk (below_step (by repeat (first | (with_reducible first | exact HB.out | apply below_alloc | apply pw_below_drewN | apply below_drew1) | exact HB.out)) hb); clear HO_15; clear HB; have HO_15 := n0_; have HB := n1_; clear n0_ n1_; (try clear hb); (try clear hb2); (try clear hk); (try clear hi); obtain ⟨Ao78, co78, eo78⟩ := Kd.R_slice HO_15.out; subst eo78))
                            go_ret
                            exact ⟨by first | rfl | (simp [errW_none, errW_some] <;> rfl) | (simp [*, errW_none, errW_some] <;> rfl), by repeat (first | (with_reducible first | exact HB.out | apply below_alloc | apply pw_below_drewN | apply below_drew1) | exact HB.out)⟩
                          · replace c74 := Bool.eq_false_iff.mpr c74
                            subst c74
                            have H1 : (some false) = some r := by rw [if_neg (show ¬ (false = true) by decide)] at H; exact H
                            clear H
                            have H := H1
                            clear H1
                            obtain rfl := Option.some.inj H
                            go_wp2_with (first | ((with_reducible refine gate_callee (f := 16) rfl ?_); refine goesL_ (some 123) rfl rfl Try.func16 (by kernel_rfl) rfl #[] rfl (by (try simp only [List.map_toArray, List.map_cons, List.map_nil]); first | done | rfl | (simp only [List.length_drop, List.length_take]; rfl)) ?_; (with_reducible refine (cosignerlaw03_sanity.calls  true _ A69.out).mono ?_); rintro e w79 ⟨rfl, hb⟩; refine ⟨_, rfl, ?_⟩; have n0_ := Aside0.mk (Kd.R_below (by (with_reducible repeat (first | apply Kd.R_alloc | apply Kd.R_drewN | apply Kd.R_drew)); exact HO_15.out) hb); have n1_ := Aside0.mk (below_step (by repeat (first | (with_reducible first | exact HB.out | apply below_alloc | apply pw_below_drewN | apply below_drew1) | exact HB.out)) hb); clear HO_15; clear HB; have HO_15 := n0_; have HB := n1_; clear n0_ n1_; (try clear hb); (try clear hb2); (try clear hk); (try clear hi)) | (go_at_call 51; (with_reducible refine (heir_CheckWay.calls _ _ l0 t255 t256 _ _ l3 t264 _ ?side1 ?side2 ?side3 ?side4 A71.out).mono ?_); (case side1 => repeat (first | exact (Kd.C_below HR0.out HB.out) | (with_reducible refine Kd.C_alloc ?_ _) | (with_reducible refine Kd.C_drewN ?_ _) | (with_reducible refine Kd.C_drew ?_))); (case side2 => exact HC0.out); (case side3 => repeat (first | exact (Kd.C_below HR3.out HB.out) | (with_reducible refine Kd.C_alloc ?_ _) | (with_reducible refine Kd.C_drewN ?_ _) | (with_reducible refine Kd.C_drew ?_))); (case side4 => exact HC3.out); rintro e w80 ⟨rfl, hb⟩; have n0_ := Aside0.mk (Kd.R_below (by (with_reducible repeat (first | apply Kd.R_alloc | apply Kd.R_drewN | apply Kd.R_drew)); exact HO_15.out) hb); have n1_ := Aside0.mk (below_step (by repeat (first | (with_reducible first | exact HB.out | apply below_alloc | apply pw_below_drewN | apply below_drew1) | exact HB.out)) hb); clear HO_15; clear HB; have HO_15 := n0_; have HB := n1_; clear n0_ n1_; (try clear hb); (try clear hb2); (try clear hk); (try clear hi)) | (go_at_call 33; (with_reducible refine (cosignerlaw03_is.calls _ _ l0 t255 t256 false _ ?side1 ?side2 A73.out).mono ?_); (case side1 => repeat (first | exact (Kd.C_below HR0.out HB.out) | (with_reducible refine Kd.C_alloc ?_ _) | (with_reducible refine Kd.C_drewN ?_ _) | (with_reducible refine Kd.C_drew ?_))); (case side2 => exact HC0.out); rintro e w81 ⟨rfl, hb⟩; have n0_ := Aside0.mk (Kd.R_below (by (with_reducible repeat (first | apply Kd.R_alloc | apply Kd.R_drewN | apply Kd.R_drew)); exact HO_15.out) hb); have n1_ := Aside0.mk (below_step (by repeat (first | (with_reducible first | exact HB.out | apply below_alloc | apply pw_below_drewN | apply below_drew1) | exact HB.out)) hb); clear HO_15; clear HB; have HO_15 := n0_; have HB := n1_; clear n0_ n1_; (try clear hb); (try clear hb2); (try clear hk); (try clear hi)))
                            go_ret
                            exact ⟨by first | rfl | (simp [errW_none, errW_some] <;> rfl) | (simp [*, errW_none, errW_some] <;> rfl), by repeat (first | (with_reducible first | exact HB.out | apply below_alloc | apply pw_below_drewN | apply below_drew1) | exact HB.out)⟩
                        · rw [if_neg c72] at H
                          have c72b0 : (t264 == 0) = false := beq_eq_false_iff_ne.mpr c72
                          have c72b1 : (t264 != 0) = true := bne_iff_ne.mpr c72
                          obtain rfl := Option.some.inj H
                          go_wp2_with (first | ((with_reducible refine gate_callee (f := 16) rfl ?_); refine goesL_ (some 123) rfl rfl Try.func16 (by kernel_rfl) rfl #[] rfl (by (try simp only [List.map_toArray, List.map_cons, List.map_nil]); first | done | rfl | (simp only [List.length_drop, List.length_take]; rfl)) ?_; (with_reducible refine (cosignerlaw03_sanity.calls  true _ A69.out).mono ?_); rintro e w82 ⟨rfl, hb⟩; refine ⟨_, rfl, ?_⟩; have n0_ := Aside0.mk (Kd.R_below (by (with_reducible repeat (first | apply Kd.R_alloc | apply Kd.R_drewN | apply Kd.R_drew)); exact HO_15.out) hb); have n1_ := Aside0.mk (below_step (by repeat (first | (with_reducible first | exact HB.out | apply below_alloc | apply pw_below_drewN | apply below_drew1) | exact HB.out)) hb); clear HO_15; clear HB; have HO_15 := n0_; have HB := n1_; clear n0_ n1_; (try clear hb); (try clear hb2); (try clear hk); (try clear hi)) | (go_at_call 51; (with_reducible refine (heir_CheckWay.calls _ _ l0 t255 t256 _ _ l3 t264 _ ?side1 ?side2 ?side3 ?side4 A71.out).mono ?_); (case side1 => repeat (first | exact (Kd.C_below HR0.out HB.out) | (with_reducible refine Kd.C_alloc ?_ _) | (with_reducible refine Kd.C_drewN ?_ _) | (with_reducible refine Kd.C_drew ?_))); (case side2 => exact HC0.out); (case side3 => repeat (first | exact (Kd.C_below HR3.out HB.out) | (with_reducible refine Kd.C_alloc ?_ _) | (with_reducible refine Kd.C_drewN ?_ _) | (with_reducible refine Kd.C_drew ?_))); (case side4 => exact HC3.out); rintro e w83 ⟨rfl, hb⟩; have n0_ := Aside0.mk (Kd.R_below (by (with_reducible repeat (first | apply Kd.R_alloc | apply Kd.R_drewN | apply Kd.R_drew)); exact HO_15.out) hb); have n1_ := Aside0.mk (below_step (by repeat (first | (with_reducible first | exact HB.out | apply below_alloc | apply pw_below_drewN | apply below_drew1) | exact HB.out)) hb); clear HO_15; clear HB; have HO_15 := n0_; have HB := n1_; clear n0_ n1_; (try clear hb); (try clear hb2); (try clear hk); (try clear hi)))
                          go_ret
                          exact ⟨by first | rfl | (simp [errW_none, errW_some] <;> rfl) | (simp [*, errW_none, errW_some] <;> rfl), by repeat (first | (with_reducible first | exact HB.out | apply below_alloc | apply pw_below_drewN | apply below_drew1) | exact HB.out)⟩
                      · replace c70 := Bool.eq_false_iff.mpr c70
                        subst c70
                        have H1 : (some false) = some r := by rw [if_neg (show ¬ (false = true) by decide)] at H; exact H
                        clear H
                        have H := H1
                        clear H1
                        obtain rfl := Option.some.inj H
                        go_wp2_with (first | ((with_reducible refine gate_callee (f := 16) rfl ?_); refine goesL_ (some 123) rfl rfl Try.func16 (by kernel_rfl) rfl #[] rfl (by (try simp only [List.map_toArray, List.map_cons, List.map_nil]); first | done | rfl | (simp only [List.length_drop, List.length_take]; rfl)) ?_; (with_reducible refine (cosignerlaw03_sanity.calls  false _ A69.out).mono ?_); rintro e w84 ⟨rfl, hb⟩; refine ⟨_, rfl, ?_⟩; have n0_ := Aside0.mk (Kd.R_below (by (with_reducible repeat (first | apply Kd.R_alloc | apply Kd.R_drewN | apply Kd.R_drew)); exact HO_15.out) hb); have n1_ := Aside0.mk (below_step (by repeat (first | (with_reducible first | exact HB.out | apply below_alloc | apply pw_below_drewN | apply below_drew1) | exact HB.out)) hb); clear HO_15; clear HB; have HO_15 := n0_; have HB := n1_; clear n0_ n1_; (try clear hb); (try clear hb2); (try clear hk); (try clear hi)))
                        go_ret
                        exact ⟨by first | rfl | (simp [errW_none, errW_some] <;> rfl) | (simp [*, errW_none, errW_some] <;> rfl), by repeat (first | (with_reducible first | exact HB.out | apply below_alloc | apply pw_below_drewN | apply below_drew1) | exact HB.out)⟩
              · rw [if_neg c53] at H
                have c53b0 : (t243 == 0) = false := beq_eq_false_iff_ne.mpr c53
                have c53b1 : (t243 != 0) = true := bne_iff_ne.mpr c53
                replace H := Option.bind_eq_some_iff.mp H
                obtain ⟨t254, A850, H⟩ := H
                replace H : (some t254) = some r := H
                have A85 := Aside0.mk A850
                clear A850
                obtain rfl := Option.some.inj H
                go_wp2_with (first | ((with_reducible refine gate_callee (f := 16) rfl ?_); refine goesL_ (some 90) rfl rfl Try.func16 (by kernel_rfl) rfl #[] rfl (by (try simp only [List.map_toArray, List.map_cons, List.map_nil]); first | done | rfl | (simp only [List.length_drop, List.length_take]; rfl)) ?_; (with_reducible refine (cosignerlaw03_sanity.calls  t254 _ A85.out).mono ?_); rintro e w86 ⟨rfl, hb⟩; refine ⟨_, rfl, ?_⟩; have n0_ := Aside0.mk (below_step (by repeat (first | (with_reducible first | exact HB.out | apply below_alloc | apply pw_below_drewN | apply below_drew1) | exact HB.out)) hb); clear HB; have HB := n0_; clear n0_; (try clear hb); (try clear hb2); (try clear hk); (try clear hi)))
                go_ret
                exact ⟨by first | rfl | (simp [errW_none, errW_some] <;> rfl) | (simp [*, errW_none, errW_some] <;> rfl), by repeat (first | (with_reducible first | exact HB.out | apply below_alloc | apply pw_below_drewN | apply below_drew1) | exact HB.out)⟩
def cosignerlaw03_few.l0 : Nat → List (S61) → Int → Option (Bool)
  | 0, _, _ => none
  | k + 1, x0, x3 => if x3 < (x0.length : Int) then (if 0 ≤ x3 then (if (((rd_T61 x0 x3).f3).length : Int) > 8 then (some false) else (cosignerlaw03_few.l0 k x0 (wrap64 (x3 + 1)))) else (none)) else (if (x0.length : Int) ≤ 10 then (some true) else (if (x0.length : Int) > 24 then (some (decide ((x0.length : Int) ≤ 40))) else (some false)))
def cosignerlaw03_few.f (k : Nat) (l0 : List (S61)) : Option (Bool) := cosignerlaw03_few.l0 k l0 0
theorem cosignerlaw03_few.mono_l : ∀ k, (∀ y0 y1, LeO (cosignerlaw03_few.l0 k y0 y1) (cosignerlaw03_few.l0 (k + 1) y0 y1))
  | 0 => fun _ _ r h => by simp [cosignerlaw03_few.l0] at h
  | k + 1 => by
    have ih0 := cosignerlaw03_few.mono_l k
    · intro y0 y1
      unfold cosignerlaw03_few.l0
      repeat' first
      | (with_reducible exact ih0 _ _)
      | (with_reducible exact LeO.refl _)
      | (with_reducible exact LeO.none _)
      | (with_reducible refine LeO.ite ?_ ?_)
      | (with_reducible refine LeO.bind ?_ (fun _ => ?_))
      | exact ih0 _ _
      | exact LeO.none _
      | refine LeO.ite ?_ ?_
      | refine LeO.bind ?_ (fun _ => ?_)
theorem cosignerlaw03_few.mono : ∀ a0 k, LeO (cosignerlaw03_few.f k a0) (cosignerlaw03_few.f (k + 1) a0) := by
  intro a0 k
  have ih0 := cosignerlaw03_few.mono_l k
  unfold cosignerlaw03_few.f
  repeat' first
      | (with_reducible exact ih0 _ _)
      | (with_reducible exact LeO.refl _)
      | (with_reducible exact LeO.none _)
      | (with_reducible refine LeO.ite ?_ ?_)
      | (with_reducible refine LeO.bind ?_ (fun _ => ?_))
      | exact ih0 _ _
      | exact LeO.none _
      | refine LeO.ite ?_ ?_
      | refine LeO.bind ?_ (fun _ => ?_)
set_option maxHeartbeats 8000000 in
set_option maxRecDepth 100000 in
theorem cosignerlaw03_few.calls (k : Nat) (A0 : Option Addr) (c0 : Nat) (l0 : List (S61)) (r : Bool) (w : World) (hr0 : Kd.C k61 w A0 l0.length l0) (hc0 : l0.length ≤ c0) (h : cosignerlaw03_few.f k l0 = some r) :
    Calls Try.prog 15 #[.slice A0 l0.length c0] w fun e w' => e = .returned (.bool r) ∧ Drawn0 w w' := by
  have HR0 := Aside0.mk hr0
  have HC0 := Aside0.mk hc0
  clear hr0 hc0
  have H : (cosignerlaw03_few.l0 k l0 0) = some r := h
  clear h
  have H' := Aside0.mk H
  clear H
  go_enter Try.func15, Try.ntmps15
  go_wp2
  go_loopg [3] k (fun kq v3 w' => ∃ (x3_1 : Int), v3 = .int .i64 x3_1 ∧ Aside0 (cosignerlaw03_few.l0 kq l0 x3_1 = some r) ∧ Aside0 (kq ≤ k) ∧ Drawn0 w w')
  case atStart => exact ⟨(0), (by first | rfl | (simp; done) | (simp [*]; done)), H', ⟨Nat.le_refl _⟩, by repeat (first | exact Drawn0.refl _ | apply Drawn0.step)⟩
  case round =>
    clear H'
    try clear c1
    obtain ⟨x3_1, rfl, HA, HK1, ⟨m1, rfl⟩⟩ := hrel
    cases gk with
    | zero => exact absurd HA.out (by simp [cosignerlaw03_few.l0])
    | succ k1 =>
      have H := HA.out
      clear HA
      simp only [cosignerlaw03_few.l0] at H
      by_cases c2 : x3_1 < (l0.length : Int)
      · rw [if_pos c2] at H
        have c2b0 : decide (x3_1 < (l0.length : Int)) = true := decide_eq_true c2
        clear c2
        by_cases c3 : 0 ≤ x3_1
        · rw [if_pos c3] at H
          have c3b0 : decide (0 ≤ x3_1) = true := decide_eq_true c3
          clear c3
          by_cases c4 : (((rd_T61 l0 x3_1).f3).length : Int) > 8
          · rw [if_pos c4] at H
            have c4b0 : decide (8 < (((rd_T61 l0 x3_1).f3).length : Int)) = true := decide_eq_true c4
            have c4b1 : decide (8 < ((rd_T61 l0 x3_1).f3).length) = true := decide_eq_true (by omega)
            clear c4
            obtain rfl := Option.some.inj H
            have p266 : 0 ≤ (x3_1 : Int) := of_decide_eq_true (by first | (with_reducible assumption) | assumption)
            have q266 : x3_1 < (l0.length : Int) := of_decide_eq_true (by first | (with_reducible assumption) | assumption)
            obtain ⟨ad266, A266_2, c266_2, A266_3, c266_3, A266_4, c266_4, A266_5, c266_5, A266_6, c266_6, e266, hx266_0, hx266_1, hx266_2, hx266_3, hx266_4, hx266_5, hx266_6, hl266_2, hi266_2, hl266_3, hi266_3, hl266_4, hi266_4, hl266_5, hi266_5, hl266_6, hi266_6⟩ := at_T61 HR0.out x3_1 p266 q266
            cases e266
            have HR266_2 := Aside0.mk hi266_2
            have HC266_2 := Aside0.mk hl266_2
            clear hi266_2 hl266_2
            have HR266_3 := Aside0.mk hi266_3
            have HC266_3 := Aside0.mk hl266_3
            clear hi266_3 hl266_3
            have HR266_4 := Aside0.mk hi266_4
            have HC266_4 := Aside0.mk hl266_4
            clear hi266_4 hl266_4
            have HR266_5 := Aside0.mk hi266_5
            have HC266_5 := Aside0.mk hl266_5
            clear hi266_5 hl266_5
            have HR266_6 := Aside0.mk hi266_6
            have HC266_6 := Aside0.mk hl266_6
            clear hi266_6 hl266_6
            replace p266 := eq_true p266
            replace q266 := eq_true q266
            go_wp2
            go_ret
            exact ⟨by first | rfl | (simp; done) | (simp [*]; done), by repeat (first | exact Drawn0.refl _ | apply Drawn0.step)⟩
          · rw [if_neg c4] at H
            have c4b0 : decide (8 < (((rd_T61 l0 x3_1).f3).length : Int)) = false := decide_eq_false c4
            have c4b1 : decide (8 < ((rd_T61 l0 x3_1).f3).length) = false := decide_eq_false (by omega)
            clear c4
            have H' := Aside0.mk H
            clear H
            have p266 : 0 ≤ (x3_1 : Int) := of_decide_eq_true (by first | (with_reducible assumption) | assumption)
            have q266 : x3_1 < (l0.length : Int) := of_decide_eq_true (by first | (with_reducible assumption) | assumption)
            obtain ⟨ad266, A266_2, c266_2, A266_3, c266_3, A266_4, c266_4, A266_5, c266_5, A266_6, c266_6, e266, hx266_0, hx266_1, hx266_2, hx266_3, hx266_4, hx266_5, hx266_6, hl266_2, hi266_2, hl266_3, hi266_3, hl266_4, hi266_4, hl266_5, hi266_5, hl266_6, hi266_6⟩ := at_T61 HR0.out x3_1 p266 q266
            cases e266
            have HR266_2 := Aside0.mk hi266_2
            have HC266_2 := Aside0.mk hl266_2
            clear hi266_2 hl266_2
            have HR266_3 := Aside0.mk hi266_3
            have HC266_3 := Aside0.mk hl266_3
            clear hi266_3 hl266_3
            have HR266_4 := Aside0.mk hi266_4
            have HC266_4 := Aside0.mk hl266_4
            clear hi266_4 hl266_4
            have HR266_5 := Aside0.mk hi266_5
            have HC266_5 := Aside0.mk hl266_5
            clear hi266_5 hl266_5
            have HR266_6 := Aside0.mk hi266_6
            have HC266_6 := Aside0.mk hl266_6
            clear hi266_6 hl266_6
            replace p266 := eq_true p266
            replace q266 := eq_true q266
            go_wp2
            go_roundg k1
            case measure => have := HK1.out; omega
            case rel => exact ⟨(wrap64 (x3_1 + 1)), (by first | rfl | (simp; done) | (simp [*]; done)), H', ⟨by have := HK1.out; omega⟩, by repeat (first | exact Drawn0.refl _ | apply Drawn0.step)⟩
        · rw [if_neg c3] at H
          exact absurd H (by simp)
      · rw [if_neg c2] at H
        have c2b0 : decide (x3_1 < (l0.length : Int)) = false := decide_eq_false c2
        clear c2
        by_cases c5 : (l0.length : Int) ≤ 10
        · rw [if_pos c5] at H
          have c5b0 : decide ((l0.length : Int) ≤ 10) = true := decide_eq_true c5
          have c5b1 : decide (l0.length ≤ 10) = true := decide_eq_true (by omega)
          clear c5
          obtain rfl := Option.some.inj H
          go_wp2
          go_ret
          exact ⟨by first | rfl | (simp; done) | (simp [*]; done), by repeat (first | exact Drawn0.refl _ | apply Drawn0.step)⟩
        · rw [if_neg c5] at H
          have c5b0 : decide ((l0.length : Int) ≤ 10) = false := decide_eq_false c5
          have c5b1 : decide (l0.length ≤ 10) = false := decide_eq_false (by omega)
          clear c5
          by_cases c6 : (l0.length : Int) > 24
          · rw [if_pos c6] at H
            have c6b0 : decide (24 < (l0.length : Int)) = true := decide_eq_true c6
            have c6b1 : decide (24 < l0.length) = true := decide_eq_true (by omega)
            clear c6
            obtain rfl := Option.some.inj H
            go_wp2
            go_ret
            exact ⟨by first | rfl | (simp; done) | (simp [*]; done), by repeat (first | exact Drawn0.refl _ | apply Drawn0.step)⟩
          · rw [if_neg c6] at H
            have c6b0 : decide (24 < (l0.length : Int)) = false := decide_eq_false c6
            have c6b1 : decide (24 < l0.length) = false := decide_eq_false (by omega)
            clear c6
            obtain rfl := Option.some.inj H
            go_wp2
            go_ret
            exact ⟨by first | rfl | (simp; done) | (simp [*]; done), by repeat (first | exact Drawn0.refl _ | apply Drawn0.step)⟩
end Go.Proofs.Ytdljclokenoogaa.Hp
end
section
namespace Go.Proofs.Ytdljclokenoogaa.Hw
open Go.RowKit Go.Proofs.Ytdljclokenoogaa.Hp Go.Proofs.YtdljclokenoogaaW.PrintWords Go.Proofs.YtdljclokenoogaaW.PrintLast Go.Proofs.YtdljclokenoogaaW.PrintMore
theorem aloneOf_seven (l : List S61) (i : Nat) : aloneOf l i ≠ 7 := by
  unfold aloneOf
  split
  · decide
  · split
    · decide
    · split <;> decide
theorem checkOf_seven {l : List S61} (h : (checkOf l).1 = 7) : ∃ r t, ringOf l = r :: t ∧ (checkOf l).2 = r := by
  unfold checkOf at h ⊢
  split at h
  · cases h
  · rename_i h0
    rw [if_neg h0]
    split at h
    · exact absurd h (aloneOf_seven l _)
    · split at h
      · cases h
      · split at h
        · rename_i r t e
          exact ⟨r, t, e, rfl⟩
        · cases h
theorem checkRing_f {l : List S61} (hup : ∀ x ∈ l, x.f3.length ≤ 1100000000000) (ns : List ByteArray) : heir_CheckRing.f l ns = some (checkRingOf l ns) := by
  unfold heir_CheckRing.f
  rw [if_pos]
  exact List.all_eq_true.2 (fun x hx => decide_eq_true (hup x hx))
theorem ring_f {l : List S61} (hl : l.length ≤ 1000) (hup : ∀ x ∈ l, x.f3.length ≤ 1100000000000) : heir_Ring.f l = some (ringOf l, !(ringOf l).isEmpty) := by
  unfold heir_Ring.f
  rw [if_pos ⟨hl, List.all_eq_true.2 (fun x hx => decide_eq_true (hup x hx))⟩]
theorem proofs_j2 {l : List S61} (h : Good l) {c a : ByteArray} (hc : c ∈ names l) (ha : a ∈ names l) (r ns : List ByteArray) (hr : checkWayOf l c a ns = 0 → memS (anc l c) a = true ∧ r.length ≤ ns.length) (k : Nat) : cosignerlaw03_HeirProofs.j2 (k + 1) l ns c a r false = some true := by
  rw [cosignerlaw03_HeirProofs.j2, if_neg (by decide)]
  have e : heir_CheckWay.f l c a ns = some (checkWayOf l c a ns) := rfl
  simp only [cosignerlaw03_sanity.f, Option.bind_some, if_true, e]
  by_cases hw : checkWayOf l c a ns = 0
  · rw [if_pos hw, h.is hc ha, (hr hw).1, Option.bind_some, if_pos rfl, decide_eq_true (by have := (hr hw).2; omega)]
  · rw [if_neg hw]
theorem proofs_j1 (l : List S61) (hp : 0 < l.length) (i j : Int) (ns : List ByteArray) (hi : 0 ≤ i ∧ i < 256) (hj : 0 ≤ j ∧ j < 256) (k : Nat) : cosignerlaw03_HeirProofs.j1 (k + 2) l i j ns (checkOf l).1 false = some true := by
  rw [cosignerlaw03_HeirProofs.j1, if_neg (by decide)]
  by_cases h0 : (checkOf l).1 = 0
  · have h : Good l := ⟨h0, hp⟩
    obtain ⟨c, hc, ec⟩ := h.name i hi.1 hi.2
    obtain ⟨a, ha, ea⟩ := h.name j hj.1 hj.2
    have ew : heir_Way.f l c a = some (wayOf l c a) := rfl
    have ek : ∀ r, heir_CheckWay.f l c a r = some (checkWayOf l c a r) := fun r => rfl
    rw [if_pos h0, ec, Option.bind_some, ea, Option.bind_some, ew, Option.bind_some, h.is hc ha, Option.bind_some]
    rcases h.way_ok hc ha with ⟨h1, r, h2, h3, h4⟩ | ⟨h1, h2, h4⟩
    · rw [h2, h1, if_neg (by simp), if_pos rfl, ek, Option.bind_some, h3]
      exact proofs_j2 h hc ha r ns (fun hw => ⟨h1, h4 ns hw⟩) k
    · rw [h2, h1, if_neg (by simp), if_neg (by simp)]
      exact proofs_j2 h hc ha [] ns (fun hw => absurd hw (h4 ns)) k
  · rw [if_neg h0]; rfl
theorem pure_proofs (l : List S61) (i j : Int) (ns : List ByteArray) (hup : ∀ x ∈ l, x.f3.length ≤ 1100000000000) (hi : 0 ≤ i ∧ i < 256) (hj : 0 ≤ j ∧ j < 256) : cosignerlaw03_HeirProofs.f 200 l i j ns = some true := by
  have hs : cosignerlaw03_HeirProofs.j0 200 l i j ns true = some true := by rw [cosignerlaw03_HeirProofs.j0, if_pos rfl]; rfl
  unfold cosignerlaw03_HeirProofs.f
  by_cases c0 : (l.length : Int) = 0
  · rw [if_pos c0, hs]
  rw [if_neg c0]
  by_cases c1 : (l.length : Int) > 24
  · rw [if_pos c1, hs]
  rw [if_neg c1]
  by_cases c2 : (ns.length : Int) > 40
  · rw [decide_eq_true c2, hs]
  rw [decide_eq_false c2, cosignerlaw03_HeirProofs.j0, if_neg (by decide)]
  have hl : l.length ≤ 24 := by omega
  have hp : 0 < l.length := by omega
  have j1 := proofs_j1 l hp i j ns hi hj 197
  have ec : heir_Check.f l = some (checkOf l) := rfl
  rw [ec, Option.bind_some, ring_f (by omega) hup, Option.bind_some]
  by_cases hr : ringOf l = []
  · have h7 : (checkOf l).1 ≠ 7 := fun e => by obtain ⟨r, t, e1, _⟩ := checkOf_seven e; rw [hr] at e1; cases e1
    have hn : checkRingOf l ns ≠ 0 := fun e => (ring_of_check hl e).1 hr
    rw [hr]
    simp only [List.isEmpty_nil, Bool.not_true, Bool.false_eq_true, if_false]
    rw [if_neg h7, checkRing_f hup, Option.bind_some, if_neg hn]
    exact j1
  · have h0 : (checkOf l).1 ≠ 0 := fun e => hr (checkOk e).2.2.2
    have hpos : 0 < (ringOf l).length := List.length_pos_iff.2 hr
    have he : (!(ringOf l).isEmpty) = true := by simpa using hr
    have hfin : (heir_CheckRing.f l ns).bind (fun t => if t = 0 then cosignerlaw03_HeirProofs.j1 199 l i j ns (checkOf l).1 (decide ((ns.length : Int) < ((ringOf l).length : Int))) else cosignerlaw03_HeirProofs.j1 199 l i j ns (checkOf l).1 false) = some true := by
      rw [checkRing_f hup, Option.bind_some]
      by_cases hn : checkRingOf l ns = 0
      · rw [if_pos hn, decide_eq_false (by have := (ring_of_check hl hn).2; omega)]; exact j1
      · rw [if_neg hn]; exact j1
    simp only [he, if_true]
    rw [checkRing_f hup, Option.bind_some, if_pos (check_of_ring hl hr), if_neg h0]
    by_cases h7 : (checkOf l).1 = 7
    · obtain ⟨r, t, e1, e2⟩ := checkOf_seven h7
      rw [if_pos h7, if_pos (by omega), if_pos]
      · exact hfin
      · rw [e1, e2]; rfl
    · rw [if_neg h7]; exact hfin
end Go.Proofs.Ytdljclokenoogaa.Hw
end
section
namespace Go.Proofs.YtdljclokenoogaaW.PrintWords
open Go.ChangeShapes Go.WideShapes
theorem sized_ints {H : Type} {enc : TypeId × Value → H} {P : Program} {W : World} {base : Nat} {spare : Nat → Bool} {held : Bool} {t e : TypeId} {k : IntKind} {a : Option Addr} {len cap : Nat} {d : DataW H} {ps : List MemPlace} {ts : List TypeId} {ds : List (DataW H)} {j : Nat}
    (hsz : (DataW.weightsEach P ts ds).all (· ≤ reachBytes) = true) (ht : ts[j]? = some t) (hd : ds[j]? = some d) (hu : P.underlying t = some (.slice e)) (he : P.underlying e = some (.int k)) (hc : P.cellsOf e = 1) {B : Nat} (hB : P.bytesOf e = B)
    (h : DataW.Trod enc P W base spare held t (.slice a len cap) d ps) : len * B ≤ 140737488351232 := by
  obtain ⟨fuel, hf⟩ := h
  rcases open_ints hu he hc hf with ⟨hcs, _⟩ | ⟨x, l, c, zs, hcs, _, hl, _, hz, hx, _, _⟩
  · simp [Value.cells] at hcs
    obtain ⟨rfl, rfl, rfl⟩ := hcs
    simp
  · simp [Value.cells] at hcs
    obtain ⟨rfl, rfl, rfl⟩ := hcs
    obtain ⟨hx, _⟩ := Prod.mk.inj hx
    subst hx
    have z := sized_slice hsz ht hd hu
    rw [hB] at z
    have hl2 : len ≤ zs.length := by
      rw [hz]
      split
      · exact hl
      · exact Nat.le_refl _
    have h1 : (lits (H := H) k (zs.take len)).length + (lits (H := H) k (zs.drop len)).length = zs.length := by
      simp [lits]
      omega
    rw [h1] at z
    exact Nat.le_trans (Nat.mul_le_mul_right _ hl2) z
end Go.Proofs.YtdljclokenoogaaW.PrintWords
end
section
namespace Go.Proofs.Ytdljclokenoogaa.heirProofs
open Go.ChangeShapes Go.WideShapes Go.ChangeAt Go.RowKit Go.Proofs.Ytdljclokenoogaa.Hw
open Go.ChangeMaps (open_string shut_string)
set_option linter.unusedVariables false
theorem own : ownKnob Try.prog.godebug = none := by kernel_rfl
theorem laidOut : laidOutB Try.prog = true := by kernel_rfl
set_option maxRecDepth 100000 in
theorem lifted (os : Os) (started : os.Started) (H : Type) (enc : TypeId × Value → H) :
    ReturnsInHanded {} Try.checked os 14 .any (Rows.heirProofsSpec.pre6 enc Try.prog Try.f14 Rows.heirProofsRow.domain false) (Rows.heirProofsSpec.post enc Try.prog Try.f14 false true false false) := by
  refine returnsInHanded_of_change_sized (C := Try.checked) own started (by kernel_rfl) Try.func14
    (ChangeSpec.witness6 (enc := enc) (C := Try.checked) false ⟨#[], #[.slice none 0 0, .int .u8 0, .int .u8 0, .slice none 0 0], []⟩ 8 (by kernel_rfl) (by kernel_rfl) (by kernel_rfl) (by kernel_rfl)) ?_
  intro W base args ds gs before hval0 hW hcnd hsz0 _
  have hsz : (DataW.weightsEach Try.prog (Try.f14.params.toList ++ Rows.heirProofsSpec.plain.varTypes Try.prog) (ds ++ gs)).all (· ≤ reachBytes) = true := hsz0
  have hval : ∀ (j : Nat) t v, Try.f14.params[j]? = some t → args[j]? = some v → Value.okWide Try.prog W .any base t v := hval0
  have hW' := hW
  obtain ⟨p, q, hA0, hV, rfl, hfz, hnd⟩ := hW
  have hA : DataW.TrodAll enc Try.prog W 0 (fun _ => true) true Try.f14.params.toList args.toList ds p := hA0
  rw [Try.params14] at hA hval hsz
  obtain ⟨v0, vs0, d0, ds0, p0, q0, hargs, rfl, rfl, h0, r0⟩ := trodAll_cons hA
  obtain ⟨v1, vs1, d1, ds1, p1, q1, rfl, rfl, rfl, h1, r1⟩ := trodAll_cons r0
  obtain ⟨v2, vs2, d2, ds2, p2, q2, rfl, rfl, rfl, h2, r2⟩ := trodAll_cons r1
  obtain ⟨v3, vs3, d3, ds3, p3, q3, rfl, rfl, rfl, h3, r3⟩ := trodAll_cons r2
  obtain ⟨rfl, rfl, rfl⟩ := trodAll_nil r3
  obtain rfl : args = #[v0, v1, v2, v3] := by cases args; simp_all
  obtain ⟨rfl, rfl⟩ := trodVars_none hV
  obtain ⟨b0, len0, cap0, rfl⟩ := okWide_slice Try.underlying22 (hval 0 22 v0 rfl rfl)
  have k0 := h0
  have lt0 : ∀ x ∈ p0, x.block < W.heap.size := by obtain ⟨m, hm⟩ := k0; exact DataW.trod_lt m _ _ _ hm
  obtain ⟨l0, rfl, hc0, hC0, up0⟩ := trod_classesS hsz (j := 0) rfl rfl h0
  obtain ⟨a1, rfl, rfl, rfl, x1⟩ := open_int Try.underlying5 (hval 1 5 v1 rfl rfl) h1
  have z1 : 0 ≤ a1 ∧ a1 ≤ 255 := by simpa [Lit.wf, IntKind.min, IntKind.max, IntKind.bits, IntKind.signed] using x1
  have w1 : 0 ≤ a1 ∧ a1 < 256 := by omega
  obtain ⟨a2, rfl, rfl, rfl, x2⟩ := open_int Try.underlying5 (hval 2 5 v2 rfl rfl) h2
  have z2 : 0 ≤ a2 ∧ a2 ≤ 255 := by simpa [Lit.wf, IntKind.min, IntKind.max, IntKind.bits, IntKind.signed] using x2
  have w2 : 0 ≤ a2 ∧ a2 < 256 := by omega
  obtain ⟨b3, len3, cap3, rfl⟩ := okWide_slice Try.underlying25 (hval 3 25 v3 rfl rfl)
  have k3 := h3
  have lt3 : ∀ x ∈ p3, x.block < W.heap.size := by obtain ⟨m, hm⟩ := k3; exact DataW.trod_lt m _ _ _ hm
  obtain ⟨l3, rfl, hc3, hC3⟩ := trod_strings Try.underlying25 h3
  clear hA0 hval0 hsz0 hsz
  refine (Hp.cosignerlaw03_HeirProofs.calls 200 b0 cap0 l0 a1 a2 b3 cap3 l3 true W hC0 hc0 hC3 hc3 (pure_proofs l0 a1 a2 l3 up0 w1 w2)).mono fun e W' ⟨he, bel⟩ => ?_
  subst he
  exact ⟨_, rfl, _, _, _, [], _, [], hW', trodAll_mk1 (shut_bool Try.underlying4 _), (trodAll_cons_mk (Below.trod laidOut (by kernel_rfl) (of_decide_eq_true (by kernel_rfl)) k0 bel lt0) (trodAll_cons_mk (shut_int Try.underlying5 x1) (trodAll_cons_mk (shut_int Try.underlying5 x2) (trodAll_cons_mk (Below.trod laidOut (by kernel_rfl) (of_decide_eq_true (by kernel_rfl)) k3 bel lt3) trodAll_mk0)))), rfl, bel.frame _, fun h => by cases h⟩
theorem over : Rows.heirProofsRow.holds Try.pinned (OpenSpec.ofChange Rows.heirProofsSpec) :=
  OpenClaim.holds_of_wide 14 Try.f14 rfl rfl rfl rfl rfl rfl rfl ⟨rfl, rfl, rfl, rfl, rfl⟩ rfl rfl rfl rfl rfl (by kernel_rfl) Try.func14 (by kernel_rfl)
    (of_decide_eq_true (by kernel_rfl)) (by unfold Func.isWrapper; first | (rw [if_pos (by decide +kernel)]; kernel_rfl) | (rw [if_neg (by decide +kernel)]; exact ⟨rfl, rfl⟩))
    (fun os started H enc _ => lifted os started H enc)
theorem proved : Rows.HeirProofsSaid := over
#print axioms proved
end Go.Proofs.Ytdljclokenoogaa.heirProofs
namespace Go.Proofs.Ytdljclokenoogaa
theorem heirProofs_holds : Rows.HeirProofsSaid := heirProofs.proved
end Go.Proofs.Ytdljclokenoogaa
end
