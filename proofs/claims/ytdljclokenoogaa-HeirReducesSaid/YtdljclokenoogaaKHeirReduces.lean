/-
  HeirReduces: for every input the statement returns true, and each argument reads behind the call as it read before.
  Conditions: those of the given row alone. (The texts of this claim are merged by the session's program wip/pack.py; declarations that nothing names are left out.)
-/
import Derived.SizedLaws
import Derived.ChangeSlices
import Derived.Test.YtdljclokenoogaaRows
import Derived.WalkKit
import Derived.ProofKit
import Derived.OpenShut
import Derived.ShutString
import Derived.ChangeOld
import Derived.Below
import Derived.Test.YtdljclokenoogaaKHeirReduces0
set_option linter.unusedVariables false
set_option linter.unusedSimpArgs false
section
namespace Go.Proofs.Ytdljclokenoogaa.Hp
open Go.RowKit Go.Proofs.YtdljclokenoogaaW.PrintWords Go.Proofs.YtdljclokenoogaaW.PrintLast Go.Proofs.YtdljclokenoogaaW.PrintMore
attribute [local go_sem] max2_int min2_int max_two min_two max_three min_three max_four min_four
set_option linter.unusedVariables false
set_option linter.unusedSimpArgs false
attribute [local go_sem high] eqA73
mutual
def cosignerlaw03_HeirReduces.j0 : Nat → List (S61) → Int → Int → List (S73) → Bool → Option (Bool)
  | 0, _, _, _, _, _ => none
  | k + 1, x0, x1, x3, x9, x53 => if x53 = true then (some false) else (if (x0.length : Int) = 0 then (none) else (if 0 ≤ (Int.tmod (wrap64 (x1)) (x0.length : Int)) then (if (Int.tmod (wrap64 (x1)) (x0.length : Int)) < (x0.length : Int) then (if (((rd_T61 x0 (Int.tmod (wrap64 (x1)) (x0.length : Int))).f3).length : Int) = 0 then ((cosignerlaw03_sanity.f).bind fun t230 => (some t230)) else (if 0 ≤ (Int.tmod (wrap64 (x3)) (((rd_T61 x0 (Int.tmod (wrap64 (x1)) (x0.length : Int))).f3).length : Int)) then (if (Int.tmod (wrap64 (x3)) (((rd_T61 x0 (Int.tmod (wrap64 (x1)) (x0.length : Int))).f3).length : Int)) < (((rd_T61 x0 (Int.tmod (wrap64 (x1)) (x0.length : Int))).f3).length : Int) then (cosignerlaw03_HeirReduces.l0 k x0 x9 false 0 ((rd_T61 x0 (Int.tmod (wrap64 (x1)) (x0.length : Int))).f0) ((rd_T65 ((rd_T61 x0 (Int.tmod (wrap64 (x1)) (x0.length : Int))).f3) (Int.tmod (wrap64 (x3)) (((rd_T61 x0 (Int.tmod (wrap64 (x1)) (x0.length : Int))).f3).length : Int))).f0)) else (none)) else (none))) else (none)) else (none)))
def cosignerlaw03_HeirReduces.l0 : Nat → List (S61) → List (S73) → Bool → Int → ByteArray → ByteArray → Option (Bool)
  | 0, _, _, _, _, _, _ => none
  | k + 1, x0, x9, x16, x17, x233000, x233001 => if x17 < (x9.length : Int) then (if x16 = true then (cosignerlaw03_HeirReduces.l0 k x0 x9 true (wrap64 (x17 + 1)) x233000 x233001) else (if 0 ≤ x17 then (cosignerlaw03_HeirReduces.l0 k x0 x9 ((((rd_T73 x9 x17).f0).toList) == x233000.toList && ((((rd_T73 x9 x17).f1).toList) == x233001.toList)) (wrap64 (x17 + 1)) x233000 x233001) else (none))) else ((cosignerlaw03_sanity.f).bind fun t234 => (if t234 = true then ((cosignerlaw03_linked.f k x0 (([(⟨x233000, x233001⟩ : S73)] : List (S73)))).bind fun t238 => ((cosignerlaw03_is.f t238 x233000 x233001).bind fun t241 => (some (x16 == t241)))) else (some false)))
end
def cosignerlaw03_HeirReduces.f (k : Nat) (l0 : List (S61)) (a1 : Int) (a2 : Int) (a3 : Int) : Option (Bool) := (cosignerlaw03_right.f l0).bind fun t214 => (if t214 = true then ((heir_Needless.f l0).bind fun bt216 => ((cosignerlaw03_linked.f k l0 bt216.1).bind fun t220 => ((cosignerlaw03_name.f l0 a1).bind fun t223 => ((cosignerlaw03_name.f l0 a2).bind fun t224 => (if bt216.2 = 0 then ((cosignerlaw03_right.f t220).bind fun t225 => (if t225 = true then ((cosignerlaw03_is.f l0 t223 t224).bind fun t226 => ((cosignerlaw03_is.f t220 t223 t224).bind fun t227 => (cosignerlaw03_HeirReduces.j0 k l0 a1 a3 bt216.1 (t226 != t227)))) else (cosignerlaw03_HeirReduces.j0 k l0 a1 a3 bt216.1 true))) else (cosignerlaw03_HeirReduces.j0 k l0 a1 a3 bt216.1 true)))))) else ((cosignerlaw03_sanity.f).bind fun t215 => (some t215)))
theorem cosignerlaw03_HeirReduces.mono_l : ∀ k, (∀ y0 y1 y2 y3 y4, LeO (cosignerlaw03_HeirReduces.j0 k y0 y1 y2 y3 y4) (cosignerlaw03_HeirReduces.j0 (k + 1) y0 y1 y2 y3 y4)) ∧ (∀ y0 y1 y2 y3 y4 y5, LeO (cosignerlaw03_HeirReduces.l0 k y0 y1 y2 y3 y4 y5) (cosignerlaw03_HeirReduces.l0 (k + 1) y0 y1 y2 y3 y4 y5))
  | 0 => ⟨fun _ _ _ _ _ r h => by simp [cosignerlaw03_HeirReduces.j0] at h, fun _ _ _ _ _ _ r h => by simp [cosignerlaw03_HeirReduces.l0] at h⟩
  | k + 1 => by
    obtain ⟨ih0, ih1⟩ := cosignerlaw03_HeirReduces.mono_l k
    refine ⟨?_, ?_⟩
    · intro y0 y1 y2 y3 y4
      unfold cosignerlaw03_HeirReduces.j0
      repeat' first
      | (with_reducible exact ih0 _ _ _ _ _)
      | (with_reducible exact ih1 _ _ _ _ _ _)
      | (with_reducible exact cosignerlaw03_linked.mono _ _ _)
      | (with_reducible exact LeO.refl _)
      | (with_reducible exact LeO.none _)
      | (with_reducible refine LeO.ite ?_ ?_)
      | (with_reducible refine LeO.bind ?_ (fun _ => ?_))
      | exact ih0 _ _ _ _ _
      | exact ih1 _ _ _ _ _ _
      | exact cosignerlaw03_linked.mono _ _ _
      | exact LeO.none _
      | refine LeO.ite ?_ ?_
      | refine LeO.bind ?_ (fun _ => ?_)
    · intro y0 y1 y2 y3 y4 y5
      unfold cosignerlaw03_HeirReduces.l0
      repeat' first
      | (with_reducible exact ih0 _ _ _ _ _)
      | (with_reducible exact ih1 _ _ _ _ _ _)
      | (with_reducible exact cosignerlaw03_linked.mono _ _ _)
      | (with_reducible exact LeO.refl _)
      | (with_reducible exact LeO.none _)
      | (with_reducible refine LeO.ite ?_ ?_)
      | (with_reducible refine LeO.bind ?_ (fun _ => ?_))
      | exact ih0 _ _ _ _ _
      | exact ih1 _ _ _ _ _ _
      | exact cosignerlaw03_linked.mono _ _ _
      | exact LeO.none _
      | refine LeO.ite ?_ ?_
      | refine LeO.bind ?_ (fun _ => ?_)
theorem cosignerlaw03_HeirReduces.mono : ∀ a0 a1 a2 a3 k, LeO (cosignerlaw03_HeirReduces.f k a0 a1 a2 a3) (cosignerlaw03_HeirReduces.f (k + 1) a0 a1 a2 a3) := by
  intro a0 a1 a2 a3 k
  obtain ⟨ih0, ih1⟩ := cosignerlaw03_HeirReduces.mono_l k
  unfold cosignerlaw03_HeirReduces.f
  repeat' first
      | (with_reducible exact ih0 _ _ _ _ _)
      | (with_reducible exact ih1 _ _ _ _ _ _)
      | (with_reducible exact cosignerlaw03_linked.mono _ _ _)
      | (with_reducible exact LeO.refl _)
      | (with_reducible exact LeO.none _)
      | (with_reducible refine LeO.ite ?_ ?_)
      | (with_reducible refine LeO.bind ?_ (fun _ => ?_))
      | exact ih0 _ _ _ _ _
      | exact ih1 _ _ _ _ _ _
      | exact cosignerlaw03_linked.mono _ _ _
      | exact LeO.none _
      | refine LeO.ite ?_ ?_
      | refine LeO.bind ?_ (fun _ => ?_)
def cosignerlaw03_HeirReduces.T12 : Bool × List (List Nat × List Nat) := (true, [([], []), ([0], [0]), ([], []), ([2], [2]), ([], []), ([4], [4]), ([], []), ([6], [6]), ([7], [7]), ([5, 8], [5, 8]), ([3, 9], [3, 9]), ([10], [10]), ([11], [11]), ([1, 12], [1, 12]), ([], []), ([14, 13, 0, 1, 2, 3, 4, 5, 6, 7, 8, 9, 10, 11, 12, 13, 14], [13, 14])])
def cosignerlaw03_HeirReduces.B12 : List Nat := [0, 1, 0, 4, 0, 16, 0, 64, 192, 496, 1020, 2044, 4092, 8191, 0, 32767]
theorem cosignerlaw03_HeirReduces.tab12 : rtab .any (opsOf Try.f8 12) = cosignerlaw03_HeirReduces.T12 := by kernel_rfl
theorem cosignerlaw03_HeirReduces.bits12 : waitsOk cosignerlaw03_HeirReduces.T12.2 cosignerlaw03_HeirReduces.B12 = true := by kernel_rfl
def cosignerlaw03_HeirReduces.T17 : Bool × List (List Nat × List Nat) := (true, [([], []), ([0], [0]), ([1], [1]), ([1], [1]), ([2, 3, 1], [1, 2, 3]), ([4, 1], [1, 4]), ([1], [1]), ([5, 6, 1], [1, 5, 6]), ([1, 7], [1, 7]), ([8, 1, 0, 1, 2, 3, 4, 5, 6, 7, 8], [0, 8])])
def cosignerlaw03_HeirReduces.B17 : List Nat := [0, 1, 3, 3, 15, 31, 3, 127, 255, 511]
theorem cosignerlaw03_HeirReduces.tab17 : rtab .any (opsOf Try.f8 17) = cosignerlaw03_HeirReduces.T17 := by kernel_rfl
theorem cosignerlaw03_HeirReduces.bits17 : waitsOk cosignerlaw03_HeirReduces.T17.2 cosignerlaw03_HeirReduces.B17 = true := by kernel_rfl
def cosignerlaw03_HeirReduces.T18 : Bool × List (List Nat × List Nat) := (true, [([], []), ([0, 0], [0]), ([1], [1]), ([1], [1]), ([1], [1]), ([4, 1], [1, 4]), ([3, 5, 1, 1], [1, 3, 5]), ([1], [1]), ([7, 1], [1, 7]), ([1], [1]), ([9, 1], [1, 9]), ([6, 8, 10, 6, 1], [1, 6, 8, 10]), ([2, 11, 1], [1, 2, 11]), ([1, 12], [1, 12]), ([13, 11, 0, 1, 2, 3, 4, 5, 6, 7, 8, 9, 10, 11, 12, 13], [13])])
def cosignerlaw03_HeirReduces.B18 : List Nat := [0, 1, 3, 3, 3, 19, 59, 3, 131, 3, 515, 2043, 4095, 8191, 16383]
theorem cosignerlaw03_HeirReduces.tab18 : rtab .any (opsOf Try.f8 18) = cosignerlaw03_HeirReduces.T18 := by kernel_rfl
theorem cosignerlaw03_HeirReduces.bits18 : waitsOk cosignerlaw03_HeirReduces.T18.2 cosignerlaw03_HeirReduces.B18 = true := by kernel_rfl
set_option maxHeartbeats 8000000 in
set_option maxRecDepth 100000 in
theorem cosignerlaw03_HeirReduces.calls (k : Nat) (A0 : Option Addr) (c0 : Nat) (l0 : List (S61)) (a1 : Int) (a2 : Int) (a3 : Int) (r : Bool) (w : World) (hr0 : Kd.C k61 w A0 l0.length l0) (hc0 : l0.length ≤ c0) (h : cosignerlaw03_HeirReduces.f k l0 a1 a2 a3 = some r) :
    Calls Try.prog 8 #[.slice A0 l0.length c0, .int .u8 a1, .int .u8 a2, .int .u8 a3] w fun e w' => e = .returned (.bool r) ∧ Below w.heap.size w w' := by
  have hu61 := Try.underlying61
  have hu73 := Try.underlying73
  have HR0 := Aside0.mk hr0
  have HC0 := Aside0.mk hc0
  clear hr0 hc0
  have HB := Aside0.mk (Below.refl w.heap.size w)
  have H : ((cosignerlaw03_right.f l0).bind fun t214 => (if t214 = true then ((heir_Needless.f l0).bind fun bt216 => ((cosignerlaw03_linked.f k l0 bt216.1).bind fun t220 => ((cosignerlaw03_name.f l0 a1).bind fun t223 => ((cosignerlaw03_name.f l0 a2).bind fun t224 => (if bt216.2 = 0 then ((cosignerlaw03_right.f t220).bind fun t225 => (if t225 = true then ((cosignerlaw03_is.f l0 t223 t224).bind fun t226 => ((cosignerlaw03_is.f t220 t223 t224).bind fun t227 => (cosignerlaw03_HeirReduces.j0 k l0 a1 a3 bt216.1 (t226 != t227)))) else (cosignerlaw03_HeirReduces.j0 k l0 a1 a3 bt216.1 true))) else (cosignerlaw03_HeirReduces.j0 k l0 a1 a3 bt216.1 true)))))) else ((cosignerlaw03_sanity.f).bind fun t215 => (some t215)))) = some r := h
  clear h
  replace H := Option.bind_eq_some_iff.mp H
  obtain ⟨t214, A50, H⟩ := H
  replace H : (if t214 = true then ((heir_Needless.f l0).bind fun bt216 => ((cosignerlaw03_linked.f k l0 bt216.1).bind fun t220 => ((cosignerlaw03_name.f l0 a1).bind fun t223 => ((cosignerlaw03_name.f l0 a2).bind fun t224 => (if bt216.2 = 0 then ((cosignerlaw03_right.f t220).bind fun t225 => (if t225 = true then ((cosignerlaw03_is.f l0 t223 t224).bind fun t226 => ((cosignerlaw03_is.f t220 t223 t224).bind fun t227 => (cosignerlaw03_HeirReduces.j0 k l0 a1 a3 bt216.1 (t226 != t227)))) else (cosignerlaw03_HeirReduces.j0 k l0 a1 a3 bt216.1 true))) else (cosignerlaw03_HeirReduces.j0 k l0 a1 a3 bt216.1 true)))))) else ((cosignerlaw03_sanity.f).bind fun t215 => (some t215))) = some r := H
  have A5 := Aside0.mk A50
  clear A50
  by_cases c6 : t214 = true
  · subst c6
    have H1 : ((heir_Needless.f l0).bind fun bt216 => ((cosignerlaw03_linked.f k l0 bt216.1).bind fun t220 => ((cosignerlaw03_name.f l0 a1).bind fun t223 => ((cosignerlaw03_name.f l0 a2).bind fun t224 => (if bt216.2 = 0 then ((cosignerlaw03_right.f t220).bind fun t225 => (if t225 = true then ((cosignerlaw03_is.f l0 t223 t224).bind fun t226 => ((cosignerlaw03_is.f t220 t223 t224).bind fun t227 => (cosignerlaw03_HeirReduces.j0 k l0 a1 a3 bt216.1 (t226 != t227)))) else (cosignerlaw03_HeirReduces.j0 k l0 a1 a3 bt216.1 true))) else (cosignerlaw03_HeirReduces.j0 k l0 a1 a3 bt216.1 true)))))) = some r := by rw [if_pos rfl] at H; exact H
    clear H
    have H := H1
    clear H1
    replace H := Option.bind_eq_some_iff.mp H
    obtain ⟨⟨t216, t217⟩, A70, H⟩ := H
    replace H : ((cosignerlaw03_linked.f k l0 t216).bind fun t220 => ((cosignerlaw03_name.f l0 a1).bind fun t223 => ((cosignerlaw03_name.f l0 a2).bind fun t224 => (if t217 = 0 then ((cosignerlaw03_right.f t220).bind fun t225 => (if t225 = true then ((cosignerlaw03_is.f l0 t223 t224).bind fun t226 => ((cosignerlaw03_is.f t220 t223 t224).bind fun t227 => (cosignerlaw03_HeirReduces.j0 k l0 a1 a3 t216 (t226 != t227)))) else (cosignerlaw03_HeirReduces.j0 k l0 a1 a3 t216 true))) else (cosignerlaw03_HeirReduces.j0 k l0 a1 a3 t216 true))))) = some r := H
    have A7 := Aside0.mk A70
    clear A70
    replace H := Option.bind_eq_some_iff.mp H
    obtain ⟨t220, A80, H⟩ := H
    replace H : ((cosignerlaw03_name.f l0 a1).bind fun t223 => ((cosignerlaw03_name.f l0 a2).bind fun t224 => (if t217 = 0 then ((cosignerlaw03_right.f t220).bind fun t225 => (if t225 = true then ((cosignerlaw03_is.f l0 t223 t224).bind fun t226 => ((cosignerlaw03_is.f t220 t223 t224).bind fun t227 => (cosignerlaw03_HeirReduces.j0 k l0 a1 a3 t216 (t226 != t227)))) else (cosignerlaw03_HeirReduces.j0 k l0 a1 a3 t216 true))) else (cosignerlaw03_HeirReduces.j0 k l0 a1 a3 t216 true)))) = some r := H
    have A8 := Aside0.mk A80
    clear A80
    replace H := Option.bind_eq_some_iff.mp H
    obtain ⟨t223, A90, H⟩ := H
    replace H : ((cosignerlaw03_name.f l0 a2).bind fun t224 => (if t217 = 0 then ((cosignerlaw03_right.f t220).bind fun t225 => (if t225 = true then ((cosignerlaw03_is.f l0 t223 t224).bind fun t226 => ((cosignerlaw03_is.f t220 t223 t224).bind fun t227 => (cosignerlaw03_HeirReduces.j0 k l0 a1 a3 t216 (t226 != t227)))) else (cosignerlaw03_HeirReduces.j0 k l0 a1 a3 t216 true))) else (cosignerlaw03_HeirReduces.j0 k l0 a1 a3 t216 true))) = some r := H
    have A9 := Aside0.mk A90
    clear A90
    replace H := Option.bind_eq_some_iff.mp H
    obtain ⟨t224, A100, H⟩ := H
    replace H : (if t217 = 0 then ((cosignerlaw03_right.f t220).bind fun t225 => (if t225 = true then ((cosignerlaw03_is.f l0 t223 t224).bind fun t226 => ((cosignerlaw03_is.f t220 t223 t224).bind fun t227 => (cosignerlaw03_HeirReduces.j0 k l0 a1 a3 t216 (t226 != t227)))) else (cosignerlaw03_HeirReduces.j0 k l0 a1 a3 t216 true))) else (cosignerlaw03_HeirReduces.j0 k l0 a1 a3 t216 true)) = some r := H
    have A10 := Aside0.mk A100
    clear A100
    have HC11 := Aside0.mk H
    clear H
    go_enter Try.func8, Try.ntmps8
    go_upto_region 7 with (first | ((with_reducible refine gate_callee (f := 30) rfl ?_); refine goesL_ (some 19) rfl rfl Try.func30 (by kernel_rfl) rfl #[.slice A0 l0.length c0] rfl (by (try simp only [List.map_toArray, List.map_cons, List.map_nil]); first | done | rfl | (simp only [List.length_drop, List.length_take]; rfl)) ?_; (with_reducible refine (cosignerlaw03_right.calls _ _ l0 true _ ?side1 ?side2 A5.out).mono ?_); (case side1 => repeat (first | exact HR0.out | (with_reducible refine Kd.C_alloc ?_ _) | (with_reducible refine Kd.C_drewN ?_ _) | (with_reducible refine Kd.C_drew ?_))); (case side2 => exact HC0.out); rintro e w12 ⟨rfl, hb⟩; refine ⟨_, rfl, ?_⟩; have n0_ := Aside0.mk (below_step (by repeat (first | (with_reducible first | exact HB.out | apply below_alloc | apply pw_below_drewN | apply below_drew1) | exact HB.out)) hb); clear HB; have HB := n0_; clear n0_; (try clear hb); (try clear hb2); (try clear hk); (try clear hi)) | ((with_reducible refine gate_callee (f := 25) rfl ?_); refine goesL_ (some 24) rfl rfl Try.func25 (by kernel_rfl) rfl #[.slice A0 l0.length c0] rfl (by (try simp only [List.map_toArray, List.map_cons, List.map_nil]); first | done | rfl | (simp only [List.length_drop, List.length_take]; rfl)) ?_; (with_reducible refine (heir_Needless.calls _ _ l0 t216 t217 _ ?side1 ?side2 A7.out).mono ?_); (case side1 => repeat (first | exact (Kd.C_below HR0.out HB.out) | (with_reducible refine Kd.C_alloc ?_ _) | (with_reducible refine Kd.C_drewN ?_ _) | (with_reducible refine Kd.C_drew ?_))); (case side2 => exact HC0.out); rintro e w13 ⟨v218, rfl, ho0, hb⟩; refine ⟨_, rfl, ?_⟩; have n0_ := Aside0.mk (Kd.R_lower ho0 (below_size (by repeat (first | (with_reducible first | exact HB.out | apply below_alloc | apply pw_below_drewN | apply below_drew1) | exact HB.out)))); have n1_ := Aside0.mk (below_step (by repeat (first | (with_reducible first | exact HB.out | apply below_alloc | apply pw_below_drewN | apply below_drew1) | exact HB.out)) hb); clear HB; have HO219 := n0_; have HB := n1_; clear n0_ n1_; (try clear hb); (try clear hb2); (try clear hk); (try clear hi); (try clear ho0); obtain ⟨Ao14, co14, eo14⟩ := Kd.R_slice HO219.out; subst eo14) | ((with_reducible refine gate_callee (f := 36) rfl ?_); refine goesL_ (some 29) rfl rfl Try.func36 (by kernel_rfl) rfl #[.slice A0 l0.length c0, .slice Ao14 t216.length co14] rfl (by (try simp only [List.map_toArray, List.map_cons, List.map_nil]); first | done | rfl | (simp only [List.length_drop, List.length_take]; rfl)) ?_; (with_reducible refine (cosignerlaw03_linked.calls k (fun k_ => k_ < w.heap.size) _ _ l0 _ _ t216 t220 _ ?side1 ?side2 ?side3 A8.out).mono ?_); (case side1 => exact Kd.V_mk HC0.out (Kd.F_below (Kd.C_F k61_heap HR0.out) (by repeat (first | (with_reducible first | exact HB.out | apply below_alloc | apply pw_below_drewN | apply below_drew1) | exact HB.out)))); (case side2 => repeat (first | exact (Kd.R_reads' HO219.out).2.2 | (with_reducible refine Kd.C_alloc ?_ _) | (with_reducible refine Kd.C_drewN ?_ _) | (with_reducible refine Kd.C_drew ?_))); (case side3 => exact (Kd.R_reads' HO219.out).2.1); rintro e w15 ⟨v221, rfl, ho0, hb⟩; refine ⟨_, rfl, ?_⟩; have n0_ := Aside0.mk (Kd.R_below (by (with_reducible repeat (first | apply Kd.R_alloc | apply Kd.R_drewN | apply Kd.R_drew)); exact HO219.out) hb); have n1_ := Aside0.mk (Kd.N_lower (Kd.N_mono (ok' := fun k_ => some k_ ≠ (.slice Ao14 t216.length co14 : Value).ownBlock) ho0 (fun k_ hk_ => Or.elim hk_ (fun hs_ => fun e_ => Nat.not_le.2 hs_ (Kd.R_base HO219.out k_ e_.symm)) (fun hn_ => (Kd.fresh' (Kd.R_lt (by (with_reducible repeat (first | apply Kd.R_alloc | apply Kd.R_drewN | apply Kd.R_drew)); exact HO219.out)) k_ hn_)))) (below_size (by repeat (first | (with_reducible first | exact HB.out | apply below_alloc | apply pw_below_drewN | apply below_drew1) | exact HB.out)))); have n2_ := Aside0.mk (below_step (by repeat (first | (with_reducible first | exact HB.out | apply below_alloc | apply pw_below_drewN | apply below_drew1) | exact HB.out)) hb); clear HO219; clear HB; have HO219 := n0_; have HO222 := n1_; have HB := n2_; clear n0_ n1_ n2_; (try clear hb); (try clear hb2); (try clear hk); (try clear hi); (try clear ho0)) | ((with_reducible refine gate_callee (f := 31) rfl ?_); refine goesL_ (some 32) rfl rfl Try.func31 (by kernel_rfl) rfl #[.slice A0 l0.length c0, .int .u8 a1] rfl (by (try simp only [List.map_toArray, List.map_cons, List.map_nil]); first | done | rfl | (simp only [List.length_drop, List.length_take]; rfl)) ?_; (with_reducible refine (cosignerlaw03_name.calls _ _ l0 a1 t223 _ ?side1 ?side2 A9.out).mono ?_); (case side1 => repeat (first | exact (Kd.C_below HR0.out HB.out) | (with_reducible refine Kd.C_alloc ?_ _) | (with_reducible refine Kd.C_drewN ?_ _) | (with_reducible refine Kd.C_drew ?_))); (case side2 => exact HC0.out); rintro e w' ⟨rfl, ⟨nd, rfl⟩⟩; refine ⟨_, rfl, ?_⟩) | ((with_reducible refine gate_callee (f := 31) rfl ?_); refine goesL_ (some 35) rfl rfl Try.func31 (by kernel_rfl) rfl #[.slice A0 l0.length c0, .int .u8 a2] rfl (by (try simp only [List.map_toArray, List.map_cons, List.map_nil]); first | done | rfl | (simp only [List.length_drop, List.length_take]; rfl)) ?_; (with_reducible refine (cosignerlaw03_name.calls _ _ l0 a2 t224 _ ?side1 ?side2 A10.out).mono ?_); (case side1 => repeat (first | exact (Kd.C_below HR0.out (by repeat (first | (with_reducible first | exact HB.out | apply below_alloc | apply pw_below_drewN | apply below_drew1) | exact HB.out))) | (with_reducible refine Kd.C_alloc ?_ _) | (with_reducible refine Kd.C_drewN ?_ _) | (with_reducible refine Kd.C_drew ?_))); (case side2 => exact HC0.out); rintro e w' ⟨rfl, ⟨nd, rfl⟩⟩; refine ⟨_, rfl, ?_⟩))
    (try simp only [Act.put, List.setIfInBounds_toArray, List.set_cons_zero, List.set_cons_succ])
    go_cut [53] (fun v53 wc => ∃ (kq : Nat) (x53_10 : Bool), v53 = .bool x53_10 ∧ Aside0 (cosignerlaw03_HeirReduces.j0 kq l0 a1 a3 t216 x53_10 = some r) ∧ Aside0 (kq ≤ k) ∧ Aside0 (Kd.R k73 73 wc w.heap.size (fun _ => True) (.slice Ao14 t216.length co14) t216) ∧ Aside0 (Below w.heap.size w wc))
    case first =>
      have H := HC11.out
      clear HC11
      by_cases c16 : t217 = 0
      · rw [if_pos c16] at H
        have c16b0 : (t217 == 0) = true := beq_iff_eq.mpr c16
        have c16b1 : (t217 != 0) = false := bne_eq_false_iff_eq.mpr c16
        clear c16
        (first | rw [c16b0] | (simp only [i64_w, i32_w]; rw [c16b0]) | skip)
        replace H := Option.bind_eq_some_iff.mp H
        obtain ⟨t225, A170, H⟩ := H
        replace H : (if t225 = true then ((cosignerlaw03_is.f l0 t223 t224).bind fun t226 => ((cosignerlaw03_is.f t220 t223 t224).bind fun t227 => (cosignerlaw03_HeirReduces.j0 k l0 a1 a3 t216 (t226 != t227)))) else (cosignerlaw03_HeirReduces.j0 k l0 a1 a3 t216 true)) = some r := H
        have A17 := Aside0.mk A170
        clear A170
        by_cases c18 : t225 = true
        · subst c18
          have H1 : ((cosignerlaw03_is.f l0 t223 t224).bind fun t226 => ((cosignerlaw03_is.f t220 t223 t224).bind fun t227 => (cosignerlaw03_HeirReduces.j0 k l0 a1 a3 t216 (t226 != t227)))) = some r := by rw [if_pos rfl] at H; exact H
          clear H
          have H := H1
          clear H1
          replace H := Option.bind_eq_some_iff.mp H
          obtain ⟨t226, A190, H⟩ := H
          replace H : ((cosignerlaw03_is.f t220 t223 t224).bind fun t227 => (cosignerlaw03_HeirReduces.j0 k l0 a1 a3 t216 (t226 != t227))) = some r := H
          have A19 := Aside0.mk A190
          clear A190
          replace H := Option.bind_eq_some_iff.mp H
          obtain ⟨t227, A200, H⟩ := H
          replace H : (cosignerlaw03_HeirReduces.j0 k l0 a1 a3 t216 (t226 != t227)) = some r := H
          have A20 := Aside0.mk A200
          clear A200
          have H' := Aside0.mk H
          clear H
          obtain ⟨Ao21, co21, eo21⟩ := Kd.N_slice HO222.out
          subst eo21
          go_wp2_with (first | (go_at_call 30; (with_reducible refine (cosignerlaw03_right.calls _ _ t220 true _ ?side1 ?side2 A17.out).mono ?_); (case side1 => repeat (first | exact (Kd.N_reads' HO222.out).2.2 | (with_reducible refine Kd.C_alloc ?_ _) | (with_reducible refine Kd.C_drewN ?_ _) | (with_reducible refine Kd.C_drew ?_))); (case side2 => exact (Kd.N_reads' HO222.out).2.1); rintro e w22 ⟨rfl, hb⟩; have n0_ := Aside0.mk (Kd.R_below (by (with_reducible repeat (first | apply Kd.R_alloc | apply Kd.R_drewN | apply Kd.R_drew)); exact HO219.out) hb); have n1_ := Aside0.mk (Kd.N_below (by (with_reducible repeat (first | apply Kd.N_alloc | apply Kd.N_drewN | apply Kd.N_drew)); exact HO222.out) hb); have n2_ := Aside0.mk (below_step (by repeat (first | (with_reducible first | exact HB.out | apply below_alloc | apply pw_below_drewN | apply below_drew1) | exact HB.out)) hb); clear HO219; clear HO222; clear HB; have HO219 := n0_; have HO222 := n1_; have HB := n2_; clear n0_ n1_ n2_; (try clear hb); (try clear hb2); (try clear hk); (try clear hi)) | (go_at_call 33; (with_reducible refine (cosignerlaw03_is.calls _ _ l0 t223 t224 t226 _ ?side1 ?side2 A19.out).mono ?_); (case side1 => repeat (first | exact (Kd.C_below HR0.out HB.out) | (with_reducible refine Kd.C_alloc ?_ _) | (with_reducible refine Kd.C_drewN ?_ _) | (with_reducible refine Kd.C_drew ?_))); (case side2 => exact HC0.out); rintro e w23 ⟨rfl, hb⟩; have n0_ := Aside0.mk (Kd.R_below (by (with_reducible repeat (first | apply Kd.R_alloc | apply Kd.R_drewN | apply Kd.R_drew)); exact HO219.out) hb); have n1_ := Aside0.mk (Kd.N_below (by (with_reducible repeat (first | apply Kd.N_alloc | apply Kd.N_drewN | apply Kd.N_drew)); exact HO222.out) hb); have n2_ := Aside0.mk (below_step (by repeat (first | (with_reducible first | exact HB.out | apply below_alloc | apply pw_below_drewN | apply below_drew1) | exact HB.out)) hb); clear HO219; clear HO222; clear HB; have HO219 := n0_; have HO222 := n1_; have HB := n2_; clear n0_ n1_ n2_; (try clear hb); (try clear hb2); (try clear hk); (try clear hi)) | (go_at_call 33; (with_reducible refine (cosignerlaw03_is.calls _ _ t220 t223 t224 t227 _ ?side1 ?side2 A20.out).mono ?_); (case side1 => repeat (first | exact (Kd.N_reads' HO222.out).2.2 | (with_reducible refine Kd.C_alloc ?_ _) | (with_reducible refine Kd.C_drewN ?_ _) | (with_reducible refine Kd.C_drew ?_))); (case side2 => exact (Kd.N_reads' HO222.out).2.1); rintro e w24 ⟨rfl, hb⟩; have n0_ := Aside0.mk (Kd.R_below (by (with_reducible repeat (first | apply Kd.R_alloc | apply Kd.R_drewN | apply Kd.R_drew)); exact HO219.out) hb); have n1_ := Aside0.mk (Kd.N_below (by (with_reducible repeat (first | apply Kd.N_alloc | apply Kd.N_drewN | apply Kd.N_drew)); exact HO222.out) hb); have n2_ := Aside0.mk (below_step (by repeat (first | (with_reducible first | exact HB.out | apply below_alloc | apply pw_below_drewN | apply below_drew1) | exact HB.out)) hb); clear HO219; clear HO222; clear HB; have HO219 := n0_; have HO222 := n1_; have HB := n2_; clear n0_ n1_ n2_; (try clear hb); (try clear hb2); (try clear hk); (try clear hi)))
          go_meet
          case rel => exact ⟨_, ((t226 != t227)), (by first | rfl | (simp; done) | (simp [*]; done)), H', ⟨by first | omega | exact Nat.le_refl _⟩, ⟨by (with_reducible repeat (first | apply Kd.R_alloc | apply Kd.R_drewN | apply Kd.R_drew)); exact HO219.out⟩, ⟨by repeat (first | (with_reducible first | exact HB.out | apply below_alloc | apply pw_below_drewN | apply below_drew1) | exact HB.out)⟩⟩
        · replace c18 := Bool.eq_false_iff.mpr c18
          subst c18
          have H1 : (cosignerlaw03_HeirReduces.j0 k l0 a1 a3 t216 true) = some r := by rw [if_neg (show ¬ (false = true) by decide)] at H; exact H
          clear H
          have H := H1
          clear H1
          have H' := Aside0.mk H
          clear H
          obtain ⟨Ao25, co25, eo25⟩ := Kd.N_slice HO222.out
          subst eo25
          go_wp2_with (first | (go_at_call 30; (with_reducible refine (cosignerlaw03_right.calls _ _ t220 false _ ?side1 ?side2 A17.out).mono ?_); (case side1 => repeat (first | exact (Kd.N_reads' HO222.out).2.2 | (with_reducible refine Kd.C_alloc ?_ _) | (with_reducible refine Kd.C_drewN ?_ _) | (with_reducible refine Kd.C_drew ?_))); (case side2 => exact (Kd.N_reads' HO222.out).2.1); rintro e w26 ⟨rfl, hb⟩; have n0_ := Aside0.mk (Kd.R_below (by (with_reducible repeat (first | apply Kd.R_alloc | apply Kd.R_drewN | apply Kd.R_drew)); exact HO219.out) hb); have n1_ := Aside0.mk (Kd.N_below (by (with_reducible repeat (first | apply Kd.N_alloc | apply Kd.N_drewN | apply Kd.N_drew)); exact HO222.out) hb); have n2_ := Aside0.mk (below_step (by repeat (first | (with_reducible first | exact HB.out | apply below_alloc | apply pw_below_drewN | apply below_drew1) | exact HB.out)) hb); clear HO219; clear HO222; clear HB; have HO219 := n0_; have HO222 := n1_; have HB := n2_; clear n0_ n1_ n2_; (try clear hb); (try clear hb2); (try clear hk); (try clear hi)))
          go_meet
          case rel => exact ⟨_, (true), (by first | rfl | (simp; done) | (simp [*]; done)), H', ⟨by first | omega | exact Nat.le_refl _⟩, ⟨by (with_reducible repeat (first | apply Kd.R_alloc | apply Kd.R_drewN | apply Kd.R_drew)); exact HO219.out⟩, ⟨by repeat (first | (with_reducible first | exact HB.out | apply below_alloc | apply pw_below_drewN | apply below_drew1) | exact HB.out)⟩⟩
      · rw [if_neg c16] at H
        have c16b0 : (t217 == 0) = false := beq_eq_false_iff_ne.mpr c16
        have c16b1 : (t217 != 0) = true := bne_iff_ne.mpr c16
        (first | rw [c16b0] | (simp only [i64_w, i32_w]; rw [c16b0]) | skip)
        have H' := Aside0.mk H
        clear H
        go_wp2
        go_meet
        case rel => exact ⟨_, (true), (by first | rfl | (simp; done) | (simp [*]; done)), H', ⟨by first | omega | exact Nat.le_refl _⟩, ⟨by (with_reducible repeat (first | apply Kd.R_alloc | apply Kd.R_drewN | apply Kd.R_drew)); exact HO219.out⟩, ⟨by repeat (first | (with_reducible first | exact HB.out | apply below_alloc | apply pw_below_drewN | apply below_drew1) | exact HB.out)⟩⟩
    case rest =>
      clear HC11
      try clear c1
      try clear c2
      try clear p2
      try clear c3
      try clear c6
      try clear c8
      try clear c16
      try clear c16b0
      try clear c16b1
      try clear c18
      try clear c25
      obtain ⟨kq, x53_10, rfl, HA, HJ10, HO_9, HB⟩ := hcut
      cases kq with
      | zero => exact absurd HA.out (by simp [cosignerlaw03_HeirReduces.j0])
      | succ kj10 =>
        have H := HA.out
        clear HA
        simp only [cosignerlaw03_HeirReduces.j0] at H
        by_cases c27 : x53_10 = true
        · subst c27
          have H1 : (some false) = some r := by rw [if_pos rfl] at H; exact H
          clear H
          have H := H1
          clear H1
          obtain rfl := Option.some.inj H
          go_wp2
          go_ret
          exact ⟨by first | rfl | (simp [errW_none, errW_some] <;> rfl) | (simp [*, errW_none, errW_some] <;> rfl), by repeat (first | (with_reducible first | exact HB.out | apply below_alloc | apply pw_below_drewN | apply below_drew1) | exact HB.out)⟩
        · replace c27 := Bool.eq_false_iff.mpr c27
          subst c27
          have H1 : (if (l0.length : Int) = 0 then (none) else (if 0 ≤ (Int.tmod (wrap64 (a1)) (l0.length : Int)) then (if (Int.tmod (wrap64 (a1)) (l0.length : Int)) < (l0.length : Int) then (if (((rd_T61 l0 (Int.tmod (wrap64 (a1)) (l0.length : Int))).f3).length : Int) = 0 then ((cosignerlaw03_sanity.f).bind fun t230 => (some t230)) else (if 0 ≤ (Int.tmod (wrap64 (a3)) (((rd_T61 l0 (Int.tmod (wrap64 (a1)) (l0.length : Int))).f3).length : Int)) then (if (Int.tmod (wrap64 (a3)) (((rd_T61 l0 (Int.tmod (wrap64 (a1)) (l0.length : Int))).f3).length : Int)) < (((rd_T61 l0 (Int.tmod (wrap64 (a1)) (l0.length : Int))).f3).length : Int) then (cosignerlaw03_HeirReduces.l0 kj10 l0 t216 false 0 ((rd_T61 l0 (Int.tmod (wrap64 (a1)) (l0.length : Int))).f0) ((rd_T65 ((rd_T61 l0 (Int.tmod (wrap64 (a1)) (l0.length : Int))).f3) (Int.tmod (wrap64 (a3)) (((rd_T61 l0 (Int.tmod (wrap64 (a1)) (l0.length : Int))).f3).length : Int))).f0)) else (none)) else (none))) else (none)) else (none))) = some r := by rw [if_neg (show ¬ (false = true) by decide)] at H; exact H
          clear H
          have H := H1
          clear H1
          by_cases c28 : (l0.length : Int) = 0
          · rw [if_pos c28] at H
            exact absurd H (by simp)
          · rw [if_neg c28] at H
            have c28b0 : ((l0.length : Int) == 0) = false := beq_eq_false_iff_ne.mpr c28
            have c28b1 : ((l0.length : Int) != 0) = true := bne_iff_ne.mpr c28
            have c28b2 : ¬ (l0 = []) := fun h_ => c28 (by rw [h_]; rfl)
            obtain ⟨ji29, hji29⟩ : ∃ j_ : Int, (Int.tmod (wrap64 (a1)) (l0.length : Int)) = j_ := ⟨_, rfl⟩
            replace H : (if 0 ≤ (ji29) then (if (ji29) < (l0.length : Int) then (if (((rd_T61 l0 (ji29)).f3).length : Int) = 0 then ((cosignerlaw03_sanity.f).bind fun t230 => (some t230)) else (if 0 ≤ (Int.tmod (wrap64 (a3)) (((rd_T61 l0 (ji29)).f3).length : Int)) then (if (Int.tmod (wrap64 (a3)) (((rd_T61 l0 (ji29)).f3).length : Int)) < (((rd_T61 l0 (ji29)).f3).length : Int) then (cosignerlaw03_HeirReduces.l0 kj10 l0 t216 false 0 ((rd_T61 l0 (ji29)).f0) ((rd_T65 ((rd_T61 l0 (ji29)).f3) (Int.tmod (wrap64 (a3)) (((rd_T61 l0 (ji29)).f3).length : Int))).f0)) else (none)) else (none))) else (none)) else (none)) = some r := by first | (rw [hji29] at H; exact H) | (simp only [hji29] at H ⊢; exact H)
            by_cases c30 : 0 ≤ (ji29)
            · rw [if_pos c30] at H
              have c30b0 : decide (0 ≤ (ji29)) = true := decide_eq_true c30
              clear c30
              by_cases c31 : (ji29) < (l0.length : Int)
              · rw [if_pos c31] at H
                have c31b0 : decide ((ji29) < (l0.length : Int)) = true := decide_eq_true c31
                clear c31
                by_cases c32 : (((rd_T61 l0 (ji29)).f3).length : Int) = 0
                · rw [if_pos c32] at H
                  have c32b0 : ((((rd_T61 l0 (ji29)).f3).length : Int) == 0) = true := beq_iff_eq.mpr c32
                  have c32b1 : ((((rd_T61 l0 (ji29)).f3).length : Int) != 0) = false := bne_eq_false_iff_eq.mpr c32
                  clear c32
                  replace H := Option.bind_eq_some_iff.mp H
                  obtain ⟨t230, A330, H⟩ := H
                  replace H : (some t230) = some r := H
                  have A33 := Aside0.mk A330
                  clear A330
                  obtain rfl := Option.some.inj H
                  have p228 : 0 ≤ ((ji29) : Int) := of_decide_eq_true (by first | (with_reducible assumption) | assumption)
                  have q228 : (ji29) < (l0.length : Int) := of_decide_eq_true (by first | (with_reducible assumption) | assumption)
                  obtain ⟨ad228, A228_2, c228_2, A228_3, c228_3, A228_4, c228_4, A228_5, c228_5, A228_6, c228_6, e228, hx228_0, hx228_1, hx228_2, hx228_3, hx228_4, hx228_5, hx228_6, hl228_2, hi228_2, hl228_3, hi228_3, hl228_4, hi228_4, hl228_5, hi228_5, hl228_6, hi228_6⟩ := at_T61 HR0.out (ji29) p228 q228
                  cases e228
                  replace hx228_0 := (HB.out.cell (World.block_lt_of_cell? w _ hx228_0)).trans hx228_0
                  replace hx228_1 := (HB.out.cell (World.block_lt_of_cell? w _ hx228_1)).trans hx228_1
                  replace hx228_2 := (HB.out.cell (World.block_lt_of_cell? w _ hx228_2)).trans hx228_2
                  replace hx228_3 := (HB.out.cell (World.block_lt_of_cell? w _ hx228_3)).trans hx228_3
                  replace hx228_4 := (HB.out.cell (World.block_lt_of_cell? w _ hx228_4)).trans hx228_4
                  replace hx228_5 := (HB.out.cell (World.block_lt_of_cell? w _ hx228_5)).trans hx228_5
                  replace hx228_6 := (HB.out.cell (World.block_lt_of_cell? w _ hx228_6)).trans hx228_6
                  have HR228_2 := Aside0.mk hi228_2
                  have HC228_2 := Aside0.mk hl228_2
                  clear hi228_2 hl228_2
                  have HR228_3 := Aside0.mk hi228_3
                  have HC228_3 := Aside0.mk hl228_3
                  clear hi228_3 hl228_3
                  have HR228_4 := Aside0.mk hi228_4
                  have HC228_4 := Aside0.mk hl228_4
                  clear hi228_4 hl228_4
                  have HR228_5 := Aside0.mk hi228_5
                  have HC228_5 := Aside0.mk hl228_5
                  clear hi228_5 hl228_5
                  have HR228_6 := Aside0.mk hi228_6
                  have HC228_6 := Aside0.mk hl228_6
                  clear hi228_6 hl228_6
                  replace p228 := eq_true p228
                  replace q228 := eq_true q228
                  go_wp2_with (first | ((with_reducible refine gate_dst (N := 14) rfl ?_); (try (refine gate_guard (by rfl) ?_; dsimp only)); refine box_event ?hg (N := 14) ?hd (cs := #[.string (⟨#[]⟩ : ByteArray), .bool false, .slice none 0 0, .slice none 0 0, .slice none 0 0, .slice none 0 0, .slice none 0 0]) (t := 61) ?hr ?_; (case hd => rfl); (case hg => rfl); (case hr => first | (go_simp; done) | (go_simp; rfl)); intro gb229 hg w34 hbox hb; have n0_ := Aside0.mk (Kd.R_below (by (with_reducible repeat (first | apply Kd.R_alloc | apply Kd.R_drewN | apply Kd.R_drew)); exact HO_9.out) hb); have n1_ := Aside0.mk (below_step (by repeat (first | (with_reducible first | exact HB.out | apply below_alloc | apply pw_below_drewN | apply below_drew1) | exact HB.out)) hb); have n2_ := Aside0.mk (hbox); have n3_ := Aside0.mk ((by rw [hg]; exact (below_size (by repeat (first | (with_reducible first | exact HB.out | apply below_alloc | apply pw_below_drewN | apply below_drew1) | exact HB.out))) : w.heap.size ≤ gb229)); have n4_ := Aside0.mk ((by rw [hg]; exact (below_size (by repeat (first | (with_reducible first | exact HB.out | apply below_alloc | apply pw_below_drewN | apply below_drew1) | exact HB.out))) : w.heap.size ≤ gb229)); clear HO_9; clear HB; have HO_9 := n0_; have HB := n1_; have BK229 := n2_; have GW229 := n3_; have GE229 := n4_; clear n0_ n1_ n2_ n3_ n4_; clear hb hbox hg; have hcz35_0 : w34.cell? ⟨gb229, 0, none⟩ = some (.string (⟨#[]⟩ : ByteArray)) := (blk_cell BK229.out 0).trans rfl; have hcz35_1 : w34.cell? ⟨gb229, 1, none⟩ = some (.bool false) := (blk_cell BK229.out 1).trans rfl; have hcz35_2 : w34.cell? ⟨gb229, 2, none⟩ = some (.slice none 0 0) := (blk_cell BK229.out 2).trans rfl; have hcz35_3 : w34.cell? ⟨gb229, 3, none⟩ = some (.slice none 0 0) := (blk_cell BK229.out 3).trans rfl; have hcz35_4 : w34.cell? ⟨gb229, 4, none⟩ = some (.slice none 0 0) := (blk_cell BK229.out 4).trans rfl; have hcz35_5 : w34.cell? ⟨gb229, 5, none⟩ = some (.slice none 0 0) := (blk_cell BK229.out 5).trans rfl; have hcz35_6 : w34.cell? ⟨gb229, 6, none⟩ = some (.slice none 0 0) := (blk_cell BK229.out 6).trans rfl; have hfz35_0 := blk_frozen BK229.out 0; have hfz35_1 := blk_frozen BK229.out 1; have hfz35_2 := blk_frozen BK229.out 2; have hfz35_3 := blk_frozen BK229.out 3; have hfz35_4 := blk_frozen BK229.out 4; have hfz35_5 := blk_frozen BK229.out 5; have hfz35_6 := blk_frozen BK229.out 6) | ((with_reducible refine gate_callee (f := 16) rfl ?_); refine goesL_ (some 66) rfl rfl Try.func16 (by kernel_rfl) rfl #[] rfl (by (try simp only [List.map_toArray, List.map_cons, List.map_nil]); first | done | rfl | (simp only [List.length_drop, List.length_take]; rfl)) ?_; (with_reducible refine (cosignerlaw03_sanity.calls  t230 _ A33.out).mono ?_); rintro e w36 ⟨rfl, hb⟩; refine ⟨_, rfl, ?_⟩; have n0_ := Aside0.mk (Kd.R_below (by (with_reducible repeat (first | apply Kd.R_alloc | apply Kd.R_drewN | apply Kd.R_drew)); exact (Kd.R_mono (Kd.R_far (p := ⟨gb229, 6, none⟩) (Kd.R_far (p := ⟨gb229, 5, none⟩) (Kd.R_far (p := ⟨gb229, 4, none⟩) (Kd.R_far (p := ⟨gb229, 3, none⟩) (Kd.R_far (p := ⟨gb229, 2, none⟩) (Kd.R_far (p := ⟨gb229, 1, none⟩) (Kd.R_far (p := ⟨gb229, 0, none⟩) (Kd.R_types HO_9.out BK229.out (by decide)) (fun _ hk => hk.2) (.string ((rd_T61 l0 (ji29)).f0))) (fun _ hk => hk.2) (.bool ((rd_T61 l0 (ji29)).f1))) (fun _ hk => hk.2) (.slice A228_2 ((rd_T61 l0 (ji29)).f2).length c228_2)) (fun _ hk => hk.2) (.slice A228_3 ((rd_T61 l0 (ji29)).f3).length c228_3)) (fun _ hk => hk.2) (.slice A228_4 ((rd_T61 l0 (ji29)).f4).length c228_4)) (fun _ hk => hk.2) (.slice A228_5 ((rd_T61 l0 (ji29)).f5).length c228_5)) (fun _ hk => hk.2) (.slice A228_6 ((rd_T61 l0 (ji29)).f6).length c228_6)) (fun _ h_ => h_.1))) hb); have n1_ := Aside0.mk (blk_below (g := gb229) (o := .cells #[.string ((rd_T61 l0 (ji29)).f0), .bool ((rd_T61 l0 (ji29)).f1), .slice A228_2 ((rd_T61 l0 (ji29)).f2).length c228_2, .slice A228_3 ((rd_T61 l0 (ji29)).f3).length c228_3, .slice A228_4 ((rd_T61 l0 (ji29)).f4).length c228_4, .slice A228_5 ((rd_T61 l0 (ji29)).f5).length c228_5, .slice A228_6 ((rd_T61 l0 (ji29)).f6).length c228_6] 61 (0, 0)) (by (with_reducible repeat (first | refine blk_drewN ?_ _ | refine blk_drew ?_ | refine blk_alloc ?_ _)); refine blk_put (cs := #[.string ((rd_T61 l0 (ji29)).f0), .bool ((rd_T61 l0 (ji29)).f1), .slice A228_2 ((rd_T61 l0 (ji29)).f2).length c228_2, .slice A228_3 ((rd_T61 l0 (ji29)).f3).length c228_3, .slice A228_4 ((rd_T61 l0 (ji29)).f4).length c228_4, .slice A228_5 ((rd_T61 l0 (ji29)).f5).length c228_5, .slice none 0 0]) ?_ 6 _ rfl; (with_reducible repeat (first | refine blk_drewN ?_ _ | refine blk_drew ?_ | refine blk_alloc ?_ _)); refine blk_put (cs := #[.string ((rd_T61 l0 (ji29)).f0), .bool ((rd_T61 l0 (ji29)).f1), .slice A228_2 ((rd_T61 l0 (ji29)).f2).length c228_2, .slice A228_3 ((rd_T61 l0 (ji29)).f3).length c228_3, .slice A228_4 ((rd_T61 l0 (ji29)).f4).length c228_4, .slice none 0 0, .slice none 0 0]) ?_ 5 _ rfl; (with_reducible repeat (first | refine blk_drewN ?_ _ | refine blk_drew ?_ | refine blk_alloc ?_ _)); refine blk_put (cs := #[.string ((rd_T61 l0 (ji29)).f0), .bool ((rd_T61 l0 (ji29)).f1), .slice A228_2 ((rd_T61 l0 (ji29)).f2).length c228_2, .slice A228_3 ((rd_T61 l0 (ji29)).f3).length c228_3, .slice none 0 0, .slice none 0 0, .slice none 0 0]) ?_ 4 _ rfl; (with_reducible repeat (first | refine blk_drewN ?_ _ | refine blk_drew ?_ | refine blk_alloc ?_ _)); refine blk_put (cs := #[.string ((rd_T61 l0 (ji29)).f0), .bool ((rd_T61 l0 (ji29)).f1), .slice A228_2 ((rd_T61 l0 (ji29)).f2).length c228_2, .slice none 0 0, .slice none 0 0, .slice none 0 0, .slice none 0 0]) ?_ 3 _ rfl; (with_reducible repeat (first | refine blk_drewN ?_ _ | refine blk_drew ?_ | refine blk_alloc ?_ _)); refine blk_put (cs := #[.string ((rd_T61 l0 (ji29)).f0), .bool ((rd_T61 l0 (ji29)).f1), .slice none 0 0, .slice none 0 0, .slice none 0 0, .slice none 0 0, .slice none 0 0]) ?_ 2 _ rfl; (with_reducible repeat (first | refine blk_drewN ?_ _ | refine blk_drew ?_ | refine blk_alloc ?_ _)); refine blk_put (cs := #[.string ((rd_T61 l0 (ji29)).f0), .bool false, .slice none 0 0, .slice none 0 0, .slice none 0 0, .slice none 0 0, .slice none 0 0]) ?_ 1 _ rfl; (with_reducible repeat (first | refine blk_drewN ?_ _ | refine blk_drew ?_ | refine blk_alloc ?_ _)); refine blk_put (cs := #[.string (⟨#[]⟩ : ByteArray), .bool false, .slice none 0 0, .slice none 0 0, .slice none 0 0, .slice none 0 0, .slice none 0 0]) ?_ 0 _ rfl; (with_reducible repeat (first | refine blk_drewN ?_ _ | refine blk_drew ?_ | refine blk_alloc ?_ _)); exact BK229.out) hb); have n2_ := Aside0.mk (below_step (by repeat (first | (with_reducible first | exact HB.out | apply below_alloc | apply pw_below_drewN | apply below_drew1 | refine below_set ?_ GE229.out) | exact HB.out)) hb); clear HO_9; clear BK229; clear HB; have HO_9 := n0_; have BK229 := n1_; have HB := n2_; clear n0_ n1_ n2_; (try clear hb); (try clear hb2); (try clear hk); (try clear hi)))
                  go_ret
                  exact ⟨by first | rfl | (simp [errW_none, errW_some] <;> rfl) | (simp only [← hji29]; first | rfl | (simp [errW_none, errW_some] <;> rfl)) | (simp [*, errW_none, errW_some] <;> rfl), by repeat (first | (with_reducible first | exact HB.out | apply below_alloc | apply pw_below_drewN | apply below_drew1 | refine below_set ?_ GE229.out) | exact HB.out)⟩
                · rw [if_neg c32] at H
                  have c32b0 : ((((rd_T61 l0 (ji29)).f3).length : Int) == 0) = false := beq_eq_false_iff_ne.mpr c32
                  have c32b1 : ((((rd_T61 l0 (ji29)).f3).length : Int) != 0) = true := bne_iff_ne.mpr c32
                  have c32b2 : ¬ (((rd_T61 l0 (ji29)).f3) = []) := fun h_ => c32 (by rw [h_]; rfl)
                  obtain ⟨ji37, hji37⟩ : ∃ j_ : Int, (Int.tmod (wrap64 (a3)) (((rd_T61 l0 (ji29)).f3).length : Int)) = j_ := ⟨_, rfl⟩
                  replace H : (if 0 ≤ (ji37) then (if (ji37) < (((rd_T61 l0 (ji29)).f3).length : Int) then (cosignerlaw03_HeirReduces.l0 kj10 l0 t216 false 0 ((rd_T61 l0 (ji29)).f0) ((rd_T65 ((rd_T61 l0 (ji29)).f3) (ji37)).f0)) else (none)) else (none)) = some r := by first | (rw [hji37] at H; exact H) | (simp only [hji37] at H ⊢; exact H)
                  by_cases c38 : 0 ≤ (ji37)
                  · rw [if_pos c38] at H
                    have c38b0 : decide (0 ≤ (ji37)) = true := decide_eq_true c38
                    clear c38
                    by_cases c39 : (ji37) < (((rd_T61 l0 (ji29)).f3).length : Int)
                    · rw [if_pos c39] at H
                      have c39b0 : decide ((ji37) < (((rd_T61 l0 (ji29)).f3).length : Int)) = true := decide_eq_true c39
                      clear c39
                      have H' := Aside0.mk H
                      clear H
                      have p228 : 0 ≤ ((ji29) : Int) := of_decide_eq_true (by first | (with_reducible assumption) | assumption)
                      have q228 : (ji29) < (l0.length : Int) := of_decide_eq_true (by first | (with_reducible assumption) | assumption)
                      obtain ⟨ad228, A228_2, c228_2, A228_3, c228_3, A228_4, c228_4, A228_5, c228_5, A228_6, c228_6, e228, hx228_0, hx228_1, hx228_2, hx228_3, hx228_4, hx228_5, hx228_6, hl228_2, hi228_2, hl228_3, hi228_3, hl228_4, hi228_4, hl228_5, hi228_5, hl228_6, hi228_6⟩ := at_T61 HR0.out (ji29) p228 q228
                      cases e228
                      replace hx228_0 := (HB.out.cell (World.block_lt_of_cell? w _ hx228_0)).trans hx228_0
                      replace hx228_1 := (HB.out.cell (World.block_lt_of_cell? w _ hx228_1)).trans hx228_1
                      replace hx228_2 := (HB.out.cell (World.block_lt_of_cell? w _ hx228_2)).trans hx228_2
                      replace hx228_3 := (HB.out.cell (World.block_lt_of_cell? w _ hx228_3)).trans hx228_3
                      replace hx228_4 := (HB.out.cell (World.block_lt_of_cell? w _ hx228_4)).trans hx228_4
                      replace hx228_5 := (HB.out.cell (World.block_lt_of_cell? w _ hx228_5)).trans hx228_5
                      replace hx228_6 := (HB.out.cell (World.block_lt_of_cell? w _ hx228_6)).trans hx228_6
                      have HR228_2 := Aside0.mk hi228_2
                      have HC228_2 := Aside0.mk hl228_2
                      clear hi228_2 hl228_2
                      have HR228_3 := Aside0.mk hi228_3
                      have HC228_3 := Aside0.mk hl228_3
                      clear hi228_3 hl228_3
                      have HR228_4 := Aside0.mk hi228_4
                      have HC228_4 := Aside0.mk hl228_4
                      clear hi228_4 hl228_4
                      have HR228_5 := Aside0.mk hi228_5
                      have HC228_5 := Aside0.mk hl228_5
                      clear hi228_5 hl228_5
                      have HR228_6 := Aside0.mk hi228_6
                      have HC228_6 := Aside0.mk hl228_6
                      clear hi228_6 hl228_6
                      replace p228 := eq_true p228
                      replace q228 := eq_true q228
                      try go_wp2_with (first | ((with_reducible refine gate_dst (N := 14) rfl ?_); (try (refine gate_guard (by rfl) ?_; dsimp only)); refine box_event ?hg (N := 14) ?hd (cs := #[.string (⟨#[]⟩ : ByteArray), .bool false, .slice none 0 0, .slice none 0 0, .slice none 0 0, .slice none 0 0, .slice none 0 0]) (t := 61) ?hr ?_; (case hd => rfl); (case hg => rfl); (case hr => first | (go_simp; done) | (go_simp; rfl)); intro gb229 hg w40 hbox hb; have n0_ := Aside0.mk (Kd.R_below (by (with_reducible repeat (first | apply Kd.R_alloc | apply Kd.R_drewN | apply Kd.R_drew)); exact HO_9.out) hb); have n1_ := Aside0.mk (below_step (by repeat (first | (with_reducible first | exact HB.out | apply below_alloc | apply pw_below_drewN | apply below_drew1) | exact HB.out)) hb); have n2_ := Aside0.mk (hbox); have n3_ := Aside0.mk ((by rw [hg]; exact (below_size (by repeat (first | (with_reducible first | exact HB.out | apply below_alloc | apply pw_below_drewN | apply below_drew1) | exact HB.out))) : w.heap.size ≤ gb229)); have n4_ := Aside0.mk ((by rw [hg]; exact (below_size (by repeat (first | (with_reducible first | exact HB.out | apply below_alloc | apply pw_below_drewN | apply below_drew1) | exact HB.out))) : w.heap.size ≤ gb229)); clear HO_9; clear HB; have HO_9 := n0_; have HB := n1_; have BK229 := n2_; have GW229 := n3_; have GE229 := n4_; clear n0_ n1_ n2_ n3_ n4_; clear hb hbox hg; have hcz41_0 : w40.cell? ⟨gb229, 0, none⟩ = some (.string (⟨#[]⟩ : ByteArray)) := (blk_cell BK229.out 0).trans rfl; have hcz41_1 : w40.cell? ⟨gb229, 1, none⟩ = some (.bool false) := (blk_cell BK229.out 1).trans rfl; have hcz41_2 : w40.cell? ⟨gb229, 2, none⟩ = some (.slice none 0 0) := (blk_cell BK229.out 2).trans rfl; have hcz41_3 : w40.cell? ⟨gb229, 3, none⟩ = some (.slice none 0 0) := (blk_cell BK229.out 3).trans rfl; have hcz41_4 : w40.cell? ⟨gb229, 4, none⟩ = some (.slice none 0 0) := (blk_cell BK229.out 4).trans rfl; have hcz41_5 : w40.cell? ⟨gb229, 5, none⟩ = some (.slice none 0 0) := (blk_cell BK229.out 5).trans rfl; have hcz41_6 : w40.cell? ⟨gb229, 6, none⟩ = some (.slice none 0 0) := (blk_cell BK229.out 6).trans rfl; have hfz41_0 := blk_frozen BK229.out 0; have hfz41_1 := blk_frozen BK229.out 1; have hfz41_2 := blk_frozen BK229.out 2; have hfz41_3 := blk_frozen BK229.out 3; have hfz41_4 := blk_frozen BK229.out 4; have hfz41_5 := blk_frozen BK229.out 5; have hfz41_6 := blk_frozen BK229.out 6))
                      have n0_ : Aside0 (Kd.R k73 73 (((((((w40.setCell ⟨gb229, 0, none⟩ (.string ((rd_T61 l0 (ji29)).f0))).setCell ⟨gb229, 1, none⟩ (.bool ((rd_T61 l0 (ji29)).f1))).setCell ⟨gb229, 2, none⟩ (.slice A228_2 ((rd_T61 l0 (ji29)).f2).length c228_2)).setCell ⟨gb229, 3, none⟩ (.slice A228_3 ((rd_T61 l0 (ji29)).f3).length c228_3)).setCell ⟨gb229, 4, none⟩ (.slice A228_4 ((rd_T61 l0 (ji29)).f4).length c228_4)).setCell ⟨gb229, 5, none⟩ (.slice A228_5 ((rd_T61 l0 (ji29)).f5).length c228_5)).setCell ⟨gb229, 6, none⟩ (.slice A228_6 ((rd_T61 l0 (ji29)).f6).length c228_6)) w.heap.size (fun _ => True) (.slice Ao14 t216.length co14) t216) := ⟨by (with_reducible repeat (first | apply Kd.R_alloc | apply Kd.R_drewN | apply Kd.R_drew)); exact Kd.R_mono (Kd.R_far (p := ⟨gb229, 6, none⟩) (Kd.R_far (p := ⟨gb229, 5, none⟩) (Kd.R_far (p := ⟨gb229, 4, none⟩) (Kd.R_far (p := ⟨gb229, 3, none⟩) (Kd.R_far (p := ⟨gb229, 2, none⟩) (Kd.R_far (p := ⟨gb229, 1, none⟩) (Kd.R_far (p := ⟨gb229, 0, none⟩) (Kd.R_types HO_9.out BK229.out (by decide)) (fun _ hk => hk.2) (.string ((rd_T61 l0 (ji29)).f0))) (fun _ hk => hk.2) (.bool ((rd_T61 l0 (ji29)).f1))) (fun _ hk => hk.2) (.slice A228_2 ((rd_T61 l0 (ji29)).f2).length c228_2)) (fun _ hk => hk.2) (.slice A228_3 ((rd_T61 l0 (ji29)).f3).length c228_3)) (fun _ hk => hk.2) (.slice A228_4 ((rd_T61 l0 (ji29)).f4).length c228_4)) (fun _ hk => hk.2) (.slice A228_5 ((rd_T61 l0 (ji29)).f5).length c228_5)) (fun _ hk => hk.2) (.slice A228_6 ((rd_T61 l0 (ji29)).f6).length c228_6)) (fun _ hk => trivial)⟩
                      have n1_ : Aside0 ((((((((w40.setCell ⟨gb229, 0, none⟩ (.string ((rd_T61 l0 (ji29)).f0))).setCell ⟨gb229, 1, none⟩ (.bool ((rd_T61 l0 (ji29)).f1))).setCell ⟨gb229, 2, none⟩ (.slice A228_2 ((rd_T61 l0 (ji29)).f2).length c228_2)).setCell ⟨gb229, 3, none⟩ (.slice A228_3 ((rd_T61 l0 (ji29)).f3).length c228_3)).setCell ⟨gb229, 4, none⟩ (.slice A228_4 ((rd_T61 l0 (ji29)).f4).length c228_4)).setCell ⟨gb229, 5, none⟩ (.slice A228_5 ((rd_T61 l0 (ji29)).f5).length c228_5)).setCell ⟨gb229, 6, none⟩ (.slice A228_6 ((rd_T61 l0 (ji29)).f6).length c228_6)).heap[gb229]? = some (.cells #[.string ((rd_T61 l0 (ji29)).f0), .bool ((rd_T61 l0 (ji29)).f1), .slice A228_2 ((rd_T61 l0 (ji29)).f2).length c228_2, .slice A228_3 ((rd_T61 l0 (ji29)).f3).length c228_3, .slice A228_4 ((rd_T61 l0 (ji29)).f4).length c228_4, .slice A228_5 ((rd_T61 l0 (ji29)).f5).length c228_5, .slice A228_6 ((rd_T61 l0 (ji29)).f6).length c228_6] 61 (0, 0))) := ⟨by (with_reducible repeat (first | refine blk_drewN ?_ _ | refine blk_drew ?_ | refine blk_alloc ?_ _)); refine blk_put (cs := #[.string ((rd_T61 l0 (ji29)).f0), .bool ((rd_T61 l0 (ji29)).f1), .slice A228_2 ((rd_T61 l0 (ji29)).f2).length c228_2, .slice A228_3 ((rd_T61 l0 (ji29)).f3).length c228_3, .slice A228_4 ((rd_T61 l0 (ji29)).f4).length c228_4, .slice A228_5 ((rd_T61 l0 (ji29)).f5).length c228_5, .slice none 0 0]) ?_ 6 _ rfl; (with_reducible repeat (first | refine blk_drewN ?_ _ | refine blk_drew ?_ | refine blk_alloc ?_ _)); refine blk_put (cs := #[.string ((rd_T61 l0 (ji29)).f0), .bool ((rd_T61 l0 (ji29)).f1), .slice A228_2 ((rd_T61 l0 (ji29)).f2).length c228_2, .slice A228_3 ((rd_T61 l0 (ji29)).f3).length c228_3, .slice A228_4 ((rd_T61 l0 (ji29)).f4).length c228_4, .slice none 0 0, .slice none 0 0]) ?_ 5 _ rfl; (with_reducible repeat (first | refine blk_drewN ?_ _ | refine blk_drew ?_ | refine blk_alloc ?_ _)); refine blk_put (cs := #[.string ((rd_T61 l0 (ji29)).f0), .bool ((rd_T61 l0 (ji29)).f1), .slice A228_2 ((rd_T61 l0 (ji29)).f2).length c228_2, .slice A228_3 ((rd_T61 l0 (ji29)).f3).length c228_3, .slice none 0 0, .slice none 0 0, .slice none 0 0]) ?_ 4 _ rfl; (with_reducible repeat (first | refine blk_drewN ?_ _ | refine blk_drew ?_ | refine blk_alloc ?_ _)); refine blk_put (cs := #[.string ((rd_T61 l0 (ji29)).f0), .bool ((rd_T61 l0 (ji29)).f1), .slice A228_2 ((rd_T61 l0 (ji29)).f2).length c228_2, .slice none 0 0, .slice none 0 0, .slice none 0 0, .slice none 0 0]) ?_ 3 _ rfl; (with_reducible repeat (first | refine blk_drewN ?_ _ | refine blk_drew ?_ | refine blk_alloc ?_ _)); refine blk_put (cs := #[.string ((rd_T61 l0 (ji29)).f0), .bool ((rd_T61 l0 (ji29)).f1), .slice none 0 0, .slice none 0 0, .slice none 0 0, .slice none 0 0, .slice none 0 0]) ?_ 2 _ rfl; (with_reducible repeat (first | refine blk_drewN ?_ _ | refine blk_drew ?_ | refine blk_alloc ?_ _)); refine blk_put (cs := #[.string ((rd_T61 l0 (ji29)).f0), .bool false, .slice none 0 0, .slice none 0 0, .slice none 0 0, .slice none 0 0, .slice none 0 0]) ?_ 1 _ rfl; (with_reducible repeat (first | refine blk_drewN ?_ _ | refine blk_drew ?_ | refine blk_alloc ?_ _)); refine blk_put (cs := #[.string (⟨#[]⟩ : ByteArray), .bool false, .slice none 0 0, .slice none 0 0, .slice none 0 0, .slice none 0 0, .slice none 0 0]) ?_ 0 _ rfl; (with_reducible repeat (first | refine blk_drewN ?_ _ | refine blk_drew ?_ | refine blk_alloc ?_ _)); exact BK229.out⟩
                      have n2_ : Aside0 (Below w.heap.size w (((((((w40.setCell ⟨gb229, 0, none⟩ (.string ((rd_T61 l0 (ji29)).f0))).setCell ⟨gb229, 1, none⟩ (.bool ((rd_T61 l0 (ji29)).f1))).setCell ⟨gb229, 2, none⟩ (.slice A228_2 ((rd_T61 l0 (ji29)).f2).length c228_2)).setCell ⟨gb229, 3, none⟩ (.slice A228_3 ((rd_T61 l0 (ji29)).f3).length c228_3)).setCell ⟨gb229, 4, none⟩ (.slice A228_4 ((rd_T61 l0 (ji29)).f4).length c228_4)).setCell ⟨gb229, 5, none⟩ (.slice A228_5 ((rd_T61 l0 (ji29)).f5).length c228_5)).setCell ⟨gb229, 6, none⟩ (.slice A228_6 ((rd_T61 l0 (ji29)).f6).length c228_6))) := ⟨by repeat (first | (with_reducible first | exact HB.out | apply below_alloc | apply pw_below_drewN | apply below_drew1 | refine below_set ?_ GE229.out) | exact HB.out)⟩
                      (try clear HO_9)
                      (try clear BK229)
                      (try clear HB)
                      generalize (((((((w40.setCell ⟨gb229, 0, none⟩ (.string ((rd_T61 l0 (ji29)).f0))).setCell ⟨gb229, 1, none⟩ (.bool ((rd_T61 l0 (ji29)).f1))).setCell ⟨gb229, 2, none⟩ (.slice A228_2 ((rd_T61 l0 (ji29)).f2).length c228_2)).setCell ⟨gb229, 3, none⟩ (.slice A228_3 ((rd_T61 l0 (ji29)).f3).length c228_3)).setCell ⟨gb229, 4, none⟩ (.slice A228_4 ((rd_T61 l0 (ji29)).f4).length c228_4)).setCell ⟨gb229, 5, none⟩ (.slice A228_5 ((rd_T61 l0 (ji29)).f5).length c228_5)).setCell ⟨gb229, 6, none⟩ (.slice A228_6 ((rd_T61 l0 (ji29)).f6).length c228_6)) = w42 at n0_ n1_ n2_ ⊢
                      have HO_9 := n0_
                      have BK229 := n1_
                      have HB := n2_
                      clear n0_ n1_ n2_
                      have n0_ := Aside0.mk (Kd.R_drew HO_9.out)
                      have n1_ := Aside0.mk (blk_drew BK229.out)
                      have n2_ := Aside0.mk (below_drew1 HB.out)
                      clear HO_9
                      clear BK229
                      clear HB
                      have HO_9 := n0_
                      have BK229 := n1_
                      have HB := n2_
                      clear n0_ n1_ n2_
                      have p231 : 0 ≤ ((ji37) : Int) := of_decide_eq_true (by first | (with_reducible assumption) | assumption)
                      have q231 : (ji37) < (((rd_T61 l0 (ji29)).f3).length : Int) := of_decide_eq_true (by first | (with_reducible assumption) | assumption)
                      obtain ⟨ad231, A231_1, c231_1, A231_2, c231_2, A231_3, c231_3, A231_4, c231_4, A231_5, c231_5, e231, hx231_0, hx231_1, hx231_2, hx231_3, hx231_4, hx231_5, hl231_1, hi231_1, hl231_2, hi231_2, hl231_3, hi231_3, hl231_4, hi231_4, hl231_5, hi231_5⟩ := at_T65 HR228_3.out (ji37) p231 q231
                      have hw231_5 := hx231_5
                      have hw231_4 := hx231_4
                      have hw231_3 := hx231_3
                      have hw231_2 := hx231_2
                      have hw231_1 := hx231_1
                      have hw231_0 := hx231_0
                      cases e231
                      replace hx231_0 := (HB.out.cell (World.block_lt_of_cell? w _ hx231_0)).trans hx231_0
                      replace hx231_1 := (HB.out.cell (World.block_lt_of_cell? w _ hx231_1)).trans hx231_1
                      replace hx231_2 := (HB.out.cell (World.block_lt_of_cell? w _ hx231_2)).trans hx231_2
                      replace hx231_3 := (HB.out.cell (World.block_lt_of_cell? w _ hx231_3)).trans hx231_3
                      replace hx231_4 := (HB.out.cell (World.block_lt_of_cell? w _ hx231_4)).trans hx231_4
                      replace hx231_5 := (HB.out.cell (World.block_lt_of_cell? w _ hx231_5)).trans hx231_5
                      have HR231_1 := Aside0.mk hi231_1
                      have HC231_1 := Aside0.mk hl231_1
                      clear hi231_1 hl231_1
                      have HR231_2 := Aside0.mk hi231_2
                      have HC231_2 := Aside0.mk hl231_2
                      clear hi231_2 hl231_2
                      have HR231_3 := Aside0.mk hi231_3
                      have HC231_3 := Aside0.mk hl231_3
                      clear hi231_3 hl231_3
                      have HR231_4 := Aside0.mk hi231_4
                      have HC231_4 := Aside0.mk hl231_4
                      clear hi231_4 hl231_4
                      have HR231_5 := Aside0.mk hi231_5
                      have HC231_5 := Aside0.mk hl231_5
                      clear hi231_5 hl231_5
                      replace p231 := eq_true p231
                      replace q231 := eq_true q231
                      refine start_ (n := 16) (S := fun w' => w'.cell? ⟨gb229, 0, none⟩ = some (.string ((rd_T61 l0 (ji29)).f0)) ∧ w'.cell? ⟨gb229, 1, none⟩ = some (.bool ((rd_T61 l0 (ji29)).f1)) ∧ w'.cell? ⟨gb229, 2, none⟩ = some (.slice A228_2 ((rd_T61 l0 (ji29)).f2).length c228_2) ∧ w'.cell? ⟨gb229, 3, none⟩ = some (.slice (some ad231) ((rd_T61 l0 (ji29)).f3).length c228_3) ∧ w'.cell? ⟨gb229, 4, none⟩ = some (.slice A228_4 ((rd_T61 l0 (ji29)).f4).length c228_4) ∧ w'.cell? ⟨gb229, 5, none⟩ = some (.slice A228_5 ((rd_T61 l0 (ji29)).f5).length c228_5) ∧ w'.cell? ⟨gb229, 6, none⟩ = some (.slice A228_6 ((rd_T61 l0 (ji29)).f6).length c228_6) ∧ w'.cell? (ad231.add (((ji37)).toNat * 6)) = some (.string ((rd_T65 ((rd_T61 l0 (ji29)).f3) (ji37)).f0)) ∧ w'.cell? ⟨(ad231.add (((ji37)).toNat * 6)).block, (ad231.add (((ji37)).toNat * 6)).off + 1, none⟩ = some (.slice A231_1 ((rd_T65 ((rd_T61 l0 (ji29)).f3) (ji37)).f1).length c231_1) ∧ w'.cell? ⟨(ad231.add (((ji37)).toNat * 6)).block, (ad231.add (((ji37)).toNat * 6)).off + 2, none⟩ = some (.slice A231_2 ((rd_T65 ((rd_T61 l0 (ji29)).f3) (ji37)).f2).length c231_2) ∧ w'.cell? ⟨(ad231.add (((ji37)).toNat * 6)).block, (ad231.add (((ji37)).toNat * 6)).off + 3, none⟩ = some (.slice A231_3 ((rd_T65 ((rd_T61 l0 (ji29)).f3) (ji37)).f3).length c231_3) ∧ w'.cell? ⟨(ad231.add (((ji37)).toNat * 6)).block, (ad231.add (((ji37)).toNat * 6)).off + 4, none⟩ = some (.slice A231_4 ((rd_T65 ((rd_T61 l0 (ji29)).f3) (ji37)).f4).length c231_4) ∧ w'.cell? ⟨(ad231.add (((ji37)).toNat * 6)).block, (ad231.add (((ji37)).toNat * 6)).off + 5, none⟩ = some (.slice A231_5 ((rd_T65 ((rd_T61 l0 (ji29)).f3) (ji37)).f5).length c231_5)) (ds := []) #[false, false, false, false, false, false, false, false, false, false, false, false, false, false, false, false] (by kernel_rfl) rfl rfl ⟨(blk_cell BK229.out 0).trans rfl, (blk_cell BK229.out 1).trans rfl, (blk_cell BK229.out 2).trans rfl, (blk_cell BK229.out 3).trans rfl, (blk_cell BK229.out 4).trans rfl, (blk_cell BK229.out 5).trans rfl, (blk_cell BK229.out 6).trans rfl, ((HB.out.cell (World.block_lt_of_cell? w _ hw231_0)).trans hw231_0), ((HB.out.cell (World.block_lt_of_cell? w _ hw231_1)).trans hw231_1), ((HB.out.cell (World.block_lt_of_cell? w _ hw231_2)).trans hw231_2), ((HB.out.cell (World.block_lt_of_cell? w _ hw231_3)).trans hw231_3), ((HB.out.cell (World.block_lt_of_cell? w _ hw231_4)).trans hw231_4), ((HB.out.cell (World.block_lt_of_cell? w _ hw231_5)).trans hw231_5)⟩ (fun hHeld => ?_); refine with_tabW cosignerlaw03_HeirReduces.tab12 cosignerlaw03_HeirReduces.bits12 (fun HT_ HW_ => ?_)
                      generalize w42.drew = w43 at HO_9 BK229 HB HR231_1 HR231_2 HR231_3 HR231_4 HR231_5 hx231_0 hx231_1 hx231_2 hx231_3 hx231_4 hx231_5 hHeld ⊢
                      refine pure_ (i := 0) (N := some 67) (v := ?_) (a' := ?_) #[true, false, false, false, false, false, false, false, false, false, false, false, false, false, false, false] rfl rfl (any_of HT_.out (by kernel_rfl)) (fun _ _ _ h => h) (Or.inl ⟨by rfl, ?_⟩) ?_ ?_
                      rotate_left
                      · intro w'
                        go_simp
                        with_reducible rfl
                      rotate_left
                      · simp only [Act.put, List.setIfInBounds_toArray, List.set_cons_zero, List.set_cons_succ, i64_w, i32_w]
                        rfl
                      refine pure_ (i := 2) (N := some 69) (v := ?_) (a' := ?_) #[true, false, true, false, false, false, false, false, false, false, false, false, false, false, false, false] rfl rfl (any_of HT_.out (by kernel_rfl)) (fun _ _ _ h => h) (Or.inl ⟨by rfl, ?_⟩) ?_ ?_
                      rotate_left
                      · intro w'
                        go_simp
                        with_reducible rfl
                      rotate_left
                      · simp only [Act.put, List.setIfInBounds_toArray, List.set_cons_zero, List.set_cons_succ, i64_w, i32_w]
                        rfl
                      refine pure_ (i := 4) (N := some 71) (v := ?_) (a' := ?_) #[true, false, true, false, true, false, false, false, false, false, false, false, false, false, false, false] rfl rfl (any_of HT_.out (by kernel_rfl)) (fun _ _ _ h => h) (Or.inl ⟨by rfl, ?_⟩) ?_ ?_
                      rotate_left
                      · intro w'
                        go_simp
                        with_reducible rfl
                      rotate_left
                      · simp only [Act.put, List.setIfInBounds_toArray, List.set_cons_zero, List.set_cons_succ, i64_w, i32_w]
                        rfl
                      refine pure_ (i := 5) (N := some 72) (v := ?_) (a' := ?_) #[true, false, true, false, true, true, false, false, false, false, false, false, false, false, false, false] rfl rfl (any_of HT_.out (by kernel_rfl)) (fun _ _ _ h => h) (Or.inl ⟨by rfl, ?_⟩) ?_ ?_
                      rotate_left
                      · intro w'
                        go_simp
                        with_reducible rfl
                      rotate_left
                      · simp only [Act.put, List.setIfInBounds_toArray, List.set_cons_zero, List.set_cons_succ, i64_w, i32_w]
                        rfl
                      refine pure_ (i := 6) (N := some 73) (v := ?_) (a' := ?_) #[true, false, true, false, true, true, true, false, false, false, false, false, false, false, false, false] rfl rfl (any_of HT_.out (by kernel_rfl)) (fun _ _ _ h => h) (Or.inl ⟨by rfl, ?_⟩) ?_ ?_
                      rotate_left
                      · intro w'
                        go_simp
                        with_reducible rfl
                      rotate_left
                      · simp only [Act.put, List.setIfInBounds_toArray, List.set_cons_zero, List.set_cons_succ, i64_w, i32_w]
                        rfl
                      refine take_ (i := 1) (N := some 68) (v := ?_) (a' := ?_) #[true, true, true, false, true, true, true, false, false, false, false, false, false, false, false, false] rfl rfl (take_ofW HT_.out HW_.out (by kernel_rfl)) (fun _ _ _ h => h) (Or.inl ⟨by rfl, ?_⟩) hHeld ?_ ?_
                      rotate_left
                      · rintro w' ⟨s0, s1, s2, s3, s4, s5, s6, s7, s8, s9, s10, s11, s12⟩
                        go_simp
                        with_reducible rfl
                      rotate_left
                      · simp only [Act.put, List.setIfInBounds_toArray, List.set_cons_zero, List.set_cons_succ, i64_w, i32_w]
                        rfl
                      refine take_ (i := 3) (N := some 70) (v := ?_) (a' := ?_) #[true, true, true, true, true, true, true, false, false, false, false, false, false, false, false, false] rfl rfl (take_ofW HT_.out HW_.out (by kernel_rfl)) (fun _ _ _ h => h) (Or.inl ⟨by rfl, ?_⟩) hHeld ?_ ?_
                      rotate_left
                      · rintro w' ⟨s0, s1, s2, s3, s4, s5, s6, s7, s8, s9, s10, s11, s12⟩
                        go_simp
                        with_reducible rfl
                      rotate_left
                      · simp only [Act.put, List.setIfInBounds_toArray, List.set_cons_zero, List.set_cons_succ, i64_w, i32_w]
                        rfl
                      refine take_ (i := 7) (N := some 74) (v := ?_) (a' := ?_) #[true, true, true, true, true, true, true, true, false, false, false, false, false, false, false, false] rfl rfl (take_ofW HT_.out HW_.out (by kernel_rfl)) (fun _ _ _ h => h) (Or.inl ⟨by rfl, ?_⟩) hHeld ?_ ?_
                      rotate_left
                      · rintro w' ⟨s0, s1, s2, s3, s4, s5, s6, s7, s8, s9, s10, s11, s12⟩
                        go_simp
                        with_reducible rfl
                      rotate_left
                      · simp only [Act.put, List.setIfInBounds_toArray, List.set_cons_zero, List.set_cons_succ, i64_w, i32_w]
                        rfl
                      refine pure_ (i := 8) (N := some 75) (v := ?_) (a' := ?_) #[true, true, true, true, true, true, true, true, true, false, false, false, false, false, false, false] rfl rfl (any_of HT_.out (by kernel_rfl)) (fun _ _ _ h => h) (Or.inl ⟨by rfl, ?_⟩) ?_ ?_
                      rotate_left
                      · intro w'
                        go_simp
                        with_reducible rfl
                      rotate_left
                      · simp only [Act.put, List.setIfInBounds_toArray, List.set_cons_zero, List.set_cons_succ, i64_w, i32_w]
                        rfl
                      refine pure_ (i := 9) (N := some 76) (v := ?_) (a' := ?_) #[true, true, true, true, true, true, true, true, true, true, false, false, false, false, false, false] rfl rfl (any_of HT_.out (by kernel_rfl)) (fun _ _ _ h => h) (Or.inl ⟨by rfl, ?_⟩) ?_ ?_
                      rotate_left
                      · intro w'
                        go_simp
                        with_reducible rfl
                      rotate_left
                      · simp only [Act.put, List.setIfInBounds_toArray, List.set_cons_zero, List.set_cons_succ, i64_w, i32_w]
                        rfl
                      refine pure_ (i := 10) (N := some 77) (v := ?_) (a' := ?_) #[true, true, true, true, true, true, true, true, true, true, true, false, false, false, false, false] rfl rfl (any_of HT_.out (by kernel_rfl)) (fun _ _ _ h => h) (Or.inl ⟨by rfl, ?_⟩) ?_ ?_
                      rotate_left
                      · intro w'
                        go_simp
                        with_reducible rfl
                      rotate_left
                      · simp only [Act.put, List.setIfInBounds_toArray, List.set_cons_zero, List.set_cons_succ, i64_w, i32_w]
                        rfl
                      refine pure_ (i := 11) (N := some 78) (v := ?_) (a' := ?_) #[true, true, true, true, true, true, true, true, true, true, true, true, false, false, false, false] rfl rfl (any_of HT_.out (by kernel_rfl)) (fun _ _ _ h => h) (Or.inl ⟨by rfl, ?_⟩) ?_ ?_
                      rotate_left
                      · intro w'
                        go_simp
                        with_reducible rfl
                      rotate_left
                      · simp only [Act.put, List.setIfInBounds_toArray, List.set_cons_zero, List.set_cons_succ, i64_w, i32_w]
                        rfl
                      refine take_ (i := 12) (N := some 79) (v := ?_) (a' := ?_) #[true, true, true, true, true, true, true, true, true, true, true, true, true, false, false, false] rfl rfl (take_ofW HT_.out HW_.out (by kernel_rfl)) (fun _ _ _ h => h) (Or.inl ⟨by rfl, ?_⟩) hHeld ?_ ?_
                      rotate_left
                      · rintro w' ⟨s0, s1, s2, s3, s4, s5, s6, s7, s8, s9, s10, s11, s12⟩
                        go_simp
                        with_reducible rfl
                      rotate_left
                      · simp only [Act.put, List.setIfInBounds_toArray, List.set_cons_zero, List.set_cons_succ, i64_w, i32_w]
                        rfl
                      refine pure_ (i := 13) (N := some 80) (v := ?_) (a' := ?_) #[true, true, true, true, true, true, true, true, true, true, true, true, true, true, false, false] rfl rfl (any_of HT_.out (by kernel_rfl)) (fun _ _ _ h => h) (Or.inl ⟨by rfl, ?_⟩) ?_ ?_
                      rotate_left
                      · intro w'
                        go_simp
                        with_reducible rfl
                      rotate_left
                      · simp only [Act.put, List.setIfInBounds_toArray, List.set_cons_zero, List.set_cons_succ, i64_w, i32_w]
                        rfl
                      refine one_ (i := 14) (N := some 15) #[true, true, true, true, true, true, true, true, true, true, true, true, true, true, true, false] rfl rfl (one_of HT_.out (by kernel_rfl)) (by decide) (fun K hK => ?_)
                      refine box_step ?hg (N := 15) ?hd (cs := #[.string (⟨#[]⟩ : ByteArray), .string (⟨#[]⟩ : ByteArray)]) (t := 73) ?hr ?_; (case hd => rfl); (case hg => rfl); (case hr => first | (go_simp; done) | (go_simp; rfl))
                      intro gb232 hg w44 hbox hb
                      have n0_ := Aside0.mk (Kd.R_below (Kd.R_elderB (by (with_reducible repeat (first | apply Kd.R_alloc | apply Kd.R_drewN | apply Kd.R_drew)); exact HO_9.out) gb232 (Nat.le_of_eq hg.symm)) hb)
                      have n1_ := Aside0.mk (blk_below (g := gb229) (o := .cells #[.string ((rd_T61 l0 (ji29)).f0), .bool ((rd_T61 l0 (ji29)).f1), .slice A228_2 ((rd_T61 l0 (ji29)).f2).length c228_2, .slice (some ad231) ((rd_T61 l0 (ji29)).f3).length c228_3, .slice A228_4 ((rd_T61 l0 (ji29)).f4).length c228_4, .slice A228_5 ((rd_T61 l0 (ji29)).f5).length c228_5, .slice A228_6 ((rd_T61 l0 (ji29)).f6).length c228_6] 61 (0, 0)) (by (with_reducible repeat (first | refine blk_drewN ?_ _ | refine blk_drew ?_ | refine blk_alloc ?_ _)); exact BK229.out) hb)
                      have n2_ := Aside0.mk (below_step (by repeat (first | (with_reducible first | exact HB.out | apply below_alloc | apply pw_below_drewN | apply below_drew1 | refine below_set ?_ GE229.out) | exact HB.out)) hb)
                      have n3_ := Aside0.mk (hbox)
                      have n4_ := Aside0.mk ((by rw [hg]; exact (below_size (by repeat (first | (with_reducible first | exact HB.out | apply below_alloc | apply pw_below_drewN | apply below_drew1 | refine below_set ?_ GE229.out) | exact HB.out))) : w.heap.size ≤ gb232))
                      have n5_ := Aside0.mk ((by rw [hg]; exact (below_size (by repeat (first | (with_reducible first | exact HB.out | apply below_alloc | apply pw_below_drewN | apply below_drew1 | refine below_set ?_ GE229.out) | exact HB.out))) : w.heap.size ≤ gb232))
                      have n6_ := Aside0.mk ((by rw [hg]; exact Nat.ne_of_lt (blk_lt (g := gb229) (o := .cells #[.string ((rd_T61 l0 (ji29)).f0), .bool ((rd_T61 l0 (ji29)).f1), .slice A228_2 ((rd_T61 l0 (ji29)).f2).length c228_2, .slice (some ad231) ((rd_T61 l0 (ji29)).f3).length c228_3, .slice A228_4 ((rd_T61 l0 (ji29)).f4).length c228_4, .slice A228_5 ((rd_T61 l0 (ji29)).f5).length c228_5, .slice A228_6 ((rd_T61 l0 (ji29)).f6).length c228_6] 61 (0, 0)) (by (with_reducible repeat (first | refine blk_drewN ?_ _ | refine blk_drew ?_ | refine blk_alloc ?_ _)); exact BK229.out)) : gb229 ≠ gb232))
                      have n7_ := Aside0.mk ((by rw [hg]; exact Nat.ne_of_gt (blk_lt (g := gb229) (o := .cells #[.string ((rd_T61 l0 (ji29)).f0), .bool ((rd_T61 l0 (ji29)).f1), .slice A228_2 ((rd_T61 l0 (ji29)).f2).length c228_2, .slice (some ad231) ((rd_T61 l0 (ji29)).f3).length c228_3, .slice A228_4 ((rd_T61 l0 (ji29)).f4).length c228_4, .slice A228_5 ((rd_T61 l0 (ji29)).f5).length c228_5, .slice A228_6 ((rd_T61 l0 (ji29)).f6).length c228_6] 61 (0, 0)) (by (with_reducible repeat (first | refine blk_drewN ?_ _ | refine blk_drew ?_ | refine blk_alloc ?_ _)); exact BK229.out)) : gb232 ≠ gb229))
                      clear HO_9
                      clear BK229
                      clear HB
                      have HO_9 := n0_
                      have BK229 := n1_
                      have HB := n2_
                      have BK232 := n3_
                      have GW232 := n4_
                      have GE232 := n5_
                      have NB229_232 := n6_
                      have NB232_229 := n7_
                      clear n0_ n1_ n2_ n3_ n4_ n5_ n6_ n7_
                      clear hb hbox hg
                      refine hK.out _ _ ⟨(blk_cell BK229.out 0).trans rfl, (blk_cell BK229.out 1).trans rfl, (blk_cell BK229.out 2).trans rfl, (blk_cell BK229.out 3).trans rfl, (blk_cell BK229.out 4).trans rfl, (blk_cell BK229.out 5).trans rfl, (blk_cell BK229.out 6).trans rfl, ((HB.out.cell (World.block_lt_of_cell? w _ hw231_0)).trans hw231_0), ((HB.out.cell (World.block_lt_of_cell? w _ hw231_1)).trans hw231_1), ((HB.out.cell (World.block_lt_of_cell? w _ hw231_2)).trans hw231_2), ((HB.out.cell (World.block_lt_of_cell? w _ hw231_3)).trans hw231_3), ((HB.out.cell (World.block_lt_of_cell? w _ hw231_4)).trans hw231_4), ((HB.out.cell (World.block_lt_of_cell? w _ hw231_5)).trans hw231_5)⟩ (fun hHeld => ?_)
                      clear hK K
                      refine norm_ (a' := ?_) ?_ ?_
                      rotate_left
                      · show Act.put _ (some 15) _ = _
                        simp only [Act.put, List.setIfInBounds_toArray, List.set_cons_zero, List.set_cons_succ, i64_w, i32_w]
                        rfl
                      refine one_ (i := 15) (N := none) #[true, true, true, true, true, true, true, true, true, true, true, true, true, true, true, true] rfl rfl (one_of HT_.out (by kernel_rfl)) (by decide) (fun K hK => ?_)
                      have hs45 : w44.cell? ⟨gb232, 0, none⟩ = some (.string (⟨#[]⟩ : ByteArray)) := (blk_cell BK232.out 0).trans rfl
                      have hfs45 := blk_frozen BK232.out 0
                      have hns45_0 := NB229_232.out
                      have hms45_0 := NB232_229.out
                      have hs46 : w44.cell? ⟨gb232, 1, none⟩ = some (.string (⟨#[]⟩ : ByteArray)) := (blk_cell BK232.out 1).trans rfl
                      have hfs46 := blk_frozen BK232.out 1
                      have hns46_0 := NB229_232.out
                      have hms46_0 := NB232_229.out
                      refine skip_ (w1 := ?_) (by rfl) rfl ?_ ?_
                      rotate_left
                      · go_simp
                        rfl
                      refine hK.out _ _ ⟨((cell_far (p := ⟨gb232, _, none⟩) NB229_232.out _).trans (((cell_far (p := ⟨gb232, _, none⟩) NB229_232.out _).trans (hHeld.1)))), ((cell_far (p := ⟨gb232, _, none⟩) NB229_232.out _).trans (((cell_far (p := ⟨gb232, _, none⟩) NB229_232.out _).trans (hHeld.2.1)))), ((cell_far (p := ⟨gb232, _, none⟩) NB229_232.out _).trans (((cell_far (p := ⟨gb232, _, none⟩) NB229_232.out _).trans (hHeld.2.2.1)))), ((cell_far (p := ⟨gb232, _, none⟩) NB229_232.out _).trans (((cell_far (p := ⟨gb232, _, none⟩) NB229_232.out _).trans (hHeld.2.2.2.1)))), ((cell_far (p := ⟨gb232, _, none⟩) NB229_232.out _).trans (((cell_far (p := ⟨gb232, _, none⟩) NB229_232.out _).trans (hHeld.2.2.2.2.1)))), ((cell_far (p := ⟨gb232, _, none⟩) NB229_232.out _).trans (((cell_far (p := ⟨gb232, _, none⟩) NB229_232.out _).trans (hHeld.2.2.2.2.2.1)))), ((cell_far (p := ⟨gb232, _, none⟩) NB229_232.out _).trans (((cell_far (p := ⟨gb232, _, none⟩) NB229_232.out _).trans (hHeld.2.2.2.2.2.2.1)))), ((cell_far (p := ⟨gb232, _, none⟩) (by first | exact Nat.ne_of_lt (Nat.lt_of_lt_of_le (by have := World.block_lt_of_cell? _ _ hw231_0; first | rwa [add_block] at this | exact this) GW232.out) | (rw [add_block]; exact Nat.ne_of_lt (Nat.lt_of_lt_of_le (by have := World.block_lt_of_cell? _ _ hw231_0; first | rwa [add_block] at this | exact this) GW232.out)) | (show (Addr.add _ _).block ≠ _; rw [add_block]; exact Nat.ne_of_lt (Nat.lt_of_lt_of_le (by have := World.block_lt_of_cell? _ _ hw231_0; first | rwa [add_block] at this | exact this) GW232.out)) | (dsimp only; exact Nat.ne_of_lt (Nat.lt_of_lt_of_le (by have := World.block_lt_of_cell? _ _ hw231_0; first | rwa [add_block] at this | exact this) GW232.out))) _).trans (((cell_far (p := ⟨gb232, _, none⟩) (by first | exact Nat.ne_of_lt (Nat.lt_of_lt_of_le (by have := World.block_lt_of_cell? _ _ hw231_0; first | rwa [add_block] at this | exact this) GW232.out) | (rw [add_block]; exact Nat.ne_of_lt (Nat.lt_of_lt_of_le (by have := World.block_lt_of_cell? _ _ hw231_0; first | rwa [add_block] at this | exact this) GW232.out)) | (show (Addr.add _ _).block ≠ _; rw [add_block]; exact Nat.ne_of_lt (Nat.lt_of_lt_of_le (by have := World.block_lt_of_cell? _ _ hw231_0; first | rwa [add_block] at this | exact this) GW232.out)) | (dsimp only; exact Nat.ne_of_lt (Nat.lt_of_lt_of_le (by have := World.block_lt_of_cell? _ _ hw231_0; first | rwa [add_block] at this | exact this) GW232.out))) _).trans (hHeld.2.2.2.2.2.2.2.1)))), ((cell_far (p := ⟨gb232, _, none⟩) (by first | exact Nat.ne_of_lt (Nat.lt_of_lt_of_le (by have := World.block_lt_of_cell? _ _ hw231_1; first | rwa [add_block] at this | exact this) GW232.out) | (rw [add_block]; exact Nat.ne_of_lt (Nat.lt_of_lt_of_le (by have := World.block_lt_of_cell? _ _ hw231_1; first | rwa [add_block] at this | exact this) GW232.out)) | (show (Addr.add _ _).block ≠ _; rw [add_block]; exact Nat.ne_of_lt (Nat.lt_of_lt_of_le (by have := World.block_lt_of_cell? _ _ hw231_1; first | rwa [add_block] at this | exact this) GW232.out)) | (dsimp only; exact Nat.ne_of_lt (Nat.lt_of_lt_of_le (by have := World.block_lt_of_cell? _ _ hw231_1; first | rwa [add_block] at this | exact this) GW232.out))) _).trans (((cell_far (p := ⟨gb232, _, none⟩) (by first | exact Nat.ne_of_lt (Nat.lt_of_lt_of_le (by have := World.block_lt_of_cell? _ _ hw231_1; first | rwa [add_block] at this | exact this) GW232.out) | (rw [add_block]; exact Nat.ne_of_lt (Nat.lt_of_lt_of_le (by have := World.block_lt_of_cell? _ _ hw231_1; first | rwa [add_block] at this | exact this) GW232.out)) | (show (Addr.add _ _).block ≠ _; rw [add_block]; exact Nat.ne_of_lt (Nat.lt_of_lt_of_le (by have := World.block_lt_of_cell? _ _ hw231_1; first | rwa [add_block] at this | exact this) GW232.out)) | (dsimp only; exact Nat.ne_of_lt (Nat.lt_of_lt_of_le (by have := World.block_lt_of_cell? _ _ hw231_1; first | rwa [add_block] at this | exact this) GW232.out))) _).trans (hHeld.2.2.2.2.2.2.2.2.1)))), ((cell_far (p := ⟨gb232, _, none⟩) (by first | exact Nat.ne_of_lt (Nat.lt_of_lt_of_le (by have := World.block_lt_of_cell? _ _ hw231_2; first | rwa [add_block] at this | exact this) GW232.out) | (rw [add_block]; exact Nat.ne_of_lt (Nat.lt_of_lt_of_le (by have := World.block_lt_of_cell? _ _ hw231_2; first | rwa [add_block] at this | exact this) GW232.out)) | (show (Addr.add _ _).block ≠ _; rw [add_block]; exact Nat.ne_of_lt (Nat.lt_of_lt_of_le (by have := World.block_lt_of_cell? _ _ hw231_2; first | rwa [add_block] at this | exact this) GW232.out)) | (dsimp only; exact Nat.ne_of_lt (Nat.lt_of_lt_of_le (by have := World.block_lt_of_cell? _ _ hw231_2; first | rwa [add_block] at this | exact this) GW232.out))) _).trans (((cell_far (p := ⟨gb232, _, none⟩) (by first | exact Nat.ne_of_lt (Nat.lt_of_lt_of_le (by have := World.block_lt_of_cell? _ _ hw231_2; first | rwa [add_block] at this | exact this) GW232.out) | (rw [add_block]; exact Nat.ne_of_lt (Nat.lt_of_lt_of_le (by have := World.block_lt_of_cell? _ _ hw231_2; first | rwa [add_block] at this | exact this) GW232.out)) | (show (Addr.add _ _).block ≠ _; rw [add_block]; exact Nat.ne_of_lt (Nat.lt_of_lt_of_le (by have := World.block_lt_of_cell? _ _ hw231_2; first | rwa [add_block] at this | exact this) GW232.out)) | (dsimp only; exact Nat.ne_of_lt (Nat.lt_of_lt_of_le (by have := World.block_lt_of_cell? _ _ hw231_2; first | rwa [add_block] at this | exact this) GW232.out))) _).trans (hHeld.2.2.2.2.2.2.2.2.2.1)))), ((cell_far (p := ⟨gb232, _, none⟩) (by first | exact Nat.ne_of_lt (Nat.lt_of_lt_of_le (by have := World.block_lt_of_cell? _ _ hw231_3; first | rwa [add_block] at this | exact this) GW232.out) | (rw [add_block]; exact Nat.ne_of_lt (Nat.lt_of_lt_of_le (by have := World.block_lt_of_cell? _ _ hw231_3; first | rwa [add_block] at this | exact this) GW232.out)) | (show (Addr.add _ _).block ≠ _; rw [add_block]; exact Nat.ne_of_lt (Nat.lt_of_lt_of_le (by have := World.block_lt_of_cell? _ _ hw231_3; first | rwa [add_block] at this | exact this) GW232.out)) | (dsimp only; exact Nat.ne_of_lt (Nat.lt_of_lt_of_le (by have := World.block_lt_of_cell? _ _ hw231_3; first | rwa [add_block] at this | exact this) GW232.out))) _).trans (((cell_far (p := ⟨gb232, _, none⟩) (by first | exact Nat.ne_of_lt (Nat.lt_of_lt_of_le (by have := World.block_lt_of_cell? _ _ hw231_3; first | rwa [add_block] at this | exact this) GW232.out) | (rw [add_block]; exact Nat.ne_of_lt (Nat.lt_of_lt_of_le (by have := World.block_lt_of_cell? _ _ hw231_3; first | rwa [add_block] at this | exact this) GW232.out)) | (show (Addr.add _ _).block ≠ _; rw [add_block]; exact Nat.ne_of_lt (Nat.lt_of_lt_of_le (by have := World.block_lt_of_cell? _ _ hw231_3; first | rwa [add_block] at this | exact this) GW232.out)) | (dsimp only; exact Nat.ne_of_lt (Nat.lt_of_lt_of_le (by have := World.block_lt_of_cell? _ _ hw231_3; first | rwa [add_block] at this | exact this) GW232.out))) _).trans (hHeld.2.2.2.2.2.2.2.2.2.2.1)))), ((cell_far (p := ⟨gb232, _, none⟩) (by first | exact Nat.ne_of_lt (Nat.lt_of_lt_of_le (by have := World.block_lt_of_cell? _ _ hw231_4; first | rwa [add_block] at this | exact this) GW232.out) | (rw [add_block]; exact Nat.ne_of_lt (Nat.lt_of_lt_of_le (by have := World.block_lt_of_cell? _ _ hw231_4; first | rwa [add_block] at this | exact this) GW232.out)) | (show (Addr.add _ _).block ≠ _; rw [add_block]; exact Nat.ne_of_lt (Nat.lt_of_lt_of_le (by have := World.block_lt_of_cell? _ _ hw231_4; first | rwa [add_block] at this | exact this) GW232.out)) | (dsimp only; exact Nat.ne_of_lt (Nat.lt_of_lt_of_le (by have := World.block_lt_of_cell? _ _ hw231_4; first | rwa [add_block] at this | exact this) GW232.out))) _).trans (((cell_far (p := ⟨gb232, _, none⟩) (by first | exact Nat.ne_of_lt (Nat.lt_of_lt_of_le (by have := World.block_lt_of_cell? _ _ hw231_4; first | rwa [add_block] at this | exact this) GW232.out) | (rw [add_block]; exact Nat.ne_of_lt (Nat.lt_of_lt_of_le (by have := World.block_lt_of_cell? _ _ hw231_4; first | rwa [add_block] at this | exact this) GW232.out)) | (show (Addr.add _ _).block ≠ _; rw [add_block]; exact Nat.ne_of_lt (Nat.lt_of_lt_of_le (by have := World.block_lt_of_cell? _ _ hw231_4; first | rwa [add_block] at this | exact this) GW232.out)) | (dsimp only; exact Nat.ne_of_lt (Nat.lt_of_lt_of_le (by have := World.block_lt_of_cell? _ _ hw231_4; first | rwa [add_block] at this | exact this) GW232.out))) _).trans (hHeld.2.2.2.2.2.2.2.2.2.2.2.1)))), ((cell_far (p := ⟨gb232, _, none⟩) (by first | exact Nat.ne_of_lt (Nat.lt_of_lt_of_le (by have := World.block_lt_of_cell? _ _ hw231_5; first | rwa [add_block] at this | exact this) GW232.out) | (rw [add_block]; exact Nat.ne_of_lt (Nat.lt_of_lt_of_le (by have := World.block_lt_of_cell? _ _ hw231_5; first | rwa [add_block] at this | exact this) GW232.out)) | (show (Addr.add _ _).block ≠ _; rw [add_block]; exact Nat.ne_of_lt (Nat.lt_of_lt_of_le (by have := World.block_lt_of_cell? _ _ hw231_5; first | rwa [add_block] at this | exact this) GW232.out)) | (dsimp only; exact Nat.ne_of_lt (Nat.lt_of_lt_of_le (by have := World.block_lt_of_cell? _ _ hw231_5; first | rwa [add_block] at this | exact this) GW232.out))) _).trans (((cell_far (p := ⟨gb232, _, none⟩) (by first | exact Nat.ne_of_lt (Nat.lt_of_lt_of_le (by have := World.block_lt_of_cell? _ _ hw231_5; first | rwa [add_block] at this | exact this) GW232.out) | (rw [add_block]; exact Nat.ne_of_lt (Nat.lt_of_lt_of_le (by have := World.block_lt_of_cell? _ _ hw231_5; first | rwa [add_block] at this | exact this) GW232.out)) | (show (Addr.add _ _).block ≠ _; rw [add_block]; exact Nat.ne_of_lt (Nat.lt_of_lt_of_le (by have := World.block_lt_of_cell? _ _ hw231_5; first | rwa [add_block] at this | exact this) GW232.out)) | (dsimp only; exact Nat.ne_of_lt (Nat.lt_of_lt_of_le (by have := World.block_lt_of_cell? _ _ hw231_5; first | rwa [add_block] at this | exact this) GW232.out))) _).trans (hHeld.2.2.2.2.2.2.2.2.2.2.2.2))))⟩ (fun hHeld => ?_)
                      clear hK K
                      refine done_ (done_of HT_.out (by kernel_rfl)) ?_
                      try go_wp2
                      go_loopg [16, 17] kj10 (fun kq v16 v17 w' => ∃ (x16_2 : Bool) (x17_2 : Int), v16 = .bool x16_2 ∧ v17 = .int .i64 x17_2 ∧ Aside0 (cosignerlaw03_HeirReduces.l0 kq l0 t216 x16_2 x17_2 ((rd_T61 l0 (ji29)).f0) ((rd_T65 ((rd_T61 l0 (ji29)).f3) (ji37)).f0) = some r) ∧ Aside0 (kq ≤ kj10) ∧ Aside0 (Kd.R k73 73 w' w.heap.size (fun k_ => k_ ≠ gb232) (.slice Ao14 t216.length co14) t216) ∧ Aside0 (w'.heap[gb229]? = some (.cells #[.string ((rd_T61 l0 (ji29)).f0), .bool ((rd_T61 l0 (ji29)).f1), (.slice A228_2 ((rd_T61 l0 (ji29)).f2).length c228_2), (.slice (some ad231) ((rd_T61 l0 (ji29)).f3).length c228_3), (.slice A228_4 ((rd_T61 l0 (ji29)).f4).length c228_4), (.slice A228_5 ((rd_T61 l0 (ji29)).f5).length c228_5), (.slice A228_6 ((rd_T61 l0 (ji29)).f6).length c228_6)] 61 (0, 0))) ∧ Aside0 (w'.heap[gb232]? = some (.cells #[.string ((rd_T61 l0 (ji29)).f0), .string ((rd_T65 ((rd_T61 l0 (ji29)).f3) (ji37)).f0)] 73 (0, 0))) ∧ Aside0 (Below w.heap.size w w'))
                      case atStart => exact ⟨(false), (0), (by first | rfl | (simp; done) | (simp [*]; done)), (by first | rfl | (simp; done) | (simp [*]; done)), H', ⟨Nat.le_refl _⟩, ⟨by (with_reducible repeat (first | apply Kd.R_alloc | apply Kd.R_drewN | apply Kd.R_drew)); exact Kd.R_mono (Kd.R_far (p := ⟨gb232, 1, none⟩) (Kd.R_far (p := ⟨gb232, 0, none⟩) (Kd.R_mono HO_9.out (fun k_ hk => (⟨hk, hk.2⟩ : _ ∧ k_ ≠ gb232))) (fun _ hk => hk.2) (.string ((rd_T61 l0 (ji29)).f0))) (fun _ hk => hk.2) (.string ((rd_T65 ((rd_T61 l0 (ji29)).f3) (ji37)).f0))) (fun _ hk => hk.1.2)⟩, ⟨by (with_reducible repeat (first | refine blk_drewN ?_ _ | refine blk_drew ?_ | refine blk_alloc ?_ _)); refine blk_far ?_ NB229_232.out _; (with_reducible repeat (first | refine blk_drewN ?_ _ | refine blk_drew ?_ | refine blk_alloc ?_ _)); refine blk_far ?_ NB229_232.out _; (with_reducible repeat (first | refine blk_drewN ?_ _ | refine blk_drew ?_ | refine blk_alloc ?_ _)); exact BK229.out⟩, ⟨by (with_reducible repeat (first | refine blk_drewN ?_ _ | refine blk_drew ?_ | refine blk_alloc ?_ _)); refine blk_put (cs := #[.string ((rd_T61 l0 (ji29)).f0), .string (⟨#[]⟩ : ByteArray)]) ?_ 1 _ rfl; (with_reducible repeat (first | refine blk_drewN ?_ _ | refine blk_drew ?_ | refine blk_alloc ?_ _)); refine blk_put (cs := #[.string (⟨#[]⟩ : ByteArray), .string (⟨#[]⟩ : ByteArray)]) ?_ 0 _ rfl; (with_reducible repeat (first | refine blk_drewN ?_ _ | refine blk_drew ?_ | refine blk_alloc ?_ _)); exact BK232.out⟩, ⟨by repeat (first | (with_reducible first | exact HB.out | apply below_alloc | apply pw_below_drewN | apply below_drew1 | refine below_set ?_ GE229.out | refine below_set ?_ GE232.out) | exact HB.out)⟩⟩
                      case round =>
                        clear H'
                        try clear c1
                        try clear c2
                        try clear p2
                        try clear q2
                        try clear hx2
                        try clear c3
                        try clear c6
                        try clear p6
                        try clear c8
                        try clear c16
                        try clear c16b0
                        try clear c16b1
                        try clear c18
                        try clear c22
                        try clear p22
                        try clear q22
                        try clear hx22
                        try clear c23
                        try clear p23
                        try clear q23
                        try clear hx23
                        try clear c25
                        try clear c27
                        try clear c28
                        try clear c28b0
                        try clear c28b1
                        try clear c28b2
                        try clear c30
                        try clear c30b0
                        try clear c31
                        try clear c31b0
                        try clear c32
                        try clear c32b0
                        try clear c32b1
                        try clear c32b2
                        try clear c36
                        try clear c38
                        try clear c38b0
                        try clear c39
                        try clear c39b0
                        try clear hcz35_0
                        try clear hcz35_1
                        try clear hcz35_2
                        try clear hcz35_3
                        try clear hcz35_4
                        try clear hcz35_5
                        try clear hcz35_6
                        try clear hcz41_0
                        try clear hcz41_1
                        try clear hcz41_2
                        try clear hcz41_3
                        try clear hcz41_4
                        try clear hcz41_5
                        try clear hcz41_6
                        try clear hfz35_0
                        try clear hfz35_1
                        try clear hfz35_2
                        try clear hfz35_3
                        try clear hfz35_4
                        try clear hfz35_5
                        try clear hfz35_6
                        try clear hfz41_0
                        try clear hfz41_1
                        try clear hfz41_2
                        try clear hfz41_3
                        try clear hfz41_4
                        try clear hfz41_5
                        try clear hfz41_6
                        try clear hx228_0
                        try clear hx228_1
                        try clear hx228_2
                        try clear hx228_3
                        try clear hx228_4
                        try clear hx228_5
                        try clear hx228_6
                        try clear hx231_0
                        try clear hx231_1
                        try clear hx231_2
                        try clear hx231_3
                        try clear hx231_4
                        try clear hx231_5
                        try clear p2
                        try clear p228
                        try clear p231
                        try clear q228
                        try clear q231
                        obtain ⟨x16_2, x17_2, rfl, rfl, HA, HK2, HO_9, BK229, BK232, HB⟩ := hrel
                        cases gk with
                        | zero => exact absurd HA.out (by simp [cosignerlaw03_HeirReduces.l0])
                        | succ k2 =>
                          have H := HA.out
                          clear HA
                          simp only [cosignerlaw03_HeirReduces.l0] at H
                          by_cases c47 : x17_2 < (t216.length : Int)
                          · rw [if_pos c47] at H
                            have c47b0 : decide (x17_2 < (t216.length : Int)) = true := decide_eq_true c47
                            clear c47
                            by_cases c48 : x16_2 = true
                            · subst c48
                              have H1 : (cosignerlaw03_HeirReduces.l0 k2 l0 t216 true (wrap64 (x17_2 + 1)) ((rd_T61 l0 (ji29)).f0) ((rd_T65 ((rd_T61 l0 (ji29)).f3) (ji37)).f0)) = some r := by rw [if_pos rfl] at H; exact H
                              clear H
                              have H := H1
                              clear H1
                              have H' := Aside0.mk H
                              clear H
                              try go_wp2
                              have n0_ := Aside0.mk (Kd.R_drew HO_9.out)
                              have n1_ := Aside0.mk (blk_drew BK229.out)
                              have n2_ := Aside0.mk (blk_drew BK232.out)
                              have n3_ := Aside0.mk (below_drew1 HB.out)
                              clear HO_9
                              clear BK229
                              clear BK232
                              clear HB
                              have HO_9 := n0_
                              have BK229 := n1_
                              have BK232 := n2_
                              have HB := n3_
                              clear n0_ n1_ n2_ n3_
                              refine start_ (n := 10) (S := fun w' => True) (ds := []) #[false, false, false, false, false, false, false, false, false, false] (by kernel_rfl) rfl rfl trivial (fun hHeld => ?_); refine with_tabW cosignerlaw03_HeirReduces.tab17 cosignerlaw03_HeirReduces.bits17 (fun HT_ HW_ => ?_)
                              generalize wr.drew = w49 at HO_9 BK229 BK232 HB hHeld ⊢
                              refine pure_ (i := 0) (N := some 87) (v := ?_) (a' := ?_) #[true, false, false, false, false, false, false, false, false, false] rfl rfl (any_of HT_.out (by kernel_rfl)) (fun _ _ _ h => h) (Or.inl ⟨by rfl, ?_⟩) ?_ ?_
                              rotate_left
                              · intro w'
                                go_simp
                                with_reducible rfl
                              rotate_left
                              · simp only [Act.put, List.setIfInBounds_toArray, List.set_cons_zero, List.set_cons_succ, i64_w, i32_w]
                                rfl
                              refine pure_ (i := 1) (N := some 88) (v := ?_) (a' := ?_) #[true, true, false, false, false, false, false, false, false, false] rfl rfl (any_of HT_.out (by kernel_rfl)) (fun _ _ _ h => h) (Or.inl ⟨by rfl, ?_⟩) ?_ ?_
                              rotate_left
                              · intro w'
                                go_simp
                                with_reducible rfl
                              rotate_left
                              · simp only [Act.put, List.setIfInBounds_toArray, List.set_cons_zero, List.set_cons_succ, i64_w, i32_w]
                                rfl
                              refine pure_ (i := 2) (N := some 89) (v := undef) (a' := ?_) #[true, true, true, false, false, false, false, false, false, false] rfl rfl (any_of HT_.out (by kernel_rfl)) (fun _ _ _ h => h) (Or.inr ⟨by rfl, rfl⟩) ?_ ?_
                              rotate_left
                              · simp only [Act.put, List.setIfInBounds_toArray, List.set_cons_zero, List.set_cons_succ, i64_w, i32_w]
                                rfl
                              refine pure_ (i := 3) (N := some 90) (v := undef) (a' := ?_) #[true, true, true, true, false, false, false, false, false, false] rfl rfl (any_of HT_.out (by kernel_rfl)) (fun _ _ _ h => h) (Or.inr ⟨by rfl, rfl⟩) ?_ ?_
                              rotate_left
                              · simp only [Act.put, List.setIfInBounds_toArray, List.set_cons_zero, List.set_cons_succ, i64_w, i32_w]
                                rfl
                              refine pure_ (i := 4) (N := some 91) (v := undef) (a' := ?_) #[true, true, true, true, true, false, false, false, false, false] rfl rfl (any_of HT_.out (by kernel_rfl)) (fun _ _ _ h => h) (Or.inr ⟨by rfl, rfl⟩) ?_ ?_
                              rotate_left
                              · simp only [Act.put, List.setIfInBounds_toArray, List.set_cons_zero, List.set_cons_succ, i64_w, i32_w]
                                rfl
                              refine pure_ (i := 5) (N := some 92) (v := undef) (a' := ?_) #[true, true, true, true, true, true, false, false, false, false] rfl rfl (any_of HT_.out (by kernel_rfl)) (fun _ _ _ h => h) (Or.inr ⟨by rfl, rfl⟩) ?_ ?_
                              rotate_left
                              · simp only [Act.put, List.setIfInBounds_toArray, List.set_cons_zero, List.set_cons_succ, i64_w, i32_w]
                                rfl
                              refine pure_ (i := 6) (N := some 93) (v := undef) (a' := ?_) #[true, true, true, true, true, true, true, false, false, false] rfl rfl (any_of HT_.out (by kernel_rfl)) (fun _ _ _ h => h) (Or.inr ⟨by rfl, rfl⟩) ?_ ?_
                              rotate_left
                              · simp only [Act.put, List.setIfInBounds_toArray, List.set_cons_zero, List.set_cons_succ, i64_w, i32_w]
                                rfl
                              refine pure_ (i := 7) (N := some 94) (v := undef) (a' := ?_) #[true, true, true, true, true, true, true, true, false, false] rfl rfl (any_of HT_.out (by kernel_rfl)) (fun _ _ _ h => h) (Or.inr ⟨by rfl, rfl⟩) ?_ ?_
                              rotate_left
                              · simp only [Act.put, List.setIfInBounds_toArray, List.set_cons_zero, List.set_cons_succ, i64_w, i32_w]
                                rfl
                              refine pure_ (i := 8) (N := some 95) (v := ?_) (a' := ?_) #[true, true, true, true, true, true, true, true, true, false] rfl rfl (any_of HT_.out (by kernel_rfl)) (fun _ _ _ h => h) (Or.inl ⟨by rfl, ?_⟩) ?_ ?_
                              rotate_left
                              · intro w'
                                go_simp
                                with_reducible rfl
                              rotate_left
                              · simp only [Act.put, List.setIfInBounds_toArray, List.set_cons_zero, List.set_cons_succ, i64_w, i32_w]
                                rfl
                              refine pure_ (i := 9) (N := some 16) (v := ?_) (a' := ?_) #[true, true, true, true, true, true, true, true, true, true] rfl rfl (any_of HT_.out (by kernel_rfl)) (fun _ _ _ h => h) (Or.inl ⟨by rfl, ?_⟩) ?_ ?_
                              rotate_left
                              · intro w'
                                go_simp
                                with_reducible rfl
                              rotate_left
                              · simp only [Act.put, List.setIfInBounds_toArray, List.set_cons_zero, List.set_cons_succ, i64_w, i32_w]
                                rfl
                              refine done_ (done_of HT_.out (by kernel_rfl)) ?_
                              try go_wp2
                              go_roundg k2
                              case measure => have := HJ10.out; have := HK2.out; omega
                              case rel => exact ⟨(true), (wrap64 (x17_2 + 1)), (by first | rfl | (simp; done) | (simp [*]; done)), (by first | rfl | (simp; done) | (simp [*]; done)), H', ⟨by have := HJ10.out; have := HK2.out; omega⟩, ⟨by (with_reducible repeat (first | apply Kd.R_alloc | apply Kd.R_drewN | apply Kd.R_drew)); exact HO_9.out⟩, ⟨by (with_reducible repeat (first | refine blk_drewN ?_ _ | refine blk_drew ?_ | refine blk_alloc ?_ _)); exact BK229.out⟩, ⟨by (with_reducible repeat (first | refine blk_drewN ?_ _ | refine blk_drew ?_ | refine blk_alloc ?_ _)); exact BK232.out⟩, ⟨by repeat (first | (with_reducible first | exact HB.out | apply below_alloc | apply pw_below_drewN | apply below_drew1 | refine below_set ?_ GE229.out | refine below_set ?_ GE232.out) | exact HB.out)⟩⟩
                            · replace c48 := Bool.eq_false_iff.mpr c48
                              subst c48
                              have H1 : (if 0 ≤ x17_2 then (cosignerlaw03_HeirReduces.l0 k2 l0 t216 ((((rd_T73 t216 x17_2).f0).toList) == ((rd_T61 l0 (ji29)).f0).toList && ((((rd_T73 t216 x17_2).f1).toList) == ((rd_T65 ((rd_T61 l0 (ji29)).f3) (ji37)).f0).toList)) (wrap64 (x17_2 + 1)) ((rd_T61 l0 (ji29)).f0) ((rd_T65 ((rd_T61 l0 (ji29)).f3) (ji37)).f0)) else (none)) = some r := by rw [if_neg (show ¬ (false = true) by decide)] at H; exact H
                              clear H
                              have H := H1
                              clear H1
                              by_cases c50 : 0 ≤ x17_2
                              · rw [if_pos c50] at H
                                have c50b0 : decide (0 ≤ x17_2) = true := decide_eq_true c50
                                clear c50
                                have H' := Aside0.mk H
                                clear H
                                try go_wp2
                                have n0_ := Aside0.mk (Kd.R_drew HO_9.out)
                                have n1_ := Aside0.mk (blk_drew BK229.out)
                                have n2_ := Aside0.mk (blk_drew BK232.out)
                                have n3_ := Aside0.mk (below_drew1 HB.out)
                                clear HO_9
                                clear BK229
                                clear BK232
                                clear HB
                                have HO_9 := n0_
                                have BK229 := n1_
                                have BK232 := n2_
                                have HB := n3_
                                clear n0_ n1_ n2_ n3_
                                have p233 : 0 ≤ (x17_2 : Int) := of_decide_eq_true (by first | (with_reducible assumption) | assumption)
                                have q233 : x17_2 < (t216.length : Int) := of_decide_eq_true (by first | (with_reducible assumption) | assumption)
                                obtain ⟨ad233, e233, hx233_0, hx233_1⟩ := at_T73 (Kd.R_reads' HO_9.out).2.2 x17_2 p233 q233
                                cases e233
                                replace p233 := eq_true p233
                                replace q233 := eq_true q233
                                refine start_ (n := 10) (S := fun w' => w'.cell? ⟨gb232, 0, none⟩ = some (.string ((rd_T61 l0 (ji29)).f0)) ∧ w'.cell? ⟨gb232, 1, none⟩ = some (.string ((rd_T65 ((rd_T61 l0 (ji29)).f3) (ji37)).f0)) ∧ w'.cell? (ad233.add ((x17_2).toNat * 2)) = some (.string ((rd_T73 t216 x17_2).f0)) ∧ w'.cell? ⟨(ad233.add ((x17_2).toNat * 2)).block, (ad233.add ((x17_2).toNat * 2)).off + 1, none⟩ = some (.string ((rd_T73 t216 x17_2).f1))) (ds := []) #[false, false, false, false, false, false, false, false, false, false] (by kernel_rfl) rfl rfl ⟨(blk_cell BK232.out 0).trans rfl, (blk_cell BK232.out 1).trans rfl, hx233_0, hx233_1⟩ (fun hHeld => ?_); refine with_tabW cosignerlaw03_HeirReduces.tab17 cosignerlaw03_HeirReduces.bits17 (fun HT_ HW_ => ?_)
                                generalize wr.drew = w51 at HO_9 BK229 BK232 HB hx233_0 hx233_1 hHeld ⊢
                                refine pure_ (i := 0) (N := some 87) (v := ?_) (a' := ?_) #[true, false, false, false, false, false, false, false, false, false] rfl rfl (any_of HT_.out (by kernel_rfl)) (fun _ _ _ h => h) (Or.inl ⟨by rfl, ?_⟩) ?_ ?_
                                rotate_left
                                · intro w'
                                  go_simp
                                  with_reducible rfl
                                rotate_left
                                · simp only [Act.put, List.setIfInBounds_toArray, List.set_cons_zero, List.set_cons_succ, i64_w, i32_w]
                                  rfl
                                refine pure_ (i := 1) (N := some 88) (v := ?_) (a' := ?_) #[true, true, false, false, false, false, false, false, false, false] rfl rfl (any_of HT_.out (by kernel_rfl)) (fun _ _ _ h => h) (Or.inl ⟨by rfl, ?_⟩) ?_ ?_
                                rotate_left
                                · intro w'
                                  go_simp
                                  with_reducible rfl
                                rotate_left
                                · simp only [Act.put, List.setIfInBounds_toArray, List.set_cons_zero, List.set_cons_succ, i64_w, i32_w]
                                  rfl
                                refine pure_ (i := 2) (N := some 89) (v := ?_) (a' := ?_) #[true, true, true, false, false, false, false, false, false, false] rfl rfl (any_of HT_.out (by kernel_rfl)) (fun _ _ _ h => h) (Or.inl ⟨by rfl, ?_⟩) ?_ ?_
                                rotate_left
                                · intro w'
                                  go_simp
                                  with_reducible rfl
                                rotate_left
                                · simp only [Act.put, List.setIfInBounds_toArray, List.set_cons_zero, List.set_cons_succ, i64_w, i32_w]
                                  rfl
                                refine pure_ (i := 3) (N := some 90) (v := ?_) (a' := ?_) #[true, true, true, true, false, false, false, false, false, false] rfl rfl (any_of HT_.out (by kernel_rfl)) (fun _ _ _ h => h) (Or.inl ⟨by rfl, ?_⟩) ?_ ?_
                                rotate_left
                                · intro w'
                                  go_simp
                                  with_reducible rfl
                                rotate_left
                                · simp only [Act.put, List.setIfInBounds_toArray, List.set_cons_zero, List.set_cons_succ, i64_w, i32_w]
                                  rfl
                                refine pure_ (i := 4) (N := some 91) (v := ?_) (a' := ?_) #[true, true, true, true, true, false, false, false, false, false] rfl rfl (any_of HT_.out (by kernel_rfl)) (fun _ _ _ h => h) (Or.inl ⟨by rfl, ?_⟩) ?_ ?_
                                rotate_left
                                · intro w'
                                  go_simp
                                  with_reducible rfl
                                rotate_left
                                · simp only [Act.put, List.setIfInBounds_toArray, List.set_cons_zero, List.set_cons_succ, i64_w, i32_w]
                                  rfl
                                refine take_ (i := 5) (N := some 92) (v := ?_) (a' := ?_) #[true, true, true, true, true, true, false, false, false, false] rfl rfl (take_ofW HT_.out HW_.out (by kernel_rfl)) (fun _ _ _ h => h) (Or.inl ⟨by rfl, ?_⟩) hHeld ?_ ?_
                                rotate_left
                                · rintro w' ⟨s0, s1, s2, s3⟩
                                  go_simp
                                  with_reducible rfl
                                rotate_left
                                · simp only [Act.put, List.setIfInBounds_toArray, List.set_cons_zero, List.set_cons_succ, i64_w, i32_w]
                                  rfl
                                refine take_ (i := 6) (N := some 93) (v := ?_) (a' := ?_) #[true, true, true, true, true, true, true, false, false, false] rfl rfl (take_ofW HT_.out HW_.out (by kernel_rfl)) (fun _ _ _ h => h) (Or.inl ⟨by rfl, ?_⟩) hHeld ?_ ?_
                                rotate_left
                                · rintro w' ⟨s0, s1, s2, s3⟩
                                  go_simp
                                  with_reducible rfl
                                rotate_left
                                · simp only [Act.put, List.setIfInBounds_toArray, List.set_cons_zero, List.set_cons_succ, i64_w, i32_w]
                                  rfl
                                refine pure_ (i := 7) (N := some 94) (v := ?_) (a' := ?_) #[true, true, true, true, true, true, true, true, false, false] rfl rfl (any_of HT_.out (by kernel_rfl)) (fun _ _ _ h => h) (Or.inl ⟨by rfl, ?_⟩) ?_ ?_
                                rotate_left
                                · intro w'
                                  go_simp
                                  with_reducible rfl
                                rotate_left
                                · simp only [Act.put, List.setIfInBounds_toArray, List.set_cons_zero, List.set_cons_succ, i64_w, i32_w]
                                  rfl
                                refine pure_ (i := 8) (N := some 95) (v := ?_) (a' := ?_) #[true, true, true, true, true, true, true, true, true, false] rfl rfl (any_of HT_.out (by kernel_rfl)) (fun _ _ _ h => h) (Or.inl ⟨by rfl, ?_⟩) ?_ ?_
                                rotate_left
                                · intro w'
                                  go_simp
                                  with_reducible rfl
                                rotate_left
                                · simp only [Act.put, List.setIfInBounds_toArray, List.set_cons_zero, List.set_cons_succ, i64_w, i32_w]
                                  rfl
                                refine pure_ (i := 9) (N := some 16) (v := ?_) (a' := ?_) #[true, true, true, true, true, true, true, true, true, true] rfl rfl (any_of HT_.out (by kernel_rfl)) (fun _ _ _ h => h) (Or.inl ⟨by rfl, ?_⟩) ?_ ?_
                                rotate_left
                                · intro w'
                                  go_simp
                                  with_reducible rfl
                                rotate_left
                                · simp only [Act.put, List.setIfInBounds_toArray, List.set_cons_zero, List.set_cons_succ, i64_w, i32_w]
                                  rfl
                                refine done_ (done_of HT_.out (by kernel_rfl)) ?_
                                try go_wp2
                                go_roundg k2
                                case measure => have := HJ10.out; have := HK2.out; omega
                                case rel => exact ⟨(((((rd_T73 t216 x17_2).f0).toList) == ((rd_T61 l0 (ji29)).f0).toList && ((((rd_T73 t216 x17_2).f1).toList) == ((rd_T65 ((rd_T61 l0 (ji29)).f3) (ji37)).f0).toList))), (wrap64 (x17_2 + 1)), (by first | rfl | (simp; done) | (simp only [← hji29, ← hji37] <;> (first | rfl | simp)) | (simp [*]; done)), (by first | rfl | (simp; done) | (simp [*]; done)), H', ⟨by have := HJ10.out; have := HK2.out; omega⟩, ⟨by (with_reducible repeat (first | apply Kd.R_alloc | apply Kd.R_drewN | apply Kd.R_drew)); exact HO_9.out⟩, ⟨by (with_reducible repeat (first | refine blk_drewN ?_ _ | refine blk_drew ?_ | refine blk_alloc ?_ _)); exact BK229.out⟩, ⟨by (with_reducible repeat (first | refine blk_drewN ?_ _ | refine blk_drew ?_ | refine blk_alloc ?_ _)); exact BK232.out⟩, ⟨by repeat (first | (with_reducible first | exact HB.out | apply below_alloc | apply pw_below_drewN | apply below_drew1 | refine below_set ?_ GE229.out | refine below_set ?_ GE232.out) | exact HB.out)⟩⟩
                              · rw [if_neg c50] at H
                                exact absurd H (by simp)
                          · rw [if_neg c47] at H
                            have c47b0 : decide (x17_2 < (t216.length : Int)) = false := decide_eq_false c47
                            clear c47
                            replace H := Option.bind_eq_some_iff.mp H
                            obtain ⟨t234, A520, H⟩ := H
                            replace H : (if t234 = true then ((cosignerlaw03_linked.f k2 l0 (([(⟨((rd_T61 l0 (ji29)).f0), ((rd_T65 ((rd_T61 l0 (ji29)).f3) (ji37)).f0)⟩ : S73)] : List (S73)))).bind fun t238 => ((cosignerlaw03_is.f t238 ((rd_T61 l0 (ji29)).f0) ((rd_T65 ((rd_T61 l0 (ji29)).f3) (ji37)).f0)).bind fun t241 => (some (x16_2 == t241)))) else (some false)) = some r := H
                            have A52 := Aside0.mk A520
                            clear A520
                            by_cases c53 : t234 = true
                            · subst c53
                              have H1 : ((cosignerlaw03_linked.f k2 l0 (([(⟨((rd_T61 l0 (ji29)).f0), ((rd_T65 ((rd_T61 l0 (ji29)).f3) (ji37)).f0)⟩ : S73)] : List (S73)))).bind fun t238 => ((cosignerlaw03_is.f t238 ((rd_T61 l0 (ji29)).f0) ((rd_T65 ((rd_T61 l0 (ji29)).f3) (ji37)).f0)).bind fun t241 => (some (x16_2 == t241)))) = some r := by rw [if_pos rfl] at H; exact H
                              clear H
                              have H := H1
                              clear H1
                              obtain ⟨y235, hy235⟩ : ∃ y_ : List (S73), y_ = (([(⟨((rd_T61 l0 (ji29)).f0), ((rd_T65 ((rd_T61 l0 (ji29)).f3) (ji37)).f0)⟩ : S73)] : List (S73))) := ⟨_, rfl⟩
                              replace H : ((cosignerlaw03_linked.f k2 l0 y235).bind fun t238 => ((cosignerlaw03_is.f t238 ((rd_T61 l0 (ji29)).f0) ((rd_T65 ((rd_T61 l0 (ji29)).f3) (ji37)).f0)).bind fun t241 => (some (x16_2 == t241)))) = some r := by first | (rw [hy235]; with_reducible exact H) | (have H2_ := (Option.bind_some _ _).symm.trans H; rw [hy235]; with_reducible exact H2_) | (have H2_ := (Option.bind_some _ _).symm.trans H; with_reducible exact H2_) | with_reducible exact H | (rw [hy235]; exact H) | exact H
                              have Ny235 := Aside0.mk hy235
                              clear hy235
                              replace H := Option.bind_eq_some_iff.mp H
                              obtain ⟨t238, A540, H⟩ := H
                              replace H : ((cosignerlaw03_is.f t238 ((rd_T61 l0 (ji29)).f0) ((rd_T65 ((rd_T61 l0 (ji29)).f3) (ji37)).f0)).bind fun t241 => (some (x16_2 == t241))) = some r := H
                              have A54 := Aside0.mk A540
                              clear A540
                              replace H := Option.bind_eq_some_iff.mp H
                              obtain ⟨t241, A550, H⟩ := H
                              replace H : (some (x16_2 == t241)) = some r := H
                              have A55 := Aside0.mk A550
                              clear A550
                              obtain rfl := Option.some.inj H
                              try go_wp2
                              have n0_ := Aside0.mk (Kd.R_drew HO_9.out)
                              have n1_ := Aside0.mk (blk_drew BK229.out)
                              have n2_ := Aside0.mk (blk_drew BK232.out)
                              have n3_ := Aside0.mk (below_drew1 HB.out)
                              clear HO_9
                              clear BK229
                              clear BK232
                              clear HB
                              have HO_9 := n0_
                              have BK229 := n1_
                              have BK232 := n2_
                              have HB := n3_
                              clear n0_ n1_ n2_ n3_
                              refine start_ (n := 15) (S := fun w' => w'.cell? ⟨gb232, 0, none⟩ = some (.string ((rd_T61 l0 (ji29)).f0)) ∧ w'.cell? ⟨gb232, 1, none⟩ = some (.string ((rd_T65 ((rd_T61 l0 (ji29)).f3) (ji37)).f0))) (ds := []) #[false, false, false, false, false, false, false, false, false, false, false, false, false, false, false] (by kernel_rfl) rfl rfl ⟨(blk_cell BK232.out 0).trans rfl, (blk_cell BK232.out 1).trans rfl⟩ (fun hHeld => ?_); refine with_tabW cosignerlaw03_HeirReduces.tab18 cosignerlaw03_HeirReduces.bits18 (fun HT_ HW_ => ?_)
                              generalize wr.drew = w56 at HO_9 BK229 BK232 HB hHeld ⊢
                              refine one_ (i := 0) (N := some 96) #[true, false, false, false, false, false, false, false, false, false, false, false, false, false, false] rfl rfl (one_of HT_.out (by kernel_rfl)) (by decide) (fun K hK => ?_)
                              refine goes_ Try.func16 (by kernel_rfl) rfl #[] (by rfl) rfl rfl (by (try simp only [List.map_toArray, List.map_cons, List.map_nil]); first | done | rfl | (simp only [List.length_drop, List.length_take]; rfl)) ?_
                              with_reducible refine (cosignerlaw03_sanity.calls  true _ A52.out).mono ?_
                              rintro e w57 ⟨rfl, hb⟩
                              refine ⟨_, rfl, ?_⟩
                              have n0_ := Aside0.mk (Kd.R_below (by (with_reducible repeat (first | apply Kd.R_alloc | apply Kd.R_drewN | apply Kd.R_drew)); exact HO_9.out) hb)
                              have n1_ := Aside0.mk (blk_below (g := gb229) (o := .cells #[.string ((rd_T61 l0 (ji29)).f0), .bool ((rd_T61 l0 (ji29)).f1), .slice A228_2 ((rd_T61 l0 ji29).f2).length c228_2, .slice (some ad231) ((rd_T61 l0 ji29).f3).length c228_3, .slice A228_4 ((rd_T61 l0 ji29).f4).length c228_4, .slice A228_5 ((rd_T61 l0 ji29).f5).length c228_5, .slice A228_6 ((rd_T61 l0 ji29).f6).length c228_6] 61 (0, 0)) (by (with_reducible repeat (first | refine blk_drewN ?_ _ | refine blk_drew ?_ | refine blk_alloc ?_ _)); exact BK229.out) hb)
                              have n2_ := Aside0.mk (blk_below (g := gb232) (o := .cells #[.string ((rd_T61 l0 (ji29)).f0), .string ((rd_T65 ((rd_T61 l0 (ji29)).f3) (ji37)).f0)] 73 (0, 0)) (by (with_reducible repeat (first | refine blk_drewN ?_ _ | refine blk_drew ?_ | refine blk_alloc ?_ _)); exact BK232.out) hb)
                              have n3_ := Aside0.mk (below_step (by repeat (first | (with_reducible first | exact HB.out | apply below_alloc | apply pw_below_drewN | apply below_drew1 | refine below_set ?_ GE229.out | refine below_set ?_ GE232.out) | exact HB.out)) hb)
                              clear HO_9
                              clear BK229
                              clear BK232
                              clear HB
                              have HO_9 := n0_
                              have BK229 := n1_
                              have BK232 := n2_
                              have HB := n3_
                              clear n0_ n1_ n2_ n3_
                              (try clear hb)
                              (try clear hb2)
                              (try clear hk)
                              (try clear hi)
                              refine hK.out _ _ ⟨(blk_cell BK232.out 0).trans rfl, (blk_cell BK232.out 1).trans rfl⟩ (fun hHeld => ?_)
                              clear hK K
                              refine norm_ (a' := ?_) ?_ ?_
                              rotate_left
                              · show Act.put _ (some 96) _ = _
                                simp only [Act.put, List.setIfInBounds_toArray, List.set_cons_zero, List.set_cons_succ, i64_w, i32_w]
                                rfl
                              refine pure_ (i := 1) (N := some 97) (v := ?_) (a' := ?_) #[true, true, false, false, false, false, false, false, false, false, false, false, false, false, false] rfl rfl (any_of HT_.out (by kernel_rfl)) (fun _ _ _ h => h) (Or.inl ⟨by rfl, ?_⟩) ?_ ?_
                              rotate_left
                              · intro w'
                                go_simp
                                with_reducible rfl
                              rotate_left
                              · simp only [Act.put, List.setIfInBounds_toArray, List.set_cons_zero, List.set_cons_succ, i64_w, i32_w]
                                rfl
                              refine pure_ (i := 2) (N := some 98) (v := ?_) (a' := ?_) #[true, true, true, false, false, false, false, false, false, false, false, false, false, false, false] rfl rfl (any_of HT_.out (by kernel_rfl)) (fun _ _ _ h => h) (Or.inl ⟨by rfl, ?_⟩) ?_ ?_
                              rotate_left
                              · intro w'
                                go_simp
                                with_reducible rfl
                              rotate_left
                              · simp only [Act.put, List.setIfInBounds_toArray, List.set_cons_zero, List.set_cons_succ, i64_w, i32_w]
                                rfl
                              refine pure_ (i := 3) (N := some 99) (v := ?_) (a' := ?_) #[true, true, true, true, false, false, false, false, false, false, false, false, false, false, false] rfl rfl (any_of HT_.out (by kernel_rfl)) (fun _ _ _ h => h) (Or.inl ⟨by rfl, ?_⟩) ?_ ?_
                              rotate_left
                              · intro w'
                                go_simp
                                with_reducible rfl
                              rotate_left
                              · simp only [Act.put, List.setIfInBounds_toArray, List.set_cons_zero, List.set_cons_succ, i64_w, i32_w]
                                rfl
                              refine pure_ (i := 7) (N := some 103) (v := ?_) (a' := ?_) #[true, true, true, true, false, false, false, true, false, false, false, false, false, false, false] rfl rfl (any_of HT_.out (by kernel_rfl)) (fun _ _ _ h => h) (Or.inl ⟨by rfl, ?_⟩) ?_ ?_
                              rotate_left
                              · intro w'
                                go_simp
                                with_reducible rfl
                              rotate_left
                              · simp only [Act.put, List.setIfInBounds_toArray, List.set_cons_zero, List.set_cons_succ, i64_w, i32_w]
                                rfl
                              refine pure_ (i := 9) (N := some 105) (v := ?_) (a' := ?_) #[true, true, true, true, false, false, false, true, false, true, false, false, false, false, false] rfl rfl (any_of HT_.out (by kernel_rfl)) (fun _ _ _ h => h) (Or.inl ⟨by rfl, ?_⟩) ?_ ?_
                              rotate_left
                              · intro w'
                                go_simp
                                with_reducible rfl
                              rotate_left
                              · simp only [Act.put, List.setIfInBounds_toArray, List.set_cons_zero, List.set_cons_succ, i64_w, i32_w]
                                rfl
                              refine take_ (i := 4) (N := some 100) (v := ?_) (a' := ?_) #[true, true, true, true, true, false, false, true, false, true, false, false, false, false, false] rfl rfl (take_ofW HT_.out HW_.out (by kernel_rfl)) (fun _ _ _ h => h) (Or.inl ⟨by rfl, ?_⟩) hHeld ?_ ?_
                              rotate_left
                              · rintro w' ⟨s0, s1⟩
                                go_simp
                                with_reducible rfl
                              rotate_left
                              · simp only [Act.put, List.setIfInBounds_toArray, List.set_cons_zero, List.set_cons_succ, i64_w, i32_w]
                                rfl
                              refine take_ (i := 8) (N := some 104) (v := ?_) (a' := ?_) #[true, true, true, true, true, false, false, true, true, true, false, false, false, false, false] rfl rfl (take_ofW HT_.out HW_.out (by kernel_rfl)) (fun _ _ _ h => h) (Or.inl ⟨by rfl, ?_⟩) hHeld ?_ ?_
                              rotate_left
                              · rintro w' ⟨s0, s1⟩
                                go_simp
                                with_reducible rfl
                              rotate_left
                              · simp only [Act.put, List.setIfInBounds_toArray, List.set_cons_zero, List.set_cons_succ, i64_w, i32_w]
                                rfl
                              refine take_ (i := 10) (N := some 106) (v := ?_) (a' := ?_) #[true, true, true, true, true, false, false, true, true, true, true, false, false, false, false] rfl rfl (take_ofW HT_.out HW_.out (by kernel_rfl)) (fun _ _ _ h => h) (Or.inl ⟨by rfl, ?_⟩) hHeld ?_ ?_
                              rotate_left
                              · rintro w' ⟨s0, s1⟩
                                go_simp
                                with_reducible rfl
                              rotate_left
                              · simp only [Act.put, List.setIfInBounds_toArray, List.set_cons_zero, List.set_cons_succ, i64_w, i32_w]
                                rfl
                              refine one_ (i := 5) (N := some 101) #[true, true, true, true, true, true, false, true, true, true, true, false, false, false, false] rfl rfl (one_of HT_.out (by kernel_rfl)) (by decide) (fun K hK => ?_)
                              refine Kd.R_lit_step k73 _ 73 ?hg (N := 101) ?hd (xs := ([(⟨((rd_T61 l0 (ji29)).f0), ((rd_T65 ((rd_T61 l0 (ji29)).f3) (ji37)).f0)⟩ : S73)] : List (S73))) (inner := [.string ((rd_T61 l0 (ji29)).f0), .string ((rd_T65 ((rd_T61 l0 (ji29)).f3) (ji37)).f0)]) (ok := fun _ => True) (okp := fun _ => True) ?hr ?hp (fun _ hk => hk) trivial (Below.refl _ _) (Nat.le_refl _) (by simp) ?_; (case hd => rfl); (case hg => rfl); (case hr => first | (go_simp; done) | (go_simp; rfl)); (case hp => exact (Reps.c2 (show Kd.M k73 _ _ _ (⟨((rd_T61 l0 (ji29)).f0), ((rd_T65 ((rd_T61 l0 (ji29)).f3) (ji37)).f0)⟩ : S73) [.string ((rd_T61 l0 (ji29)).f0), .string ((rd_T65 ((rd_T61 l0 (ji29)).f3) (ji37)).f0)] from (k73_mkM _ _ _ (⟨((rd_T61 l0 (ji29)).f0), ((rd_T65 ((rd_T61 l0 (ji29)).f3) (ji37)).f0)⟩ : S73) )) (Reps.none _ _)))
                              intro v236 w58 ho59 hb hg_ hnew_
                              clear hg_ hnew_
                              (first | rw [← Ny235.out] at ho59 | (simp only [Int.reduceToNat] at ho59; rw [← Ny235.out] at ho59))
                              have n0_ := Aside0.mk (Kd.R_elder' (by (with_reducible repeat (first | apply Kd.R_alloc | apply Kd.R_drewN | apply Kd.R_drew)); exact HO_9.out) (Kd.R_base ho59) hb)
                              have n1_ := Aside0.mk (Kd.R_lower (Kd.R_newB (Kd.R_new' ho59 (Kd.R_lt (by (with_reducible repeat (first | apply Kd.R_alloc | apply Kd.R_drewN | apply Kd.R_drew)); exact HO_9.out))) (g := gb232) (o := .cells #[.string ((rd_T61 l0 (ji29)).f0), .string ((rd_T65 ((rd_T61 l0 (ji29)).f3) (ji37)).f0)] 73 (0, 0)) (by (with_reducible repeat (first | refine blk_drewN ?_ _ | refine blk_drew ?_ | refine blk_alloc ?_ _)); exact BK232.out)) (below_size (by repeat (first | (with_reducible first | exact HB.out | apply below_alloc | apply pw_below_drewN | apply below_drew1 | refine below_set ?_ GE229.out | refine below_set ?_ GE232.out) | exact HB.out))))
                              have n2_ := Aside0.mk (blk_below (g := gb229) (o := .cells #[.string ((rd_T61 l0 (ji29)).f0), .bool ((rd_T61 l0 (ji29)).f1), .slice A228_2 ((rd_T61 l0 ji29).f2).length c228_2, .slice (some ad231) ((rd_T61 l0 ji29).f3).length c228_3, .slice A228_4 ((rd_T61 l0 ji29).f4).length c228_4, .slice A228_5 ((rd_T61 l0 ji29).f5).length c228_5, .slice A228_6 ((rd_T61 l0 ji29).f6).length c228_6] 61 (0, 0)) (by (with_reducible repeat (first | refine blk_drewN ?_ _ | refine blk_drew ?_ | refine blk_alloc ?_ _)); exact BK229.out) hb)
                              have n3_ := Aside0.mk (blk_below (g := gb232) (o := .cells #[.string ((rd_T61 l0 (ji29)).f0), .string ((rd_T65 ((rd_T61 l0 (ji29)).f3) (ji37)).f0)] 73 (0, 0)) (by (with_reducible repeat (first | refine blk_drewN ?_ _ | refine blk_drew ?_ | refine blk_alloc ?_ _)); exact BK232.out) hb)
                              have n4_ := Aside0.mk (below_step (by repeat (first | (with_reducible first | exact HB.out | apply below_alloc | apply pw_below_drewN | apply below_drew1 | refine below_set ?_ GE229.out | refine below_set ?_ GE232.out) | exact HB.out)) hb)
                              clear HO_9
                              clear BK229
                              clear BK232
                              clear HB
                              have HO_9 := n0_
                              have HO237 := n1_
                              have BK229 := n2_
                              have BK232 := n3_
                              have HB := n4_
                              clear n0_ n1_ n2_ n3_ n4_
                              clear hb ho59
                              obtain ⟨Ao60, co60, eo60⟩ := Kd.R_slice HO237.out
                              (first | subst eo60 | (injection eo60 with f1_ f2_ f3_; have f4_ := f1_.symm; have f5_ := f3_.symm; clear f1_ f2_ f3_; subst f4_; subst f5_))
                              refine hK.out _ _ ⟨(blk_cell BK232.out 0).trans rfl, (blk_cell BK232.out 1).trans rfl⟩ (fun hHeld => ?_)
                              clear hK K
                              refine norm_ (a' := ?_) ?_ ?_
                              rotate_left
                              · show Act.put _ (some 101) _ = _
                                simp only [Act.put, List.setIfInBounds_toArray, List.set_cons_zero, List.set_cons_succ, i64_w, i32_w]
                                rfl
                              refine one_ (i := 6) (N := some 102) #[true, true, true, true, true, true, true, true, true, true, true, false, false, false, false] rfl rfl (one_of HT_.out (by kernel_rfl)) (by decide) (fun K hK => ?_)
                              refine goes_ Try.func36 (by kernel_rfl) rfl #[.slice (some ad228) l0.length c0, .slice Ao60 y235.length co60] (by rfl) rfl rfl (by (try simp only [List.map_toArray, List.map_cons, List.map_nil]); first | done | rfl | (simp only [List.length_drop, List.length_take]; rfl)) ?_
                              with_reducible refine (cosignerlaw03_linked.calls k2 (fun k_ => k_ < w.heap.size) _ _ l0 _ _ y235 t238 _ ?side1 ?side2 ?side3 A54.out).mono ?_
                              (case side1 => exact Kd.V_mk HC0.out (Kd.F_below (Kd.C_F k61_heap HR0.out) (by repeat (first | (with_reducible first | exact HB.out | apply below_alloc | apply pw_below_drewN | apply below_drew1 | refine below_set ?_ GE229.out | refine below_set ?_ GE232.out) | exact HB.out))))
                              (case side2 => repeat (first | exact (Kd.R_reads' HO237.out).2.2 | (with_reducible refine Kd.C_alloc ?_ _) | (with_reducible refine Kd.C_drewN ?_ _) | (with_reducible refine Kd.C_drew ?_)))
                              (case side3 => exact (Kd.R_reads' HO237.out).2.1)
                              rintro e w61 ⟨v239, rfl, ho0, hb⟩
                              refine ⟨_, rfl, ?_⟩
                              have n0_ := Aside0.mk (Kd.R_below (by (with_reducible repeat (first | apply Kd.R_alloc | apply Kd.R_drewN | apply Kd.R_drew)); exact HO_9.out) hb)
                              have n1_ := Aside0.mk (Kd.R_below (by (with_reducible repeat (first | apply Kd.R_alloc | apply Kd.R_drewN | apply Kd.R_drew)); exact HO237.out) hb)
                              have n2_ := Aside0.mk (Kd.N_lower (Kd.N_mono (ok' := fun k_ => some k_ ≠ (.slice Ao14 t216.length co14 : Value).ownBlock ∧ some k_ ≠ (.slice Ao60 y235.length co60 : Value).ownBlock ∧ k_ ≠ gb229 ∧ k_ ≠ gb232) ho0 (fun k_ hk_ => ⟨Or.elim hk_ (fun hs_ => fun e_ => Nat.not_le.2 hs_ (Kd.R_base HO_9.out k_ e_.symm)) (fun hn_ => (Kd.fresh' (Kd.R_lt (by (with_reducible repeat (first | apply Kd.R_alloc | apply Kd.R_drewN | apply Kd.R_drew)); exact HO_9.out)) k_ hn_)), Or.elim hk_ (fun hs_ => fun e_ => Nat.not_le.2 hs_ (Kd.R_base HO237.out k_ e_.symm)) (fun hn_ => (Kd.fresh' (Kd.R_lt (by (with_reducible repeat (first | apply Kd.R_alloc | apply Kd.R_drewN | apply Kd.R_drew)); exact HO237.out)) k_ hn_)), Or.elim hk_ (fun hs_ => fun e_ => Nat.not_le.2 hs_ (by rw [e_]; exact GW229.out)) (fun hn_ => (Kd.freshB (g := gb229) (o := .cells #[.string ((rd_T61 l0 (ji29)).f0), .bool ((rd_T61 l0 (ji29)).f1), .slice A228_2 ((rd_T61 l0 ji29).f2).length c228_2, .slice (some ad231) ((rd_T61 l0 ji29).f3).length c228_3, .slice A228_4 ((rd_T61 l0 ji29).f4).length c228_4, .slice A228_5 ((rd_T61 l0 ji29).f5).length c228_5, .slice A228_6 ((rd_T61 l0 ji29).f6).length c228_6] 61 (0, 0)) (by (with_reducible repeat (first | refine blk_drewN ?_ _ | refine blk_drew ?_ | refine blk_alloc ?_ _)); exact BK229.out) k_ hn_)), Or.elim hk_ (fun hs_ => fun e_ => Nat.not_le.2 hs_ (by rw [e_]; exact GW232.out)) (fun hn_ => (Kd.freshB (g := gb232) (o := .cells #[.string ((rd_T61 l0 (ji29)).f0), .string ((rd_T65 ((rd_T61 l0 (ji29)).f3) (ji37)).f0)] 73 (0, 0)) (by (with_reducible repeat (first | refine blk_drewN ?_ _ | refine blk_drew ?_ | refine blk_alloc ?_ _)); exact BK232.out) k_ hn_))⟩)) (below_size (by repeat (first | (with_reducible first | exact HB.out | apply below_alloc | apply pw_below_drewN | apply below_drew1 | refine below_set ?_ GE229.out | refine below_set ?_ GE232.out) | exact HB.out))))
                              have n3_ := Aside0.mk (blk_below (g := gb229) (o := .cells #[.string ((rd_T61 l0 (ji29)).f0), .bool ((rd_T61 l0 (ji29)).f1), .slice A228_2 ((rd_T61 l0 ji29).f2).length c228_2, .slice (some ad231) ((rd_T61 l0 ji29).f3).length c228_3, .slice A228_4 ((rd_T61 l0 ji29).f4).length c228_4, .slice A228_5 ((rd_T61 l0 ji29).f5).length c228_5, .slice A228_6 ((rd_T61 l0 ji29).f6).length c228_6] 61 (0, 0)) (by (with_reducible repeat (first | refine blk_drewN ?_ _ | refine blk_drew ?_ | refine blk_alloc ?_ _)); exact BK229.out) hb)
                              have n4_ := Aside0.mk (blk_below (g := gb232) (o := .cells #[.string ((rd_T61 l0 (ji29)).f0), .string ((rd_T65 ((rd_T61 l0 (ji29)).f3) (ji37)).f0)] 73 (0, 0)) (by (with_reducible repeat (first | refine blk_drewN ?_ _ | refine blk_drew ?_ | refine blk_alloc ?_ _)); exact BK232.out) hb)
                              have n5_ := Aside0.mk (below_step (by repeat (first | (with_reducible first | exact HB.out | apply below_alloc | apply pw_below_drewN | apply below_drew1 | refine below_set ?_ GE229.out | refine below_set ?_ GE232.out) | exact HB.out)) hb)
                              clear HO_9
                              clear HO237
                              clear BK229
                              clear BK232
                              clear HB
                              have HO_9 := n0_
                              have HO237 := n1_
                              have HO240 := n2_
                              have BK229 := n3_
                              have BK232 := n4_
                              have HB := n5_
                              clear n0_ n1_ n2_ n3_ n4_ n5_
                              (try clear hb)
                              (try clear hb2)
                              (try clear hk)
                              (try clear hi)
                              (try clear ho0)
                              obtain ⟨Ao62, co62, eo62⟩ := Kd.N_slice HO240.out
                              (first | subst eo62 | (injection eo62 with f1_ f2_ f3_; have f4_ := f1_.symm; have f5_ := f3_.symm; clear f1_ f2_ f3_; subst f4_; subst f5_))
                              refine hK.out _ _ ⟨(blk_cell BK232.out 0).trans rfl, (blk_cell BK232.out 1).trans rfl⟩ (fun hHeld => ?_)
                              clear hK K
                              refine norm_ (a' := ?_) ?_ ?_
                              rotate_left
                              · show Act.put _ (some 102) _ = _
                                simp only [Act.put, List.setIfInBounds_toArray, List.set_cons_zero, List.set_cons_succ, i64_w, i32_w]
                                rfl
                              refine one_ (i := 11) (N := some 107) #[true, true, true, true, true, true, true, true, true, true, true, true, false, false, false] rfl rfl (one_of HT_.out (by kernel_rfl)) (by decide) (fun K hK => ?_)
                              refine goes_ Try.func33 (by kernel_rfl) rfl #[.slice Ao62 t238.length co62, .string ((rd_T61 l0 (ji29)).f0), .string ((rd_T65 ((rd_T61 l0 (ji29)).f3) (ji37)).f0)] (by rfl) rfl rfl (by (try simp only [List.map_toArray, List.map_cons, List.map_nil]); first | done | (simp only [hji29, hji37]; rfl) | rfl | (simp only [List.length_drop, List.length_take]; rfl)) ?_
                              with_reducible refine (cosignerlaw03_is.calls _ _ t238 ((rd_T61 l0 (ji29)).f0) ((rd_T65 ((rd_T61 l0 (ji29)).f3) (ji37)).f0) t241 _ ?side1 ?side2 A55.out).mono ?_
                              (case side1 => repeat (first | exact (Kd.N_reads' HO240.out).2.2 | (with_reducible refine Kd.C_alloc ?_ _) | (with_reducible refine Kd.C_drewN ?_ _) | (with_reducible refine Kd.C_drew ?_)))
                              (case side2 => exact (Kd.N_reads' HO240.out).2.1)
                              rintro e w63 ⟨rfl, hb⟩
                              refine ⟨_, rfl, ?_⟩
                              have n0_ := Aside0.mk (Kd.R_below (by (with_reducible repeat (first | apply Kd.R_alloc | apply Kd.R_drewN | apply Kd.R_drew)); exact HO_9.out) hb)
                              have n1_ := Aside0.mk (Kd.R_below (by (with_reducible repeat (first | apply Kd.R_alloc | apply Kd.R_drewN | apply Kd.R_drew)); exact HO237.out) hb)
                              have n2_ := Aside0.mk (Kd.N_below (by (with_reducible repeat (first | apply Kd.N_alloc | apply Kd.N_drewN | apply Kd.N_drew)); exact HO240.out) hb)
                              have n3_ := Aside0.mk (blk_below (g := gb229) (o := .cells #[.string ((rd_T61 l0 (ji29)).f0), .bool ((rd_T61 l0 (ji29)).f1), .slice A228_2 ((rd_T61 l0 ji29).f2).length c228_2, .slice (some ad231) ((rd_T61 l0 ji29).f3).length c228_3, .slice A228_4 ((rd_T61 l0 ji29).f4).length c228_4, .slice A228_5 ((rd_T61 l0 ji29).f5).length c228_5, .slice A228_6 ((rd_T61 l0 ji29).f6).length c228_6] 61 (0, 0)) (by (with_reducible repeat (first | refine blk_drewN ?_ _ | refine blk_drew ?_ | refine blk_alloc ?_ _)); exact BK229.out) hb)
                              have n4_ := Aside0.mk (blk_below (g := gb232) (o := .cells #[.string ((rd_T61 l0 (ji29)).f0), .string ((rd_T65 ((rd_T61 l0 (ji29)).f3) (ji37)).f0)] 73 (0, 0)) (by (with_reducible repeat (first | refine blk_drewN ?_ _ | refine blk_drew ?_ | refine blk_alloc ?_ _)); exact BK232.out) hb)
                              have n5_ := Aside0.mk (below_step (by repeat (first | (with_reducible first | exact HB.out | apply below_alloc | apply pw_below_drewN | apply below_drew1 | refine below_set ?_ GE229.out | refine below_set ?_ GE232.out) | exact HB.out)) hb)
                              clear HO_9
                              clear HO237
                              clear HO240
                              clear BK229
                              clear BK232
                              clear HB
                              have HO_9 := n0_
                              have HO237 := n1_
                              have HO240 := n2_
                              have BK229 := n3_
                              have BK232 := n4_
                              have HB := n5_
                              clear n0_ n1_ n2_ n3_ n4_ n5_
                              (try clear hb)
                              (try clear hb2)
                              (try clear hk)
                              (try clear hi)
                              refine hK.out _ _ ⟨(blk_cell BK232.out 0).trans rfl, (blk_cell BK232.out 1).trans rfl⟩ (fun hHeld => ?_)
                              clear hK K
                              refine norm_ (a' := ?_) ?_ ?_
                              rotate_left
                              · show Act.put _ (some 107) _ = _
                                simp only [Act.put, List.setIfInBounds_toArray, List.set_cons_zero, List.set_cons_succ, i64_w, i32_w]
                                rfl
                              refine pure_ (i := 12) (N := some 108) (v := ?_) (a' := ?_) #[true, true, true, true, true, true, true, true, true, true, true, true, true, false, false] rfl rfl (any_of HT_.out (by kernel_rfl)) (fun _ _ _ h => h) (Or.inl ⟨by rfl, ?_⟩) ?_ ?_
                              rotate_left
                              · intro w'
                                go_simp
                                with_reducible rfl
                              rotate_left
                              · simp only [Act.put, List.setIfInBounds_toArray, List.set_cons_zero, List.set_cons_succ, i64_w, i32_w]
                                rfl
                              refine pure_ (i := 13) (N := some 109) (v := ?_) (a' := ?_) #[true, true, true, true, true, true, true, true, true, true, true, true, true, true, false] rfl rfl (any_of HT_.out (by kernel_rfl)) (fun _ _ _ h => h) (Or.inl ⟨by rfl, ?_⟩) ?_ ?_
                              rotate_left
                              · intro w'
                                go_simp
                                with_reducible rfl
                              rotate_left
                              · simp only [Act.put, List.setIfInBounds_toArray, List.set_cons_zero, List.set_cons_succ, i64_w, i32_w]
                                rfl
                              refine pure_ (i := 14) (N := some 8) (v := ?_) (a' := ?_) #[true, true, true, true, true, true, true, true, true, true, true, true, true, true, true] rfl rfl (any_of HT_.out (by kernel_rfl)) (fun _ _ _ h => h) (Or.inl ⟨by rfl, ?_⟩) ?_ ?_
                              rotate_left
                              · intro w'
                                go_simp
                                with_reducible rfl
                              rotate_left
                              · simp only [Act.put, List.setIfInBounds_toArray, List.set_cons_zero, List.set_cons_succ, i64_w, i32_w]
                                rfl
                              refine done_ (done_of HT_.out (by kernel_rfl)) ?_
                              try go_wp2
                              go_ret
                              exact ⟨by first | rfl | (simp [errW_none, errW_some] <;> rfl) | (simp only [← hji29, ← hji37]; first | rfl | (simp [errW_none, errW_some] <;> rfl)) | (simp [*, errW_none, errW_some] <;> rfl), by repeat (first | (with_reducible first | exact HB.out | apply below_alloc | apply pw_below_drewN | apply below_drew1 | refine below_set ?_ GE229.out | refine below_set ?_ GE232.out) | exact HB.out)⟩
                            · replace c53 := Bool.eq_false_iff.mpr c53
                              subst c53
                              have H1 : (some false) = some r := by rw [if_neg (show ¬ (false = true) by decide)] at H; exact H
                              clear H
                              have H := H1
                              clear H1
                              obtain rfl := Option.some.inj H
                              try go_wp2
                              have n0_ := Aside0.mk (Kd.R_drew HO_9.out)
                              have n1_ := Aside0.mk (blk_drew BK229.out)
                              have n2_ := Aside0.mk (blk_drew BK232.out)
                              have n3_ := Aside0.mk (below_drew1 HB.out)
                              clear HO_9
                              clear BK229
                              clear BK232
                              clear HB
                              have HO_9 := n0_
                              have BK229 := n1_
                              have BK232 := n2_
                              have HB := n3_
                              clear n0_ n1_ n2_ n3_
                              refine start_ (n := 15) (S := fun w' => True) (ds := []) #[false, false, false, false, false, false, false, false, false, false, false, false, false, false, false] (by kernel_rfl) rfl rfl trivial (fun hHeld => ?_); refine with_tabW cosignerlaw03_HeirReduces.tab18 cosignerlaw03_HeirReduces.bits18 (fun HT_ HW_ => ?_)
                              generalize wr.drew = w64 at HO_9 BK229 BK232 HB hHeld ⊢
                              refine one_ (i := 0) (N := some 96) #[true, false, false, false, false, false, false, false, false, false, false, false, false, false, false] rfl rfl (one_of HT_.out (by kernel_rfl)) (by decide) (fun K hK => ?_)
                              refine goes_ Try.func16 (by kernel_rfl) rfl #[] (by rfl) rfl rfl (by (try simp only [List.map_toArray, List.map_cons, List.map_nil]); first | done | rfl | (simp only [List.length_drop, List.length_take]; rfl)) ?_
                              with_reducible refine (cosignerlaw03_sanity.calls  false _ A52.out).mono ?_
                              rintro e w65 ⟨rfl, hb⟩
                              refine ⟨_, rfl, ?_⟩
                              have n0_ := Aside0.mk (Kd.R_below (by (with_reducible repeat (first | apply Kd.R_alloc | apply Kd.R_drewN | apply Kd.R_drew)); exact HO_9.out) hb)
                              have n1_ := Aside0.mk (blk_below (g := gb229) (o := .cells #[.string ((rd_T61 l0 (ji29)).f0), .bool ((rd_T61 l0 (ji29)).f1), .slice A228_2 ((rd_T61 l0 ji29).f2).length c228_2, .slice (some ad231) ((rd_T61 l0 ji29).f3).length c228_3, .slice A228_4 ((rd_T61 l0 ji29).f4).length c228_4, .slice A228_5 ((rd_T61 l0 ji29).f5).length c228_5, .slice A228_6 ((rd_T61 l0 ji29).f6).length c228_6] 61 (0, 0)) (by (with_reducible repeat (first | refine blk_drewN ?_ _ | refine blk_drew ?_ | refine blk_alloc ?_ _)); exact BK229.out) hb)
                              have n2_ := Aside0.mk (blk_below (g := gb232) (o := .cells #[.string ((rd_T61 l0 (ji29)).f0), .string ((rd_T65 ((rd_T61 l0 (ji29)).f3) (ji37)).f0)] 73 (0, 0)) (by (with_reducible repeat (first | refine blk_drewN ?_ _ | refine blk_drew ?_ | refine blk_alloc ?_ _)); exact BK232.out) hb)
                              have n3_ := Aside0.mk (below_step (by repeat (first | (with_reducible first | exact HB.out | apply below_alloc | apply pw_below_drewN | apply below_drew1 | refine below_set ?_ GE229.out | refine below_set ?_ GE232.out) | exact HB.out)) hb)
                              clear HO_9
                              clear BK229
                              clear BK232
                              clear HB
                              have HO_9 := n0_
                              have BK229 := n1_
                              have BK232 := n2_
                              have HB := n3_
                              clear n0_ n1_ n2_ n3_
                              (try clear hb)
                              (try clear hb2)
                              (try clear hk)
                              (try clear hi)
                              refine hK.out _ _ trivial (fun hHeld => ?_)
                              clear hK K
                              refine norm_ (a' := ?_) ?_ ?_
                              rotate_left
                              · show Act.put _ (some 96) _ = _
                                simp only [Act.put, List.setIfInBounds_toArray, List.set_cons_zero, List.set_cons_succ, i64_w, i32_w]
                                rfl
                              refine pure_ (i := 1) (N := some 97) (v := ?_) (a' := ?_) #[true, true, false, false, false, false, false, false, false, false, false, false, false, false, false] rfl rfl (any_of HT_.out (by kernel_rfl)) (fun _ _ _ h => h) (Or.inl ⟨by rfl, ?_⟩) ?_ ?_
                              rotate_left
                              · intro w'
                                go_simp
                                with_reducible rfl
                              rotate_left
                              · simp only [Act.put, List.setIfInBounds_toArray, List.set_cons_zero, List.set_cons_succ, i64_w, i32_w]
                                rfl
                              refine pure_ (i := 2) (N := some 98) (v := undef) (a' := ?_) #[true, true, true, false, false, false, false, false, false, false, false, false, false, false, false] rfl rfl (any_of HT_.out (by kernel_rfl)) (fun _ _ _ h => h) (Or.inr ⟨by rfl, rfl⟩) ?_ ?_
                              rotate_left
                              · simp only [Act.put, List.setIfInBounds_toArray, List.set_cons_zero, List.set_cons_succ, i64_w, i32_w]
                                rfl
                              refine pure_ (i := 3) (N := some 99) (v := undef) (a' := ?_) #[true, true, true, true, false, false, false, false, false, false, false, false, false, false, false] rfl rfl (any_of HT_.out (by kernel_rfl)) (fun _ _ _ h => h) (Or.inr ⟨by rfl, rfl⟩) ?_ ?_
                              rotate_left
                              · simp only [Act.put, List.setIfInBounds_toArray, List.set_cons_zero, List.set_cons_succ, i64_w, i32_w]
                                rfl
                              refine pure_ (i := 4) (N := some 100) (v := undef) (a' := ?_) #[true, true, true, true, true, false, false, false, false, false, false, false, false, false, false] rfl rfl (any_of HT_.out (by kernel_rfl)) (fun _ _ _ h => h) (Or.inr ⟨by rfl, rfl⟩) ?_ ?_
                              rotate_left
                              · simp only [Act.put, List.setIfInBounds_toArray, List.set_cons_zero, List.set_cons_succ, i64_w, i32_w]
                                rfl
                              refine pure_ (i := 5) (N := some 101) (v := undef) (a' := ?_) #[true, true, true, true, true, true, false, false, false, false, false, false, false, false, false] rfl rfl (any_of HT_.out (by kernel_rfl)) (fun _ _ _ h => h) (Or.inr ⟨by rfl, rfl⟩) ?_ ?_
                              rotate_left
                              · simp only [Act.put, List.setIfInBounds_toArray, List.set_cons_zero, List.set_cons_succ, i64_w, i32_w]
                                rfl
                              refine pure_ (i := 6) (N := some 102) (v := undef) (a' := ?_) #[true, true, true, true, true, true, true, false, false, false, false, false, false, false, false] rfl rfl (any_of HT_.out (by kernel_rfl)) (fun _ _ _ h => h) (Or.inr ⟨by rfl, rfl⟩) ?_ ?_
                              rotate_left
                              · simp only [Act.put, List.setIfInBounds_toArray, List.set_cons_zero, List.set_cons_succ, i64_w, i32_w]
                                rfl
                              refine pure_ (i := 7) (N := some 103) (v := undef) (a' := ?_) #[true, true, true, true, true, true, true, true, false, false, false, false, false, false, false] rfl rfl (any_of HT_.out (by kernel_rfl)) (fun _ _ _ h => h) (Or.inr ⟨by rfl, rfl⟩) ?_ ?_
                              rotate_left
                              · simp only [Act.put, List.setIfInBounds_toArray, List.set_cons_zero, List.set_cons_succ, i64_w, i32_w]
                                rfl
                              refine pure_ (i := 8) (N := some 104) (v := undef) (a' := ?_) #[true, true, true, true, true, true, true, true, true, false, false, false, false, false, false] rfl rfl (any_of HT_.out (by kernel_rfl)) (fun _ _ _ h => h) (Or.inr ⟨by rfl, rfl⟩) ?_ ?_
                              rotate_left
                              · simp only [Act.put, List.setIfInBounds_toArray, List.set_cons_zero, List.set_cons_succ, i64_w, i32_w]
                                rfl
                              refine pure_ (i := 9) (N := some 105) (v := undef) (a' := ?_) #[true, true, true, true, true, true, true, true, true, true, false, false, false, false, false] rfl rfl (any_of HT_.out (by kernel_rfl)) (fun _ _ _ h => h) (Or.inr ⟨by rfl, rfl⟩) ?_ ?_
                              rotate_left
                              · simp only [Act.put, List.setIfInBounds_toArray, List.set_cons_zero, List.set_cons_succ, i64_w, i32_w]
                                rfl
                              refine pure_ (i := 10) (N := some 106) (v := undef) (a' := ?_) #[true, true, true, true, true, true, true, true, true, true, true, false, false, false, false] rfl rfl (any_of HT_.out (by kernel_rfl)) (fun _ _ _ h => h) (Or.inr ⟨by rfl, rfl⟩) ?_ ?_
                              rotate_left
                              · simp only [Act.put, List.setIfInBounds_toArray, List.set_cons_zero, List.set_cons_succ, i64_w, i32_w]
                                rfl
                              refine pure_ (i := 11) (N := some 107) (v := undef) (a' := ?_) #[true, true, true, true, true, true, true, true, true, true, true, true, false, false, false] rfl rfl (any_of HT_.out (by kernel_rfl)) (fun _ _ _ h => h) (Or.inr ⟨by rfl, rfl⟩) ?_ ?_
                              rotate_left
                              · simp only [Act.put, List.setIfInBounds_toArray, List.set_cons_zero, List.set_cons_succ, i64_w, i32_w]
                                rfl
                              refine pure_ (i := 12) (N := some 108) (v := undef) (a' := ?_) #[true, true, true, true, true, true, true, true, true, true, true, true, true, false, false] rfl rfl (any_of HT_.out (by kernel_rfl)) (fun _ _ _ h => h) (Or.inr ⟨by rfl, rfl⟩) ?_ ?_
                              rotate_left
                              · simp only [Act.put, List.setIfInBounds_toArray, List.set_cons_zero, List.set_cons_succ, i64_w, i32_w]
                                rfl
                              refine pure_ (i := 13) (N := some 109) (v := ?_) (a' := ?_) #[true, true, true, true, true, true, true, true, true, true, true, true, true, true, false] rfl rfl (any_of HT_.out (by kernel_rfl)) (fun _ _ _ h => h) (Or.inl ⟨by rfl, ?_⟩) ?_ ?_
                              rotate_left
                              · intro w'
                                go_simp
                                with_reducible rfl
                              rotate_left
                              · simp only [Act.put, List.setIfInBounds_toArray, List.set_cons_zero, List.set_cons_succ, i64_w, i32_w]
                                rfl
                              refine pure_ (i := 14) (N := some 8) (v := ?_) (a' := ?_) #[true, true, true, true, true, true, true, true, true, true, true, true, true, true, true] rfl rfl (any_of HT_.out (by kernel_rfl)) (fun _ _ _ h => h) (Or.inl ⟨by rfl, ?_⟩) ?_ ?_
                              rotate_left
                              · intro w'
                                go_simp
                                with_reducible rfl
                              rotate_left
                              · simp only [Act.put, List.setIfInBounds_toArray, List.set_cons_zero, List.set_cons_succ, i64_w, i32_w]
                                rfl
                              refine done_ (done_of HT_.out (by kernel_rfl)) ?_
                              try go_wp2
                              go_ret
                              exact ⟨by first | rfl | (simp [errW_none, errW_some] <;> rfl) | (simp only [← hji29, ← hji37]; first | rfl | (simp [errW_none, errW_some] <;> rfl)) | (simp [*, errW_none, errW_some] <;> rfl), by repeat (first | (with_reducible first | exact HB.out | apply below_alloc | apply pw_below_drewN | apply below_drew1 | refine below_set ?_ GE229.out | refine below_set ?_ GE232.out) | exact HB.out)⟩
                    · rw [if_neg c39] at H
                      exact absurd H (by simp)
                  · rw [if_neg c38] at H
                    exact absurd H (by simp)
              · rw [if_neg c31] at H
                exact absurd H (by simp)
            · rw [if_neg c30] at H
              exact absurd H (by simp)
  · replace c6 := Bool.eq_false_iff.mpr c6
    subst c6
    have H1 : ((cosignerlaw03_sanity.f).bind fun t215 => (some t215)) = some r := by rw [if_neg (show ¬ (false = true) by decide)] at H; exact H
    clear H
    have H := H1
    clear H1
    replace H := Option.bind_eq_some_iff.mp H
    obtain ⟨t215, A660, H⟩ := H
    replace H : (some t215) = some r := H
    have A66 := Aside0.mk A660
    clear A660
    obtain rfl := Option.some.inj H
    go_enter Try.func8, Try.ntmps8
    go_wp2_with (first | ((with_reducible refine gate_callee (f := 30) rfl ?_); refine goesL_ (some 19) rfl rfl Try.func30 (by kernel_rfl) rfl #[.slice A0 l0.length c0] rfl (by (try simp only [List.map_toArray, List.map_cons, List.map_nil]); first | done | rfl | (simp only [List.length_drop, List.length_take]; rfl)) ?_; (with_reducible refine (cosignerlaw03_right.calls _ _ l0 false _ ?side1 ?side2 A5.out).mono ?_); (case side1 => repeat (first | exact HR0.out | (with_reducible refine Kd.C_alloc ?_ _) | (with_reducible refine Kd.C_drewN ?_ _) | (with_reducible refine Kd.C_drew ?_))); (case side2 => exact HC0.out); rintro e w67 ⟨rfl, hb⟩; refine ⟨_, rfl, ?_⟩; have n0_ := Aside0.mk (below_step (by repeat (first | (with_reducible first | exact HB.out | apply below_alloc | apply pw_below_drewN | apply below_drew1) | exact HB.out)) hb); clear HB; have HB := n0_; clear n0_; (try clear hb); (try clear hb2); (try clear hk); (try clear hi)) | ((with_reducible refine gate_callee (f := 16) rfl ?_); refine goesL_ (some 21) rfl rfl Try.func16 (by kernel_rfl) rfl #[] rfl (by (try simp only [List.map_toArray, List.map_cons, List.map_nil]); first | done | rfl | (simp only [List.length_drop, List.length_take]; rfl)) ?_; (with_reducible refine (cosignerlaw03_sanity.calls  t215 _ A66.out).mono ?_); rintro e w68 ⟨rfl, hb⟩; refine ⟨_, rfl, ?_⟩; have n0_ := Aside0.mk (below_step (by repeat (first | (with_reducible first | exact HB.out | apply below_alloc | apply pw_below_drewN | apply below_drew1) | exact HB.out)) hb); clear HB; have HB := n0_; clear n0_; (try clear hb); (try clear hb2); (try clear hk); (try clear hi)))
    go_ret
    exact ⟨by first | rfl | (simp [errW_none, errW_some] <;> rfl) | (simp [*, errW_none, errW_some] <;> rfl), by repeat (first | (with_reducible first | exact HB.out | apply below_alloc | apply pw_below_drewN | apply below_drew1) | exact HB.out)⟩
end Go.Proofs.Ytdljclokenoogaa.Hp
end
section
namespace Go.Proofs.Ytdljclokenoogaa.Hw
open Go.RowKit Go.Proofs.Ytdljclokenoogaa.Hp Go.Proofs.YtdljclokenoogaaW.PrintWords Go.Proofs.YtdljclokenoogaaW.PrintLast Go.Proofs.YtdljclokenoogaaW.PrintMore
def keepB (gone : List S73) (c p : ByteArray) : Bool := !gone.any (fun g => decide (g.f0 = c) && decide (g.f1 = p))
def cut (gone : List S73) (x : S61) : S61 := ⟨x.f0, false, [], x.f3.filter (fun p => keepB gone x.f0 p.f0), [], [], []⟩
def linkedOf (l : List S61) (gone : List S73) : List S61 := l.map (cut gone)
section
variable {l : List S61} {gone : List S73}
theorem linked_len : (linkedOf l gone).length = l.length := List.length_map _
theorem linked_names : names (linkedOf l gone) = names l := by
  unfold names linkedOf; rw [List.map_map]; rfl
theorem linked_idx (k : ByteArray) : idx (linkedOf l gone) k = idx l k := by
  induction l with
  | nil => rfl
  | cons a l ih =>
    show (if k = a.f0 then some 0 else (idx (linkedOf l gone) k).map (· + 1)) = _
    rw [ih]; rfl
theorem linked_rd {j : Nat} (hj : j < l.length) : rd_T61 (linkedOf l gone) (j : Int) = cut gone (rd_T61 l (j : Int)) := by
  simp [rd_T61, linkedOf, hj]
theorem linked_ups (c : ByteArray) : ups (linkedOf l gone) c = (ups l c).filter (keepB gone c) := by
  unfold ups
  rw [linked_idx]
  cases hi : idx l c with
  | none => rfl
  | some i =>
    have hil := idx_lt hi
    have hn := idx_place hi
    have hc : (rd_T61 l (i : Int)).f0 = c := by rw [rd_name hil] at hn; exact Option.some.inj hn
    simp only [linked_rd hil, cut, linked_idx, hc]
    rw [List.filter_filter]
    have h1 : ((rd_T61 l (i : Int)).f3.filter (fun p => keepB gone c p.f0)).map (·.f0) = ((rd_T61 l (i : Int)).f3.map (·.f0)).filter (keepB gone c) := by
      rw [List.filter_map]; rfl
    rw [h1, List.filter_filter]
    exact List.filter_congr (fun x _ => Bool.and_comm _ _)
theorem mem_linked {c p : ByteArray} : p ∈ ups (linkedOf l gone) c ↔ p ∈ ups l c ∧ keepB gone c p = true := by rw [linked_ups, List.mem_filter]
theorem alone_parts {j : Nat} (h : aloneOf l j = 0) : (rd_T61 l (j : Int)).f3.length ≤ 4 ∧ isName (rd_T61 l (j : Int)).f0 = true ∧ ¬ ((idx l (rd_T61 l (j : Int)).f0).getD 0 < j) ∧ dupB ((rd_T61 l (j : Int)).f3.map (·.f0)) = false := by
  unfold aloneOf at h
  split at h
  · cases h
  · split at h
    · cases h
    · split at h
      · cases h
      · rename_i h1 h2 h3
        refine ⟨by omega, by simpa using h2, fun e => h3 (.inl e), ?_⟩
        cases hd : dupB ((rd_T61 l (j : Int)).f3.map (·.f0)) with
        | false => rfl
        | true => exact absurd (.inr hd) h3
theorem Good.linked (h : Good l) : Good (linkedOf l gone) := by
  obtain ⟨h1, h2, h3, h4⟩ := checkOk h.ok
  have ha : ∀ j, j < (linkedOf l gone).length → aloneOf (linkedOf l gone) j = 0 := by
    intro j hj
    rw [linked_len] at hj
    obtain ⟨p1, p2, p3, p4⟩ := alone_parts (h2 j hj)
    unfold aloneOf
    rw [linked_rd hj, linked_idx]
    have hle := List.length_filter_le (fun p => keepB gone (rd_T61 l (j : Int)).f0 p.f0) (rd_T61 l (j : Int)).f3
    have hnd : dupB ((cut gone (rd_T61 l (j : Int))).f3.map (·.f0)) = false := by
      rw [dupB_iff] at p4 ⊢
      refine List.Nodup.sublist ?_ p4
      exact (List.filter_sublist).map _
    rw [if_neg (by show ¬ 4 < ((rd_T61 l (j : Int)).f3.filter _).length; omega), if_neg (by show ¬ isName (rd_T61 l (j : Int)).f0 = false; rw [p2]; decide), if_neg]
    rintro (e | e)
    · exact p3 e
    · rw [hnd] at e; cases e
  have hb : ∀ j, j < (linkedOf l gone).length → lonelyOf (linkedOf l gone) j = false := by
    intro j hj
    rw [linked_len] at hj
    unfold lonelyOf
    rw [linked_rd hj, List.any_eq_false]
    intro p hp
    rw [linked_idx]
    have h5 := h3 j hj
    unfold lonelyOf at h5
    exact List.any_eq_false.1 h5 p (List.mem_filter.1 hp).1
  have hr : ringOf (linkedOf l gone) = [] := by
    obtain ⟨rk, hrk, _⟩ := h.rank
    refine ringOf_nil.2 (fun c _ p hp => distF_none.2 (fun n _ hn => ?_))
    have h5 := rank_reach hrk n p c (reach_mono (fun c p hp => (mem_linked.1 hp).1) hn)
    have h6 := hrk c p (mem_linked.1 hp).1
    omega
  refine ⟨?_, by rw [linked_len]; exact h.pos⟩
  rw [checkOf_ring (by rw [linked_len]; exact h1) ha hb, hr]
theorem mem_spare {c p : ByteArray} : (⟨c, p⟩ : S73) ∈ (names l).flatMap (fun c => spareOf l c (ups l c)) ↔ p ∈ ups l c ∧ spareB (ups l) (l.length + 1) c p = true := by
  rw [List.mem_flatMap]
  constructor
  · rintro ⟨d, hd, hm⟩
    unfold spareOf at hm
    obtain ⟨q, hq, e⟩ := List.mem_map.1 hm
    injection e with e1 e2
    subst e1; subst e2
    exact List.mem_filter.1 hq
  · rintro ⟨h1, h2⟩
    exact ⟨c, (ups_mem h1).1, List.mem_map.2 ⟨p, List.mem_filter.2 ⟨h1, h2⟩, rfl⟩⟩
theorem keepB_iff {c p : ByteArray} : keepB gone c p = true ↔ ¬ (⟨c, p⟩ : S73) ∈ gone := by
  unfold keepB
  rw [Bool.not_eq_true', List.any_eq_false]
  constructor
  · intro h1 hm; exact h1 _ hm (by simp)
  · intro h1 g hg e
    obtain ⟨e1, e2⟩ : g.f0 = c ∧ g.f1 = p := by simpa using e
    refine h1 ?_
    rw [← e1, ← e2]
    exact hg
theorem Good.reduced (h : Good l) (c a : ByteArray) : memS (anc (linkedOf l ((names l).flatMap (fun c => spareOf l c (ups l c)))) c) a = memS (anc l c) a := by
  obtain ⟨rk, hrk, hn⟩ := h.rank
  rw [Bool.eq_iff_iff, h.linked.anc_iff, h.anc_iff]
  constructor
  · rintro ⟨m, hm⟩; exact ⟨m, reach_mono (fun c p hp => (mem_linked.1 hp).1) hm⟩
  · intro hm
    refine reduce_same hrk (fun c p hp hno => mem_linked.2 ⟨hp, keepB_iff.2 (fun hs => hno ?_)⟩) (rk c) c a rfl hm
    exact (spareB_iff hrk hn).1 (mem_spare.1 hs).2
theorem Good.single (h : Good l) {c p : ByteArray} (hp : p ∈ ups l c) : memS (anc (linkedOf l [⟨c, p⟩]) c) p = spareB (ups l) (l.length + 1) c p := by
  obtain ⟨rk, hrk, hn⟩ := h.rank
  rw [Bool.eq_iff_iff, h.linked.anc_iff, spareB_iff hrk hn]
  refine (single_spare hrk hp (fun d q => ?_)).symm
  rw [mem_linked, keepB_iff]
  simp
end
theorem wrap_succ (n : Nat) (h : n ≤ 1000000000) : wrap64 ((n : Int) + 1) = ((n + 1 : Nat) : Int) := by rw [wrap64_of_range _ (by omega) (by omega)]; push_cast; rfl
theorem link_eq (g : S73) (c p : ByteArray) : ((g.f0.toList == c.toList) && (g.f1.toList == p.toList)) = (decide (g.f0 = c) && decide (g.f1 = p)) := by rw [toList_beq, toList_beq]
section
variable {l : List S61} {gone : List S73} (hg : gone.length ≤ 1000) (hl : l.length ≤ 24) (h4 : ∀ j, j < l.length → (rd_T61 l (j : Int)).f3.length ≤ 4)
include hg hl h4
omit hl in
theorem linked_l2 {i j : Nat} (hi : i < l.length) (hj : j < (rd_T61 l (i : Int)).f3.length) (acc : List S61) (nm : ByteArray) (b : Bool) (ps : List S65) (hps : ps.length ≤ 4) :
    ∀ (d y k : Nat) (left : Bool), gone.length - y = d → y ≤ gone.length →
      cosignerlaw03_linked.l2 (k + d + 1) l gone acc (i : Int) (j : Int) left (y : Int) nm b ps = cosignerlaw03_linked.l1 k l gone acc (i : Int) ((j + 1 : Nat) : Int) nm b (if left && (gone.drop y).all (fun g => !(decide (g.f0 = nm) && decide (g.f1 = (rd_T65 (rd_T61 l (i : Int)).f3 (j : Int)).f0))) then ps ++ [rd_T65 (rd_T61 l (i : Int)).f3 (j : Int)] else ps) := by
  have hj4 := h4 i hi
  have a3 : (0 : Int) ≤ (i : Int) := by omega
  have a4 : (i : Int) < (l.length : Int) := by omega
  have a5 : (0 : Int) ≤ (j : Int) := by omega
  have a6 : (j : Int) < ((rd_T61 l (i : Int)).f3.length : Int) := by omega
  have hjs : j ≤ 1000000000 := by omega
  intro d
  induction d with
  | zero =>
    intro y k left hd hy
    have e : y = gone.length := by omega
    rw [Nat.add_zero, cosignerlaw03_linked.l2, if_neg (by omega), e, List.drop_length, wrap_succ j hjs]
    cases left with
    | false => rw [if_neg (by decide)]; simp
    | true => rw [if_pos rfl, if_pos a3, if_pos a4, if_pos a5, if_pos a6, if_pos (Nat.lt_of_le_of_lt hps (by decide))]; simp
  | succ d ih =>
    intro y k left hd hy
    have hyl : y < gone.length := by omega
    have hys : y ≤ 1000000000 := by omega
    have a1 : (y : Int) < (gone.length : Int) := by omega
    have a2 : (0 : Int) ≤ (y : Int) := by omega
    have ih1 := fun left => ih (y + 1) k left (by omega) hyl
    clear ih
    have ey : rd_T73 gone (y : Int) = gone[y] := by simp [rd_T73, hyl]
    rw [show k + (d + 1) + 1 = (k + d + 1) + 1 by omega, cosignerlaw03_linked.l2, if_pos a1, if_pos a2, if_pos a3, if_pos a4, if_pos a5, if_pos a6, wrap_succ y hys, ey, link_eq, ih1, ih1, List.drop_eq_getElem_cons hyl, List.all_cons]
    cases (decide (gone[y].f0 = nm) && decide (gone[y].f1 = (rd_T65 (rd_T61 l (i : Int)).f3 (j : Int)).f0)) with
    | true => rw [if_pos rfl]; simp
    | false => rw [if_neg (by decide)]; simp
def leftP (gone : List S73) (nm : ByteArray) (ps : List S65) : List S65 := ps.filter (fun p => keepB gone nm p.f0)
omit hg hl h4 in
theorem all_keep (nm q : ByteArray) : gone.all (fun g => !(decide (g.f0 = nm) && decide (g.f1 = q))) = keepB gone nm q := by
  unfold keepB
  rw [List.not_any_eq_all_not]
theorem linked_l1 {i : Nat} (hi : i < l.length) (acc : List S61) (hacc : acc.length ≤ 1000) (nm : ByteArray) (b : Bool) :
    ∀ (d j k : Nat) (ps : List S65), (rd_T61 l (i : Int)).f3.length - j = d → j ≤ (rd_T61 l (i : Int)).f3.length → ps.length ≤ j →
      cosignerlaw03_linked.l1 (k + d * (gone.length + 2) + 1) l gone acc (i : Int) (j : Int) nm b ps = cosignerlaw03_linked.l0 k l gone (acc ++ [⟨nm, b, [], ps ++ leftP gone nm ((rd_T61 l (i : Int)).f3.drop j), [], [], []⟩]) ((i + 1 : Nat) : Int) := by
  have hj4 := h4 i hi
  have a3 : (0 : Int) ≤ (i : Int) := by omega
  have a4 : (i : Int) < (l.length : Int) := by omega
  have his : i ≤ 1000000000 := by omega
  intro d
  induction d with
  | zero =>
    intro j k ps hd hj hps
    have e : j = (rd_T61 l (i : Int)).f3.length := by omega
    have a5 : ¬ (j : Int) < ((rd_T61 l (i : Int)).f3.length : Int) := by omega
    have a6 : acc.length < 977343669134 := by omega
    rw [Nat.zero_mul, Nat.add_zero, cosignerlaw03_linked.l1, if_pos a3, if_pos a4, if_neg a5, if_pos a6, wrap_succ i his, e, List.drop_length]
    simp [leftP]
  | succ d ih =>
    intro j k ps hd hj hps
    have hjl : j < (rd_T61 l (i : Int)).f3.length := by omega
    have a5 : (j : Int) < ((rd_T61 l (i : Int)).f3.length : Int) := by omega
    have hps4 : ps.length ≤ 4 := by omega
    have e1 : k + (d + 1) * (gone.length + 2) + 1 = (k + d * (gone.length + 2) + 1 + gone.length + 1) + 1 := by rw [Nat.succ_mul]; omega
    have ej : rd_T65 (rd_T61 l (i : Int)).f3 (j : Int) = (rd_T61 l (i : Int)).f3[j] := by simp [rd_T65, hjl]
    have hl2 := linked_l2 hg h4 hi hjl acc nm b ps hps4 gone.length 0 (k + d * (gone.length + 2) + 1) true (Nat.sub_zero _) (Nat.zero_le _)
    have e0 : ((0 : Nat) : Int) = 0 := rfl
    rw [e0, List.drop_zero, Bool.true_and, all_keep, ej] at hl2
    have hd1 : (rd_T61 l (i : Int)).f3.length - (j + 1) = d := by omega
    rw [e1, cosignerlaw03_linked.l1, if_pos a3, if_pos a4, if_pos a5, hl2]
    have hdrop : (rd_T61 l (i : Int)).f3.drop j = (rd_T61 l (i : Int)).f3[j] :: (rd_T61 l (i : Int)).f3.drop (j + 1) := List.drop_eq_getElem_cons hjl
    rw [hdrop]
    cases hk : keepB gone nm ((rd_T61 l (i : Int)).f3[j]).f0 with
    | true =>
      rw [if_pos rfl, ih (j + 1) k _ hd1 hjl (by rw [List.length_append, List.length_singleton]; omega)]
      unfold leftP
      rw [List.filter_cons, hk, if_pos rfl, List.append_assoc, List.singleton_append]
    | false =>
      rw [if_neg (by decide), ih (j + 1) k _ hd1 hjl (by omega)]
      unfold leftP
      rw [List.filter_cons, hk, if_neg (by decide)]
def costL (gone : List S73) (xs : List S61) : Nat := (xs.map (fun x => x.f3.length * (gone.length + 2) + 2)).sum
theorem linked_l0 : ∀ (d i k : Nat) (acc : List S61), l.length - i = d → i ≤ l.length → acc.length = i →
    cosignerlaw03_linked.l0 (k + costL gone (l.drop i) + 1) l gone acc (i : Int) = some (acc ++ (l.drop i).map (cut gone)) := by
  intro d
  induction d with
  | zero =>
    intro i k acc hd hi hacc
    have e : i = l.length := by omega
    have a1 : ¬ (i : Int) < (l.length : Int) := by omega
    rw [cosignerlaw03_linked.l0, if_neg a1, e, List.drop_length]
    simp
  | succ d ih =>
    intro i k acc hd hi hacc
    have hil : i < l.length := by omega
    have a1 : (i : Int) < (l.length : Int) := by omega
    have a2 : (0 : Int) ≤ (i : Int) := by omega
    have ei : rd_T61 l (i : Int) = l[i] := by simp [rd_T61, hil]
    have hdrop : l.drop i = l[i] :: l.drop (i + 1) := List.drop_eq_getElem_cons hil
    have hcost : costL gone (l.drop i) = (rd_T61 l (i : Int)).f3.length * (gone.length + 2) + 2 + costL gone (l.drop (i + 1)) := by
      unfold costL; rw [hdrop, List.map_cons, List.sum_cons, ei]
    have h1 := linked_l1 hg hl h4 hil acc (by omega) (rd_T61 l (i : Int)).f0 false (rd_T61 l (i : Int)).f3.length 0 (k + costL gone (l.drop (i + 1)) + 1) [] (Nat.sub_zero _) (Nat.zero_le _) (Nat.zero_le _)
    have e0 : ((0 : Nat) : Int) = 0 := rfl
    rw [e0, List.drop_zero, List.nil_append] at h1
    have e1 : k + costL gone (l.drop i) + 1 = (k + costL gone (l.drop (i + 1)) + 1 + (rd_T61 l (i : Int)).f3.length * (gone.length + 2) + 1) + 1 := by rw [hcost]; omega
    rw [e1, cosignerlaw03_linked.l0, if_pos a1, if_pos a2, h1, ih (i + 1) k _ (by omega) hil (by simp [hacc]), hdrop, ei, List.map_cons, List.append_assoc, List.singleton_append]
    rfl
theorem linked_val (k : Nat) (hk : 30000 ≤ k) (hg2 : gone.length ≤ 200) : cosignerlaw03_linked.f k l gone = some (linkedOf l gone) := by
  have hb : costL gone l ≤ 24 * (4 * 202 + 2) := by
    unfold costL
    refine Nat.le_trans (sum_le (b := 4 * 202 + 2) _ (fun x hx => ?_)) (Nat.mul_le_mul_right _ (by rw [List.length_map]; exact hl))
    obtain ⟨y, hy, rfl⟩ := List.mem_map.1 hx
    obtain ⟨j, hj, rfl⟩ := List.mem_iff_getElem.1 hy
    have h5 := h4 j hj
    have ej : rd_T61 l (j : Int) = l[j] := by simp [rd_T61, hj]
    rw [ej] at h5
    have h6 : l[j].f3.length * (gone.length + 2) ≤ 4 * 202 := Nat.mul_le_mul h5 (by omega)
    show l[j].f3.length * (gone.length + 2) + 2 ≤ _
    omega
  obtain ⟨k', rfl⟩ : ∃ k', k = k' + costL gone l + 1 := ⟨k - costL gone l - 1, by omega⟩
  have h1 := linked_l0 hg hl h4 l.length 0 k' [] (Nat.sub_zero _) (Nat.zero_le _) rfl
  rw [List.drop_zero, List.nil_append] at h1
  exact h1
end
end Go.Proofs.Ytdljclokenoogaa.Hw
end
section
namespace Go.Proofs.Ytdljclokenoogaa.Hw
open Go.RowKit Go.Proofs.Ytdljclokenoogaa.Hp Go.Proofs.YtdljclokenoogaaW.PrintWords Go.Proofs.YtdljclokenoogaaW.PrintLast Go.Proofs.YtdljclokenoogaaW.PrintMore
def spareL (l : List S61) : List S73 := (names l).flatMap (fun c => spareOf l c (ups l c))
theorem reduces_l0 (l : List S61) (sp : List S73) (hsp : sp.length ≤ 200) (c p : ByteArray) : ∀ (d y k : Nat) (s : Bool), sp.length - y = d → y ≤ sp.length →
    cosignerlaw03_HeirReduces.l0 (k + d) l sp s (y : Int) c p = cosignerlaw03_HeirReduces.l0 k l sp (s || (sp.drop y).any (fun g => decide (g.f0 = c) && decide (g.f1 = p))) (sp.length : Int) c p := by
  intro d
  induction d with
  | zero =>
    intro y k s hd hy
    have e : y = sp.length := by omega
    rw [e, List.drop_length]
    simp
  | succ d ih =>
    intro y k s hd hy
    have hyl : y < sp.length := by omega
    have a1 : (y : Int) < (sp.length : Int) := by omega
    have a2 : (0 : Int) ≤ (y : Int) := by omega
    have hys : y ≤ 1000000000 := by omega
    have ey : rd_T73 sp (y : Int) = sp[y] := by simp [rd_T73, hyl]
    have ih1 := fun s => ih (y + 1) k s (by omega) hyl
    have hdrop : sp.drop y = sp[y] :: sp.drop (y + 1) := List.drop_eq_getElem_cons hyl
    rw [show k + (d + 1) = (k + d) + 1 by omega]
    conv => lhs; rw [cosignerlaw03_HeirReduces.l0]
    rw [if_pos a1, wrap_succ y hys, ey, link_eq, hdrop, List.any_cons]
    cases s with
    | true => rw [if_pos rfl, ih1]; simp
    | false => rw [if_neg (by decide), if_pos a2, ih1, Bool.false_or]
theorem Good.spare_len {l : List S61} (h : Good l) : (spareL l).length ≤ 96 := by
  unfold spareL
  rw [List.length_flatMap]
  have hs := h.small
  have h1 := sum_le (b := 4) ((names l).map (fun c => (spareOf l c (ups l c)).length)) (fun x hx => by
    obtain ⟨c, _, rfl⟩ := List.mem_map.1 hx
    unfold spareOf
    rw [List.length_map]
    exact Nat.le_trans (List.length_filter_le _ _) (checkOk_four (checkOk h.ok).2.1 c))
  rw [List.length_map, names_len] at h1
  omega
theorem Good.linked_f {l : List S61} (h : Good l) {gone : List S73} (hg : gone.length ≤ 200) (k : Nat) (hk : 30000 ≤ k) : cosignerlaw03_linked.f k l gone = some (linkedOf l gone) :=
  linked_val (by omega) h.small (fun j hj => h.four hj) k hk hg
theorem Good.spare_any {l : List S61} (h : Good l) {c p : ByteArray} (hp : p ∈ ups l c) : (spareL l).any (fun g => decide (g.f0 = c) && decide (g.f1 = p)) = memS (anc (linkedOf l [⟨c, p⟩]) c) p := by
  rw [h.single hp, Bool.eq_iff_iff, List.any_eq_true]
  constructor
  · rintro ⟨g, hg, e⟩
    obtain ⟨e1, e2⟩ : g.f0 = c ∧ g.f1 = p := by simpa using e
    have hm : (⟨c, p⟩ : S73) ∈ spareL l := by rw [← e1, ← e2]; exact hg
    exact (mem_spare.1 hm).2
  · intro hs
    exact ⟨⟨c, p⟩, mem_spare.2 ⟨hp, hs⟩, by simp⟩
theorem pure_reduces (l : List S61) (i j m : Int) (hi : 0 ≤ i ∧ i < 256) (hj : 0 ≤ j ∧ j < 256) (hm : 0 ≤ m ∧ m < 256) : cosignerlaw03_HeirReduces.f 40000 l i j m = some true := by
  unfold cosignerlaw03_HeirReduces.f
  rw [right_val]
  by_cases hr : (checkOf l).1 = 0 ∧ 0 < l.length
  · have h : Good l := ⟨hr.1, hr.2⟩
    obtain ⟨a, ha, ea⟩ := h.name i hi.1 hi.2
    obtain ⟨b, hb, eb⟩ := h.name j hj.1 hj.2
    have hneed : heir_Needless.f l = some (spareL l, 0) := by
      unfold heir_Needless.f needlessOf
      rw [if_pos (asked_ok h.ok (by simp))]; rfl
    have hsl := h.spare_len
    have hL := h.linked (gone := spareL l)
    have hal : a ∈ names (linkedOf l (spareL l)) := by rw [linked_names]; exact ha
    have hbl : b ∈ names (linkedOf l (spareL l)) := by rw [linked_names]; exact hb
    have hright : cosignerlaw03_right.f (linkedOf l (spareL l)) = some true := by rw [right_val]; simp [hL.ok, hL.pos]
    have hsame : memS (anc (linkedOf l (spareL l)) a) b = memS (anc l a) b := h.reduced a b
    have hj0 : cosignerlaw03_HeirReduces.j0 40000 l i m (spareL l) false = some true := by
      obtain ⟨q, hq, eq⟩ := h.place i hi.1 hi.2
      have a1 : ¬ (l.length : Int) = 0 := by omega
      have a2 : (0 : Int) ≤ (q : Int) := by omega
      have a3 : (q : Int) < (l.length : Int) := by omega
      rw [cosignerlaw03_HeirReduces.j0, if_neg (by decide), eq, if_neg a1, if_pos a2, if_pos a3]
      by_cases hn : ((rd_T61 l (q : Int)).f3.length : Int) = 0
      · rw [if_pos hn]; rfl
      · rw [if_neg hn]
        obtain ⟨r, hrl, er⟩ : ∃ r : Nat, r < (rd_T61 l (q : Int)).f3.length ∧ Int.tmod (wrap64 m) ((rd_T61 l (q : Int)).f3.length : Int) = (r : Int) := by
          rw [wrap64_of_range m (by omega) (by omega), Int.tmod_eq_emod_of_nonneg hm.1]
          have e2 : 0 ≤ m % ((rd_T61 l (q : Int)).f3.length : Int) := Int.emod_nonneg _ hn
          have e3 : m % ((rd_T61 l (q : Int)).f3.length : Int) < (rd_T61 l (q : Int)).f3.length := Int.emod_lt_of_pos _ (by omega)
          exact ⟨(m % ((rd_T61 l (q : Int)).f3.length : Int)).toNat, by omega, by omega⟩
        have a4 : (0 : Int) ≤ (r : Int) := by omega
        have a5 : (r : Int) < ((rd_T61 l (q : Int)).f3.length : Int) := by omega
        have eR : rd_T65 (rd_T61 l (q : Int)).f3 (r : Int) = (rd_T61 l (q : Int)).f3[r] := by simp [rd_T65, hrl]
        have hp : ((rd_T61 l (q : Int)).f3[r]).f0 ∈ ups l (rd_T61 l (q : Int)).f0 := by
          rw [h.ups_at hq]; exact List.mem_map.2 ⟨_, List.getElem_mem hrl, rfl⟩
        rw [er, if_pos a4, if_pos a5, eR]
        have hcn := Good.mem_at hq
        have hpn := h.parents_mem hq _ (List.getElem_mem hrl)
        generalize (rd_T61 l (q : Int)).f0 = c at hp hcn ⊢
        generalize ((rd_T61 l (q : Int)).f3[r]).f0 = p at hp hpn ⊢
        obtain ⟨k, hk⟩ : ∃ k, 39999 = (k + 1) + (spareL l).length := ⟨39998 - (spareL l).length, by omega⟩
        have hl0 := reduces_l0 l (spareL l) (by omega) c p (spareL l).length 0 (k + 1) false (Nat.sub_zero _) (Nat.zero_le _)
        rw [← hk] at hl0
        have e0 : ((0 : Nat) : Int) = 0 := rfl
        rw [e0, List.drop_zero, Bool.false_or, h.spare_any hp] at hl0
        have hS := h.linked (gone := [⟨c, p⟩])
        have hc2 : c ∈ names (linkedOf l [⟨c, p⟩]) := by rw [linked_names]; exact hcn
        have hp2 : p ∈ names (linkedOf l [⟨c, p⟩]) := by rw [linked_names]; exact hpn
        have hlf := h.linked_f (gone := [⟨c, p⟩]) (by simp) k (by omega)
        have a6 : ¬ ((spareL l).length : Int) < ((spareL l).length : Int) := by omega
        rw [hl0, cosignerlaw03_HeirReduces.l0, if_neg a6]
        simp only [cosignerlaw03_sanity.f, Option.bind_some, if_true, hlf, hS.is hc2 hp2]
        simp
    simp only [hr, and_self, decide_true, Option.bind_some, if_true, hneed, h.linked_f (show (spareL l).length ≤ 200 by omega) 40000 (by omega), ea, eb, hright, h.is ha hb, hL.is hal hbl, hsame]
    simpa using hj0
  · simp [hr, cosignerlaw03_sanity.f]
end Go.Proofs.Ytdljclokenoogaa.Hw
end
section
namespace Go.Proofs.YtdljclokenoogaaW.PrintWords
open Go.ChangeShapes Go.WideShapes
theorem sized_ints {H : Type} {enc : TypeId × Value → H} {P : Program} {W : World} {base : Nat} {spare : Nat → Bool} {held : Bool} {t e : TypeId} {k : IntKind} {a : Option Addr} {len cap : Nat} {d : DataW H} {ps : List MemPlace} {ts : List TypeId} {ds : List (DataW H)} {j : Nat}
    (hsz : (DataW.weightsEach P ts ds).all (· ≤ reachBytes) = true) (ht : ts[j]? = some t) (hd : ds[j]? = some d) (hu : P.underlying t = some (.slice e)) (he : P.underlying e = some (.int k)) (hc : P.cellsOf e = 1) {B : Nat} (hB : P.bytesOf e = B)
    (h : DataW.Trod enc P W base spare held t (.slice a len cap) d ps) : len * B ≤ 140737488351232 := by
  obtain ⟨fuel, hf⟩ := h
  rcases open_ints hu he hc hf with ⟨hcs, _⟩ | ⟨x, l, c, zs, hcs, _, hl, _, hz, hx, _, _⟩
  · simp [Value.cells] at hcs
    obtain ⟨rfl, rfl, rfl⟩ := hcs
    simp
  · simp [Value.cells] at hcs
    obtain ⟨rfl, rfl, rfl⟩ := hcs
    obtain ⟨hx, _⟩ := Prod.mk.inj hx
    subst hx
    have z := sized_slice hsz ht hd hu
    rw [hB] at z
    have hl2 : len ≤ zs.length := by
      rw [hz]
      split
      · exact hl
      · exact Nat.le_refl _
    have h1 : (lits (H := H) k (zs.take len)).length + (lits (H := H) k (zs.drop len)).length = zs.length := by
      simp [lits]
      omega
    rw [h1] at z
    exact Nat.le_trans (Nat.mul_le_mul_right _ hl2) z
end Go.Proofs.YtdljclokenoogaaW.PrintWords
end
section
namespace Go.Proofs.Ytdljclokenoogaa.heirReduces
open Go.ChangeShapes Go.WideShapes Go.ChangeAt Go.RowKit Go.Proofs.Ytdljclokenoogaa.Hw
open Go.ChangeMaps (open_string shut_string)
set_option linter.unusedVariables false
theorem own : ownKnob Try.prog.godebug = none := by kernel_rfl
theorem laidOut : laidOutB Try.prog = true := by kernel_rfl
set_option maxRecDepth 100000 in
theorem lifted (os : Os) (started : os.Started) (H : Type) (enc : TypeId × Value → H) :
    ReturnsInHanded {} Try.checked os 8 .any (Rows.heirReducesSpec.pre6 enc Try.prog Try.f8 Rows.heirReducesRow.domain false) (Rows.heirReducesSpec.post enc Try.prog Try.f8 false true false false) := by
  refine returnsInHanded_of_change_sized (C := Try.checked) own started (by kernel_rfl) Try.func8
    (ChangeSpec.witness6 (enc := enc) (C := Try.checked) false ⟨#[], #[.slice none 0 0, .int .u8 0, .int .u8 0, .int .u8 0], []⟩ 8 (by kernel_rfl) (by kernel_rfl) (by kernel_rfl) (by kernel_rfl)) ?_
  intro W base args ds gs before hval0 hW hcnd hsz0 _
  have hsz : (DataW.weightsEach Try.prog (Try.f8.params.toList ++ Rows.heirReducesSpec.plain.varTypes Try.prog) (ds ++ gs)).all (· ≤ reachBytes) = true := hsz0
  have hval : ∀ (j : Nat) t v, Try.f8.params[j]? = some t → args[j]? = some v → Value.okWide Try.prog W .any base t v := hval0
  have hW' := hW
  obtain ⟨p, q, hA0, hV, rfl, hfz, hnd⟩ := hW
  have hA : DataW.TrodAll enc Try.prog W 0 (fun _ => true) true Try.f8.params.toList args.toList ds p := hA0
  rw [Try.params8] at hA hval hsz
  obtain ⟨v0, vs0, d0, ds0, p0, q0, hargs, rfl, rfl, h0, r0⟩ := trodAll_cons hA
  obtain ⟨v1, vs1, d1, ds1, p1, q1, rfl, rfl, rfl, h1, r1⟩ := trodAll_cons r0
  obtain ⟨v2, vs2, d2, ds2, p2, q2, rfl, rfl, rfl, h2, r2⟩ := trodAll_cons r1
  obtain ⟨v3, vs3, d3, ds3, p3, q3, rfl, rfl, rfl, h3, r3⟩ := trodAll_cons r2
  obtain ⟨rfl, rfl, rfl⟩ := trodAll_nil r3
  obtain rfl : args = #[v0, v1, v2, v3] := by cases args; simp_all
  obtain ⟨rfl, rfl⟩ := trodVars_none hV
  obtain ⟨b0, len0, cap0, rfl⟩ := okWide_slice Try.underlying22 (hval 0 22 v0 rfl rfl)
  have k0 := h0
  have lt0 : ∀ x ∈ p0, x.block < W.heap.size := by obtain ⟨m, hm⟩ := k0; exact DataW.trod_lt m _ _ _ hm
  obtain ⟨l0, rfl, hc0, hC0⟩ := trod_classes h0
  obtain ⟨a1, rfl, rfl, rfl, x1⟩ := open_int Try.underlying5 (hval 1 5 v1 rfl rfl) h1
  have z1 : 0 ≤ a1 ∧ a1 ≤ 255 := by simpa [Lit.wf, IntKind.min, IntKind.max, IntKind.bits, IntKind.signed] using x1
  have w1 : 0 ≤ a1 ∧ a1 < 256 := by omega
  obtain ⟨a2, rfl, rfl, rfl, x2⟩ := open_int Try.underlying5 (hval 2 5 v2 rfl rfl) h2
  have z2 : 0 ≤ a2 ∧ a2 ≤ 255 := by simpa [Lit.wf, IntKind.min, IntKind.max, IntKind.bits, IntKind.signed] using x2
  have w2 : 0 ≤ a2 ∧ a2 < 256 := by omega
  obtain ⟨a3, rfl, rfl, rfl, x3⟩ := open_int Try.underlying5 (hval 3 5 v3 rfl rfl) h3
  have z3 : 0 ≤ a3 ∧ a3 ≤ 255 := by simpa [Lit.wf, IntKind.min, IntKind.max, IntKind.bits, IntKind.signed] using x3
  have w3 : 0 ≤ a3 ∧ a3 < 256 := by omega
  clear hA0 hval0 hsz0 hsz
  refine (Hp.cosignerlaw03_HeirReduces.calls 40000 b0 cap0 l0 a1 a2 a3 true W hC0 hc0 (pure_reduces l0 a1 a2 a3 w1 w2 w3)).mono fun e W' ⟨he, bel⟩ => ?_
  subst he
  exact ⟨_, rfl, _, _, _, [], _, [], hW', trodAll_mk1 (shut_bool Try.underlying4 _), (trodAll_cons_mk (Below.trod laidOut (by kernel_rfl) (of_decide_eq_true (by kernel_rfl)) k0 bel lt0) (trodAll_cons_mk (shut_int Try.underlying5 x1) (trodAll_cons_mk (shut_int Try.underlying5 x2) (trodAll_cons_mk (shut_int Try.underlying5 x3) trodAll_mk0)))), rfl, bel.frame _, fun h => by cases h⟩
theorem over : Rows.heirReducesRow.holds Try.pinned (OpenSpec.ofChange Rows.heirReducesSpec) :=
  OpenClaim.holds_of_wide 8 Try.f8 rfl rfl rfl rfl rfl rfl rfl ⟨rfl, rfl, rfl, rfl, rfl⟩ rfl rfl rfl rfl rfl (by kernel_rfl) Try.func8 (by kernel_rfl)
    (of_decide_eq_true (by kernel_rfl)) (by unfold Func.isWrapper; first | (rw [if_pos (by decide +kernel)]; kernel_rfl) | (rw [if_neg (by decide +kernel)]; exact ⟨rfl, rfl⟩))
    (fun os started H enc _ => lifted os started H enc)
theorem proved : Rows.HeirReducesSaid := over
#print axioms proved
end Go.Proofs.Ytdljclokenoogaa.heirReduces
namespace Go.Proofs.Ytdljclokenoogaa
theorem heirReduces_holds : Rows.HeirReducesSaid := heirReduces.proved
end Go.Proofs.Ytdljclokenoogaa
end
