/-
  Part 4 (Tx) of the proof: walks of functions and plain facts.
-/
import Derived.Lib.SpaceUEq
import Derived.Lib.TrimUEq
import Derived.ChangeArms
import Derived.ChangeSlices
import Derived.SizedLaws
import Derived.Test.YtdljclokenoogaaRows
import Derived.WalkKit
import Derived.ProofKit
import Derived.OpenShut
import Derived.ShutString
import Derived.ChangeOld
import Derived.Below
import Derived.Test.YtdljclokenoogaaKTx3
set_option linter.unusedVariables false
set_option linter.unusedSimpArgs false
section
namespace Go.Proofs.Ytdljclokenoogaa.Hw
open Go.RowKit Go.Proofs.Ytdljclokenoogaa.Hp Go.Proofs.YtdljclokenoogaaW.PrintWords Go.Proofs.YtdljclokenoogaaW.PrintLast Go.Proofs.YtdljclokenoogaaW.PrintMore
def ringStepR (up : ByteArray → List ByteArray) (N : Nat) (b : List ByteArray) (c : ByteArray) : List ByteArray :=
  if (furtherOf up N c c).isEmpty then b else if b.isEmpty || lessR (furtherOf up N c c).dropLast b then (furtherOf up N c c).dropLast else b
def ringRef (l : List S61) : List ByteArray := (names l).foldl (ringStepR (ups l) l.length) []
theorem ringRef_take {l : List S61} {i : Nat} (hi : i < l.length) : (names (l.take (i + 1))).foldl (ringStepR (ups l) l.length) [] = ringStepR (ups l) l.length ((names (l.take i)).foldl (ringStepR (ups l) l.length) []) l[i].f0 := by
  have : names (l.take (i + 1)) = names (l.take i) ++ [l[i].f0] := by
    unfold names
    rw [List.take_succ_eq_append_getElem hi, List.map_append]; rfl
  rw [this, List.foldl_append]; rfl
set_option maxHeartbeats 32000000 in
set_option maxRecDepth 100000 in
theorem refRing_calls (A0 : Option Addr) (c0 : Nat) (l : List S61) (w : World) (hr0 : k61.C w A0 l.length l) (hc0 : l.length ≤ c0) (hl : l.length ≤ 1000) (hup : ∀ x ∈ l, x.f3.length ≤ 1000) :
    Calls Try.prog 46 #[.slice A0 l.length c0] w fun e w' => ∃ v, e = .returned v ∧ Kd.string.R 9 w' w.heap.size (fun _ => True) v (ringRef l) ∧ Below w.heap.size w w' := by
  obtain ⟨i0, hi0, _, hsz0, _⟩ := info_parts info_s
  have HR0 := Lib.hid hr0
  have HUP := Lib.hid hup
  clear hr0 hup
  have hnl : (names l).length = l.length := names_len l
  go_enter Try.func46, Try.ntmps46
  go_wp2
  go_loopg [3, 4] l.length (fun kq v3 v4 w' => ∃ (i : Nat), v4 = .int .i64 (i : Int) ∧ i ≤ l.length ∧ kq = l.length - i ∧ Aside0 (∃ b, Kd.string.R 9 w' w.heap.size (fun _ => True) v3 b ∧ b = (names (l.take i)).foldl (ringStepR (ups l) l.length) [] ∧ b.length ≤ l.length + 1 ∧ Below w.heap.size w w'))
  case atStart => exact ⟨0, rfl, Nat.zero_le _, rfl, ⟨[], Kd.R_nil _ _ _ _ _, rfl, by simp, Below.refl _ _⟩⟩
  case round =>
    obtain ⟨i, rfl, hi, hk, ⟨b, hRb, hbe, hbl, hB⟩⟩ := hrel
    obtain ⟨A3, c3, e3, hc3, hC3⟩ := Kd.R_reads hRb
    cases e3
    have HB3 := Lib.hid hRb
    have HC3 := Lib.hid hC3
    have HBE := Lib.hid hbe
    clear hRb hC3 hbe
    by_cases cA : i < l.length
    · have cA1 : (i : Int) < (l.length : Int) := by omega
      have cA0 : (0 : Int) ≤ (i : Int) := by omega
      obtain ⟨ad, A2, c2, A3', c3', A4, c4, A5, c5, A6, c6, ea, hx0, _⟩ := at_T61 (Kd.C_below HR0.out hB) (i : Int) (by omega) (by omega)
      subst ea
      rw [Int.toNat_natCast, rd_class cA] at hx0
      obtain ⟨y, hy⟩ : ∃ y, l[i].f0 = y := ⟨_, rfl⟩
      have hnx := ringRef_take cA
      rw [← HBE.out, hy] at hnx
      rw [hy] at hx0
      have HNX0 := Lib.hid hnx
      clear hnx hy
      go_upto_region 5 with fail
      refine start_ (n := 13) (S := fun Y => Y.cell? (ad.add (i * 7)) = some (.string y)) (ds := [11]) #[false, false, false, false, false, false, false, false, false, false, false, false, false] (by kernel_rfl) rfl rfl hx0 (fun hHeld => ?_)
      have hB9 : Below wr.heap.size wr wr.drew := (Below.refl _ _).drew
      generalize wr.drew = w3 at hB9 hHeld ⊢
      refine pure_ (i := 0) (N := some 13) (v := ?_) (a' := ?_) #[true, false, false, false, false, false, false, false, false, false, false, false, false] rfl rfl (by kernel_rfl) (fun _ _ _ h => h) (Or.inl ⟨by rfl, ?_⟩) ?_ ?_
      rotate_left
      · intro w'; go_simp <;> (with_reducible rfl)
      rotate_left
      · simp only [Act.put, List.setIfInBounds_toArray, List.set_cons_zero, List.set_cons_succ]; rfl
      refine pure_ (i := 1) (N := some 14) (v := ?_) (a' := ?_) #[true, true, false, false, false, false, false, false, false, false, false, false, false] rfl rfl (by kernel_rfl) (fun _ _ _ h => h) (Or.inl ⟨by rfl, ?_⟩) ?_ ?_
      rotate_left
      · intro w'; go_simp <;> (with_reducible rfl)
      rotate_left
      · simp only [Act.put, List.setIfInBounds_toArray, List.set_cons_zero, List.set_cons_succ]; rfl
      refine pure_ (i := 2) (N := some 15) (v := ?_) (a' := ?_) #[true, true, true, false, false, false, false, false, false, false, false, false, false] rfl rfl (by kernel_rfl) (fun _ _ _ h => h) (Or.inl ⟨by rfl, ?_⟩) ?_ ?_
      rotate_left
      · intro w'; go_simp <;> (with_reducible rfl)
      rotate_left
      · simp only [Act.put, List.setIfInBounds_toArray, List.set_cons_zero, List.set_cons_succ]; rfl
      refine pure_ (i := 3) (N := some 16) (v := ?_) (a' := ?_) #[true, true, true, true, false, false, false, false, false, false, false, false, false] rfl rfl (by kernel_rfl) (fun _ _ _ h => h) (Or.inl ⟨by rfl, ?_⟩) ?_ ?_
      rotate_left
      · intro w'; go_simp <;> (with_reducible rfl)
      rotate_left
      · simp only [Act.put, List.setIfInBounds_toArray, List.set_cons_zero, List.set_cons_succ]; rfl
      refine pure_ (i := 4) (N := some 17) (v := ?_) (a' := ?_) #[true, true, true, true, true, false, false, false, false, false, false, false, false] rfl rfl (by kernel_rfl) (fun _ _ _ h => h) (Or.inl ⟨by rfl, ?_⟩) ?_ ?_
      rotate_left
      · intro w'; go_simp <;> (with_reducible rfl)
      rotate_left
      · simp only [Act.put, List.setIfInBounds_toArray, List.set_cons_zero, List.set_cons_succ]; rfl
      refine take_ (i := 5) (N := some 18) (v := ?_) (a' := ?_) #[true, true, true, true, true, true, false, false, false, false, false, false, false] rfl rfl (by kernel_rfl) (fun _ _ _ h => h) (Or.inl ⟨by rfl, ?_⟩) hHeld ?_ ?_
      rotate_left
      · rintro w' s0; go_simp <;> (with_reducible rfl)
      rotate_left
      · simp only [Act.put, List.setIfInBounds_toArray, List.set_cons_zero, List.set_cons_succ]; rfl
      refine pure_ (i := 6) (N := some 19) (v := ?_) (a' := ?_) #[true, true, true, true, true, true, true, false, false, false, false, false, false] rfl rfl (by kernel_rfl) (fun _ _ _ h => h) (Or.inl ⟨by rfl, ?_⟩) ?_ ?_
      rotate_left
      · intro w'; go_simp <;> (with_reducible rfl)
      rotate_left
      · simp only [Act.put, List.setIfInBounds_toArray, List.set_cons_zero, List.set_cons_succ]; rfl
      refine pure_ (i := 7) (N := some 20) (v := ?_) (a' := ?_) #[true, true, true, true, true, true, true, true, false, false, false, false, false] rfl rfl (by kernel_rfl) (fun _ _ _ h => h) (Or.inl ⟨by rfl, ?_⟩) ?_ ?_
      rotate_left
      · intro w'; go_simp <;> (with_reducible rfl)
      rotate_left
      · simp only [Act.put, List.setIfInBounds_toArray, List.set_cons_zero, List.set_cons_succ]; rfl
      refine pure_ (i := 8) (N := some 21) (v := ?_) (a' := ?_) #[true, true, true, true, true, true, true, true, true, false, false, false, false] rfl rfl (by kernel_rfl) (fun _ _ _ h => h) (Or.inl ⟨by rfl, ?_⟩) ?_ ?_
      rotate_left
      · intro w'; go_simp <;> (with_reducible rfl)
      rotate_left
      · simp only [Act.put, List.setIfInBounds_toArray, List.set_cons_zero, List.set_cons_succ]; rfl
      refine pure_ (i := 9) (N := some 22) (v := ?_) (a' := ?_) #[true, true, true, true, true, true, true, true, true, true, false, false, false] rfl rfl (by kernel_rfl) (fun _ _ _ h => h) (Or.inl ⟨by rfl, ?_⟩) ?_ ?_
      rotate_left
      · intro w'; go_simp <;> (with_reducible rfl)
      rotate_left
      · simp only [Act.put, List.setIfInBounds_toArray, List.set_cons_zero, List.set_cons_succ]; rfl
      refine take_ (i := 10) (N := some 23) (v := ?_) (a' := ?_) #[true, true, true, true, true, true, true, true, true, true, true, false, false] rfl rfl (by kernel_rfl) (fun _ _ _ h => h) (Or.inl ⟨by rfl, ?_⟩) hHeld ?_ ?_
      rotate_left
      · rintro w' s0; go_simp <;> (with_reducible rfl)
      rotate_left
      · simp only [Act.put, List.setIfInBounds_toArray, List.set_cons_zero, List.set_cons_succ]; rfl
      refine last_ (i := 11) (N := some 24) #[true, true, true, true, true, true, true, true, true, true, true, true, false] rfl rfl (by kernel_rfl) (by decide) (fun K hK => ?_)
      refine goes_ Try.func93 (by kernel_rfl) rfl #[.slice (some ad) l.length c0, .string y, .string y] (by rfl) rfl rfl (by simp only [List.map_toArray, List.map_cons, List.map_nil]; first | done | rfl) ?_
      have hB3 := hB.trans (hB9.mono hB.size)
      refine (further_calls (some ad) c0 l y y _ (Kd.C_below HR0.out hB3) hc0 hl HUP.out).mono ?_
      rintro e w4 ⟨vp, rfl, hRp, hB4⟩
      refine ⟨_, rfl, ?_⟩
      refine hK.out _ _ ?_
      clear hK K
      refine norm_ (a' := ?_) ?_ ?_
      rotate_left
      · show Act.put _ (some 24) _ = _; simp only [Act.put, List.setIfInBounds_toArray, List.set_cons_zero, List.set_cons_succ]; rfl
      refine pure_ (i := 12) (N := some 5) (v := ?_) (a' := ?_) #[true, true, true, true, true, true, true, true, true, true, true, true, true] rfl rfl (by kernel_rfl) (fun _ _ _ h => h) (Or.inl ⟨by rfl, ?_⟩) ?_ ?_
      rotate_left
      · intro w'; go_simp <;> (with_reducible rfl)
      rotate_left
      · simp only [Act.put, List.setIfInBounds_toArray, List.set_cons_zero, List.set_cons_succ]; rfl
      refine done_ (by kernel_rfl) ?_
      have hfl := furtherOf_len (up := ups l) (names := names l) (c := y) (a := y)
      rw [hnl] at hfl
      have hstep : ringStepR (ups l) l.length b y = if (furtherOf (ups l) l.length y y).isEmpty then b else if b.isEmpty || lessR (furtherOf (ups l) l.length y y).dropLast b then (furtherOf (ups l) l.length y y).dropLast else b := rfl
      rw [hstep] at HNX0
      generalize furtherOf (ups l) l.length y y = t at hRp hfl HNX0
      clear hstep
      have hB14 : Below w.heap.size w w4 := hB3.trans (hB4.mono hB3.size)
      have hBr4 : Below wr.heap.size wr w4 := hB9.trans (hB4.mono hB9.size)
      obtain ⟨Ap, cp, ep, hcp, Cp⟩ := hRp.reads
      cases ep
      by_cases ht : t = []
      · have ht0 : t.length = 0 := by rw [ht]; rfl
        have htb : ((t.length : Int) == 0) = true := by rw [ht0]; rfl
        have hnx2 := HNX0.out
        rw [if_pos (by rw [ht]; rfl)] at hnx2
        have HNX := Lib.hid hnx2
        have HT := Lib.hid ht
        clear hnx2 ht ht0 hRp Cp
        go_wp2
        go_roundg (l.length - (i + 1))
        case measure => omega
        case rel => exact ⟨i + 1, (by first | rfl | rw [wrap_nat i (by omega)]), by omega, rfl, ⟨b, Kd.R_below HB3.out hBr4, HNX.out.symm, hbl, hB14⟩⟩
      · have htp : 0 < t.length := List.length_pos_iff.2 ht
        have htb : ((t.length : Int) == 0) = false := by rw [beq_eq_false_iff_ne]; omega
        have hemp : ¬ t.isEmpty = true := by simpa using ht
        have HNX : Hid ((names (l.take (i + 1))).foldl (ringStepR (ups l) l.length) [] = if t.isEmpty = true then b else if (b.isEmpty || lessR t.dropLast b) = true then t.dropLast else b) := HNX0.out
        have hwt : IntKind.i64.wrap ((t.length : Int) - 1) = ((t.length - 1 : Nat) : Int) := by rw [Go.IntWalk.i64_in _ ⟨by omega, by omega⟩]; omega
        have hcut1 := cut_to (P := Try.prog) 25 9 .i64 Try.underlying25 hi0 Ap t.length cp ((t.length - 1 : Nat) : Int) (by omega) (by omega) hcp
        rw [Int.toNat_natCast] at hcut1
        have hRy : Kd.string.R 9 w4 w.heap.size (fun _ => True) (.slice Ap (t.length - 1) cp) t.dropLast := by
          rw [List.dropLast_eq_take]
          exact Kd.R_lower (Kd.R_take hRp.1 (by omega)) hB3.size
        have hyl : t.dropLast.length = t.length - 1 := by rw [List.length_dropLast]
        obtain ⟨yy, hyy⟩ : ∃ z, t.dropLast = z := ⟨_, rfl⟩
        rw [hyy] at hRy hyl HNX
        have hcpy : yy.length ≤ cp := by omega
        have hCy : Kd.string.C w4 Ap yy.length yy := (Kd.R_reads' hRy).2.2
        have hbv := before_val yy b (by omega) (2 * yy.length + 2) (Nat.le_refl _)
        rw [← hyl] at hcut1 hwt hRy
        have hyl2 : yy.length ≤ l.length + 1 := by omega
        have HY0 := Lib.hid hRy
        have HYL : Hid (yy.length ≤ l.length + 1) := hyl2
        clear hyy hRy hRp Cp HNX0 hyl
        have hbc := Kd.C_below HC3.out hBr4
        have hC8 : ∀ (r : Bool) w5, Drawn0 w4 w5 → Below w.heap.size w w5 ∧ Kd.string.R 9 w5 w.heap.size (fun _ => True) (.slice Ap yy.length cp) yy ∧ Kd.string.R 9 w5 w.heap.size (fun _ => True) (.slice A3 b.length c3) b ∧ r = r := by
          rintro r w5 ⟨nd, rfl⟩
          exact ⟨pw_below_drewN hB14 nd, Kd.R_below HY0.out (pw_below_drewN (Below.refl _ _) nd), Kd.R_below HB3.out (pw_below_drewN hBr4 nd), rfl⟩
        have HC8 := Lib.hid (hC8 true)
        clear hC8
        obtain ⟨q, hq⟩ : ∃ q, lexB yy b = q := ⟨_, rfl⟩
        rw [hq] at hbv
        by_cases hb0 : b.length = 0
        · have hbb : ((b.length : Int) == 0) = true := by rw [hb0]; rfl
          have HC : Hid ((b.isEmpty || lessR yy b) = true) := by show _ = _; rw [List.length_eq_zero_iff.1 hb0]; rfl
          clear hb0 hq
          go_wp2_with (go_at_call 94; refine (cosignerref03_Before.calls _ _ _ yy _ _ b q _ hCy hcpy hbc hc3 hbv).mono ?_; rintro e w5 ⟨rfl, hd⟩; obtain ⟨hB5, hY5, hBB5, _⟩ := HC8.out w5 hd; have HY := Lib.hid hY5; have HBB := Lib.hid hBB5; clear hd hY5 hBB5)
          go_roundg (l.length - (i + 1))
          case measure => omega
          case rel =>
            refine ⟨i + 1, (by first | rfl | rw [wrap_nat i (by omega)]), by omega, rfl, ⟨_, HY.out, ?_, ?_, hB5⟩⟩
            · rw [HNX.out, if_neg hemp, if_pos HC.out]
            · exact HYL.out
        · have hbb : ((b.length : Int) == 0) = false := by rw [beq_eq_false_iff_ne]; omega
          have hbemp : b.isEmpty = false := by rw [List.isEmpty_eq_false_iff]; exact fun e => hb0 (by rw [e]; rfl)
          by_cases h1 : yy.length < b.length
          · have h1b : (yy.length : Int) < (b.length : Int) := by omega
            have HC : Hid ((b.isEmpty || lessR yy b) = true) := by show _ = _; unfold lessR; rw [decide_eq_true h1]; simp
            go_wp2_with (go_at_call 94; refine (cosignerref03_Before.calls _ _ _ yy _ _ b q _ hCy hcpy hbc hc3 hbv).mono ?_; rintro e w5 ⟨rfl, hd⟩; obtain ⟨hB5, hY5, hBB5, _⟩ := HC8.out w5 hd; have HY := Lib.hid hY5; have HBB := Lib.hid hBB5; clear hd hY5 hBB5)
            go_roundg (l.length - (i + 1))
            case measure => omega
            case rel =>
              refine ⟨i + 1, (by first | rfl | rw [wrap_nat i (by omega)]), by omega, rfl, ⟨_, HY.out, ?_, ?_, hB5⟩⟩
              · rw [HNX.out, if_neg hemp, if_pos HC.out]
              · exact HYL.out
          · have h1b : ¬ (yy.length : Int) < (b.length : Int) := by omega
            by_cases h2 : yy.length = b.length
            · have h2b : ((yy.length : Int) == (b.length : Int)) = true := by rw [h2]; exact beq_self_eq_true _
              have hlr : lessR yy b = q := by unfold lessR; rw [decide_eq_false h1, decide_eq_true h2, Bool.false_or, Bool.true_and, hq]
              cases q with
              | true =>
                have HC : Hid ((b.isEmpty || lessR yy b) = true) := by show _ = _; rw [hlr]; simp
                have H2 := Lib.hid h2
                clear h2 hlr hq
                go_wp2_with (go_at_call 94; refine (cosignerref03_Before.calls _ _ _ yy _ _ b true _ hCy hcpy hbc hc3 hbv).mono ?_; rintro e w5 ⟨rfl, hd⟩; obtain ⟨hB5, hY5, hBB5, _⟩ := HC8.out w5 hd; have HY := Lib.hid hY5; have HBB := Lib.hid hBB5; clear hd hY5 hBB5)
                go_roundg (l.length - (i + 1))
                case measure => omega
                case rel =>
                  refine ⟨i + 1, (by first | rfl | rw [wrap_nat i (by omega)]), by omega, rfl, ⟨_, HY.out, ?_, ?_, hB5⟩⟩
                  · rw [HNX.out, if_neg hemp, if_pos HC.out]
                  · exact HYL.out
              | false =>
                have HC : Hid (¬ (b.isEmpty || lessR yy b) = true) := by show ¬ _; rw [hlr, hbemp]; decide
                have H2 := Lib.hid h2
                clear h2 hlr hq
                go_wp2_with (go_at_call 94; refine (cosignerref03_Before.calls _ _ _ yy _ _ b false _ hCy hcpy hbc hc3 hbv).mono ?_; rintro e w5 ⟨rfl, hd⟩; obtain ⟨hB5, hY5, hBB5, _⟩ := HC8.out w5 hd; have HY := Lib.hid hY5; have HBB := Lib.hid hBB5; clear hd hY5 hBB5)
                go_roundg (l.length - (i + 1))
                case measure => omega
                case rel =>
                  refine ⟨i + 1, (by first | rfl | rw [wrap_nat i (by omega)]), by omega, rfl, ⟨_, HBB.out, ?_, hbl, hB5⟩⟩
                  rw [HNX.out, if_neg hemp, if_neg HC.out]
            · have h2b : ((yy.length : Int) == (b.length : Int)) = false := by rw [beq_eq_false_iff_ne]; omega
              have HC : Hid (¬ (b.isEmpty || lessR yy b) = true) := by show ¬ _; unfold lessR; rw [decide_eq_false h1, decide_eq_false h2, hbemp]; simp
              go_wp2_with (go_at_call 94; refine (cosignerref03_Before.calls _ _ _ yy _ _ b q _ hCy hcpy hbc hc3 hbv).mono ?_; rintro e w5 ⟨rfl, hd⟩; obtain ⟨hB5, hY5, hBB5, _⟩ := HC8.out w5 hd; have HY := Lib.hid hY5; have HBB := Lib.hid hBB5; clear hd hY5 hBB5)
              go_roundg (l.length - (i + 1))
              case measure => omega
              case rel =>
                refine ⟨i + 1, (by first | rfl | rw [wrap_nat i (by omega)]), by omega, rfl, ⟨_, HBB.out, ?_, hbl, hB5⟩⟩
                rw [HNX.out, if_neg hemp, if_neg HC.out]
    · have cA1 : ¬ (i : Int) < (l.length : Int) := by omega
      have ei : l.take i = l := List.take_of_length_le (by omega)
      rw [ei] at HBE
      go_wp2
      go_ret
      exact ⟨_, rfl, by rw [show ringRef l = b from HBE.out.symm]; exact HB3.out, hB⟩
end Go.Proofs.Ytdljclokenoogaa.Hw
end
section
namespace Go.Proofs.Ytdljclokenoogaa.Hp
open Go.RowKit Go.Proofs.YtdljclokenoogaaW.PrintWords Go.Proofs.YtdljclokenoogaaW.PrintLast Go.Proofs.YtdljclokenoogaaW.PrintMore Go.Proofs.Ytdljclokenoogaa.Hw
def fewUps (l : List S61) : Bool := l.all (fun x => decide (x.f3.length ≤ 1000))
theorem fewUps_at {l : List S61} (h : fewUps l = true) : ∀ x ∈ l, x.f3.length ≤ 1000 := fun x hx => of_decide_eq_true (List.all_eq_true.1 h x hx)
def cosignerref03_further.f (l0 : List S61) (a1 a2 : ByteArray) : Option (List ByteArray) := if l0.length ≤ 1000 ∧ fewUps l0 = true then some (furtherOf (ups l0) l0.length a1 a2) else none
def cosignerref03_Ring.f (l0 : List S61) : Option (List ByteArray) := if l0.length ≤ 1000 ∧ fewUps l0 = true then some (ringRef l0) else none
theorem cosignerref03_further.calls (A0 : Option Addr) (c0 : Nat) (l0 : List S61) (a1 a2 : ByteArray) (r : List ByteArray) (w : World) (hr0 : Kd.C k61 w A0 l0.length l0) (hc0 : l0.length ≤ c0) (h : cosignerref03_further.f l0 a1 a2 = some r) :
    Calls Try.prog 93 #[.slice A0 l0.length c0, .string a1, .string a2] w fun e w' => ∃ v, e = .returned v ∧ Kd.R Kd.string 9 w' w.heap.size (fun _ => True) v r ∧ Below w.heap.size w w' := by
  unfold cosignerref03_further.f at h
  split at h
  · rename_i hb
    obtain rfl := Option.some.inj h
    exact (further_calls A0 c0 l0 a1 a2 w hr0 hc0 hb.1 (fewUps_at hb.2)).mono (fun _ _ ⟨v, h1, h2, h3⟩ => ⟨v, h1, h2.1, h3⟩)
  · cases h
theorem cosignerref03_Ring.calls (A0 : Option Addr) (c0 : Nat) (l0 : List S61) (r : List ByteArray) (w : World) (hr0 : Kd.C k61 w A0 l0.length l0) (hc0 : l0.length ≤ c0) (h : cosignerref03_Ring.f l0 = some r) :
    Calls Try.prog 46 #[.slice A0 l0.length c0] w fun e w' => ∃ v, e = .returned v ∧ Kd.R Kd.string 9 w' w.heap.size (fun _ => True) v r ∧ Below w.heap.size w w' := by
  unfold cosignerref03_Ring.f at h
  split at h
  · rename_i hb
    obtain rfl := Option.some.inj h
    exact refRing_calls A0 c0 l0 w hr0 hc0 hb.1 (fewUps_at hb.2)
  · cases h
end Go.Proofs.Ytdljclokenoogaa.Hp
end
section
namespace Go.Proofs.Ytdljclokenoogaa.Hp
open Go.RowKit Go.Proofs.YtdljclokenoogaaW.PrintWords Go.Proofs.YtdljclokenoogaaW.PrintLast Go.Proofs.YtdljclokenoogaaW.PrintMore
attribute [local go_sem] max2_int min2_int max_two min_two max_three min_three max_four min_four
set_option linter.unusedVariables false
set_option linter.unusedSimpArgs false
mutual
def cosignerref03_Check.l0 : Nat → List (S61) → Int → Option (Int × ByteArray)
  | 0, _, _ => none
  | k + 1, x0, x3 => if x3 < (x0.length : Int) then ((cosignerref03_alone.f k x0 x3).bind fun t334 => (if t334 = 0 then (cosignerref03_Check.l0 k x0 (wrap64 (x3 + 1))) else (if 0 ≤ x3 then (some (t334, (rd_T61 x0 x3).f0)) else (none)))) else (cosignerref03_Check.l1 k x0 0)
def cosignerref03_Check.l1 : Nat → List (S61) → Int → Option (Int × ByteArray)
  | 0, _, _ => none
  | k + 1, x0, x5 => if x5 < (x0.length : Int) then (cosignerref03_Check.l2 k x0 x5 0) else ((cosignerref03_Ring.f x0).bind fun t336 => (if (t336.length : Int) > 0 then (if 0 < (t336.length : Int) then (some (7, rdOf ByteArray.empty t336 0)) else (none)) else (some (0, (⟨#[]⟩ : ByteArray)))))
def cosignerref03_Check.l2 : Nat → List (S61) → Int → Int → Option (Int × ByteArray)
  | 0, _, _, _ => none
  | k + 1, x0, x5, x6 => if 0 ≤ x5 then (if x5 < (x0.length : Int) then (if x6 < (((rd_T61 x0 x5).f3).length : Int) then (if 0 ≤ x6 then ((cosignerref03_index.f k x0 ((rd_T65 ((rd_T61 x0 x5).f3) x6).f0)).bind fun t343 => (if t343 < 0 then (some (5, (rd_T61 x0 x5).f0)) else (cosignerref03_Check.l2 k x0 x5 (wrap64 (x6 + 1))))) else (none)) else (cosignerref03_Check.l1 k x0 (wrap64 (x5 + 1)))) else (none)) else (none)
end
def cosignerref03_Check.f (k : Nat) (l0 : List (S61)) : Option (Int × ByteArray) := if (l0.length : Int) > 24 then (some (3, (⟨#[]⟩ : ByteArray))) else (cosignerref03_Check.l0 k l0 0)
set_option maxHeartbeats 8000000 in
set_option maxRecDepth 100000 in
theorem cosignerref03_Check.calls (k : Nat) (A0 : Option Addr) (c0 : Nat) (l0 : List (S61)) (r1 : Int) (r2 : ByteArray) (w : World) (hr0 : Kd.C k61 w A0 l0.length l0) (hc0 : l0.length ≤ c0) (h : cosignerref03_Check.f k l0 = some (r1, r2)) :
    Calls Try.prog 44 #[.slice A0 l0.length c0] w fun e w' => e = .returned (.agg #[.int .i64 r1, .string r2]) ∧ Below w.heap.size w w' := by
  have hu87 := Try.underlying87
  have HR0 := Aside0.mk hr0
  have HC0 := Aside0.mk hc0
  clear hr0 hc0
  have HB := Aside0.mk (Below.refl w.heap.size w)
  have H : (if (l0.length : Int) > 24 then (some (3, (⟨#[]⟩ : ByteArray))) else (cosignerref03_Check.l0 k l0 0)) = some (r1, r2) := h
  clear h
  by_cases c2 : (l0.length : Int) > 24
  · rw [if_pos c2] at H
    have c2b0 : decide (24 < (l0.length : Int)) = true := decide_eq_true c2
    have c2b1 : decide (24 < l0.length) = true := decide_eq_true (by omega)
    clear c2
    simp only [Option.some.injEq, Prod.mk.injEq] at H
    obtain ⟨rfl, rfl⟩ := H
    go_enter Try.func44, Try.ntmps44
    go_wp2_with (first | ((with_reducible refine gate_dst (N := 2) rfl ?_); refine box_event ?hg (N := 2) ?hd (cs := #[.int .i64 0, .string (⟨#[]⟩ : ByteArray)]) (t := 87) ?hr ?_; (case hd => rfl); (case hg => rfl); (case hr => first | (go_simp; done) | (go_simp; rfl)); intro gb333 hg w3 hbox hb; have n0_ := Aside0.mk (below_step (by repeat (first | (with_reducible first | exact HB.out | apply below_alloc | apply pw_below_drewN | apply below_drew1) | exact HB.out)) hb); have n1_ := Aside0.mk (hbox); have n2_ := Aside0.mk ((by rw [hg]; exact (below_size (by repeat (first | (with_reducible first | exact HB.out | apply below_alloc | apply pw_below_drewN | apply below_drew1) | exact HB.out))) : w.heap.size ≤ gb333)); have n3_ := Aside0.mk ((by rw [hg]; exact (below_size (by repeat (first | (with_reducible first | exact HB.out | apply below_alloc | apply pw_below_drewN | apply below_drew1) | exact HB.out))) : w.heap.size ≤ gb333)); clear HB; have HB := n0_; have BK333 := n1_; have GW333 := n2_; have GE333 := n3_; clear n0_ n1_ n2_ n3_; clear hb hbox hg; have hcz4_0 : w3.cell? ⟨gb333, 0, none⟩ = some (.int .i64 0) := (blk_cell BK333.out 0).trans rfl; have hcz4_1 : w3.cell? ⟨gb333, 1, none⟩ = some (.string (⟨#[]⟩ : ByteArray)) := (blk_cell BK333.out 1).trans rfl; have hfz4_0 := blk_frozen BK333.out 0; have hfz4_1 := blk_frozen BK333.out 1))
    refine bodyPost_ret (results_cell_row rfl _ _ gb333 87 #[.int .i64 3, .string (⟨#[]⟩ : ByteArray)] (0, 0) _ rfl (by (with_reducible repeat (first | refine blk_drewN ?_ _ | refine blk_drew ?_ | refine blk_alloc ?_ _)); refine blk_put (cs := #[.int .i64 3, .string (⟨#[]⟩ : ByteArray)]) ?_ 1 _ rfl; (with_reducible repeat (first | refine blk_drewN ?_ _ | refine blk_drew ?_ | refine blk_alloc ?_ _)); refine blk_put (cs := #[.int .i64 0, .string (⟨#[]⟩ : ByteArray)]) ?_ 0 _ rfl; (with_reducible repeat (first | refine blk_drewN ?_ _ | refine blk_drew ?_ | refine blk_alloc ?_ _)); exact BK333.out) Try.underlying87 rfl (by kernel_rfl)) rfl ?_
    exact ⟨by first | rfl | (simp [errW_none, errW_some] <;> rfl) | (simp [*, errW_none, errW_some] <;> rfl), by repeat (first | (with_reducible first | exact HB.out | apply below_alloc | apply pw_below_drewN | apply below_drew1 | refine below_set ?_ GE333.out) | exact HB.out)⟩
  · rw [if_neg c2] at H
    have c2b0 : decide (24 < (l0.length : Int)) = false := decide_eq_false c2
    have c2b1 : decide (24 < l0.length) = false := decide_eq_false (by omega)
    clear c2
    have H' := Aside0.mk H
    clear H
    go_enter Try.func44, Try.ntmps44
    go_wp2_with (first | ((with_reducible refine gate_dst (N := 2) rfl ?_); refine box_event ?hg (N := 2) ?hd (cs := #[.int .i64 0, .string (⟨#[]⟩ : ByteArray)]) (t := 87) ?hr ?_; (case hd => rfl); (case hg => rfl); (case hr => first | (go_simp; done) | (go_simp; rfl)); intro gb333 hg w5 hbox hb; have n0_ := Aside0.mk (below_step (by repeat (first | (with_reducible first | exact HB.out | apply below_alloc | apply pw_below_drewN | apply below_drew1) | exact HB.out)) hb); have n1_ := Aside0.mk (hbox); have n2_ := Aside0.mk ((by rw [hg]; exact (below_size (by repeat (first | (with_reducible first | exact HB.out | apply below_alloc | apply pw_below_drewN | apply below_drew1) | exact HB.out))) : w.heap.size ≤ gb333)); have n3_ := Aside0.mk ((by rw [hg]; exact (below_size (by repeat (first | (with_reducible first | exact HB.out | apply below_alloc | apply pw_below_drewN | apply below_drew1) | exact HB.out))) : w.heap.size ≤ gb333)); clear HB; have HB := n0_; have BK333 := n1_; have GW333 := n2_; have GE333 := n3_; clear n0_ n1_ n2_ n3_; clear hb hbox hg))
    go_loopg [3] k (fun kq v3 w' => ∃ (x3_1 : Int) (x334000_1 : Int) (x334001_1 : ByteArray), v3 = .int .i64 x3_1 ∧ Aside0 (cosignerref03_Check.l0 kq l0 x3_1 = some (r1, r2)) ∧ Aside0 (kq ≤ k) ∧ Aside0 (w'.heap[gb333]? = some (.cells #[.int .i64 x334000_1, .string x334001_1] 87 (0, 0))) ∧ Aside0 (Below w.heap.size w w'))
    case atStart => exact ⟨(0), (0), ((⟨#[]⟩ : ByteArray)), (by first | rfl | (simp; done) | (simp [*]; done)), H', ⟨Nat.le_refl _⟩, ⟨by (with_reducible repeat (first | refine blk_drewN ?_ _ | refine blk_drew ?_ | refine blk_alloc ?_ _)); exact BK333.out⟩, ⟨by repeat (first | (with_reducible first | exact HB.out | apply below_alloc | apply pw_below_drewN | apply below_drew1 | refine below_set ?_ GE333.out) | exact HB.out)⟩⟩
    case round =>
      clear H'
      try clear c2
      try clear c2b0
      try clear c2b1
      try clear p2
      try clear c4
      try clear hcz4_0
      try clear hcz4_1
      try clear hfz4_0
      try clear hfz4_1
      obtain ⟨x3_1, x334000_1, x334001_1, rfl, HA, HK1, BK333, HB⟩ := hrel
      cases gk with
      | zero => exact absurd HA.out (by simp [cosignerref03_Check.l0])
      | succ k1 =>
        have H := HA.out
        clear HA
        simp only [cosignerref03_Check.l0] at H
        by_cases c6 : x3_1 < (l0.length : Int)
        · rw [if_pos c6] at H
          have c6b0 : decide (x3_1 < (l0.length : Int)) = true := decide_eq_true c6
          clear c6
          replace H := Option.bind_eq_some_iff.mp H
          obtain ⟨t334, A70, H⟩ := H
          replace H : (if t334 = 0 then (cosignerref03_Check.l0 k1 l0 (wrap64 (x3_1 + 1))) else (if 0 ≤ x3_1 then (some (t334, (rd_T61 l0 x3_1).f0)) else (none))) = some (r1, r2) := H
          have A7 := Aside0.mk A70
          clear A70
          by_cases c8 : t334 = 0
          · rw [if_pos c8] at H
            have c8b0 : (t334 == 0) = true := beq_iff_eq.mpr c8
            have c8b1 : (t334 != 0) = false := bne_eq_false_iff_eq.mpr c8
            clear c8
            have H' := Aside0.mk H
            clear H
            go_wp2_with (first | ((with_reducible refine gate_callee (f := 87) rfl ?_); refine goesL_ (some 20) rfl rfl Try.func87 (by kernel_rfl) rfl #[.slice A0 l0.length c0, .int .i64 x3_1] rfl (by (try simp only [List.map_toArray, List.map_cons, List.map_nil]); first | done | rfl | (simp only [List.length_drop, List.length_take]; rfl)) ?_; (with_reducible refine (cosignerref03_alone.calls k1 _ _ l0 x3_1 t334 _ ?side1 ?side2 A7.out).mono ?_); (case side1 => repeat (first | exact (Kd.C_below HR0.out HB.out) | (with_reducible refine Kd.C_alloc ?_ _) | (with_reducible refine Kd.C_drewN ?_ _) | (with_reducible refine Kd.C_drew ?_))); (case side2 => exact HC0.out); rintro e w' ⟨rfl, ⟨nd, rfl⟩⟩; refine ⟨_, rfl, ?_⟩))
            go_roundg k1
            case measure => have := HK1.out; omega
            case rel => exact ⟨(wrap64 (x3_1 + 1)), (x334000_1), (x334001_1), (by first | rfl | (simp; done) | (simp [*]; done)), H', ⟨by have := HK1.out; omega⟩, ⟨by (with_reducible repeat (first | refine blk_drewN ?_ _ | refine blk_drew ?_ | refine blk_alloc ?_ _)); exact BK333.out⟩, ⟨by repeat (first | (with_reducible first | exact HB.out | apply below_alloc | apply pw_below_drewN | apply below_drew1 | refine below_set ?_ GE333.out) | exact HB.out)⟩⟩
          · rw [if_neg c8] at H
            have c8b0 : (t334 == 0) = false := beq_eq_false_iff_ne.mpr c8
            have c8b1 : (t334 != 0) = true := bne_iff_ne.mpr c8
            by_cases c9 : 0 ≤ x3_1
            · rw [if_pos c9] at H
              have c9b0 : decide (0 ≤ x3_1) = true := decide_eq_true c9
              clear c9
              simp only [Option.some.injEq, Prod.mk.injEq] at H
              obtain ⟨rfl, rfl⟩ := H
              go_wp2_with (first | ((with_reducible refine gate_callee (f := 87) rfl ?_); refine goesL_ (some 20) rfl rfl Try.func87 (by kernel_rfl) rfl #[.slice A0 l0.length c0, .int .i64 x3_1] rfl (by (try simp only [List.map_toArray, List.map_cons, List.map_nil]); first | done | rfl | (simp only [List.length_drop, List.length_take]; rfl)) ?_; (with_reducible refine (cosignerref03_alone.calls k1 _ _ l0 x3_1 t334 _ ?side1 ?side2 A7.out).mono ?_); (case side1 => repeat (first | exact (Kd.C_below HR0.out HB.out) | (with_reducible refine Kd.C_alloc ?_ _) | (with_reducible refine Kd.C_drewN ?_ _) | (with_reducible refine Kd.C_drew ?_))); (case side2 => exact HC0.out); rintro e w' ⟨rfl, ⟨nd, rfl⟩⟩; refine ⟨_, rfl, ?_⟩; (try (rw [drewN_self wr]; generalize hq_ : World.drewN wr _ = wr; have n0_ : Aside0 (wr.heap[gb333]? = some (.cells #[.int .i64 x334000_1, .string x334001_1] 87 (0, 0))) := ⟨by rw [← hq_]; exact (by (with_reducible repeat (first | refine blk_drewN ?_ _ | refine blk_drew ?_ | refine blk_alloc ?_ _)); exact BK333.out)⟩; have n1_ : Aside0 (Below w.heap.size w wr) := ⟨by rw [← hq_]; exact (by repeat (first | (with_reducible first | exact HB.out | apply below_alloc | apply pw_below_drewN | apply below_drew1 | refine below_set ?_ GE333.out) | exact HB.out))⟩; clear BK333 HB hq_; have BK333 := n0_; have HB := n1_; clear n0_ n1_)); have p335 : 0 ≤ (x3_1 : Int) := of_decide_eq_true (by first | (with_reducible assumption) | assumption); have q335 : x3_1 < (l0.length : Int) := of_decide_eq_true (by first | (with_reducible assumption) | assumption); obtain ⟨ad335, A335_2, c335_2, A335_3, c335_3, A335_4, c335_4, A335_5, c335_5, A335_6, c335_6, e335, hx335_0, hx335_1, hx335_2, hx335_3, hx335_4, hx335_5, hx335_6, hl335_2, hi335_2, hl335_3, hi335_3, hl335_4, hi335_4, hl335_5, hi335_5, hl335_6, hi335_6⟩ := at_T61 HR0.out x3_1 p335 q335; cases e335; replace hx335_0 := (HB.out.cell (World.block_lt_of_cell? w _ hx335_0)).trans hx335_0; replace hx335_1 := (HB.out.cell (World.block_lt_of_cell? w _ hx335_1)).trans hx335_1; replace hx335_2 := (HB.out.cell (World.block_lt_of_cell? w _ hx335_2)).trans hx335_2; replace hx335_3 := (HB.out.cell (World.block_lt_of_cell? w _ hx335_3)).trans hx335_3; replace hx335_4 := (HB.out.cell (World.block_lt_of_cell? w _ hx335_4)).trans hx335_4; replace hx335_5 := (HB.out.cell (World.block_lt_of_cell? w _ hx335_5)).trans hx335_5; replace hx335_6 := (HB.out.cell (World.block_lt_of_cell? w _ hx335_6)).trans hx335_6; have HR335_2 := Aside0.mk hi335_2; have HC335_2 := Aside0.mk hl335_2; clear hi335_2 hl335_2; have HR335_3 := Aside0.mk hi335_3; have HC335_3 := Aside0.mk hl335_3; clear hi335_3 hl335_3; have HR335_4 := Aside0.mk hi335_4; have HC335_4 := Aside0.mk hl335_4; clear hi335_4 hl335_4; have HR335_5 := Aside0.mk hi335_5; have HC335_5 := Aside0.mk hl335_5; clear hi335_5 hl335_5; have HR335_6 := Aside0.mk hi335_6; have HC335_6 := Aside0.mk hl335_6; clear hi335_6 hl335_6; replace p335 := eq_true p335; replace q335 := eq_true q335; have hcz10_0 : wr.cell? ⟨gb333, 0, none⟩ = some (.int .i64 x334000_1) := (blk_cell BK333.out 0).trans rfl; have hcz10_1 : wr.cell? ⟨gb333, 1, none⟩ = some (.string x334001_1) := (blk_cell BK333.out 1).trans rfl; have hfz10_0 := blk_frozen BK333.out 0; have hfz10_1 := blk_frozen BK333.out 1))
              refine bodyPost_ret (results_cell_row rfl _ _ gb333 87 #[.int .i64 t334, .string ((rd_T61 l0 x3_1).f0)] (0, 0) _ rfl (by (with_reducible repeat (first | refine blk_drewN ?_ _ | refine blk_drew ?_ | refine blk_alloc ?_ _)); refine blk_put (cs := #[.int .i64 t334, .string x334001_1]) ?_ 1 _ rfl; (with_reducible repeat (first | refine blk_drewN ?_ _ | refine blk_drew ?_ | refine blk_alloc ?_ _)); refine blk_put (cs := #[.int .i64 x334000_1, .string x334001_1]) ?_ 0 _ rfl; (with_reducible repeat (first | refine blk_drewN ?_ _ | refine blk_drew ?_ | refine blk_alloc ?_ _)); exact BK333.out) Try.underlying87 rfl (by kernel_rfl)) rfl ?_
              exact ⟨by first | rfl | (simp [errW_none, errW_some] <;> rfl) | (simp [*, errW_none, errW_some] <;> rfl), by repeat (first | (with_reducible first | exact HB.out | apply below_alloc | apply pw_below_drewN | apply below_drew1 | refine below_set ?_ GE333.out) | exact HB.out)⟩
            · rw [if_neg c9] at H
              exact absurd H (by simp)
        · rw [if_neg c6] at H
          have c6b0 : decide (x3_1 < (l0.length : Int)) = false := decide_eq_false c6
          clear c6
          have H' := Aside0.mk H
          clear H
          go_wp2
          go_loopg [5] k1 (fun kq v5 w' => ∃ (x5_2 : Int) (x334000_2 : Int) (x334001_2 : ByteArray), v5 = .int .i64 x5_2 ∧ Aside0 (cosignerref03_Check.l1 kq l0 x5_2 = some (r1, r2)) ∧ Aside0 (kq ≤ k1) ∧ Aside0 (w'.heap[gb333]? = some (.cells #[.int .i64 x334000_2, .string x334001_2] 87 (0, 0))) ∧ Aside0 (Below w.heap.size w w'))
          case atStart => exact ⟨(0), (x334000_1), (x334001_1), (by first | rfl | (simp; done) | (simp [*]; done)), H', ⟨Nat.le_refl _⟩, ⟨by (with_reducible repeat (first | refine blk_drewN ?_ _ | refine blk_drew ?_ | refine blk_alloc ?_ _)); exact BK333.out⟩, ⟨by repeat (first | (with_reducible first | exact HB.out | apply below_alloc | apply pw_below_drewN | apply below_drew1 | refine below_set ?_ GE333.out) | exact HB.out)⟩⟩
          case round =>
            clear H'
            try clear c2
            try clear c2b0
            try clear c2b1
            try clear p2
            try clear c3
            try clear p3
            try clear q3
            try clear hx3
            try clear c4
            try clear c6
            try clear c6b0
            try clear p6
            try clear c8
            try clear c8b0
            try clear c8b1
            try clear c9
            try clear c9b0
            try clear hcz10_0
            try clear hcz10_1
            try clear hcz4_0
            try clear hcz4_1
            try clear hfz10_0
            try clear hfz10_1
            try clear hfz4_0
            try clear hfz4_1
            try clear hx335_0
            try clear hx335_1
            try clear hx335_2
            try clear hx335_3
            try clear hx335_4
            try clear hx335_5
            try clear hx335_6
            try clear p2
            try clear p335
            try clear q335
            obtain ⟨x5_2, x334000_2, x334001_2, rfl, HA, HK2, BK333, HB⟩ := hrel
            cases gk with
            | zero => exact absurd HA.out (by simp [cosignerref03_Check.l1])
            | succ k2 =>
              have H := HA.out
              clear HA
              simp only [cosignerref03_Check.l1] at H
              by_cases c11 : x5_2 < (l0.length : Int)
              · rw [if_pos c11] at H
                have c11b0 : decide (x5_2 < (l0.length : Int)) = true := decide_eq_true c11
                clear c11
                have H' := Aside0.mk H
                clear H
                go_wp2
                go_loopg [6] k2 (fun kq v6 w' => ∃ (x6_3 : Int) (x334000_3 : Int) (x334001_3 : ByteArray), v6 = .int .i64 x6_3 ∧ Aside0 (cosignerref03_Check.l2 kq l0 x5_2 x6_3 = some (r1, r2)) ∧ Aside0 (kq ≤ k2) ∧ Aside0 (w'.heap[gb333]? = some (.cells #[.int .i64 x334000_3, .string x334001_3] 87 (0, 0))) ∧ Aside0 (Below w.heap.size w w'))
                case atStart => exact ⟨(0), (x334000_2), (x334001_2), (by first | rfl | (simp; done) | (simp [*]; done)), H', ⟨Nat.le_refl _⟩, ⟨by (with_reducible repeat (first | refine blk_drewN ?_ _ | refine blk_drew ?_ | refine blk_alloc ?_ _)); exact BK333.out⟩, ⟨by repeat (first | (with_reducible first | exact HB.out | apply below_alloc | apply pw_below_drewN | apply below_drew1 | refine below_set ?_ GE333.out) | exact HB.out)⟩⟩
                case round =>
                  clear H'
                  try clear c1
                  try clear c2
                  try clear c2b0
                  try clear c2b1
                  try clear p2
                  try clear c3
                  try clear p3
                  try clear q3
                  try clear hx3
                  try clear c4
                  try clear c6
                  try clear c6b0
                  try clear p6
                  try clear c8
                  try clear c8b0
                  try clear c8b1
                  try clear c9
                  try clear c9b0
                  try clear c11
                  try clear c11b0
                  try clear hcz10_0
                  try clear hcz10_1
                  try clear hcz4_0
                  try clear hcz4_1
                  try clear hfz10_0
                  try clear hfz10_1
                  try clear hfz4_0
                  try clear hfz4_1
                  try clear hx335_0
                  try clear hx335_1
                  try clear hx335_2
                  try clear hx335_3
                  try clear hx335_4
                  try clear hx335_5
                  try clear hx335_6
                  try clear p2
                  try clear p3
                  try clear p335
                  try clear p6
                  try clear q3
                  try clear q335
                  obtain ⟨x6_3, x334000_3, x334001_3, rfl, HA, HK3, BK333, HB⟩ := hrel
                  cases gk with
                  | zero => exact absurd HA.out (by simp [cosignerref03_Check.l2])
                  | succ k3 =>
                    have H := HA.out
                    clear HA
                    simp only [cosignerref03_Check.l2] at H
                    by_cases c12 : 0 ≤ x5_2
                    · rw [if_pos c12] at H
                      have c12b0 : decide (0 ≤ x5_2) = true := decide_eq_true c12
                      clear c12
                      by_cases c13 : x5_2 < (l0.length : Int)
                      · rw [if_pos c13] at H
                        have c13b0 : decide (x5_2 < (l0.length : Int)) = true := decide_eq_true c13
                        clear c13
                        by_cases c14 : x6_3 < (((rd_T61 l0 x5_2).f3).length : Int)
                        · rw [if_pos c14] at H
                          have c14b0 : decide (x6_3 < (((rd_T61 l0 x5_2).f3).length : Int)) = true := decide_eq_true c14
                          clear c14
                          by_cases c15 : 0 ≤ x6_3
                          · rw [if_pos c15] at H
                            have c15b0 : decide (0 ≤ x6_3) = true := decide_eq_true c15
                            clear c15
                            replace H := Option.bind_eq_some_iff.mp H
                            obtain ⟨t343, A160, H⟩ := H
                            replace H : (if t343 < 0 then (some (5, (rd_T61 l0 x5_2).f0)) else (cosignerref03_Check.l2 k3 l0 x5_2 (wrap64 (x6_3 + 1)))) = some (r1, r2) := H
                            have A16 := Aside0.mk A160
                            clear A160
                            by_cases c17 : t343 < 0
                            · rw [if_pos c17] at H
                              have c17b0 : decide (t343 < 0) = true := decide_eq_true c17
                              clear c17
                              simp only [Option.some.injEq, Prod.mk.injEq] at H
                              obtain ⟨rfl, rfl⟩ := H
                              have p340 : 0 ≤ (x5_2 : Int) := of_decide_eq_true (by first | (with_reducible assumption) | assumption)
                              have q340 : x5_2 < (l0.length : Int) := of_decide_eq_true (by first | (with_reducible assumption) | assumption)
                              obtain ⟨ad340, A340_2, c340_2, A340_3, c340_3, A340_4, c340_4, A340_5, c340_5, A340_6, c340_6, e340, hx340_0, hx340_1, hx340_2, hx340_3, hx340_4, hx340_5, hx340_6, hl340_2, hi340_2, hl340_3, hi340_3, hl340_4, hi340_4, hl340_5, hi340_5, hl340_6, hi340_6⟩ := at_T61 HR0.out x5_2 p340 q340
                              cases e340
                              replace hx340_0 := (HB.out.cell (World.block_lt_of_cell? w _ hx340_0)).trans hx340_0
                              replace hx340_1 := (HB.out.cell (World.block_lt_of_cell? w _ hx340_1)).trans hx340_1
                              replace hx340_2 := (HB.out.cell (World.block_lt_of_cell? w _ hx340_2)).trans hx340_2
                              replace hx340_3 := (HB.out.cell (World.block_lt_of_cell? w _ hx340_3)).trans hx340_3
                              replace hx340_4 := (HB.out.cell (World.block_lt_of_cell? w _ hx340_4)).trans hx340_4
                              replace hx340_5 := (HB.out.cell (World.block_lt_of_cell? w _ hx340_5)).trans hx340_5
                              replace hx340_6 := (HB.out.cell (World.block_lt_of_cell? w _ hx340_6)).trans hx340_6
                              have HR340_2 := Aside0.mk hi340_2
                              have HC340_2 := Aside0.mk hl340_2
                              clear hi340_2 hl340_2
                              have HR340_3 := Aside0.mk hi340_3
                              have HC340_3 := Aside0.mk hl340_3
                              clear hi340_3 hl340_3
                              have HR340_4 := Aside0.mk hi340_4
                              have HC340_4 := Aside0.mk hl340_4
                              clear hi340_4 hl340_4
                              have HR340_5 := Aside0.mk hi340_5
                              have HC340_5 := Aside0.mk hl340_5
                              clear hi340_5 hl340_5
                              have HR340_6 := Aside0.mk hi340_6
                              have HC340_6 := Aside0.mk hl340_6
                              clear hi340_6 hl340_6
                              replace p340 := eq_true p340
                              replace q340 := eq_true q340
                              have p341 : 0 ≤ (x5_2 : Int) := of_decide_eq_true (by first | (with_reducible assumption) | assumption)
                              have q341 : x5_2 < (l0.length : Int) := of_decide_eq_true (by first | (with_reducible assumption) | assumption)
                              obtain ⟨ad341, A341_2, c341_2, A341_3, c341_3, A341_4, c341_4, A341_5, c341_5, A341_6, c341_6, e341, hx341_0, hx341_1, hx341_2, hx341_3, hx341_4, hx341_5, hx341_6, hl341_2, hi341_2, hl341_3, hi341_3, hl341_4, hi341_4, hl341_5, hi341_5, hl341_6, hi341_6⟩ := at_T61 HR0.out x5_2 p341 q341
                              obtain rfl : ad340 = ad341 := (by injection e341)
                              replace hx341_0 := (HB.out.cell (World.block_lt_of_cell? w _ hx341_0)).trans hx341_0
                              replace hx341_1 := (HB.out.cell (World.block_lt_of_cell? w _ hx341_1)).trans hx341_1
                              replace hx341_2 := (HB.out.cell (World.block_lt_of_cell? w _ hx341_2)).trans hx341_2
                              replace hx341_3 := (HB.out.cell (World.block_lt_of_cell? w _ hx341_3)).trans hx341_3
                              replace hx341_4 := (HB.out.cell (World.block_lt_of_cell? w _ hx341_4)).trans hx341_4
                              replace hx341_5 := (HB.out.cell (World.block_lt_of_cell? w _ hx341_5)).trans hx341_5
                              replace hx341_6 := (HB.out.cell (World.block_lt_of_cell? w _ hx341_6)).trans hx341_6
                              have HR341_2 := Aside0.mk hi341_2
                              have HC341_2 := Aside0.mk hl341_2
                              clear hi341_2 hl341_2
                              have HR341_3 := Aside0.mk hi341_3
                              have HC341_3 := Aside0.mk hl341_3
                              clear hi341_3 hl341_3
                              have HR341_4 := Aside0.mk hi341_4
                              have HC341_4 := Aside0.mk hl341_4
                              clear hi341_4 hl341_4
                              have HR341_5 := Aside0.mk hi341_5
                              have HC341_5 := Aside0.mk hl341_5
                              clear hi341_5 hl341_5
                              have HR341_6 := Aside0.mk hi341_6
                              have HC341_6 := Aside0.mk hl341_6
                              clear hi341_6 hl341_6
                              replace p341 := eq_true p341
                              replace q341 := eq_true q341
                              have ea_ := Option.some.inj (hx340_2.symm.trans hx341_2)
                              injection ea_ with ea_ en_ ec_
                              subst ea_
                              subst ec_
                              clear en_
                              have ea_ := Option.some.inj (hx340_3.symm.trans hx341_3)
                              injection ea_ with ea_ en_ ec_
                              subst ea_
                              subst ec_
                              clear en_
                              have ea_ := Option.some.inj (hx340_4.symm.trans hx341_4)
                              injection ea_ with ea_ en_ ec_
                              subst ea_
                              subst ec_
                              clear en_
                              have ea_ := Option.some.inj (hx340_5.symm.trans hx341_5)
                              injection ea_ with ea_ en_ ec_
                              subst ea_
                              subst ec_
                              clear en_
                              have ea_ := Option.some.inj (hx340_6.symm.trans hx341_6)
                              injection ea_ with ea_ en_ ec_
                              subst ea_
                              subst ec_
                              clear en_
                              have p342 : 0 ≤ (x6_3 : Int) := of_decide_eq_true (by first | (with_reducible assumption) | assumption)
                              have q342 : x6_3 < (((rd_T61 l0 x5_2).f3).length : Int) := of_decide_eq_true (by first | (with_reducible assumption) | assumption)
                              obtain ⟨ad342, A342_1, c342_1, A342_2, c342_2, A342_3, c342_3, A342_4, c342_4, A342_5, c342_5, e342, hx342_0, hx342_1, hx342_2, hx342_3, hx342_4, hx342_5, hl342_1, hi342_1, hl342_2, hi342_2, hl342_3, hi342_3, hl342_4, hi342_4, hl342_5, hi342_5⟩ := at_T65 HR341_3.out x6_3 p342 q342
                              cases e342
                              replace hx342_0 := (HB.out.cell (World.block_lt_of_cell? w _ hx342_0)).trans hx342_0
                              replace hx342_1 := (HB.out.cell (World.block_lt_of_cell? w _ hx342_1)).trans hx342_1
                              replace hx342_2 := (HB.out.cell (World.block_lt_of_cell? w _ hx342_2)).trans hx342_2
                              replace hx342_3 := (HB.out.cell (World.block_lt_of_cell? w _ hx342_3)).trans hx342_3
                              replace hx342_4 := (HB.out.cell (World.block_lt_of_cell? w _ hx342_4)).trans hx342_4
                              replace hx342_5 := (HB.out.cell (World.block_lt_of_cell? w _ hx342_5)).trans hx342_5
                              have HR342_1 := Aside0.mk hi342_1
                              have HC342_1 := Aside0.mk hl342_1
                              clear hi342_1 hl342_1
                              have HR342_2 := Aside0.mk hi342_2
                              have HC342_2 := Aside0.mk hl342_2
                              clear hi342_2 hl342_2
                              have HR342_3 := Aside0.mk hi342_3
                              have HC342_3 := Aside0.mk hl342_3
                              clear hi342_3 hl342_3
                              have HR342_4 := Aside0.mk hi342_4
                              have HC342_4 := Aside0.mk hl342_4
                              clear hi342_4 hl342_4
                              have HR342_5 := Aside0.mk hi342_5
                              have HC342_5 := Aside0.mk hl342_5
                              clear hi342_5 hl342_5
                              replace p342 := eq_true p342
                              replace q342 := eq_true q342
                              go_wp2_with (first | ((with_reducible refine gate_callee (f := 88) rfl ?_); refine goesL_ (some 56) rfl rfl Try.func88 (by kernel_rfl) rfl #[.slice (some ad340) l0.length c0, .string ((rd_T65 ((rd_T61 l0 x5_2).f3) x6_3).f0)] rfl (by (try simp only [List.map_toArray, List.map_cons, List.map_nil]); first | done | rfl | (simp only [List.length_drop, List.length_take]; rfl)) ?_; (with_reducible refine (cosignerref03_index.calls k3 _ _ l0 ((rd_T65 ((rd_T61 l0 x5_2).f3) x6_3).f0) t343 _ ?side1 ?side2 A16.out).mono ?_); (case side1 => repeat (first | exact (Kd.C_below HR0.out HB.out) | (with_reducible refine Kd.C_alloc ?_ _) | (with_reducible refine Kd.C_drewN ?_ _) | (with_reducible refine Kd.C_drew ?_))); (case side2 => exact HC0.out); rintro e w' ⟨rfl, ⟨nd, rfl⟩⟩; refine ⟨_, rfl, ?_⟩; (try (rw [drewN_self wr]; generalize hq_ : World.drewN wr _ = wr; have n0_ : Aside0 (wr.heap[gb333]? = some (.cells #[.int .i64 x334000_3, .string x334001_3] 87 (0, 0))) := ⟨by rw [← hq_]; exact (by (with_reducible repeat (first | refine blk_drewN ?_ _ | refine blk_drew ?_ | refine blk_alloc ?_ _)); exact BK333.out)⟩; have n1_ : Aside0 (Below w.heap.size w wr) := ⟨by rw [← hq_]; exact (by repeat (first | (with_reducible first | exact HB.out | apply below_alloc | apply pw_below_drewN | apply below_drew1 | refine below_set ?_ GE333.out) | exact HB.out))⟩; clear BK333 HB hq_; have BK333 := n0_; have HB := n1_; clear n0_ n1_)); have p344 : 0 ≤ (x5_2 : Int) := of_decide_eq_true (by first | (with_reducible assumption) | assumption); have q344 : x5_2 < (l0.length : Int) := of_decide_eq_true (by first | (with_reducible assumption) | assumption); obtain ⟨ad344, A344_2, c344_2, A344_3, c344_3, A344_4, c344_4, A344_5, c344_5, A344_6, c344_6, e344, hx344_0, hx344_1, hx344_2, hx344_3, hx344_4, hx344_5, hx344_6, hl344_2, hi344_2, hl344_3, hi344_3, hl344_4, hi344_4, hl344_5, hi344_5, hl344_6, hi344_6⟩ := at_T61 HR0.out x5_2 p344 q344; obtain rfl : ad340 = ad344 := (by injection e344); replace hx344_0 := (HB.out.cell (World.block_lt_of_cell? w _ hx344_0)).trans hx344_0; replace hx344_1 := (HB.out.cell (World.block_lt_of_cell? w _ hx344_1)).trans hx344_1; replace hx344_2 := (HB.out.cell (World.block_lt_of_cell? w _ hx344_2)).trans hx344_2; replace hx344_3 := (HB.out.cell (World.block_lt_of_cell? w _ hx344_3)).trans hx344_3; replace hx344_4 := (HB.out.cell (World.block_lt_of_cell? w _ hx344_4)).trans hx344_4; replace hx344_5 := (HB.out.cell (World.block_lt_of_cell? w _ hx344_5)).trans hx344_5; replace hx344_6 := (HB.out.cell (World.block_lt_of_cell? w _ hx344_6)).trans hx344_6; have HR344_2 := Aside0.mk hi344_2; have HC344_2 := Aside0.mk hl344_2; clear hi344_2 hl344_2; have HR344_3 := Aside0.mk hi344_3; have HC344_3 := Aside0.mk hl344_3; clear hi344_3 hl344_3; have HR344_4 := Aside0.mk hi344_4; have HC344_4 := Aside0.mk hl344_4; clear hi344_4 hl344_4; have HR344_5 := Aside0.mk hi344_5; have HC344_5 := Aside0.mk hl344_5; clear hi344_5 hl344_5; have HR344_6 := Aside0.mk hi344_6; have HC344_6 := Aside0.mk hl344_6; clear hi344_6 hl344_6; replace p344 := eq_true p344; replace q344 := eq_true q344; have hcz18_0 : wr.cell? ⟨gb333, 0, none⟩ = some (.int .i64 x334000_3) := (blk_cell BK333.out 0).trans rfl; have hcz18_1 : wr.cell? ⟨gb333, 1, none⟩ = some (.string x334001_3) := (blk_cell BK333.out 1).trans rfl; have hfz18_0 := blk_frozen BK333.out 0; have hfz18_1 := blk_frozen BK333.out 1))
                              refine bodyPost_ret (results_cell_row rfl _ _ gb333 87 #[.int .i64 5, .string ((rd_T61 l0 x5_2).f0)] (0, 0) _ rfl (by (with_reducible repeat (first | refine blk_drewN ?_ _ | refine blk_drew ?_ | refine blk_alloc ?_ _)); refine blk_put (cs := #[.int .i64 5, .string x334001_3]) ?_ 1 _ rfl; (with_reducible repeat (first | refine blk_drewN ?_ _ | refine blk_drew ?_ | refine blk_alloc ?_ _)); refine blk_put (cs := #[.int .i64 x334000_3, .string x334001_3]) ?_ 0 _ rfl; (with_reducible repeat (first | refine blk_drewN ?_ _ | refine blk_drew ?_ | refine blk_alloc ?_ _)); exact BK333.out) Try.underlying87 rfl (by kernel_rfl)) rfl ?_
                              exact ⟨by first | rfl | (simp [errW_none, errW_some] <;> rfl) | (simp [*, errW_none, errW_some] <;> rfl), by repeat (first | (with_reducible first | exact HB.out | apply below_alloc | apply pw_below_drewN | apply below_drew1 | refine below_set ?_ GE333.out) | exact HB.out)⟩
                            · rw [if_neg c17] at H
                              have c17b0 : decide (t343 < 0) = false := decide_eq_false c17
                              clear c17
                              have H' := Aside0.mk H
                              clear H
                              have p340 : 0 ≤ (x5_2 : Int) := of_decide_eq_true (by first | (with_reducible assumption) | assumption)
                              have q340 : x5_2 < (l0.length : Int) := of_decide_eq_true (by first | (with_reducible assumption) | assumption)
                              obtain ⟨ad340, A340_2, c340_2, A340_3, c340_3, A340_4, c340_4, A340_5, c340_5, A340_6, c340_6, e340, hx340_0, hx340_1, hx340_2, hx340_3, hx340_4, hx340_5, hx340_6, hl340_2, hi340_2, hl340_3, hi340_3, hl340_4, hi340_4, hl340_5, hi340_5, hl340_6, hi340_6⟩ := at_T61 HR0.out x5_2 p340 q340
                              cases e340
                              replace hx340_0 := (HB.out.cell (World.block_lt_of_cell? w _ hx340_0)).trans hx340_0
                              replace hx340_1 := (HB.out.cell (World.block_lt_of_cell? w _ hx340_1)).trans hx340_1
                              replace hx340_2 := (HB.out.cell (World.block_lt_of_cell? w _ hx340_2)).trans hx340_2
                              replace hx340_3 := (HB.out.cell (World.block_lt_of_cell? w _ hx340_3)).trans hx340_3
                              replace hx340_4 := (HB.out.cell (World.block_lt_of_cell? w _ hx340_4)).trans hx340_4
                              replace hx340_5 := (HB.out.cell (World.block_lt_of_cell? w _ hx340_5)).trans hx340_5
                              replace hx340_6 := (HB.out.cell (World.block_lt_of_cell? w _ hx340_6)).trans hx340_6
                              have HR340_2 := Aside0.mk hi340_2
                              have HC340_2 := Aside0.mk hl340_2
                              clear hi340_2 hl340_2
                              have HR340_3 := Aside0.mk hi340_3
                              have HC340_3 := Aside0.mk hl340_3
                              clear hi340_3 hl340_3
                              have HR340_4 := Aside0.mk hi340_4
                              have HC340_4 := Aside0.mk hl340_4
                              clear hi340_4 hl340_4
                              have HR340_5 := Aside0.mk hi340_5
                              have HC340_5 := Aside0.mk hl340_5
                              clear hi340_5 hl340_5
                              have HR340_6 := Aside0.mk hi340_6
                              have HC340_6 := Aside0.mk hl340_6
                              clear hi340_6 hl340_6
                              replace p340 := eq_true p340
                              replace q340 := eq_true q340
                              have p341 : 0 ≤ (x5_2 : Int) := of_decide_eq_true (by first | (with_reducible assumption) | assumption)
                              have q341 : x5_2 < (l0.length : Int) := of_decide_eq_true (by first | (with_reducible assumption) | assumption)
                              obtain ⟨ad341, A341_2, c341_2, A341_3, c341_3, A341_4, c341_4, A341_5, c341_5, A341_6, c341_6, e341, hx341_0, hx341_1, hx341_2, hx341_3, hx341_4, hx341_5, hx341_6, hl341_2, hi341_2, hl341_3, hi341_3, hl341_4, hi341_4, hl341_5, hi341_5, hl341_6, hi341_6⟩ := at_T61 HR0.out x5_2 p341 q341
                              obtain rfl : ad340 = ad341 := (by injection e341)
                              replace hx341_0 := (HB.out.cell (World.block_lt_of_cell? w _ hx341_0)).trans hx341_0
                              replace hx341_1 := (HB.out.cell (World.block_lt_of_cell? w _ hx341_1)).trans hx341_1
                              replace hx341_2 := (HB.out.cell (World.block_lt_of_cell? w _ hx341_2)).trans hx341_2
                              replace hx341_3 := (HB.out.cell (World.block_lt_of_cell? w _ hx341_3)).trans hx341_3
                              replace hx341_4 := (HB.out.cell (World.block_lt_of_cell? w _ hx341_4)).trans hx341_4
                              replace hx341_5 := (HB.out.cell (World.block_lt_of_cell? w _ hx341_5)).trans hx341_5
                              replace hx341_6 := (HB.out.cell (World.block_lt_of_cell? w _ hx341_6)).trans hx341_6
                              have HR341_2 := Aside0.mk hi341_2
                              have HC341_2 := Aside0.mk hl341_2
                              clear hi341_2 hl341_2
                              have HR341_3 := Aside0.mk hi341_3
                              have HC341_3 := Aside0.mk hl341_3
                              clear hi341_3 hl341_3
                              have HR341_4 := Aside0.mk hi341_4
                              have HC341_4 := Aside0.mk hl341_4
                              clear hi341_4 hl341_4
                              have HR341_5 := Aside0.mk hi341_5
                              have HC341_5 := Aside0.mk hl341_5
                              clear hi341_5 hl341_5
                              have HR341_6 := Aside0.mk hi341_6
                              have HC341_6 := Aside0.mk hl341_6
                              clear hi341_6 hl341_6
                              replace p341 := eq_true p341
                              replace q341 := eq_true q341
                              have ea_ := Option.some.inj (hx340_2.symm.trans hx341_2)
                              injection ea_ with ea_ en_ ec_
                              subst ea_
                              subst ec_
                              clear en_
                              have ea_ := Option.some.inj (hx340_3.symm.trans hx341_3)
                              injection ea_ with ea_ en_ ec_
                              subst ea_
                              subst ec_
                              clear en_
                              have ea_ := Option.some.inj (hx340_4.symm.trans hx341_4)
                              injection ea_ with ea_ en_ ec_
                              subst ea_
                              subst ec_
                              clear en_
                              have ea_ := Option.some.inj (hx340_5.symm.trans hx341_5)
                              injection ea_ with ea_ en_ ec_
                              subst ea_
                              subst ec_
                              clear en_
                              have ea_ := Option.some.inj (hx340_6.symm.trans hx341_6)
                              injection ea_ with ea_ en_ ec_
                              subst ea_
                              subst ec_
                              clear en_
                              have p342 : 0 ≤ (x6_3 : Int) := of_decide_eq_true (by first | (with_reducible assumption) | assumption)
                              have q342 : x6_3 < (((rd_T61 l0 x5_2).f3).length : Int) := of_decide_eq_true (by first | (with_reducible assumption) | assumption)
                              obtain ⟨ad342, A342_1, c342_1, A342_2, c342_2, A342_3, c342_3, A342_4, c342_4, A342_5, c342_5, e342, hx342_0, hx342_1, hx342_2, hx342_3, hx342_4, hx342_5, hl342_1, hi342_1, hl342_2, hi342_2, hl342_3, hi342_3, hl342_4, hi342_4, hl342_5, hi342_5⟩ := at_T65 HR341_3.out x6_3 p342 q342
                              cases e342
                              replace hx342_0 := (HB.out.cell (World.block_lt_of_cell? w _ hx342_0)).trans hx342_0
                              replace hx342_1 := (HB.out.cell (World.block_lt_of_cell? w _ hx342_1)).trans hx342_1
                              replace hx342_2 := (HB.out.cell (World.block_lt_of_cell? w _ hx342_2)).trans hx342_2
                              replace hx342_3 := (HB.out.cell (World.block_lt_of_cell? w _ hx342_3)).trans hx342_3
                              replace hx342_4 := (HB.out.cell (World.block_lt_of_cell? w _ hx342_4)).trans hx342_4
                              replace hx342_5 := (HB.out.cell (World.block_lt_of_cell? w _ hx342_5)).trans hx342_5
                              have HR342_1 := Aside0.mk hi342_1
                              have HC342_1 := Aside0.mk hl342_1
                              clear hi342_1 hl342_1
                              have HR342_2 := Aside0.mk hi342_2
                              have HC342_2 := Aside0.mk hl342_2
                              clear hi342_2 hl342_2
                              have HR342_3 := Aside0.mk hi342_3
                              have HC342_3 := Aside0.mk hl342_3
                              clear hi342_3 hl342_3
                              have HR342_4 := Aside0.mk hi342_4
                              have HC342_4 := Aside0.mk hl342_4
                              clear hi342_4 hl342_4
                              have HR342_5 := Aside0.mk hi342_5
                              have HC342_5 := Aside0.mk hl342_5
                              clear hi342_5 hl342_5
                              replace p342 := eq_true p342
                              replace q342 := eq_true q342
                              go_wp2_with (first | ((with_reducible refine gate_callee (f := 88) rfl ?_); refine goesL_ (some 56) rfl rfl Try.func88 (by kernel_rfl) rfl #[.slice (some ad340) l0.length c0, .string ((rd_T65 ((rd_T61 l0 x5_2).f3) x6_3).f0)] rfl (by (try simp only [List.map_toArray, List.map_cons, List.map_nil]); first | done | rfl | (simp only [List.length_drop, List.length_take]; rfl)) ?_; (with_reducible refine (cosignerref03_index.calls k3 _ _ l0 ((rd_T65 ((rd_T61 l0 x5_2).f3) x6_3).f0) t343 _ ?side1 ?side2 A16.out).mono ?_); (case side1 => repeat (first | exact (Kd.C_below HR0.out HB.out) | (with_reducible refine Kd.C_alloc ?_ _) | (with_reducible refine Kd.C_drewN ?_ _) | (with_reducible refine Kd.C_drew ?_))); (case side2 => exact HC0.out); rintro e w' ⟨rfl, ⟨nd, rfl⟩⟩; refine ⟨_, rfl, ?_⟩))
                              go_roundg k3
                              case measure => have := HK1.out; have := HK2.out; have := HK3.out; omega
                              case rel => exact ⟨(wrap64 (x6_3 + 1)), (x334000_3), (x334001_3), (by first | rfl | (simp; done) | (simp [*]; done)), H', ⟨by have := HK1.out; have := HK2.out; have := HK3.out; omega⟩, ⟨by (with_reducible repeat (first | refine blk_drewN ?_ _ | refine blk_drew ?_ | refine blk_alloc ?_ _)); exact BK333.out⟩, ⟨by repeat (first | (with_reducible first | exact HB.out | apply below_alloc | apply pw_below_drewN | apply below_drew1 | refine below_set ?_ GE333.out) | exact HB.out)⟩⟩
                          · rw [if_neg c15] at H
                            exact absurd H (by simp)
                        · rw [if_neg c14] at H
                          have c14b0 : decide (x6_3 < (((rd_T61 l0 x5_2).f3).length : Int)) = false := decide_eq_false c14
                          clear c14
                          have H' := Aside0.mk H
                          clear H
                          have p340 : 0 ≤ (x5_2 : Int) := of_decide_eq_true (by first | (with_reducible assumption) | assumption)
                          have q340 : x5_2 < (l0.length : Int) := of_decide_eq_true (by first | (with_reducible assumption) | assumption)
                          obtain ⟨ad340, A340_2, c340_2, A340_3, c340_3, A340_4, c340_4, A340_5, c340_5, A340_6, c340_6, e340, hx340_0, hx340_1, hx340_2, hx340_3, hx340_4, hx340_5, hx340_6, hl340_2, hi340_2, hl340_3, hi340_3, hl340_4, hi340_4, hl340_5, hi340_5, hl340_6, hi340_6⟩ := at_T61 HR0.out x5_2 p340 q340
                          cases e340
                          replace hx340_0 := (HB.out.cell (World.block_lt_of_cell? w _ hx340_0)).trans hx340_0
                          replace hx340_1 := (HB.out.cell (World.block_lt_of_cell? w _ hx340_1)).trans hx340_1
                          replace hx340_2 := (HB.out.cell (World.block_lt_of_cell? w _ hx340_2)).trans hx340_2
                          replace hx340_3 := (HB.out.cell (World.block_lt_of_cell? w _ hx340_3)).trans hx340_3
                          replace hx340_4 := (HB.out.cell (World.block_lt_of_cell? w _ hx340_4)).trans hx340_4
                          replace hx340_5 := (HB.out.cell (World.block_lt_of_cell? w _ hx340_5)).trans hx340_5
                          replace hx340_6 := (HB.out.cell (World.block_lt_of_cell? w _ hx340_6)).trans hx340_6
                          have HR340_2 := Aside0.mk hi340_2
                          have HC340_2 := Aside0.mk hl340_2
                          clear hi340_2 hl340_2
                          have HR340_3 := Aside0.mk hi340_3
                          have HC340_3 := Aside0.mk hl340_3
                          clear hi340_3 hl340_3
                          have HR340_4 := Aside0.mk hi340_4
                          have HC340_4 := Aside0.mk hl340_4
                          clear hi340_4 hl340_4
                          have HR340_5 := Aside0.mk hi340_5
                          have HC340_5 := Aside0.mk hl340_5
                          clear hi340_5 hl340_5
                          have HR340_6 := Aside0.mk hi340_6
                          have HC340_6 := Aside0.mk hl340_6
                          clear hi340_6 hl340_6
                          replace p340 := eq_true p340
                          replace q340 := eq_true q340
                          go_wp2
                          go_roundg k3
                          case measure => have := HK1.out; have := HK2.out; have := HK3.out; omega
                          case rel => exact ⟨(wrap64 (x5_2 + 1)), (x334000_3), (x334001_3), (by first | rfl | (simp; done) | (simp [*]; done)), H', ⟨by have := HK1.out; have := HK2.out; have := HK3.out; omega⟩, ⟨by (with_reducible repeat (first | refine blk_drewN ?_ _ | refine blk_drew ?_ | refine blk_alloc ?_ _)); exact BK333.out⟩, ⟨by repeat (first | (with_reducible first | exact HB.out | apply below_alloc | apply pw_below_drewN | apply below_drew1 | refine below_set ?_ GE333.out) | exact HB.out)⟩⟩
                      · rw [if_neg c13] at H
                        exact absurd H (by simp)
                    · rw [if_neg c12] at H
                      exact absurd H (by simp)
              · rw [if_neg c11] at H
                have c11b0 : decide (x5_2 < (l0.length : Int)) = false := decide_eq_false c11
                clear c11
                replace H := Option.bind_eq_some_iff.mp H
                obtain ⟨t336, A190, H⟩ := H
                replace H : (if (t336.length : Int) > 0 then (if 0 < (t336.length : Int) then (some (7, rdOf ByteArray.empty t336 0)) else (none)) else (some (0, (⟨#[]⟩ : ByteArray)))) = some (r1, r2) := H
                have A19 := Aside0.mk A190
                clear A190
                by_cases c20 : (t336.length : Int) > 0
                · rw [if_pos c20] at H
                  have c20b0 : decide (0 < (t336.length : Int)) = true := decide_eq_true c20
                  have c20b1 : decide (0 < t336.length) = true := decide_eq_true (by omega)
                  clear c20
                  by_cases c21 : 0 < (t336.length : Int)
                  · rw [if_pos c21] at H
                    have c21b0 : decide (0 < (t336.length : Int)) = true := decide_eq_true c21
                    have c21b1 : decide (0 < t336.length) = true := decide_eq_true (by omega)
                    clear c21
                    simp only [Option.some.injEq, Prod.mk.injEq] at H
                    obtain ⟨rfl, rfl⟩ := H
                    go_wp2_with (first | ((with_reducible refine gate_callee (f := 46) rfl ?_); refine goesL_ (some 65) rfl rfl Try.func46 (by kernel_rfl) rfl #[.slice A0 l0.length c0] rfl (by (try simp only [List.map_toArray, List.map_cons, List.map_nil]); first | done | rfl | (simp only [List.length_drop, List.length_take]; rfl)) ?_; (with_reducible refine (cosignerref03_Ring.calls _ _ l0 t336 _ ?side1 ?side2 A19.out).mono ?_); (case side1 => repeat (first | exact (Kd.C_below HR0.out HB.out) | (with_reducible refine Kd.C_alloc ?_ _) | (with_reducible refine Kd.C_drewN ?_ _) | (with_reducible refine Kd.C_drew ?_))); (case side2 => exact HC0.out); rintro e w22 ⟨v337, rfl, ho0, hb⟩; refine ⟨_, rfl, ?_⟩; have n0_ := Aside0.mk (Kd.R_lower ho0 (below_size (by repeat (first | (with_reducible first | exact HB.out | apply below_alloc | apply pw_below_drewN | apply below_drew1 | refine below_set ?_ GE333.out) | exact HB.out)))); have n1_ := Aside0.mk (blk_below (g := gb333) (o := .cells #[.int .i64 x334000_2, .string x334001_2] 87 (0, 0)) (by (with_reducible repeat (first | refine blk_drewN ?_ _ | refine blk_drew ?_ | refine blk_alloc ?_ _)); exact BK333.out) hb); have n2_ := Aside0.mk (below_step (by repeat (first | (with_reducible first | exact HB.out | apply below_alloc | apply pw_below_drewN | apply below_drew1 | refine below_set ?_ GE333.out) | exact HB.out)) hb); clear BK333; clear HB; have HO338 := n0_; have BK333 := n1_; have HB := n2_; clear n0_ n1_ n2_; (try clear hb); (try clear hb2); (try clear hk); (try clear hi); (try clear ho0); obtain ⟨Ao23, co23, eo23⟩ := Kd.R_slice HO338.out; subst eo23; have p339 : 0 ≤ (0 : Int) := (by omega); have q339 : 0 < (t336.length : Int) := of_decide_eq_true (by first | (with_reducible assumption) | assumption); obtain ⟨ad339, e339, hx339_0⟩ := Kd.at_string (Kd.R_reads' HO338.out).2.2 0 p339 q339; cases e339; have qi339 : (0 < t336.length) = True := eq_true (by omega); (try rw [show ((0 : Int)).toNat = 0 from rfl] at hx339_0); (try rw [Addr.add_zero'] at hx339_0); replace p339 := eq_true p339; replace q339 := eq_true q339; have hcz24_0 : w22.cell? ⟨gb333, 0, none⟩ = some (.int .i64 x334000_2) := (blk_cell BK333.out 0).trans rfl; have hcz24_1 : w22.cell? ⟨gb333, 1, none⟩ = some (.string x334001_2) := (blk_cell BK333.out 1).trans rfl; have hfz24_0 := blk_frozen BK333.out 0; have hfz24_1 := blk_frozen BK333.out 1))
                    refine bodyPost_ret (results_cell_row rfl _ _ gb333 87 #[.int .i64 7, .string (rdOf ByteArray.empty t336 0)] (0, 0) _ rfl (by (with_reducible repeat (first | refine blk_drewN ?_ _ | refine blk_drew ?_ | refine blk_alloc ?_ _)); refine blk_put (cs := #[.int .i64 7, .string x334001_2]) ?_ 1 _ rfl; (with_reducible repeat (first | refine blk_drewN ?_ _ | refine blk_drew ?_ | refine blk_alloc ?_ _)); refine blk_put (cs := #[.int .i64 x334000_2, .string x334001_2]) ?_ 0 _ rfl; (with_reducible repeat (first | refine blk_drewN ?_ _ | refine blk_drew ?_ | refine blk_alloc ?_ _)); exact BK333.out) Try.underlying87 rfl (by kernel_rfl)) rfl ?_
                    exact ⟨by first | rfl | (simp [errW_none, errW_some] <;> rfl) | (simp [*, errW_none, errW_some] <;> rfl), by repeat (first | (with_reducible first | exact HB.out | apply below_alloc | apply pw_below_drewN | apply below_drew1 | refine below_set ?_ GE333.out) | exact HB.out)⟩
                  · rw [if_neg c21] at H
                    exact absurd H (by simp)
                · rw [if_neg c20] at H
                  have c20b0 : decide (0 < (t336.length : Int)) = false := decide_eq_false c20
                  have c20b1 : decide (0 < t336.length) = false := decide_eq_false (by omega)
                  clear c20
                  simp only [Option.some.injEq, Prod.mk.injEq] at H
                  obtain ⟨rfl, rfl⟩ := H
                  go_wp2_with (first | ((with_reducible refine gate_callee (f := 46) rfl ?_); refine goesL_ (some 65) rfl rfl Try.func46 (by kernel_rfl) rfl #[.slice A0 l0.length c0] rfl (by (try simp only [List.map_toArray, List.map_cons, List.map_nil]); first | done | rfl | (simp only [List.length_drop, List.length_take]; rfl)) ?_; (with_reducible refine (cosignerref03_Ring.calls _ _ l0 t336 _ ?side1 ?side2 A19.out).mono ?_); (case side1 => repeat (first | exact (Kd.C_below HR0.out HB.out) | (with_reducible refine Kd.C_alloc ?_ _) | (with_reducible refine Kd.C_drewN ?_ _) | (with_reducible refine Kd.C_drew ?_))); (case side2 => exact HC0.out); rintro e w25 ⟨v337, rfl, ho0, hb⟩; refine ⟨_, rfl, ?_⟩; have n0_ := Aside0.mk (Kd.R_lower ho0 (below_size (by repeat (first | (with_reducible first | exact HB.out | apply below_alloc | apply pw_below_drewN | apply below_drew1 | refine below_set ?_ GE333.out) | exact HB.out)))); have n1_ := Aside0.mk (blk_below (g := gb333) (o := .cells #[.int .i64 x334000_2, .string x334001_2] 87 (0, 0)) (by (with_reducible repeat (first | refine blk_drewN ?_ _ | refine blk_drew ?_ | refine blk_alloc ?_ _)); exact BK333.out) hb); have n2_ := Aside0.mk (below_step (by repeat (first | (with_reducible first | exact HB.out | apply below_alloc | apply pw_below_drewN | apply below_drew1 | refine below_set ?_ GE333.out) | exact HB.out)) hb); clear BK333; clear HB; have HO338 := n0_; have BK333 := n1_; have HB := n2_; clear n0_ n1_ n2_; (try clear hb); (try clear hb2); (try clear hk); (try clear hi); (try clear ho0); obtain ⟨Ao26, co26, eo26⟩ := Kd.R_slice HO338.out; subst eo26; have hcz27_0 : w25.cell? ⟨gb333, 0, none⟩ = some (.int .i64 x334000_2) := (blk_cell BK333.out 0).trans rfl; have hcz27_1 : w25.cell? ⟨gb333, 1, none⟩ = some (.string x334001_2) := (blk_cell BK333.out 1).trans rfl; have hfz27_0 := blk_frozen BK333.out 0; have hfz27_1 := blk_frozen BK333.out 1))
                  refine bodyPost_ret (results_cell_row rfl _ _ gb333 87 #[.int .i64 0, .string (⟨#[]⟩ : ByteArray)] (0, 0) _ rfl (by (with_reducible repeat (first | refine blk_drewN ?_ _ | refine blk_drew ?_ | refine blk_alloc ?_ _)); refine blk_put (cs := #[.int .i64 0, .string x334001_2]) ?_ 1 _ rfl; (with_reducible repeat (first | refine blk_drewN ?_ _ | refine blk_drew ?_ | refine blk_alloc ?_ _)); refine blk_put (cs := #[.int .i64 x334000_2, .string x334001_2]) ?_ 0 _ rfl; (with_reducible repeat (first | refine blk_drewN ?_ _ | refine blk_drew ?_ | refine blk_alloc ?_ _)); exact BK333.out) Try.underlying87 rfl (by kernel_rfl)) rfl ?_
                  exact ⟨by first | rfl | (simp [errW_none, errW_some] <;> rfl) | (simp [*, errW_none, errW_some] <;> rfl), by repeat (first | (with_reducible first | exact HB.out | apply below_alloc | apply pw_below_drewN | apply below_drew1 | refine below_set ?_ GE333.out) | exact HB.out)⟩
def cosignerref03_Has.l0 : Nat → List ByteArray → ByteArray → Int → Option (Bool)
  | 0, _, _, _ => none
  | k + 1, x0, x1, x5 => if x5 < (x0.length : Int) then (if 0 ≤ x5 then (if (rdOf ByteArray.empty x0 x5).toList = x1.toList then (some true) else (cosignerref03_Has.l0 k x0 x1 (wrap64 (x5 + 1)))) else (none)) else (some false)
def cosignerref03_Has.f (k : Nat) (l0 : List ByteArray) (a1 : ByteArray) : Option (Bool) := cosignerref03_Has.l0 k l0 a1 0
set_option maxHeartbeats 8000000 in
set_option maxRecDepth 100000 in
theorem cosignerref03_Has.calls (k : Nat) (A0 : Option Addr) (c0 : Nat) (l0 : List ByteArray) (a1 : ByteArray) (r : Bool) (w : World) (hr0 : Kd.C Kd.string w A0 l0.length l0) (hc0 : l0.length ≤ c0) (h : cosignerref03_Has.f k l0 a1 = some r) :
    Calls Try.prog 60 #[.slice A0 l0.length c0, .string a1] w fun e w' => e = .returned (.bool r) ∧ Drawn0 w w' := by
  have HR0 := Aside0.mk hr0
  have HC0 := Aside0.mk hc0
  clear hr0 hc0
  have H : (cosignerref03_Has.l0 k l0 a1 0) = some r := h
  clear h
  have H' := Aside0.mk H
  clear H
  go_enter Try.func60, Try.ntmps60
  go_wp2
  go_loopg [5] k (fun kq v5 w' => ∃ (x5_1 : Int), v5 = .int .i64 x5_1 ∧ Aside0 (cosignerref03_Has.l0 kq l0 a1 x5_1 = some r) ∧ Aside0 (kq ≤ k) ∧ Drawn0 w w')
  case atStart => exact ⟨(0), (by first | rfl | (simp; done) | (simp [*]; done)), H', ⟨Nat.le_refl _⟩, by repeat (first | exact Drawn0.refl _ | apply Drawn0.step)⟩
  case round =>
    clear H'
    try clear p2
    obtain ⟨x5_1, rfl, HA, HK1, ⟨m1, rfl⟩⟩ := hrel
    cases gk with
    | zero => exact absurd HA.out (by simp [cosignerref03_Has.l0])
    | succ k1 =>
      have H := HA.out
      clear HA
      simp only [cosignerref03_Has.l0] at H
      by_cases c3 : x5_1 < (l0.length : Int)
      · rw [if_pos c3] at H
        have c3b0 : decide (x5_1 < (l0.length : Int)) = true := decide_eq_true c3
        clear c3
        by_cases c4 : 0 ≤ x5_1
        · rw [if_pos c4] at H
          have c4b0 : decide (0 ≤ x5_1) = true := decide_eq_true c4
          clear c4
          by_cases c5 : (rdOf ByteArray.empty l0 x5_1).toList = a1.toList
          · rw [if_pos c5] at H
            have c5b0 : ((rdOf ByteArray.empty l0 x5_1).toList == a1.toList) = true := beq_iff_eq.mpr c5
            have c5b1 : ((rdOf ByteArray.empty l0 x5_1).toList != a1.toList) = false := bne_eq_false_iff_eq.mpr c5
            clear c5
            obtain rfl := Option.some.inj H
            have p345 : 0 ≤ (x5_1 : Int) := of_decide_eq_true (by first | (with_reducible assumption) | assumption)
            have q345 : x5_1 < (l0.length : Int) := of_decide_eq_true (by first | (with_reducible assumption) | assumption)
            obtain ⟨ad345, e345, hx345_0⟩ := Kd.at_string HR0.out x5_1 p345 q345
            cases e345
            replace p345 := eq_true p345
            replace q345 := eq_true q345
            go_wp2
            go_ret
            exact ⟨by first | rfl | (simp; done) | (simp [*]; done), by repeat (first | exact Drawn0.refl _ | apply Drawn0.step)⟩
          · rw [if_neg c5] at H
            have c5b0 : ((rdOf ByteArray.empty l0 x5_1).toList == a1.toList) = false := beq_eq_false_iff_ne.mpr c5
            have c5b1 : ((rdOf ByteArray.empty l0 x5_1).toList != a1.toList) = true := bne_iff_ne.mpr c5
            have H' := Aside0.mk H
            clear H
            have p345 : 0 ≤ (x5_1 : Int) := of_decide_eq_true (by first | (with_reducible assumption) | assumption)
            have q345 : x5_1 < (l0.length : Int) := of_decide_eq_true (by first | (with_reducible assumption) | assumption)
            obtain ⟨ad345, e345, hx345_0⟩ := Kd.at_string HR0.out x5_1 p345 q345
            cases e345
            replace p345 := eq_true p345
            replace q345 := eq_true q345
            go_wp2
            go_roundg k1
            case measure => have := HK1.out; omega
            case rel => exact ⟨(wrap64 (x5_1 + 1)), (by first | rfl | (simp; done) | (simp [*]; done)), H', ⟨by have := HK1.out; omega⟩, by repeat (first | exact Drawn0.refl _ | apply Drawn0.step)⟩
        · rw [if_neg c4] at H
          exact absurd H (by simp)
      · rw [if_neg c3] at H
        have c3b0 : decide (x5_1 < (l0.length : Int)) = false := decide_eq_false c3
        clear c3
        obtain rfl := Option.some.inj H
        go_wp2
        go_ret
        exact ⟨by first | rfl | (simp; done) | (simp [*]; done), by repeat (first | exact Drawn0.refl _ | apply Drawn0.step)⟩
end Go.Proofs.Ytdljclokenoogaa.Hp
end
section
namespace Go.Proofs.Ytdljclokenoogaa.Hp
open Go.RowKit Go.Proofs.YtdljclokenoogaaW.PrintWords Go.Proofs.YtdljclokenoogaaW.PrintLast Go.Proofs.YtdljclokenoogaaW.PrintMore
attribute [local go_sem] max2_int min2_int max_two min_two max_three min_three max_four min_four
set_option linter.unusedVariables false
set_option linter.unusedSimpArgs false
def cosignerref03_asked.l0 : Nat → List (S61) → List ByteArray → Int → Option (Int)
  | 0, _, _, _ => none
  | k + 1, x0, x1, x6 => if x6 < (x1.length : Int) then (if 0 ≤ x6 then ((cosignerref03_index.f k x0 (rdOf ByteArray.empty x1 x6)).bind fun t454 => (if t454 < 0 then (some 5) else (cosignerref03_asked.l0 k x0 x1 (wrap64 (x6 + 1))))) else (none)) else (some 0)
def cosignerref03_asked.f (k : Nat) (l0 : List (S61)) (l1 : List ByteArray) : Option (Int) := (cosignerref03_Check.f k l0).bind fun bt450 => (if bt450.1 = 0 then (cosignerref03_asked.l0 k l0 l1 0) else (some bt450.1))
set_option maxHeartbeats 8000000 in
set_option maxRecDepth 100000 in
theorem cosignerref03_asked.calls (k : Nat) (A0 : Option Addr) (c0 : Nat) (l0 : List (S61)) (A1 : Option Addr) (c1 : Nat) (l1 : List ByteArray) (r : Int) (w : World) (hr0 : Kd.C k61 w A0 l0.length l0) (hc0 : l0.length ≤ c0) (hr1 : Kd.C Kd.string w A1 l1.length l1) (hc1 : l1.length ≤ c1) (h : cosignerref03_asked.f k l0 l1 = some r) :
    Calls Try.prog 74 #[.slice A0 l0.length c0, .slice A1 l1.length c1] w fun e w' => e = .returned (.int .i64 r) ∧ Below w.heap.size w w' := by
  have hu87 := Try.underlying87
  have HR0 := Aside0.mk hr0
  have HC0 := Aside0.mk hc0
  clear hr0 hc0
  have HR1 := Aside0.mk hr1
  have HC1 := Aside0.mk hc1
  clear hr1 hc1
  have HB := Aside0.mk (Below.refl w.heap.size w)
  have H : ((cosignerref03_Check.f k l0).bind fun bt450 => (if bt450.1 = 0 then (cosignerref03_asked.l0 k l0 l1 0) else (some bt450.1))) = some r := h
  clear h
  replace H := Option.bind_eq_some_iff.mp H
  obtain ⟨⟨t450, t451⟩, A30, H⟩ := H
  replace H : (if t450 = 0 then (cosignerref03_asked.l0 k l0 l1 0) else (some t450)) = some r := H
  have A3 := Aside0.mk A30
  clear A30
  by_cases c4 : t450 = 0
  · rw [if_pos c4] at H
    have c4b0 : (t450 == 0) = true := beq_iff_eq.mpr c4
    have c4b1 : (t450 != 0) = false := bne_eq_false_iff_eq.mpr c4
    clear c4
    have H' := Aside0.mk H
    clear H
    go_enter Try.func74, Try.ntmps74
    go_wp2_with (first | ((with_reducible refine gate_callee (f := 44) rfl ?_); refine goesL_ (some 8) rfl rfl Try.func44 (by kernel_rfl) rfl #[.slice A0 l0.length c0] rfl (by (try simp only [List.map_toArray, List.map_cons, List.map_nil]); first | done | rfl | (simp only [List.length_drop, List.length_take]; rfl)) ?_; (with_reducible refine (cosignerref03_Check.calls k _ _ l0 t450 t451 _ ?side1 ?side2 A3.out).mono ?_); (case side1 => repeat (first | exact HR0.out | (with_reducible refine Kd.C_alloc ?_ _) | (with_reducible refine Kd.C_drewN ?_ _) | (with_reducible refine Kd.C_drew ?_))); (case side2 => exact HC0.out); rintro e w5 ⟨rfl, hb⟩; refine ⟨_, rfl, ?_⟩; have n0_ := Aside0.mk (below_step (by repeat (first | (with_reducible first | exact HB.out | apply below_alloc | apply pw_below_drewN | apply below_drew1) | exact HB.out)) hb); clear HB; have HB := n0_; clear n0_; (try clear hb); (try clear hb2); (try clear hk); (try clear hi)) | ((with_reducible refine gate_dst (N := 5) rfl ?_); refine box_event ?hg (N := 5) ?hd (cs := #[.int .i64 0, .string (⟨#[]⟩ : ByteArray)]) (t := 87) ?hr ?_; (case hd => rfl); (case hg => rfl); (case hr => first | (go_simp; done) | (go_simp; rfl)); intro gb452 hg w6 hbox hb; have n0_ := Aside0.mk (below_step (by repeat (first | (with_reducible first | exact HB.out | apply below_alloc | apply pw_below_drewN | apply below_drew1) | exact HB.out)) hb); have n1_ := Aside0.mk (hbox); have n2_ := Aside0.mk ((by rw [hg]; exact (below_size (by repeat (first | (with_reducible first | exact HB.out | apply below_alloc | apply pw_below_drewN | apply below_drew1) | exact HB.out))) : w.heap.size ≤ gb452)); have n3_ := Aside0.mk ((by rw [hg]; exact (below_size (by repeat (first | (with_reducible first | exact HB.out | apply below_alloc | apply pw_below_drewN | apply below_drew1) | exact HB.out))) : w.heap.size ≤ gb452)); clear HB; have HB := n0_; have BK452 := n1_; have GW452 := n2_; have GE452 := n3_; clear n0_ n1_ n2_ n3_; clear hb hbox hg; have hcz7_0 : w6.cell? ⟨gb452, 0, none⟩ = some (.int .i64 0) := (blk_cell BK452.out 0).trans rfl; have hcz7_1 : w6.cell? ⟨gb452, 1, none⟩ = some (.string (⟨#[]⟩ : ByteArray)) := (blk_cell BK452.out 1).trans rfl; have hfz7_0 := blk_frozen BK452.out 0; have hfz7_1 := blk_frozen BK452.out 1))
    go_loopg [6] k (fun kq v6 w' => ∃ (x6_1 : Int), v6 = .int .i64 x6_1 ∧ Aside0 (cosignerref03_asked.l0 kq l0 l1 x6_1 = some r) ∧ Aside0 (kq ≤ k) ∧ Aside0 (w'.heap[gb452]? = some (.cells #[.int .i64 t450, .string t451] 87 (0, 0))) ∧ Aside0 (Below w.heap.size w w'))
    case atStart => exact ⟨(0), (by first | rfl | (simp; done) | (simp [*]; done)), H', ⟨Nat.le_refl _⟩, ⟨by (with_reducible repeat (first | refine blk_drewN ?_ _ | refine blk_drew ?_ | refine blk_alloc ?_ _)); refine blk_put (cs := #[.int .i64 t450, .string (⟨#[]⟩ : ByteArray)]) ?_ 1 _ rfl; (with_reducible repeat (first | refine blk_drewN ?_ _ | refine blk_drew ?_ | refine blk_alloc ?_ _)); refine blk_put (cs := #[.int .i64 0, .string (⟨#[]⟩ : ByteArray)]) ?_ 0 _ rfl; (with_reducible repeat (first | refine blk_drewN ?_ _ | refine blk_drew ?_ | refine blk_alloc ?_ _)); exact BK452.out⟩, ⟨by repeat (first | (with_reducible first | exact HB.out | apply below_alloc | apply pw_below_drewN | apply below_drew1 | refine below_set ?_ GE452.out) | exact HB.out)⟩⟩
    case round =>
      clear H'
      try clear c1
      try clear p2
      try clear c4
      try clear c4b0
      try clear c4b1
      try clear c7
      try clear hcz7_0
      try clear hcz7_1
      try clear hfz7_0
      try clear hfz7_1
      obtain ⟨x6_1, rfl, HA, HK1, BK452, HB⟩ := hrel
      cases gk with
      | zero => exact absurd HA.out (by simp [cosignerref03_asked.l0])
      | succ k1 =>
        have H := HA.out
        clear HA
        simp only [cosignerref03_asked.l0] at H
        by_cases c8 : x6_1 < (l1.length : Int)
        · rw [if_pos c8] at H
          have c8b0 : decide (x6_1 < (l1.length : Int)) = true := decide_eq_true c8
          clear c8
          by_cases c9 : 0 ≤ x6_1
          · rw [if_pos c9] at H
            have c9b0 : decide (0 ≤ x6_1) = true := decide_eq_true c9
            clear c9
            replace H := Option.bind_eq_some_iff.mp H
            obtain ⟨t454, A100, H⟩ := H
            replace H : (if t454 < 0 then (some 5) else (cosignerref03_asked.l0 k1 l0 l1 (wrap64 (x6_1 + 1)))) = some r := H
            have A10 := Aside0.mk A100
            clear A100
            by_cases c11 : t454 < 0
            · rw [if_pos c11] at H
              have c11b0 : decide (t454 < 0) = true := decide_eq_true c11
              clear c11
              obtain rfl := Option.some.inj H
              have p453 : 0 ≤ (x6_1 : Int) := of_decide_eq_true (by first | (with_reducible assumption) | assumption)
              have q453 : x6_1 < (l1.length : Int) := of_decide_eq_true (by first | (with_reducible assumption) | assumption)
              obtain ⟨ad453, e453, hx453_0⟩ := Kd.at_string HR1.out x6_1 p453 q453
              cases e453
              replace hx453_0 := (HB.out.cell (World.block_lt_of_cell? w _ hx453_0)).trans hx453_0
              replace p453 := eq_true p453
              replace q453 := eq_true q453
              go_wp2_with (first | ((with_reducible refine gate_callee (f := 88) rfl ?_); refine goesL_ (some 25) rfl rfl Try.func88 (by kernel_rfl) rfl #[.slice A0 l0.length c0, .string (rdOf ByteArray.empty l1 x6_1)] rfl (by (try simp only [List.map_toArray, List.map_cons, List.map_nil]); first | done | rfl | (simp only [List.length_drop, List.length_take]; rfl)) ?_; (with_reducible refine (cosignerref03_index.calls k1 _ _ l0 (rdOf ByteArray.empty l1 x6_1) t454 _ ?side1 ?side2 A10.out).mono ?_); (case side1 => repeat (first | exact (Kd.C_below HR0.out HB.out) | (with_reducible refine Kd.C_alloc ?_ _) | (with_reducible refine Kd.C_drewN ?_ _) | (with_reducible refine Kd.C_drew ?_))); (case side2 => exact HC0.out); rintro e w' ⟨rfl, ⟨nd, rfl⟩⟩; refine ⟨_, rfl, ?_⟩))
              go_ret
              exact ⟨by first | rfl | (simp [errW_none, errW_some] <;> rfl) | (simp [*, errW_none, errW_some] <;> rfl), by repeat (first | (with_reducible first | exact HB.out | apply below_alloc | apply pw_below_drewN | apply below_drew1 | refine below_set ?_ GE452.out) | exact HB.out)⟩
            · rw [if_neg c11] at H
              have c11b0 : decide (t454 < 0) = false := decide_eq_false c11
              clear c11
              have H' := Aside0.mk H
              clear H
              have p453 : 0 ≤ (x6_1 : Int) := of_decide_eq_true (by first | (with_reducible assumption) | assumption)
              have q453 : x6_1 < (l1.length : Int) := of_decide_eq_true (by first | (with_reducible assumption) | assumption)
              obtain ⟨ad453, e453, hx453_0⟩ := Kd.at_string HR1.out x6_1 p453 q453
              cases e453
              replace hx453_0 := (HB.out.cell (World.block_lt_of_cell? w _ hx453_0)).trans hx453_0
              replace p453 := eq_true p453
              replace q453 := eq_true q453
              go_wp2_with (first | ((with_reducible refine gate_callee (f := 88) rfl ?_); refine goesL_ (some 25) rfl rfl Try.func88 (by kernel_rfl) rfl #[.slice A0 l0.length c0, .string (rdOf ByteArray.empty l1 x6_1)] rfl (by (try simp only [List.map_toArray, List.map_cons, List.map_nil]); first | done | rfl | (simp only [List.length_drop, List.length_take]; rfl)) ?_; (with_reducible refine (cosignerref03_index.calls k1 _ _ l0 (rdOf ByteArray.empty l1 x6_1) t454 _ ?side1 ?side2 A10.out).mono ?_); (case side1 => repeat (first | exact (Kd.C_below HR0.out HB.out) | (with_reducible refine Kd.C_alloc ?_ _) | (with_reducible refine Kd.C_drewN ?_ _) | (with_reducible refine Kd.C_drew ?_))); (case side2 => exact HC0.out); rintro e w' ⟨rfl, ⟨nd, rfl⟩⟩; refine ⟨_, rfl, ?_⟩))
              go_roundg k1
              case measure => have := HK1.out; omega
              case rel => exact ⟨(wrap64 (x6_1 + 1)), (by first | rfl | (simp; done) | (simp [*]; done)), H', ⟨by have := HK1.out; omega⟩, ⟨by (with_reducible repeat (first | refine blk_drewN ?_ _ | refine blk_drew ?_ | refine blk_alloc ?_ _)); exact BK452.out⟩, ⟨by repeat (first | (with_reducible first | exact HB.out | apply below_alloc | apply pw_below_drewN | apply below_drew1 | refine below_set ?_ GE452.out) | exact HB.out)⟩⟩
          · rw [if_neg c9] at H
            exact absurd H (by simp)
        · rw [if_neg c8] at H
          have c8b0 : decide (x6_1 < (l1.length : Int)) = false := decide_eq_false c8
          clear c8
          obtain rfl := Option.some.inj H
          go_wp2
          go_ret
          exact ⟨by first | rfl | (simp [errW_none, errW_some] <;> rfl) | (simp [*, errW_none, errW_some] <;> rfl), by repeat (first | (with_reducible first | exact HB.out | apply below_alloc | apply pw_below_drewN | apply below_drew1 | refine below_set ?_ GE452.out) | exact HB.out)⟩
  · rw [if_neg c4] at H
    have c4b0 : (t450 == 0) = false := beq_eq_false_iff_ne.mpr c4
    have c4b1 : (t450 != 0) = true := bne_iff_ne.mpr c4
    obtain rfl := Option.some.inj H
    go_enter Try.func74, Try.ntmps74
    go_wp2_with (first | ((with_reducible refine gate_callee (f := 44) rfl ?_); refine goesL_ (some 8) rfl rfl Try.func44 (by kernel_rfl) rfl #[.slice A0 l0.length c0] rfl (by (try simp only [List.map_toArray, List.map_cons, List.map_nil]); first | done | rfl | (simp only [List.length_drop, List.length_take]; rfl)) ?_; (with_reducible refine (cosignerref03_Check.calls k _ _ l0 t450 t451 _ ?side1 ?side2 A3.out).mono ?_); (case side1 => repeat (first | exact HR0.out | (with_reducible refine Kd.C_alloc ?_ _) | (with_reducible refine Kd.C_drewN ?_ _) | (with_reducible refine Kd.C_drew ?_))); (case side2 => exact HC0.out); rintro e w12 ⟨rfl, hb⟩; refine ⟨_, rfl, ?_⟩; have n0_ := Aside0.mk (below_step (by repeat (first | (with_reducible first | exact HB.out | apply below_alloc | apply pw_below_drewN | apply below_drew1) | exact HB.out)) hb); clear HB; have HB := n0_; clear n0_; (try clear hb); (try clear hb2); (try clear hk); (try clear hi)) | ((with_reducible refine gate_dst (N := 5) rfl ?_); refine box_event ?hg (N := 5) ?hd (cs := #[.int .i64 0, .string (⟨#[]⟩ : ByteArray)]) (t := 87) ?hr ?_; (case hd => rfl); (case hg => rfl); (case hr => first | (go_simp; done) | (go_simp; rfl)); intro gb452 hg w13 hbox hb; have n0_ := Aside0.mk (below_step (by repeat (first | (with_reducible first | exact HB.out | apply below_alloc | apply pw_below_drewN | apply below_drew1) | exact HB.out)) hb); have n1_ := Aside0.mk (hbox); have n2_ := Aside0.mk ((by rw [hg]; exact (below_size (by repeat (first | (with_reducible first | exact HB.out | apply below_alloc | apply pw_below_drewN | apply below_drew1) | exact HB.out))) : w.heap.size ≤ gb452)); have n3_ := Aside0.mk ((by rw [hg]; exact (below_size (by repeat (first | (with_reducible first | exact HB.out | apply below_alloc | apply pw_below_drewN | apply below_drew1) | exact HB.out))) : w.heap.size ≤ gb452)); clear HB; have HB := n0_; have BK452 := n1_; have GW452 := n2_; have GE452 := n3_; clear n0_ n1_ n2_ n3_; clear hb hbox hg; have hcz14_0 : w13.cell? ⟨gb452, 0, none⟩ = some (.int .i64 0) := (blk_cell BK452.out 0).trans rfl; have hcz14_1 : w13.cell? ⟨gb452, 1, none⟩ = some (.string (⟨#[]⟩ : ByteArray)) := (blk_cell BK452.out 1).trans rfl; have hfz14_0 := blk_frozen BK452.out 0; have hfz14_1 := blk_frozen BK452.out 1))
    go_ret
    exact ⟨by first | rfl | (simp [errW_none, errW_some] <;> rfl) | (simp [*, errW_none, errW_some] <;> rfl), by repeat (first | (with_reducible first | exact HB.out | apply below_alloc | apply pw_below_drewN | apply below_drew1 | refine below_set ?_ GE452.out) | exact HB.out)⟩
def cosignerref03_Way.f (k : Nat) (l0 : List (S61)) (a1 : ByteArray) (a2 : ByteArray) : Option (List ByteArray × Int) := (cosignerref03_asked.f k l0 (([a1, a2] : List ByteArray))).bind fun t459 => (if t459 = 0 then (if a1.toList = a2.toList then (some ((([a1] : List ByteArray)), 0)) else ((cosignerref03_further.f l0 a1 a2).bind fun t463 => (if (t463.length : Int) = 0 then (some (([] : List ByteArray), 5)) else (some (t463, 0))))) else (some (([] : List ByteArray), t459)))
set_option maxHeartbeats 8000000 in
set_option maxRecDepth 100000 in
theorem cosignerref03_Way.calls (k : Nat) (A0 : Option Addr) (c0 : Nat) (l0 : List (S61)) (a1 : ByteArray) (a2 : ByteArray) (r1 : List ByteArray) (r2 : Int) (w : World) (hr0 : Kd.C k61 w A0 l0.length l0) (hc0 : l0.length ≤ c0) (h : cosignerref03_Way.f k l0 a1 a2 = some (r1, r2)) :
    Calls Try.prog 50 #[.slice A0 l0.length c0, .string a1, .string a2] w fun e w' => ∃ v0_ : Value, e = .returned (.agg #[v0_, .int .i64 r2]) ∧ Kd.R Kd.string 9 w' w.heap.size (fun _ => True) v0_ r1 ∧ Below w.heap.size w w' := by
  have hu30 := Try.underlying30
  have HR0 := Aside0.mk hr0
  have HC0 := Aside0.mk hc0
  clear hr0 hc0
  have HB := Aside0.mk (Below.refl w.heap.size w)
  have H : ((cosignerref03_asked.f k l0 (([a1, a2] : List ByteArray))).bind fun t459 => (if t459 = 0 then (if a1.toList = a2.toList then (some ((([a1] : List ByteArray)), 0)) else ((cosignerref03_further.f l0 a1 a2).bind fun t463 => (if (t463.length : Int) = 0 then (some (([] : List ByteArray), 5)) else (some (t463, 0))))) else (some (([] : List ByteArray), t459)))) = some (r1, r2) := h
  clear h
  obtain ⟨y456, hy456⟩ : ∃ y_ : List ByteArray, y_ = (([a1, a2] : List ByteArray)) := ⟨_, rfl⟩
  replace H : ((cosignerref03_asked.f k l0 y456).bind fun t459 => (if t459 = 0 then (if a1.toList = a2.toList then (some ((([a1] : List ByteArray)), 0)) else ((cosignerref03_further.f l0 a1 a2).bind fun t463 => (if (t463.length : Int) = 0 then (some (([] : List ByteArray), 5)) else (some (t463, 0))))) else (some (([] : List ByteArray), t459)))) = some (r1, r2) := by first | (rw [hy456]; with_reducible exact H) | (have H2_ := (Option.bind_some _ _).symm.trans H; rw [hy456]; with_reducible exact H2_) | (have H2_ := (Option.bind_some _ _).symm.trans H; with_reducible exact H2_) | with_reducible exact H | (rw [hy456]; exact H) | exact H
  have Ny456 := Aside0.mk hy456
  clear hy456
  replace H := Option.bind_eq_some_iff.mp H
  obtain ⟨t459, A40, H⟩ := H
  replace H : (if t459 = 0 then (if a1.toList = a2.toList then (some ((([a1] : List ByteArray)), 0)) else ((cosignerref03_further.f l0 a1 a2).bind fun t463 => (if (t463.length : Int) = 0 then (some (([] : List ByteArray), 5)) else (some (t463, 0))))) else (some (([] : List ByteArray), t459))) = some (r1, r2) := H
  have A4 := Aside0.mk A40
  clear A40
  by_cases c5 : t459 = 0
  · rw [if_pos c5] at H
    have c5b0 : (t459 == 0) = true := beq_iff_eq.mpr c5
    have c5b1 : (t459 != 0) = false := bne_eq_false_iff_eq.mpr c5
    clear c5
    by_cases c6 : a1.toList = a2.toList
    · rw [if_pos c6] at H
      have c6b0 : (a1.toList == a2.toList) = true := beq_iff_eq.mpr c6
      have c6b1 : (a1.toList != a2.toList) = false := bne_eq_false_iff_eq.mpr c6
      clear c6
      obtain ⟨y460, hy460⟩ : ∃ y_ : List ByteArray, y_ = (([a1] : List ByteArray)) := ⟨_, rfl⟩
      replace H : (some (y460, 0)) = some (r1, r2) := by first | (rw [hy460]; with_reducible exact H) | (have H2_ := (Option.bind_some _ _).symm.trans H; rw [hy460]; with_reducible exact H2_) | (have H2_ := (Option.bind_some _ _).symm.trans H; with_reducible exact H2_) | with_reducible exact H | (rw [hy460]; exact H) | exact H
      have Ny460 := Aside0.mk hy460
      clear hy460
      simp only [Option.some.injEq, Prod.mk.injEq] at H
      obtain ⟨rfl, rfl⟩ := H
      go_enter Try.func50, Try.ntmps50
      go_wp2_with (first | ((with_reducible refine gate_dst (N := 6) rfl ?_); refine box_event ?hg (N := 6) ?hd (cs := #[.slice none 0 0, .int .i64 0]) (t := 30) ?hr ?_; (case hd => rfl); (case hg => rfl); (case hr => first | (go_simp; done) | (go_simp; rfl)); intro gb455 hg w7 hbox hb; have n0_ := Aside0.mk (below_step (by repeat (first | (with_reducible first | exact HB.out | apply below_alloc | apply pw_below_drewN | apply below_drew1) | exact HB.out)) hb); have n1_ := Aside0.mk (hbox); have n2_ := Aside0.mk ((by rw [hg]; exact (below_size (by repeat (first | (with_reducible first | exact HB.out | apply below_alloc | apply pw_below_drewN | apply below_drew1) | exact HB.out))) : w.heap.size ≤ gb455)); have n3_ := Aside0.mk ((by rw [hg]; exact (below_size (by repeat (first | (with_reducible first | exact HB.out | apply below_alloc | apply pw_below_drewN | apply below_drew1) | exact HB.out))) : w.heap.size ≤ gb455)); clear HB; have HB := n0_; have BK455 := n1_; have GW455 := n2_; have GE455 := n3_; clear n0_ n1_ n2_ n3_; clear hb hbox hg) | ((with_reducible refine gate_dst (N := 12) rfl ?_); refine Kd.R_lit Kd.string _ 9 ?hg (N := 12) ?hd (xs := ([a1, a2] : List ByteArray)) (inner := [.string a1, .string a2]) (ok := fun _ => True) (okp := fun _ => True) ?hr ?hp (fun _ hk => hk) trivial (Below.refl _ _) (Nat.le_refl _) (by simp) ?_; (case hd => rfl); (case hg => rfl); (case hr => first | (go_simp; done) | (go_simp; rfl)); (case hp => exact (Reps.one (show Kd.M Kd.string _ _ _ a1 [.string a1] from rfl) (Reps.one (show Kd.M Kd.string _ _ _ a2 [.string a2] from rfl) (Reps.none _ _)))); intro v457 w8 ho9 hb hg_ hnew_; clear hg_ hnew_; (first | rw [← Ny456.out] at ho9 | (simp only [Int.reduceToNat] at ho9; rw [← Ny456.out] at ho9)); have n0_ := Aside0.mk (Kd.R_lower ho9 (below_size (by repeat (first | (with_reducible first | exact HB.out | apply below_alloc | apply pw_below_drewN | apply below_drew1 | refine below_set ?_ GE455.out) | exact HB.out)))); have n1_ := Aside0.mk (blk_below (g := gb455) (o := .cells #[.slice none 0 0, .int .i64 0] 30 (0, 0)) (by (with_reducible repeat (first | refine blk_drewN ?_ _ | refine blk_drew ?_ | refine blk_alloc ?_ _)); exact BK455.out) hb); have n2_ := Aside0.mk (below_step (by repeat (first | (with_reducible first | exact HB.out | apply below_alloc | apply pw_below_drewN | apply below_drew1 | refine below_set ?_ GE455.out) | exact HB.out)) hb); clear BK455; clear HB; have HO458 := n0_; have BK455 := n1_; have HB := n2_; clear n0_ n1_ n2_; clear hb ho9; obtain ⟨Ao10, co10, eo10⟩ := Kd.R_slice HO458.out; subst eo10) | ((with_reducible refine gate_callee (f := 74) rfl ?_); refine goesL_ (some 13) rfl rfl Try.func74 (by kernel_rfl) rfl #[.slice A0 l0.length c0, .slice Ao10 y456.length co10] rfl (by (try simp only [List.map_toArray, List.map_cons, List.map_nil]); first | done | rfl | (simp only [List.length_drop, List.length_take]; rfl)) ?_; (with_reducible refine (cosignerref03_asked.calls k _ _ l0 _ _ y456 t459 _ ?side1 ?side2 ?side3 ?side4 A4.out).mono ?_); (case side1 => repeat (first | exact (Kd.C_below HR0.out HB.out) | (with_reducible refine Kd.C_alloc ?_ _) | (with_reducible refine Kd.C_drewN ?_ _) | (with_reducible refine Kd.C_drew ?_))); (case side2 => exact HC0.out); (case side3 => repeat (first | exact (Kd.R_reads' HO458.out).2.2 | (with_reducible refine Kd.C_alloc ?_ _) | (with_reducible refine Kd.C_drewN ?_ _) | (with_reducible refine Kd.C_drew ?_))); (case side4 => exact (Kd.R_reads' HO458.out).2.1); rintro e w11 ⟨rfl, hb⟩; refine ⟨_, rfl, ?_⟩; have n0_ := Aside0.mk (Kd.R_below (by (with_reducible repeat (first | apply Kd.R_alloc | apply Kd.R_drewN | apply Kd.R_drew)); exact HO458.out) hb); have n1_ := Aside0.mk (blk_below (g := gb455) (o := .cells #[.slice none 0 0, .int .i64 0] 30 (0, 0)) (by (with_reducible repeat (first | refine blk_drewN ?_ _ | refine blk_drew ?_ | refine blk_alloc ?_ _)); exact BK455.out) hb); have n2_ := Aside0.mk (below_step (by repeat (first | (with_reducible first | exact HB.out | apply below_alloc | apply pw_below_drewN | apply below_drew1 | refine below_set ?_ GE455.out) | exact HB.out)) hb); clear HO458; clear BK455; clear HB; have HO458 := n0_; have BK455 := n1_; have HB := n2_; clear n0_ n1_ n2_; (try clear hb); (try clear hb2); (try clear hk); (try clear hi)) | ((with_reducible refine gate_dst (N := 22) rfl ?_); refine Kd.R_lit Kd.string _ 9 ?hg (N := 22) ?hd (xs := ([a1] : List ByteArray)) (inner := [.string a1]) (ok := fun _ => True) (okp := fun _ => True) ?hr ?hp (fun _ hk => hk) trivial (Below.refl _ _) (Nat.le_refl _) (by simp) ?_; (case hd => rfl); (case hg => rfl); (case hr => first | (go_simp; done) | (go_simp; rfl)); (case hp => exact (Reps.one (show Kd.M Kd.string _ _ _ a1 [.string a1] from rfl) (Reps.none _ _))); intro v461 w12 ho13 hb hg_ hnew_; clear hg_ hnew_; (first | rw [← Ny460.out] at ho13 | (simp only [Int.reduceToNat] at ho13; rw [← Ny460.out] at ho13)); have n0_ := Aside0.mk (Kd.R_elder' (by (with_reducible repeat (first | apply Kd.R_alloc | apply Kd.R_drewN | apply Kd.R_drew)); exact HO458.out) (Kd.R_base ho13) hb); have n1_ := Aside0.mk (Kd.R_lower (Kd.R_new' ho13 (Kd.R_lt (by (with_reducible repeat (first | apply Kd.R_alloc | apply Kd.R_drewN | apply Kd.R_drew)); exact HO458.out))) (below_size (by repeat (first | (with_reducible first | exact HB.out | apply below_alloc | apply pw_below_drewN | apply below_drew1 | refine below_set ?_ GE455.out) | exact HB.out)))); have n2_ := Aside0.mk (blk_below (g := gb455) (o := .cells #[.slice none 0 0, .int .i64 0] 30 (0, 0)) (by (with_reducible repeat (first | refine blk_drewN ?_ _ | refine blk_drew ?_ | refine blk_alloc ?_ _)); exact BK455.out) hb); have n3_ := Aside0.mk (below_step (by repeat (first | (with_reducible first | exact HB.out | apply below_alloc | apply pw_below_drewN | apply below_drew1 | refine below_set ?_ GE455.out) | exact HB.out)) hb); clear HO458; clear BK455; clear HB; have HO458 := n0_; have HO462 := n1_; have BK455 := n2_; have HB := n3_; clear n0_ n1_ n2_ n3_; clear hb ho13; obtain ⟨Ao14, co14, eo14⟩ := Kd.R_slice HO462.out; subst eo14; have hcz15_0 : w12.cell? ⟨gb455, 0, none⟩ = some (.slice none 0 0) := (blk_cell BK455.out 0).trans rfl; have hcz15_1 : w12.cell? ⟨gb455, 1, none⟩ = some (.int .i64 0) := (blk_cell BK455.out 1).trans rfl; have hfz15_0 := blk_frozen BK455.out 0; have hfz15_1 := blk_frozen BK455.out 1))
      refine bodyPost_ret (results_cell_row rfl _ _ gb455 30 #[.slice Ao14 y460.length co14, .int .i64 0] (0, 0) _ rfl (by (with_reducible repeat (first | refine blk_drewN ?_ _ | refine blk_drew ?_ | refine blk_alloc ?_ _)); refine blk_put (cs := #[.slice Ao14 y460.length co14, .int .i64 0]) ?_ 1 _ rfl; (with_reducible repeat (first | refine blk_drewN ?_ _ | refine blk_drew ?_ | refine blk_alloc ?_ _)); refine blk_put (cs := #[.slice none 0 0, .int .i64 0]) ?_ 0 _ rfl; (with_reducible repeat (first | refine blk_drewN ?_ _ | refine blk_drew ?_ | refine blk_alloc ?_ _)); exact BK455.out) Try.underlying30 rfl (by kernel_rfl)) rfl ?_
      exact ⟨_, by first | rfl | (simp [errW_none, errW_some] <;> rfl) | (simp [*, errW_none, errW_some] <;> rfl), by (with_reducible repeat (first | apply Kd.R_alloc | apply Kd.R_drewN | apply Kd.R_drew)); exact Kd.R_mono (Kd.R_far (p := ⟨gb455, 1, none⟩) (Kd.R_far (p := ⟨gb455, 0, none⟩) (Kd.R_types HO462.out BK455.out (by decide)) (fun _ hk => hk.2) (.slice Ao14 y460.length co14)) (fun _ hk => hk.2) (.int .i64 0)) (fun _ hk => trivial), by repeat (first | (with_reducible first | exact HB.out | apply below_alloc | apply pw_below_drewN | apply below_drew1 | refine below_set ?_ GE455.out) | exact HB.out)⟩
    · rw [if_neg c6] at H
      have c6b0 : (a1.toList == a2.toList) = false := beq_eq_false_iff_ne.mpr c6
      have c6b1 : (a1.toList != a2.toList) = true := bne_iff_ne.mpr c6
      replace H := Option.bind_eq_some_iff.mp H
      obtain ⟨t463, A160, H⟩ := H
      replace H : (if (t463.length : Int) = 0 then (some (([] : List ByteArray), 5)) else (some (t463, 0))) = some (r1, r2) := H
      have A16 := Aside0.mk A160
      clear A160
      by_cases c17 : (t463.length : Int) = 0
      · rw [if_pos c17] at H
        have c17b0 : ((t463.length : Int) == 0) = true := beq_iff_eq.mpr c17
        have c17b1 : ((t463.length : Int) != 0) = false := bne_eq_false_iff_eq.mpr c17
        clear c17
        simp only [Option.some.injEq, Prod.mk.injEq] at H
        obtain ⟨rfl, rfl⟩ := H
        go_enter Try.func50, Try.ntmps50
        go_wp2_with (first | ((with_reducible refine gate_dst (N := 6) rfl ?_); refine box_event ?hg (N := 6) ?hd (cs := #[.slice none 0 0, .int .i64 0]) (t := 30) ?hr ?_; (case hd => rfl); (case hg => rfl); (case hr => first | (go_simp; done) | (go_simp; rfl)); intro gb455 hg w18 hbox hb; have n0_ := Aside0.mk (below_step (by repeat (first | (with_reducible first | exact HB.out | apply below_alloc | apply pw_below_drewN | apply below_drew1) | exact HB.out)) hb); have n1_ := Aside0.mk (hbox); have n2_ := Aside0.mk ((by rw [hg]; exact (below_size (by repeat (first | (with_reducible first | exact HB.out | apply below_alloc | apply pw_below_drewN | apply below_drew1) | exact HB.out))) : w.heap.size ≤ gb455)); have n3_ := Aside0.mk ((by rw [hg]; exact (below_size (by repeat (first | (with_reducible first | exact HB.out | apply below_alloc | apply pw_below_drewN | apply below_drew1) | exact HB.out))) : w.heap.size ≤ gb455)); clear HB; have HB := n0_; have BK455 := n1_; have GW455 := n2_; have GE455 := n3_; clear n0_ n1_ n2_ n3_; clear hb hbox hg) | ((with_reducible refine gate_dst (N := 12) rfl ?_); refine Kd.R_lit Kd.string _ 9 ?hg (N := 12) ?hd (xs := ([a1, a2] : List ByteArray)) (inner := [.string a1, .string a2]) (ok := fun _ => True) (okp := fun _ => True) ?hr ?hp (fun _ hk => hk) trivial (Below.refl _ _) (Nat.le_refl _) (by simp) ?_; (case hd => rfl); (case hg => rfl); (case hr => first | (go_simp; done) | (go_simp; rfl)); (case hp => exact (Reps.one (show Kd.M Kd.string _ _ _ a1 [.string a1] from rfl) (Reps.one (show Kd.M Kd.string _ _ _ a2 [.string a2] from rfl) (Reps.none _ _)))); intro v457 w19 ho20 hb hg_ hnew_; clear hg_ hnew_; (first | rw [← Ny456.out] at ho20 | (simp only [Int.reduceToNat] at ho20; rw [← Ny456.out] at ho20)); have n0_ := Aside0.mk (Kd.R_lower ho20 (below_size (by repeat (first | (with_reducible first | exact HB.out | apply below_alloc | apply pw_below_drewN | apply below_drew1 | refine below_set ?_ GE455.out) | exact HB.out)))); have n1_ := Aside0.mk (blk_below (g := gb455) (o := .cells #[.slice none 0 0, .int .i64 0] 30 (0, 0)) (by (with_reducible repeat (first | refine blk_drewN ?_ _ | refine blk_drew ?_ | refine blk_alloc ?_ _)); exact BK455.out) hb); have n2_ := Aside0.mk (below_step (by repeat (first | (with_reducible first | exact HB.out | apply below_alloc | apply pw_below_drewN | apply below_drew1 | refine below_set ?_ GE455.out) | exact HB.out)) hb); clear BK455; clear HB; have HO458 := n0_; have BK455 := n1_; have HB := n2_; clear n0_ n1_ n2_; clear hb ho20; obtain ⟨Ao21, co21, eo21⟩ := Kd.R_slice HO458.out; subst eo21) | ((with_reducible refine gate_callee (f := 74) rfl ?_); refine goesL_ (some 13) rfl rfl Try.func74 (by kernel_rfl) rfl #[.slice A0 l0.length c0, .slice Ao21 y456.length co21] rfl (by (try simp only [List.map_toArray, List.map_cons, List.map_nil]); first | done | rfl | (simp only [List.length_drop, List.length_take]; rfl)) ?_; (with_reducible refine (cosignerref03_asked.calls k _ _ l0 _ _ y456 t459 _ ?side1 ?side2 ?side3 ?side4 A4.out).mono ?_); (case side1 => repeat (first | exact (Kd.C_below HR0.out HB.out) | (with_reducible refine Kd.C_alloc ?_ _) | (with_reducible refine Kd.C_drewN ?_ _) | (with_reducible refine Kd.C_drew ?_))); (case side2 => exact HC0.out); (case side3 => repeat (first | exact (Kd.R_reads' HO458.out).2.2 | (with_reducible refine Kd.C_alloc ?_ _) | (with_reducible refine Kd.C_drewN ?_ _) | (with_reducible refine Kd.C_drew ?_))); (case side4 => exact (Kd.R_reads' HO458.out).2.1); rintro e w22 ⟨rfl, hb⟩; refine ⟨_, rfl, ?_⟩; have n0_ := Aside0.mk (Kd.R_below (by (with_reducible repeat (first | apply Kd.R_alloc | apply Kd.R_drewN | apply Kd.R_drew)); exact HO458.out) hb); have n1_ := Aside0.mk (blk_below (g := gb455) (o := .cells #[.slice none 0 0, .int .i64 0] 30 (0, 0)) (by (with_reducible repeat (first | refine blk_drewN ?_ _ | refine blk_drew ?_ | refine blk_alloc ?_ _)); exact BK455.out) hb); have n2_ := Aside0.mk (below_step (by repeat (first | (with_reducible first | exact HB.out | apply below_alloc | apply pw_below_drewN | apply below_drew1 | refine below_set ?_ GE455.out) | exact HB.out)) hb); clear HO458; clear BK455; clear HB; have HO458 := n0_; have BK455 := n1_; have HB := n2_; clear n0_ n1_ n2_; (try clear hb); (try clear hb2); (try clear hk); (try clear hi)) | ((with_reducible refine gate_callee (f := 93) rfl ?_); refine goesL_ (some 27) rfl rfl Try.func93 (by kernel_rfl) rfl #[.slice A0 l0.length c0, .string a1, .string a2] rfl (by (try simp only [List.map_toArray, List.map_cons, List.map_nil]); first | done | rfl | (simp only [List.length_drop, List.length_take]; rfl)) ?_; (with_reducible refine (cosignerref03_further.calls _ _ l0 a1 a2 t463 _ ?side1 ?side2 A16.out).mono ?_); (case side1 => repeat (first | exact (Kd.C_below HR0.out HB.out) | (with_reducible refine Kd.C_alloc ?_ _) | (with_reducible refine Kd.C_drewN ?_ _) | (with_reducible refine Kd.C_drew ?_))); (case side2 => exact HC0.out); rintro e w23 ⟨v464, rfl, ho0, hb⟩; refine ⟨_, rfl, ?_⟩; have n0_ := Aside0.mk (Kd.R_elder' (by (with_reducible repeat (first | apply Kd.R_alloc | apply Kd.R_drewN | apply Kd.R_drew)); exact HO458.out) (Kd.R_base ho0) hb); have n1_ := Aside0.mk (Kd.R_lower (Kd.R_new' ho0 (Kd.R_lt (by (with_reducible repeat (first | apply Kd.R_alloc | apply Kd.R_drewN | apply Kd.R_drew)); exact HO458.out))) (below_size (by repeat (first | (with_reducible first | exact HB.out | apply below_alloc | apply pw_below_drewN | apply below_drew1 | refine below_set ?_ GE455.out) | exact HB.out)))); have n2_ := Aside0.mk (blk_below (g := gb455) (o := .cells #[.slice none 0 0, .int .i64 0] 30 (0, 0)) (by (with_reducible repeat (first | refine blk_drewN ?_ _ | refine blk_drew ?_ | refine blk_alloc ?_ _)); exact BK455.out) hb); have n3_ := Aside0.mk (below_step (by repeat (first | (with_reducible first | exact HB.out | apply below_alloc | apply pw_below_drewN | apply below_drew1 | refine below_set ?_ GE455.out) | exact HB.out)) hb); clear HO458; clear BK455; clear HB; have HO458 := n0_; have HO465 := n1_; have BK455 := n2_; have HB := n3_; clear n0_ n1_ n2_ n3_; (try clear hb); (try clear hb2); (try clear hk); (try clear hi); (try clear ho0); obtain ⟨Ao24, co24, eo24⟩ := Kd.R_slice HO465.out; subst eo24; have hcz25_0 : w23.cell? ⟨gb455, 0, none⟩ = some (.slice none 0 0) := (blk_cell BK455.out 0).trans rfl; have hcz25_1 : w23.cell? ⟨gb455, 1, none⟩ = some (.int .i64 0) := (blk_cell BK455.out 1).trans rfl; have hfz25_0 := blk_frozen BK455.out 0; have hfz25_1 := blk_frozen BK455.out 1))
        refine bodyPost_ret (results_cell_row rfl _ _ gb455 30 #[.slice none 0 0, .int .i64 5] (0, 0) _ rfl (by (with_reducible repeat (first | refine blk_drewN ?_ _ | refine blk_drew ?_ | refine blk_alloc ?_ _)); refine blk_put (cs := #[.slice none 0 0, .int .i64 0]) ?_ 1 _ rfl; (with_reducible repeat (first | refine blk_drewN ?_ _ | refine blk_drew ?_ | refine blk_alloc ?_ _)); refine blk_put (cs := #[.slice none 0 0, .int .i64 0]) ?_ 0 _ rfl; (with_reducible repeat (first | refine blk_drewN ?_ _ | refine blk_drew ?_ | refine blk_alloc ?_ _)); exact BK455.out) Try.underlying30 rfl (by kernel_rfl)) rfl ?_
        exact ⟨_, by first | rfl | (simp [errW_none, errW_some] <;> rfl) | (simp [*, errW_none, errW_some] <;> rfl), by first | exact Kd.R_nil _ _ _ _ _ | exact Kd.N_nil _ _ _ _ _ | exact Kd.V_nil _ _ _ _ _ | exact Kd.Q_nil _ _ _ _ _ | exact Kd.S_nil _ _ _ _ _, by repeat (first | (with_reducible first | exact HB.out | apply below_alloc | apply pw_below_drewN | apply below_drew1 | refine below_set ?_ GE455.out) | exact HB.out)⟩
      · rw [if_neg c17] at H
        have c17b0 : ((t463.length : Int) == 0) = false := beq_eq_false_iff_ne.mpr c17
        have c17b1 : ((t463.length : Int) != 0) = true := bne_iff_ne.mpr c17
        have c17b2 : ¬ (t463 = []) := fun h_ => c17 (by rw [h_]; rfl)
        simp only [Option.some.injEq, Prod.mk.injEq] at H
        obtain ⟨rfl, rfl⟩ := H
        go_enter Try.func50, Try.ntmps50
        go_wp2_with (first | ((with_reducible refine gate_dst (N := 6) rfl ?_); refine box_event ?hg (N := 6) ?hd (cs := #[.slice none 0 0, .int .i64 0]) (t := 30) ?hr ?_; (case hd => rfl); (case hg => rfl); (case hr => first | (go_simp; done) | (go_simp; rfl)); intro gb455 hg w26 hbox hb; have n0_ := Aside0.mk (below_step (by repeat (first | (with_reducible first | exact HB.out | apply below_alloc | apply pw_below_drewN | apply below_drew1) | exact HB.out)) hb); have n1_ := Aside0.mk (hbox); have n2_ := Aside0.mk ((by rw [hg]; exact (below_size (by repeat (first | (with_reducible first | exact HB.out | apply below_alloc | apply pw_below_drewN | apply below_drew1) | exact HB.out))) : w.heap.size ≤ gb455)); have n3_ := Aside0.mk ((by rw [hg]; exact (below_size (by repeat (first | (with_reducible first | exact HB.out | apply below_alloc | apply pw_below_drewN | apply below_drew1) | exact HB.out))) : w.heap.size ≤ gb455)); clear HB; have HB := n0_; have BK455 := n1_; have GW455 := n2_; have GE455 := n3_; clear n0_ n1_ n2_ n3_; clear hb hbox hg) | ((with_reducible refine gate_dst (N := 12) rfl ?_); refine Kd.R_lit Kd.string _ 9 ?hg (N := 12) ?hd (xs := ([a1, a2] : List ByteArray)) (inner := [.string a1, .string a2]) (ok := fun _ => True) (okp := fun _ => True) ?hr ?hp (fun _ hk => hk) trivial (Below.refl _ _) (Nat.le_refl _) (by simp) ?_; (case hd => rfl); (case hg => rfl); (case hr => first | (go_simp; done) | (go_simp; rfl)); (case hp => exact (Reps.one (show Kd.M Kd.string _ _ _ a1 [.string a1] from rfl) (Reps.one (show Kd.M Kd.string _ _ _ a2 [.string a2] from rfl) (Reps.none _ _)))); intro v457 w27 ho28 hb hg_ hnew_; clear hg_ hnew_; (first | rw [← Ny456.out] at ho28 | (simp only [Int.reduceToNat] at ho28; rw [← Ny456.out] at ho28)); have n0_ := Aside0.mk (Kd.R_lower ho28 (below_size (by repeat (first | (with_reducible first | exact HB.out | apply below_alloc | apply pw_below_drewN | apply below_drew1 | refine below_set ?_ GE455.out) | exact HB.out)))); have n1_ := Aside0.mk (blk_below (g := gb455) (o := .cells #[.slice none 0 0, .int .i64 0] 30 (0, 0)) (by (with_reducible repeat (first | refine blk_drewN ?_ _ | refine blk_drew ?_ | refine blk_alloc ?_ _)); exact BK455.out) hb); have n2_ := Aside0.mk (below_step (by repeat (first | (with_reducible first | exact HB.out | apply below_alloc | apply pw_below_drewN | apply below_drew1 | refine below_set ?_ GE455.out) | exact HB.out)) hb); clear BK455; clear HB; have HO458 := n0_; have BK455 := n1_; have HB := n2_; clear n0_ n1_ n2_; clear hb ho28; obtain ⟨Ao29, co29, eo29⟩ := Kd.R_slice HO458.out; subst eo29) | ((with_reducible refine gate_callee (f := 74) rfl ?_); refine goesL_ (some 13) rfl rfl Try.func74 (by kernel_rfl) rfl #[.slice A0 l0.length c0, .slice Ao29 y456.length co29] rfl (by (try simp only [List.map_toArray, List.map_cons, List.map_nil]); first | done | rfl | (simp only [List.length_drop, List.length_take]; rfl)) ?_; (with_reducible refine (cosignerref03_asked.calls k _ _ l0 _ _ y456 t459 _ ?side1 ?side2 ?side3 ?side4 A4.out).mono ?_); (case side1 => repeat (first | exact (Kd.C_below HR0.out HB.out) | (with_reducible refine Kd.C_alloc ?_ _) | (with_reducible refine Kd.C_drewN ?_ _) | (with_reducible refine Kd.C_drew ?_))); (case side2 => exact HC0.out); (case side3 => repeat (first | exact (Kd.R_reads' HO458.out).2.2 | (with_reducible refine Kd.C_alloc ?_ _) | (with_reducible refine Kd.C_drewN ?_ _) | (with_reducible refine Kd.C_drew ?_))); (case side4 => exact (Kd.R_reads' HO458.out).2.1); rintro e w30 ⟨rfl, hb⟩; refine ⟨_, rfl, ?_⟩; have n0_ := Aside0.mk (Kd.R_below (by (with_reducible repeat (first | apply Kd.R_alloc | apply Kd.R_drewN | apply Kd.R_drew)); exact HO458.out) hb); have n1_ := Aside0.mk (blk_below (g := gb455) (o := .cells #[.slice none 0 0, .int .i64 0] 30 (0, 0)) (by (with_reducible repeat (first | refine blk_drewN ?_ _ | refine blk_drew ?_ | refine blk_alloc ?_ _)); exact BK455.out) hb); have n2_ := Aside0.mk (below_step (by repeat (first | (with_reducible first | exact HB.out | apply below_alloc | apply pw_below_drewN | apply below_drew1 | refine below_set ?_ GE455.out) | exact HB.out)) hb); clear HO458; clear BK455; clear HB; have HO458 := n0_; have BK455 := n1_; have HB := n2_; clear n0_ n1_ n2_; (try clear hb); (try clear hb2); (try clear hk); (try clear hi)) | ((with_reducible refine gate_callee (f := 93) rfl ?_); refine goesL_ (some 27) rfl rfl Try.func93 (by kernel_rfl) rfl #[.slice A0 l0.length c0, .string a1, .string a2] rfl (by (try simp only [List.map_toArray, List.map_cons, List.map_nil]); first | done | rfl | (simp only [List.length_drop, List.length_take]; rfl)) ?_; (with_reducible refine (cosignerref03_further.calls _ _ l0 a1 a2 t463 _ ?side1 ?side2 A16.out).mono ?_); (case side1 => repeat (first | exact (Kd.C_below HR0.out HB.out) | (with_reducible refine Kd.C_alloc ?_ _) | (with_reducible refine Kd.C_drewN ?_ _) | (with_reducible refine Kd.C_drew ?_))); (case side2 => exact HC0.out); rintro e w31 ⟨v464, rfl, ho0, hb⟩; refine ⟨_, rfl, ?_⟩; have n0_ := Aside0.mk (Kd.R_elder' (by (with_reducible repeat (first | apply Kd.R_alloc | apply Kd.R_drewN | apply Kd.R_drew)); exact HO458.out) (Kd.R_base ho0) hb); have n1_ := Aside0.mk (Kd.R_lower (Kd.R_new' ho0 (Kd.R_lt (by (with_reducible repeat (first | apply Kd.R_alloc | apply Kd.R_drewN | apply Kd.R_drew)); exact HO458.out))) (below_size (by repeat (first | (with_reducible first | exact HB.out | apply below_alloc | apply pw_below_drewN | apply below_drew1 | refine below_set ?_ GE455.out) | exact HB.out)))); have n2_ := Aside0.mk (blk_below (g := gb455) (o := .cells #[.slice none 0 0, .int .i64 0] 30 (0, 0)) (by (with_reducible repeat (first | refine blk_drewN ?_ _ | refine blk_drew ?_ | refine blk_alloc ?_ _)); exact BK455.out) hb); have n3_ := Aside0.mk (below_step (by repeat (first | (with_reducible first | exact HB.out | apply below_alloc | apply pw_below_drewN | apply below_drew1 | refine below_set ?_ GE455.out) | exact HB.out)) hb); clear HO458; clear BK455; clear HB; have HO458 := n0_; have HO465 := n1_; have BK455 := n2_; have HB := n3_; clear n0_ n1_ n2_ n3_; (try clear hb); (try clear hb2); (try clear hk); (try clear hi); (try clear ho0); obtain ⟨Ao32, co32, eo32⟩ := Kd.R_slice HO465.out; subst eo32; have hcz33_0 : w31.cell? ⟨gb455, 0, none⟩ = some (.slice none 0 0) := (blk_cell BK455.out 0).trans rfl; have hcz33_1 : w31.cell? ⟨gb455, 1, none⟩ = some (.int .i64 0) := (blk_cell BK455.out 1).trans rfl; have hfz33_0 := blk_frozen BK455.out 0; have hfz33_1 := blk_frozen BK455.out 1))
        refine bodyPost_ret (results_cell_row rfl _ _ gb455 30 #[.slice Ao32 t463.length co32, .int .i64 0] (0, 0) _ rfl (by (with_reducible repeat (first | refine blk_drewN ?_ _ | refine blk_drew ?_ | refine blk_alloc ?_ _)); refine blk_put (cs := #[.slice Ao32 t463.length co32, .int .i64 0]) ?_ 1 _ rfl; (with_reducible repeat (first | refine blk_drewN ?_ _ | refine blk_drew ?_ | refine blk_alloc ?_ _)); refine blk_put (cs := #[.slice none 0 0, .int .i64 0]) ?_ 0 _ rfl; (with_reducible repeat (first | refine blk_drewN ?_ _ | refine blk_drew ?_ | refine blk_alloc ?_ _)); exact BK455.out) Try.underlying30 rfl (by kernel_rfl)) rfl ?_
        exact ⟨_, by first | rfl | (simp [errW_none, errW_some] <;> rfl) | (simp [*, errW_none, errW_some] <;> rfl), by (with_reducible repeat (first | apply Kd.R_alloc | apply Kd.R_drewN | apply Kd.R_drew)); exact Kd.R_mono (Kd.R_far (p := ⟨gb455, 1, none⟩) (Kd.R_far (p := ⟨gb455, 0, none⟩) (Kd.R_types HO465.out BK455.out (by decide)) (fun _ hk => hk.2) (.slice Ao32 t463.length co32)) (fun _ hk => hk.2) (.int .i64 0)) (fun _ hk => trivial), by repeat (first | (with_reducible first | exact HB.out | apply below_alloc | apply pw_below_drewN | apply below_drew1 | refine below_set ?_ GE455.out) | exact HB.out)⟩
  · rw [if_neg c5] at H
    have c5b0 : (t459 == 0) = false := beq_eq_false_iff_ne.mpr c5
    have c5b1 : (t459 != 0) = true := bne_iff_ne.mpr c5
    simp only [Option.some.injEq, Prod.mk.injEq] at H
    obtain ⟨rfl, rfl⟩ := H
    go_enter Try.func50, Try.ntmps50
    go_wp2_with (first | ((with_reducible refine gate_dst (N := 6) rfl ?_); refine box_event ?hg (N := 6) ?hd (cs := #[.slice none 0 0, .int .i64 0]) (t := 30) ?hr ?_; (case hd => rfl); (case hg => rfl); (case hr => first | (go_simp; done) | (go_simp; rfl)); intro gb455 hg w34 hbox hb; have n0_ := Aside0.mk (below_step (by repeat (first | (with_reducible first | exact HB.out | apply below_alloc | apply pw_below_drewN | apply below_drew1) | exact HB.out)) hb); have n1_ := Aside0.mk (hbox); have n2_ := Aside0.mk ((by rw [hg]; exact (below_size (by repeat (first | (with_reducible first | exact HB.out | apply below_alloc | apply pw_below_drewN | apply below_drew1) | exact HB.out))) : w.heap.size ≤ gb455)); have n3_ := Aside0.mk ((by rw [hg]; exact (below_size (by repeat (first | (with_reducible first | exact HB.out | apply below_alloc | apply pw_below_drewN | apply below_drew1) | exact HB.out))) : w.heap.size ≤ gb455)); clear HB; have HB := n0_; have BK455 := n1_; have GW455 := n2_; have GE455 := n3_; clear n0_ n1_ n2_ n3_; clear hb hbox hg) | ((with_reducible refine gate_dst (N := 12) rfl ?_); refine Kd.R_lit Kd.string _ 9 ?hg (N := 12) ?hd (xs := ([a1, a2] : List ByteArray)) (inner := [.string a1, .string a2]) (ok := fun _ => True) (okp := fun _ => True) ?hr ?hp (fun _ hk => hk) trivial (Below.refl _ _) (Nat.le_refl _) (by simp) ?_; (case hd => rfl); (case hg => rfl); (case hr => first | (go_simp; done) | (go_simp; rfl)); (case hp => exact (Reps.one (show Kd.M Kd.string _ _ _ a1 [.string a1] from rfl) (Reps.one (show Kd.M Kd.string _ _ _ a2 [.string a2] from rfl) (Reps.none _ _)))); intro v457 w35 ho36 hb hg_ hnew_; clear hg_ hnew_; (first | rw [← Ny456.out] at ho36 | (simp only [Int.reduceToNat] at ho36; rw [← Ny456.out] at ho36)); have n0_ := Aside0.mk (Kd.R_lower ho36 (below_size (by repeat (first | (with_reducible first | exact HB.out | apply below_alloc | apply pw_below_drewN | apply below_drew1 | refine below_set ?_ GE455.out) | exact HB.out)))); have n1_ := Aside0.mk (blk_below (g := gb455) (o := .cells #[.slice none 0 0, .int .i64 0] 30 (0, 0)) (by (with_reducible repeat (first | refine blk_drewN ?_ _ | refine blk_drew ?_ | refine blk_alloc ?_ _)); exact BK455.out) hb); have n2_ := Aside0.mk (below_step (by repeat (first | (with_reducible first | exact HB.out | apply below_alloc | apply pw_below_drewN | apply below_drew1 | refine below_set ?_ GE455.out) | exact HB.out)) hb); clear BK455; clear HB; have HO458 := n0_; have BK455 := n1_; have HB := n2_; clear n0_ n1_ n2_; clear hb ho36; obtain ⟨Ao37, co37, eo37⟩ := Kd.R_slice HO458.out; subst eo37) | ((with_reducible refine gate_callee (f := 74) rfl ?_); refine goesL_ (some 13) rfl rfl Try.func74 (by kernel_rfl) rfl #[.slice A0 l0.length c0, .slice Ao37 y456.length co37] rfl (by (try simp only [List.map_toArray, List.map_cons, List.map_nil]); first | done | rfl | (simp only [List.length_drop, List.length_take]; rfl)) ?_; (with_reducible refine (cosignerref03_asked.calls k _ _ l0 _ _ y456 t459 _ ?side1 ?side2 ?side3 ?side4 A4.out).mono ?_); (case side1 => repeat (first | exact (Kd.C_below HR0.out HB.out) | (with_reducible refine Kd.C_alloc ?_ _) | (with_reducible refine Kd.C_drewN ?_ _) | (with_reducible refine Kd.C_drew ?_))); (case side2 => exact HC0.out); (case side3 => repeat (first | exact (Kd.R_reads' HO458.out).2.2 | (with_reducible refine Kd.C_alloc ?_ _) | (with_reducible refine Kd.C_drewN ?_ _) | (with_reducible refine Kd.C_drew ?_))); (case side4 => exact (Kd.R_reads' HO458.out).2.1); rintro e w38 ⟨rfl, hb⟩; refine ⟨_, rfl, ?_⟩; have n0_ := Aside0.mk (Kd.R_below (by (with_reducible repeat (first | apply Kd.R_alloc | apply Kd.R_drewN | apply Kd.R_drew)); exact HO458.out) hb); have n1_ := Aside0.mk (blk_below (g := gb455) (o := .cells #[.slice none 0 0, .int .i64 0] 30 (0, 0)) (by (with_reducible repeat (first | refine blk_drewN ?_ _ | refine blk_drew ?_ | refine blk_alloc ?_ _)); exact BK455.out) hb); have n2_ := Aside0.mk (below_step (by repeat (first | (with_reducible first | exact HB.out | apply below_alloc | apply pw_below_drewN | apply below_drew1 | refine below_set ?_ GE455.out) | exact HB.out)) hb); clear HO458; clear BK455; clear HB; have HO458 := n0_; have BK455 := n1_; have HB := n2_; clear n0_ n1_ n2_; (try clear hb); (try clear hb2); (try clear hk); (try clear hi); have hcz39_0 : w38.cell? ⟨gb455, 0, none⟩ = some (.slice none 0 0) := (blk_cell BK455.out 0).trans rfl; have hcz39_1 : w38.cell? ⟨gb455, 1, none⟩ = some (.int .i64 0) := (blk_cell BK455.out 1).trans rfl; have hfz39_0 := blk_frozen BK455.out 0; have hfz39_1 := blk_frozen BK455.out 1))
    refine bodyPost_ret (results_cell_row rfl _ _ gb455 30 #[.slice none 0 0, .int .i64 t459] (0, 0) _ rfl (by (with_reducible repeat (first | refine blk_drewN ?_ _ | refine blk_drew ?_ | refine blk_alloc ?_ _)); refine blk_put (cs := #[.slice none 0 0, .int .i64 0]) ?_ 1 _ rfl; (with_reducible repeat (first | refine blk_drewN ?_ _ | refine blk_drew ?_ | refine blk_alloc ?_ _)); refine blk_put (cs := #[.slice none 0 0, .int .i64 0]) ?_ 0 _ rfl; (with_reducible repeat (first | refine blk_drewN ?_ _ | refine blk_drew ?_ | refine blk_alloc ?_ _)); exact BK455.out) Try.underlying30 rfl (by kernel_rfl)) rfl ?_
    exact ⟨_, by first | rfl | (simp [errW_none, errW_some] <;> rfl) | (simp [*, errW_none, errW_some] <;> rfl), by first | exact Kd.R_nil _ _ _ _ _ | exact Kd.N_nil _ _ _ _ _ | exact Kd.V_nil _ _ _ _ _ | exact Kd.Q_nil _ _ _ _ _ | exact Kd.S_nil _ _ _ _ _, by repeat (first | (with_reducible first | exact HB.out | apply below_alloc | apply pw_below_drewN | apply below_drew1 | refine below_set ?_ GE455.out) | exact HB.out)⟩
end Go.Proofs.Ytdljclokenoogaa.Hp
end
section
namespace Go.Proofs.Ytdljclokenoogaa.Hp
open Go.RowKit Go.Proofs.YtdljclokenoogaaW.PrintWords Go.Proofs.YtdljclokenoogaaW.PrintLast Go.Proofs.YtdljclokenoogaaW.PrintMore
attribute [local go_sem] max2_int min2_int max_two min_two max_three min_three max_four min_four
set_option linter.unusedVariables false
set_option linter.unusedSimpArgs false
mutual
def cosignerref03_CheckWay.j0 : Nat → List (S61) → List ByteArray → Bool → Option (Int)
  | 0, _, _, _ => none
  | k + 1, x0, x3, x39 => if x39 = true then (some 11) else (cosignerref03_CheckWay.l0 k x0 x3 1)
def cosignerref03_CheckWay.l0 : Nat → List (S61) → List ByteArray → Int → Option (Int)
  | 0, _, _, _ => none
  | k + 1, x0, x3, x10 => if x10 < (x3.length : Int) then (if 0 ≤ (wrap64 (x10 - 1)) then (if (wrap64 (x10 - 1)) < (x3.length : Int) then ((cosignerref03_parents.f k x0 (rdOf ByteArray.empty x3 (wrap64 (x10 - 1)))).bind fun t473 => (if 0 ≤ x10 then ((cosignerref03_Has.f k t473 (rdOf ByteArray.empty x3 x10)).bind fun t477 => (if t477 = true then (cosignerref03_CheckWay.l0 k x0 x3 (wrap64 (x10 + 1))) else (some 11))) else (none))) else (none)) else (none)) else (some 0)
end
def cosignerref03_CheckWay.f (k : Nat) (l0 : List (S61)) (a1 : ByteArray) (a2 : ByteArray) (l3 : List ByteArray) : Option (Int) := (cosignerref03_asked.f k l0 (([a1, a2] : List ByteArray))).bind fun t469 => (if t469 = 0 then (if (l3.length : Int) = 0 then (cosignerref03_CheckWay.j0 k l0 l3 true) else (if 0 < (l3.length : Int) then (if (rdOf ByteArray.empty l3 0).toList = a1.toList then (if 0 ≤ (wrap64 ((l3.length : Int) - 1)) then (if (wrap64 ((l3.length : Int) - 1)) < (l3.length : Int) then (cosignerref03_CheckWay.j0 k l0 l3 ((rdOf ByteArray.empty l3 (wrap64 ((l3.length : Int) - 1))).toList != a2.toList)) else (none)) else (none)) else (cosignerref03_CheckWay.j0 k l0 l3 true)) else (none))) else (some t469))
def cosignerref03_CheckWay.T9 : Bool × List (List Nat × List Nat) := (true, [([], []), ([], []), ([], []), ([2], [2]), ([1, 3], [1, 3]), ([4], [4]), ([0, 5], [0, 5]), ([], []), ([], []), ([7, 8], [7, 8]), ([9], [9]), ([6, 10, 6], [6, 10]), ([11, 11, 0, 1, 2, 3, 4, 5, 6, 7, 8, 9, 10, 11], [11])])
def cosignerref03_CheckWay.B9 : List Nat := [0, 0, 0, 4, 14, 30, 63, 0, 0, 384, 896, 2047, 4095]
theorem cosignerref03_CheckWay.tab9 : rtab .any (opsOf Try.f52 9) = cosignerref03_CheckWay.T9 := by kernel_rfl
theorem cosignerref03_CheckWay.bits9 : waitsOk cosignerref03_CheckWay.T9.2 cosignerref03_CheckWay.B9 = true := by kernel_rfl
set_option maxHeartbeats 8000000 in
set_option maxRecDepth 100000 in
theorem cosignerref03_CheckWay.calls (k : Nat) (A0 : Option Addr) (c0 : Nat) (l0 : List (S61)) (a1 : ByteArray) (a2 : ByteArray) (A3 : Option Addr) (c3 : Nat) (l3 : List ByteArray) (r : Int) (w : World) (hr0 : Kd.C k61 w A0 l0.length l0) (hc0 : l0.length ≤ c0) (hr3 : Kd.C Kd.string w A3 l3.length l3) (hc3 : l3.length ≤ c3) (h : cosignerref03_CheckWay.f k l0 a1 a2 l3 = some r) :
    Calls Try.prog 52 #[.slice A0 l0.length c0, .string a1, .string a2, .slice A3 l3.length c3] w fun e w' => e = .returned (.int .i64 r) ∧ Below w.heap.size w w' := by
  have HR0 := Aside0.mk hr0
  have HC0 := Aside0.mk hc0
  clear hr0 hc0
  have HR3 := Aside0.mk hr3
  have HC3 := Aside0.mk hc3
  clear hr3 hc3
  have HB := Aside0.mk (Below.refl w.heap.size w)
  have H : ((cosignerref03_asked.f k l0 (([a1, a2] : List ByteArray))).bind fun t469 => (if t469 = 0 then (if (l3.length : Int) = 0 then (cosignerref03_CheckWay.j0 k l0 l3 true) else (if 0 < (l3.length : Int) then (if (rdOf ByteArray.empty l3 0).toList = a1.toList then (if 0 ≤ (wrap64 ((l3.length : Int) - 1)) then (if (wrap64 ((l3.length : Int) - 1)) < (l3.length : Int) then (cosignerref03_CheckWay.j0 k l0 l3 ((rdOf ByteArray.empty l3 (wrap64 ((l3.length : Int) - 1))).toList != a2.toList)) else (none)) else (none)) else (cosignerref03_CheckWay.j0 k l0 l3 true)) else (none))) else (some t469))) = some r := h
  clear h
  obtain ⟨y466, hy466⟩ : ∃ y_ : List ByteArray, y_ = (([a1, a2] : List ByteArray)) := ⟨_, rfl⟩
  replace H : ((cosignerref03_asked.f k l0 y466).bind fun t469 => (if t469 = 0 then (if (l3.length : Int) = 0 then (cosignerref03_CheckWay.j0 k l0 l3 true) else (if 0 < (l3.length : Int) then (if (rdOf ByteArray.empty l3 0).toList = a1.toList then (if 0 ≤ (wrap64 ((l3.length : Int) - 1)) then (if (wrap64 ((l3.length : Int) - 1)) < (l3.length : Int) then (cosignerref03_CheckWay.j0 k l0 l3 ((rdOf ByteArray.empty l3 (wrap64 ((l3.length : Int) - 1))).toList != a2.toList)) else (none)) else (none)) else (cosignerref03_CheckWay.j0 k l0 l3 true)) else (none))) else (some t469))) = some r := by first | (rw [hy466]; with_reducible exact H) | (have H2_ := (Option.bind_some _ _).symm.trans H; rw [hy466]; with_reducible exact H2_) | (have H2_ := (Option.bind_some _ _).symm.trans H; with_reducible exact H2_) | with_reducible exact H | (rw [hy466]; exact H) | exact H
  have Ny466 := Aside0.mk hy466
  clear hy466
  replace H := Option.bind_eq_some_iff.mp H
  obtain ⟨t469, A50, H⟩ := H
  replace H : (if t469 = 0 then (if (l3.length : Int) = 0 then (cosignerref03_CheckWay.j0 k l0 l3 true) else (if 0 < (l3.length : Int) then (if (rdOf ByteArray.empty l3 0).toList = a1.toList then (if 0 ≤ (wrap64 ((l3.length : Int) - 1)) then (if (wrap64 ((l3.length : Int) - 1)) < (l3.length : Int) then (cosignerref03_CheckWay.j0 k l0 l3 ((rdOf ByteArray.empty l3 (wrap64 ((l3.length : Int) - 1))).toList != a2.toList)) else (none)) else (none)) else (cosignerref03_CheckWay.j0 k l0 l3 true)) else (none))) else (some t469)) = some r := H
  have A5 := Aside0.mk A50
  clear A50
  by_cases c6 : t469 = 0
  · rw [if_pos c6] at H
    have c6b0 : (t469 == 0) = true := beq_iff_eq.mpr c6
    have c6b1 : (t469 != 0) = false := bne_eq_false_iff_eq.mpr c6
    clear c6
    have HC7 := Aside0.mk H
    clear H
    go_enter Try.func52, Try.ntmps52
    go_upto_region 4 with (first | ((with_reducible refine gate_dst (N := 15) rfl ?_); (try (refine gate_guard (by rfl) ?_; dsimp only)); refine Kd.R_lit Kd.string _ 9 ?hg (N := 15) ?hd (xs := ([a1, a2] : List ByteArray)) (inner := [.string a1, .string a2]) (ok := fun _ => True) (okp := fun _ => True) ?hr ?hp (fun _ hk => hk) trivial (Below.refl _ _) (Nat.le_refl _) (by simp) ?_; (case hd => rfl); (case hg => rfl); (case hr => first | (go_simp; done) | (go_simp; rfl)); (case hp => exact (Reps.one (show Kd.M Kd.string _ _ _ a1 [.string a1] from rfl) (Reps.one (show Kd.M Kd.string _ _ _ a2 [.string a2] from rfl) (Reps.none _ _)))); intro v467 w8 ho9 hb hg_ hnew_; clear hg_ hnew_; (first | rw [← Ny466.out] at ho9 | (simp only [Int.reduceToNat] at ho9; rw [← Ny466.out] at ho9)); have n0_ := Aside0.mk (Kd.R_lower ho9 (below_size (by repeat (first | (with_reducible first | exact HB.out | apply below_alloc | apply pw_below_drewN | apply below_drew1) | exact HB.out)))); have n1_ := Aside0.mk (below_step (by repeat (first | (with_reducible first | exact HB.out | apply below_alloc | apply pw_below_drewN | apply below_drew1) | exact HB.out)) hb); clear HB; have HO468 := n0_; have HB := n1_; clear n0_ n1_; clear hb ho9; obtain ⟨Ao10, co10, eo10⟩ := Kd.R_slice HO468.out; subst eo10) | ((with_reducible refine gate_callee (f := 74) rfl ?_); refine goesL_ (some 16) rfl rfl Try.func74 (by kernel_rfl) rfl #[.slice A0 l0.length c0, .slice Ao10 y466.length co10] rfl (by (try simp only [List.map_toArray, List.map_cons, List.map_nil]); first | done | rfl | (simp only [List.length_drop, List.length_take]; rfl)) ?_; (with_reducible refine (cosignerref03_asked.calls k _ _ l0 _ _ y466 t469 _ ?side1 ?side2 ?side3 ?side4 A5.out).mono ?_); (case side1 => repeat (first | exact (Kd.C_below HR0.out HB.out) | (with_reducible refine Kd.C_alloc ?_ _) | (with_reducible refine Kd.C_drewN ?_ _) | (with_reducible refine Kd.C_drew ?_))); (case side2 => exact HC0.out); (case side3 => repeat (first | exact (Kd.R_reads' HO468.out).2.2 | (with_reducible refine Kd.C_alloc ?_ _) | (with_reducible refine Kd.C_drewN ?_ _) | (with_reducible refine Kd.C_drew ?_))); (case side4 => exact (Kd.R_reads' HO468.out).2.1); rintro e w11 ⟨rfl, hb⟩; refine ⟨_, rfl, ?_⟩; have n0_ := Aside0.mk (Kd.R_below (by (with_reducible repeat (first | apply Kd.R_alloc | apply Kd.R_drewN | apply Kd.R_drew)); exact HO468.out) hb); have n1_ := Aside0.mk (below_step (by repeat (first | (with_reducible first | exact HB.out | apply below_alloc | apply pw_below_drewN | apply below_drew1) | exact HB.out)) hb); clear HO468; clear HB; have HO468 := n0_; have HB := n1_; clear n0_ n1_; (try clear hb); (try clear hb2); (try clear hk); (try clear hi)))
    (try simp only [Act.put, List.setIfInBounds_toArray, List.set_cons_zero, List.set_cons_succ])
    go_cut [39] (fun v39 wc => ∃ (kq : Nat) (x39_6 : Bool), v39 = .bool x39_6 ∧ Aside0 (cosignerref03_CheckWay.j0 kq l0 l3 x39_6 = some r) ∧ Aside0 (kq ≤ k) ∧ Aside0 (Below w.heap.size w wc))
    case first =>
      have H := HC7.out
      clear HC7
      by_cases c12 : (l3.length : Int) = 0
      · rw [if_pos c12] at H
        have c12b0 : ((l3.length : Int) == 0) = true := beq_iff_eq.mpr c12
        have c12b1 : ((l3.length : Int) != 0) = false := bne_eq_false_iff_eq.mpr c12
        clear c12
        (first | rw [c12b0] | (simp only [i64_w, i32_w]; rw [c12b0]) | skip)
        have H' := Aside0.mk H
        clear H
        go_wp2
        go_meet
        case rel => exact ⟨_, (true), (by first | rfl | (simp; done) | (simp [*]; done)), H', ⟨by first | omega | exact Nat.le_refl _⟩, ⟨by repeat (first | (with_reducible first | exact HB.out | apply below_alloc | apply pw_below_drewN | apply below_drew1) | exact HB.out)⟩⟩
      · rw [if_neg c12] at H
        have c12b0 : ((l3.length : Int) == 0) = false := beq_eq_false_iff_ne.mpr c12
        have c12b1 : ((l3.length : Int) != 0) = true := bne_iff_ne.mpr c12
        have c12b2 : ¬ (l3 = []) := fun h_ => c12 (by rw [h_]; rfl)
        (first | rw [c12b0] | (simp only [i64_w, i32_w]; rw [c12b0]) | skip)
        by_cases c13 : 0 < (l3.length : Int)
        · rw [if_pos c13] at H
          have c13b0 : decide (0 < (l3.length : Int)) = true := decide_eq_true c13
          have c13b1 : decide (0 < l3.length) = true := decide_eq_true (by omega)
          clear c13
          by_cases c14 : (rdOf ByteArray.empty l3 0).toList = a1.toList
          · rw [if_pos c14] at H
            have c14b0 : ((rdOf ByteArray.empty l3 0).toList == a1.toList) = true := beq_iff_eq.mpr c14
            have c14b1 : ((rdOf ByteArray.empty l3 0).toList != a1.toList) = false := bne_eq_false_iff_eq.mpr c14
            clear c14
            obtain ⟨ji15, hji15⟩ : ∃ j_ : Int, (wrap64 ((l3.length : Int) - 1)) = j_ := ⟨_, rfl⟩
            replace H : (if 0 ≤ (ji15) then (if (ji15) < (l3.length : Int) then (cosignerref03_CheckWay.j0 k l0 l3 ((rdOf ByteArray.empty l3 (ji15)).toList != a2.toList)) else (none)) else (none)) = some r := by first | (rw [hji15] at H; exact H) | (simp only [hji15] at H ⊢; exact H)
            have hji15w : (IntKind.i64.wrap ((l3.length : Int) - 1)) = ji15 := (i64_w _).trans hji15
            by_cases c16 : 0 ≤ (ji15)
            · rw [if_pos c16] at H
              have c16b0 : decide (0 ≤ (ji15)) = true := decide_eq_true c16
              clear c16
              by_cases c17 : (ji15) < (l3.length : Int)
              · rw [if_pos c17] at H
                have c17b0 : decide ((ji15) < (l3.length : Int)) = true := decide_eq_true c17
                clear c17
                have H' := Aside0.mk H
                clear H
                have p470 : 0 ≤ (0 : Int) := (by omega)
                have q470 : 0 < (l3.length : Int) := of_decide_eq_true (by first | (with_reducible assumption) | assumption)
                obtain ⟨ad470, e470, hx470_0⟩ := Kd.at_string HR3.out 0 p470 q470
                cases e470
                have qi470 : (0 < l3.length) = True := eq_true (by omega)
                (try rw [show ((0 : Int)).toNat = 0 from rfl] at hx470_0)
                (try rw [Addr.add_zero'] at hx470_0)
                replace hx470_0 := (HB.out.cell (World.block_lt_of_cell? w _ hx470_0)).trans hx470_0
                replace p470 := eq_true p470
                replace q470 := eq_true q470
                have p471 : 0 ≤ ((ji15) : Int) := of_decide_eq_true (by first | (with_reducible assumption) | assumption)
                have q471 : (ji15) < (l3.length : Int) := of_decide_eq_true (by first | (with_reducible assumption) | assumption)
                obtain ⟨ad471, e471, hx471_0⟩ := Kd.at_string HR3.out (ji15) p471 q471
                obtain rfl : ad470 = ad471 := (by injection e471)
                replace hx471_0 := (HB.out.cell (World.block_lt_of_cell? w _ hx471_0)).trans hx471_0
                replace p471 := eq_true p471
                replace q471 := eq_true q471
                go_wp2
                go_meet
                case rel => exact ⟨_, (((rdOf ByteArray.empty l3 (ji15)).toList != a2.toList)), (by first | rfl | (simp; done) | (simp only [← hji15] <;> (first | rfl | simp)) | (simp [*]; done)), H', ⟨by first | omega | exact Nat.le_refl _⟩, ⟨by repeat (first | (with_reducible first | exact HB.out | apply below_alloc | apply pw_below_drewN | apply below_drew1) | exact HB.out)⟩⟩
              · rw [if_neg c17] at H
                exact absurd H (by simp)
            · rw [if_neg c16] at H
              exact absurd H (by simp)
          · rw [if_neg c14] at H
            have c14b0 : ((rdOf ByteArray.empty l3 0).toList == a1.toList) = false := beq_eq_false_iff_ne.mpr c14
            have c14b1 : ((rdOf ByteArray.empty l3 0).toList != a1.toList) = true := bne_iff_ne.mpr c14
            have H' := Aside0.mk H
            clear H
            have p470 : 0 ≤ (0 : Int) := (by omega)
            have q470 : 0 < (l3.length : Int) := of_decide_eq_true (by first | (with_reducible assumption) | assumption)
            obtain ⟨ad470, e470, hx470_0⟩ := Kd.at_string HR3.out 0 p470 q470
            cases e470
            have qi470 : (0 < l3.length) = True := eq_true (by omega)
            (try rw [show ((0 : Int)).toNat = 0 from rfl] at hx470_0)
            (try rw [Addr.add_zero'] at hx470_0)
            replace hx470_0 := (HB.out.cell (World.block_lt_of_cell? w _ hx470_0)).trans hx470_0
            replace p470 := eq_true p470
            replace q470 := eq_true q470
            go_wp2
            go_meet
            case rel => exact ⟨_, (true), (by first | rfl | (simp; done) | (simp [*]; done)), H', ⟨by first | omega | exact Nat.le_refl _⟩, ⟨by repeat (first | (with_reducible first | exact HB.out | apply below_alloc | apply pw_below_drewN | apply below_drew1) | exact HB.out)⟩⟩
        · rw [if_neg c13] at H
          exact absurd H (by simp)
    case rest =>
      clear HC7
      try clear c1
      try clear p2
      try clear c3
      try clear p4
      try clear q4
      try clear hx4
      try clear qi4
      try clear c5
      try clear c6
      try clear c6b0
      try clear c6b1
      try clear p6
      try clear c7
      try clear c12
      try clear c12b0
      try clear c12b1
      try clear c12b2
      try clear c13
      try clear c13b0
      try clear c13b1
      try clear c14
      try clear c14b0
      try clear c14b1
      try clear c16
      try clear c16b0
      try clear c17
      try clear c17b0
      try clear hx470_0
      try clear hx471_0
      try clear p470
      try clear p471
      try clear q470
      try clear q471
      obtain ⟨kq, x39_6, rfl, HA, HJ6, HB⟩ := hcut
      cases kq with
      | zero => exact absurd HA.out (by simp [cosignerref03_CheckWay.j0])
      | succ kj6 =>
        have H := HA.out
        clear HA
        simp only [cosignerref03_CheckWay.j0] at H
        by_cases c18 : x39_6 = true
        · subst c18
          have H1 : (some 11) = some r := by rw [if_pos rfl] at H; exact H
          clear H
          have H := H1
          clear H1
          obtain rfl := Option.some.inj H
          go_wp2
          go_ret
          exact ⟨by first | rfl | (simp [errW_none, errW_some] <;> rfl) | (simp [*, errW_none, errW_some] <;> rfl), by repeat (first | (with_reducible first | exact HB.out | apply below_alloc | apply pw_below_drewN | apply below_drew1) | exact HB.out)⟩
        · replace c18 := Bool.eq_false_iff.mpr c18
          subst c18
          have H1 : (cosignerref03_CheckWay.l0 kj6 l0 l3 1) = some r := by rw [if_neg (show ¬ (false = true) by decide)] at H; exact H
          clear H
          have H := H1
          clear H1
          have H' := Aside0.mk H
          clear H
          go_wp2
          go_loopg [10] kj6 (fun kq v10 w' => ∃ (x10_2 : Int), v10 = .int .i64 x10_2 ∧ Aside0 (cosignerref03_CheckWay.l0 kq l0 l3 x10_2 = some r) ∧ Aside0 (kq ≤ kj6) ∧ Aside0 (Below w.heap.size w w'))
          case atStart => exact ⟨(1), (by first | rfl | (simp; done) | (simp [*]; done)), H', ⟨Nat.le_refl _⟩, ⟨by repeat (first | (with_reducible first | exact HB.out | apply below_alloc | apply pw_below_drewN | apply below_drew1) | exact HB.out)⟩⟩
          case round =>
            clear H'
            try clear c1
            try clear p2
            try clear c3
            try clear p4
            try clear q4
            try clear hx4
            try clear qi4
            try clear c5
            try clear c6
            try clear c6b0
            try clear c6b1
            try clear p6
            try clear c7
            try clear c12
            try clear c12b0
            try clear c12b1
            try clear c12b2
            try clear c13
            try clear c13b0
            try clear c13b1
            try clear c14
            try clear c14b0
            try clear c14b1
            try clear c16
            try clear c16b0
            try clear c17
            try clear c17b0
            try clear c18
            try clear hx470_0
            try clear hx471_0
            try clear p2
            try clear p4
            try clear p470
            try clear p471
            try clear p6
            try clear q4
            try clear q470
            try clear q471
            obtain ⟨x10_2, rfl, HA, HK2, HB⟩ := hrel
            cases gk with
            | zero => exact absurd HA.out (by simp [cosignerref03_CheckWay.l0])
            | succ k2 =>
              have H := HA.out
              clear HA
              simp only [cosignerref03_CheckWay.l0] at H
              by_cases c19 : x10_2 < (l3.length : Int)
              · rw [if_pos c19] at H
                have c19b0 : decide (x10_2 < (l3.length : Int)) = true := decide_eq_true c19
                clear c19
                obtain ⟨ji20, hji20⟩ : ∃ j_ : Int, (wrap64 (x10_2 - 1)) = j_ := ⟨_, rfl⟩
                replace H : (if 0 ≤ (ji20) then (if (ji20) < (l3.length : Int) then ((cosignerref03_parents.f k2 l0 (rdOf ByteArray.empty l3 (ji20))).bind fun t473 => (if 0 ≤ x10_2 then ((cosignerref03_Has.f k2 t473 (rdOf ByteArray.empty l3 x10_2)).bind fun t477 => (if t477 = true then (cosignerref03_CheckWay.l0 k2 l0 l3 (wrap64 (x10_2 + 1))) else (some 11))) else (none))) else (none)) else (none)) = some r := by first | (rw [hji20] at H; exact H) | (simp only [hji20] at H ⊢; exact H)
                have hji20w : (IntKind.i64.wrap (x10_2 - 1)) = ji20 := (i64_w _).trans hji20
                by_cases c21 : 0 ≤ (ji20)
                · rw [if_pos c21] at H
                  have c21b0 : decide (0 ≤ (ji20)) = true := decide_eq_true c21
                  clear c21
                  by_cases c22 : (ji20) < (l3.length : Int)
                  · rw [if_pos c22] at H
                    have c22b0 : decide ((ji20) < (l3.length : Int)) = true := decide_eq_true c22
                    clear c22
                    replace H := Option.bind_eq_some_iff.mp H
                    obtain ⟨t473, A230, H⟩ := H
                    replace H : (if 0 ≤ x10_2 then ((cosignerref03_Has.f k2 t473 (rdOf ByteArray.empty l3 x10_2)).bind fun t477 => (if t477 = true then (cosignerref03_CheckWay.l0 k2 l0 l3 (wrap64 (x10_2 + 1))) else (some 11))) else (none)) = some r := H
                    have A23 := Aside0.mk A230
                    clear A230
                    by_cases c24 : 0 ≤ x10_2
                    · rw [if_pos c24] at H
                      have c24b0 : decide (0 ≤ x10_2) = true := decide_eq_true c24
                      clear c24
                      replace H := Option.bind_eq_some_iff.mp H
                      obtain ⟨t477, A250, H⟩ := H
                      replace H : (if t477 = true then (cosignerref03_CheckWay.l0 k2 l0 l3 (wrap64 (x10_2 + 1))) else (some 11)) = some r := H
                      have A25 := Aside0.mk A250
                      clear A250
                      by_cases c26 : t477 = true
                      · subst c26
                        have H1 : (cosignerref03_CheckWay.l0 k2 l0 l3 (wrap64 (x10_2 + 1))) = some r := by rw [if_pos rfl] at H; exact H
                        clear H
                        have H := H1
                        clear H1
                        have H' := Aside0.mk H
                        clear H
                        try go_wp2
                        have n0_ := Aside0.mk (below_drew1 HB.out)
                        clear HB
                        have HB := n0_
                        clear n0_
                        have p472 : 0 ≤ ((ji20) : Int) := of_decide_eq_true (by first | (with_reducible assumption) | assumption)
                        have q472 : (ji20) < (l3.length : Int) := of_decide_eq_true (by first | (with_reducible assumption) | assumption)
                        obtain ⟨ad472, e472, hx472_0⟩ := Kd.at_string HR3.out (ji20) p472 q472
                        have hw472_0 := hx472_0
                        cases e472
                        replace hx472_0 := (HB.out.cell (World.block_lt_of_cell? w _ hx472_0)).trans hx472_0
                        replace p472 := eq_true p472
                        replace q472 := eq_true q472
                        have p476 : 0 ≤ (x10_2 : Int) := of_decide_eq_true (by first | (with_reducible assumption) | assumption)
                        have q476 : x10_2 < (l3.length : Int) := of_decide_eq_true (by first | (with_reducible assumption) | assumption)
                        obtain ⟨ad476, e476, hx476_0⟩ := Kd.at_string HR3.out x10_2 p476 q476
                        have hw476_0 := hx476_0
                        obtain rfl : ad472 = ad476 := (by injection e476)
                        replace hx476_0 := (HB.out.cell (World.block_lt_of_cell? w _ hx476_0)).trans hx476_0
                        replace p476 := eq_true p476
                        replace q476 := eq_true q476
                        refine start_ (n := 13) (S := fun w' => w'.cell? (ad472.add ((ji20)).toNat) = some (.string (rdOf ByteArray.empty l3 (ji20))) ∧ w'.cell? (ad472.add (x10_2).toNat) = some (.string (rdOf ByteArray.empty l3 x10_2))) (ds := []) #[false, false, false, false, false, false, false, false, false, false, false, false, false] (by kernel_rfl) rfl rfl ⟨((HB.out.cell (World.block_lt_of_cell? w _ hw472_0)).trans hw472_0), ((HB.out.cell (World.block_lt_of_cell? w _ hw476_0)).trans hw476_0)⟩ (fun hHeld => ?_); refine with_tabW cosignerref03_CheckWay.tab9 cosignerref03_CheckWay.bits9 (fun HT_ HW_ => ?_)
                        generalize wr.drew = w27 at HB hx472_0 hx476_0 hHeld ⊢
                        refine pure_ (i := 0) (N := some 46) (v := ?_) (a' := ?_) #[true, false, false, false, false, false, false, false, false, false, false, false, false] rfl rfl (any_of HT_.out (by kernel_rfl)) (fun _ _ _ h => h) (Or.inl ⟨by rfl, ?_⟩) ?_ ?_
                        rotate_left
                        · intro w'
                          go_simp
                          with_reducible rfl
                        rotate_left
                        · simp only [Act.put, List.setIfInBounds_toArray, List.set_cons_zero, List.set_cons_succ, i64_w, i32_w]
                          rfl
                        refine pure_ (i := 1) (N := some 47) (v := ?_) (a' := ?_) #[true, true, false, false, false, false, false, false, false, false, false, false, false] rfl rfl (any_of HT_.out (by kernel_rfl)) (fun _ _ _ h => h) (Or.inl ⟨by rfl, ?_⟩) ?_ ?_
                        rotate_left
                        · intro w'
                          go_simp
                          with_reducible rfl
                        rotate_left
                        · simp only [Act.put, List.setIfInBounds_toArray, List.set_cons_zero, List.set_cons_succ, i64_w, i32_w]
                          rfl
                        refine pure_ (i := 2) (N := some 48) (v := ?_) (a' := ?_) #[true, true, true, false, false, false, false, false, false, false, false, false, false] rfl rfl (any_of HT_.out (by kernel_rfl)) (fun _ _ _ h => h) (Or.inl ⟨by rfl, ?_⟩) ?_ ?_
                        rotate_left
                        · intro w'
                          go_simp
                          with_reducible rfl
                        rotate_left
                        · simp only [Act.put, List.setIfInBounds_toArray, List.set_cons_zero, List.set_cons_succ, i64_w, i32_w]
                          rfl
                        refine pure_ (i := 3) (N := some 49) (v := ?_) (a' := ?_) #[true, true, true, true, false, false, false, false, false, false, false, false, false] rfl rfl (any_of HT_.out (by kernel_rfl)) (fun _ _ _ h => h) (Or.inl ⟨by rfl, ?_⟩) ?_ ?_
                        rotate_left
                        · intro w'
                          go_simp
                          with_reducible rfl
                        rotate_left
                        · simp only [Act.put, List.setIfInBounds_toArray, List.set_cons_zero, List.set_cons_succ, i64_w, i32_w]
                          rfl
                        refine pure_ (i := 4) (N := some 50) (v := ?_) (a' := ?_) #[true, true, true, true, true, false, false, false, false, false, false, false, false] rfl rfl (any_of HT_.out (by kernel_rfl)) (fun _ _ _ h => h) (Or.inl ⟨by rfl, ?_⟩) ?_ ?_
                        rotate_left
                        · intro w'
                          go_simp
                          with_reducible rfl
                        rotate_left
                        · simp only [Act.put, List.setIfInBounds_toArray, List.set_cons_zero, List.set_cons_succ, i64_w, i32_w]
                          rfl
                        refine pure_ (i := 7) (N := some 53) (v := ?_) (a' := ?_) #[true, true, true, true, true, false, false, true, false, false, false, false, false] rfl rfl (any_of HT_.out (by kernel_rfl)) (fun _ _ _ h => h) (Or.inl ⟨by rfl, ?_⟩) ?_ ?_
                        rotate_left
                        · intro w'
                          go_simp
                          with_reducible rfl
                        rotate_left
                        · simp only [Act.put, List.setIfInBounds_toArray, List.set_cons_zero, List.set_cons_succ, i64_w, i32_w]
                          rfl
                        refine pure_ (i := 8) (N := some 54) (v := ?_) (a' := ?_) #[true, true, true, true, true, false, false, true, true, false, false, false, false] rfl rfl (any_of HT_.out (by kernel_rfl)) (fun _ _ _ h => h) (Or.inl ⟨by rfl, ?_⟩) ?_ ?_
                        rotate_left
                        · intro w'
                          go_simp
                          with_reducible rfl
                        rotate_left
                        · simp only [Act.put, List.setIfInBounds_toArray, List.set_cons_zero, List.set_cons_succ, i64_w, i32_w]
                          rfl
                        refine pure_ (i := 9) (N := some 55) (v := ?_) (a' := ?_) #[true, true, true, true, true, false, false, true, true, true, false, false, false] rfl rfl (any_of HT_.out (by kernel_rfl)) (fun _ _ _ h => h) (Or.inl ⟨by rfl, ?_⟩) ?_ ?_
                        rotate_left
                        · intro w'
                          go_simp
                          with_reducible rfl
                        rotate_left
                        · simp only [Act.put, List.setIfInBounds_toArray, List.set_cons_zero, List.set_cons_succ, i64_w, i32_w]
                          rfl
                        refine take_ (i := 5) (N := some 51) (v := ?_) (a' := ?_) #[true, true, true, true, true, true, false, true, true, true, false, false, false] rfl rfl (take_ofW HT_.out HW_.out (by kernel_rfl)) (fun _ _ _ h => h) (Or.inl ⟨by rfl, ?_⟩) hHeld ?_ ?_
                        rotate_left
                        · rintro w' ⟨s0, s1⟩
                          go_simp
                          with_reducible rfl
                        rotate_left
                        · simp only [Act.put, List.setIfInBounds_toArray, List.set_cons_zero, List.set_cons_succ, i64_w, i32_w]
                          rfl
                        refine take_ (i := 10) (N := some 56) (v := ?_) (a' := ?_) #[true, true, true, true, true, true, false, true, true, true, true, false, false] rfl rfl (take_ofW HT_.out HW_.out (by kernel_rfl)) (fun _ _ _ h => h) (Or.inl ⟨by rfl, ?_⟩) hHeld ?_ ?_
                        rotate_left
                        · rintro w' ⟨s0, s1⟩
                          go_simp
                          with_reducible rfl
                        rotate_left
                        · simp only [Act.put, List.setIfInBounds_toArray, List.set_cons_zero, List.set_cons_succ, i64_w, i32_w]
                          rfl
                        refine one_ (i := 6) (N := some 52) #[true, true, true, true, true, true, true, true, true, true, true, false, false] rfl rfl (one_of HT_.out (by kernel_rfl)) (by decide) (fun K hK => ?_)
                        refine goes_ Try.func62 (by kernel_rfl) rfl #[.slice A0 l0.length c0, .string (rdOf ByteArray.empty l3 (ji20))] (by rfl) rfl rfl (by (try simp only [List.map_toArray, List.map_cons, List.map_nil]); first | done | (simp only [hji20]; rfl) | rfl | (simp only [List.length_drop, List.length_take]; rfl)) ?_
                        with_reducible refine (cosignerref03_parents.calls k2 _ _ l0 (rdOf ByteArray.empty l3 (ji20)) t473 _ ?side1 ?side2 A23.out).mono ?_
                        (case side1 => repeat (first | exact (Kd.C_below HR0.out HB.out) | (with_reducible refine Kd.C_alloc ?_ _) | (with_reducible refine Kd.C_drewN ?_ _) | (with_reducible refine Kd.C_drew ?_)))
                        (case side2 => exact HC0.out)
                        rintro e w28 ⟨v474, rfl, ho0, hb⟩
                        refine ⟨_, rfl, ?_⟩
                        have n0_ := Aside0.mk (Kd.R_lower ho0 (below_size (by repeat (first | (with_reducible first | exact HB.out | apply below_alloc | apply pw_below_drewN | apply below_drew1) | exact HB.out))))
                        have n1_ := Aside0.mk (below_step (by repeat (first | (with_reducible first | exact HB.out | apply below_alloc | apply pw_below_drewN | apply below_drew1) | exact HB.out)) hb)
                        clear HB
                        have HO475 := n0_
                        have HB := n1_
                        clear n0_ n1_
                        (try clear hb)
                        (try clear hb2)
                        (try clear hk)
                        (try clear hi)
                        (try clear ho0)
                        obtain ⟨Ao29, co29, eo29⟩ := Kd.R_slice HO475.out
                        (first | subst eo29 | (injection eo29 with f1_ f2_ f3_; have f4_ := f1_.symm; have f5_ := f3_.symm; clear f1_ f2_ f3_; subst f4_; subst f5_))
                        refine hK.out _ _ ⟨((HB.out.cell (World.block_lt_of_cell? w _ hw472_0)).trans hw472_0), ((HB.out.cell (World.block_lt_of_cell? w _ hw476_0)).trans hw476_0)⟩ (fun hHeld => ?_)
                        clear hK K
                        refine norm_ (a' := ?_) ?_ ?_
                        rotate_left
                        · show Act.put _ (some 52) _ = _
                          simp only [Act.put, List.setIfInBounds_toArray, List.set_cons_zero, List.set_cons_succ, i64_w, i32_w]
                          rfl
                        refine one_ (i := 11) (N := some 57) #[true, true, true, true, true, true, true, true, true, true, true, true, false] rfl rfl (one_of HT_.out (by kernel_rfl)) (by decide) (fun K hK => ?_)
                        refine goes_ Try.func60 (by kernel_rfl) rfl #[.slice Ao29 t473.length co29, .string (rdOf ByteArray.empty l3 x10_2)] (by rfl) rfl rfl (by (try simp only [List.map_toArray, List.map_cons, List.map_nil]); first | done | rfl | (simp only [List.length_drop, List.length_take]; rfl)) ?_
                        with_reducible refine (cosignerref03_Has.calls k2 _ _ t473 (rdOf ByteArray.empty l3 x10_2) true _ ?side1 ?side2 A25.out).mono ?_
                        (case side1 => repeat (first | exact (Kd.R_reads' HO475.out).2.2 | (with_reducible refine Kd.C_alloc ?_ _) | (with_reducible refine Kd.C_drewN ?_ _) | (with_reducible refine Kd.C_drew ?_)))
                        (case side2 => exact (Kd.R_reads' HO475.out).2.1)
                        rintro e w' ⟨rfl, ⟨nd, rfl⟩⟩
                        refine ⟨_, rfl, ?_⟩
                        refine hK.out _ _ ⟨((HB.out.cell (World.block_lt_of_cell? w _ hw472_0)).trans hw472_0), ((HB.out.cell (World.block_lt_of_cell? w _ hw476_0)).trans hw476_0)⟩ (fun hHeld => ?_)
                        clear hK K
                        refine norm_ (a' := ?_) ?_ ?_
                        rotate_left
                        · show Act.put _ (some 57) _ = _
                          simp only [Act.put, List.setIfInBounds_toArray, List.set_cons_zero, List.set_cons_succ, i64_w, i32_w]
                          rfl
                        refine pure_ (i := 12) (N := some 11) (v := ?_) (a' := ?_) #[true, true, true, true, true, true, true, true, true, true, true, true, true] rfl rfl (any_of HT_.out (by kernel_rfl)) (fun _ _ _ h => h) (Or.inl ⟨by rfl, ?_⟩) ?_ ?_
                        rotate_left
                        · intro w'
                          go_simp
                          with_reducible rfl
                        rotate_left
                        · simp only [Act.put, List.setIfInBounds_toArray, List.set_cons_zero, List.set_cons_succ, i64_w, i32_w]
                          rfl
                        refine done_ (done_of HT_.out (by kernel_rfl)) ?_
                        try go_wp2
                        go_roundg k2
                        case measure => have := HJ6.out; have := HK2.out; omega
                        case rel => exact ⟨(wrap64 (x10_2 + 1)), (by first | rfl | (simp; done) | (simp [*]; done)), H', ⟨by have := HJ6.out; have := HK2.out; omega⟩, ⟨by repeat (first | (with_reducible first | exact HB.out | apply below_alloc | apply pw_below_drewN | apply below_drew1) | exact HB.out)⟩⟩
                      · replace c26 := Bool.eq_false_iff.mpr c26
                        subst c26
                        have H1 : (some 11) = some r := by rw [if_neg (show ¬ (false = true) by decide)] at H; exact H
                        clear H
                        have H := H1
                        clear H1
                        obtain rfl := Option.some.inj H
                        try go_wp2
                        have n0_ := Aside0.mk (below_drew1 HB.out)
                        clear HB
                        have HB := n0_
                        clear n0_
                        have p472 : 0 ≤ ((ji20) : Int) := of_decide_eq_true (by first | (with_reducible assumption) | assumption)
                        have q472 : (ji20) < (l3.length : Int) := of_decide_eq_true (by first | (with_reducible assumption) | assumption)
                        obtain ⟨ad472, e472, hx472_0⟩ := Kd.at_string HR3.out (ji20) p472 q472
                        have hw472_0 := hx472_0
                        cases e472
                        replace hx472_0 := (HB.out.cell (World.block_lt_of_cell? w _ hx472_0)).trans hx472_0
                        replace p472 := eq_true p472
                        replace q472 := eq_true q472
                        have p476 : 0 ≤ (x10_2 : Int) := of_decide_eq_true (by first | (with_reducible assumption) | assumption)
                        have q476 : x10_2 < (l3.length : Int) := of_decide_eq_true (by first | (with_reducible assumption) | assumption)
                        obtain ⟨ad476, e476, hx476_0⟩ := Kd.at_string HR3.out x10_2 p476 q476
                        have hw476_0 := hx476_0
                        obtain rfl : ad472 = ad476 := (by injection e476)
                        replace hx476_0 := (HB.out.cell (World.block_lt_of_cell? w _ hx476_0)).trans hx476_0
                        replace p476 := eq_true p476
                        replace q476 := eq_true q476
                        refine start_ (n := 13) (S := fun w' => w'.cell? (ad472.add ((ji20)).toNat) = some (.string (rdOf ByteArray.empty l3 (ji20))) ∧ w'.cell? (ad472.add (x10_2).toNat) = some (.string (rdOf ByteArray.empty l3 x10_2))) (ds := []) #[false, false, false, false, false, false, false, false, false, false, false, false, false] (by kernel_rfl) rfl rfl ⟨((HB.out.cell (World.block_lt_of_cell? w _ hw472_0)).trans hw472_0), ((HB.out.cell (World.block_lt_of_cell? w _ hw476_0)).trans hw476_0)⟩ (fun hHeld => ?_); refine with_tabW cosignerref03_CheckWay.tab9 cosignerref03_CheckWay.bits9 (fun HT_ HW_ => ?_)
                        generalize wr.drew = w30 at HB hx472_0 hx476_0 hHeld ⊢
                        refine pure_ (i := 0) (N := some 46) (v := ?_) (a' := ?_) #[true, false, false, false, false, false, false, false, false, false, false, false, false] rfl rfl (any_of HT_.out (by kernel_rfl)) (fun _ _ _ h => h) (Or.inl ⟨by rfl, ?_⟩) ?_ ?_
                        rotate_left
                        · intro w'
                          go_simp
                          with_reducible rfl
                        rotate_left
                        · simp only [Act.put, List.setIfInBounds_toArray, List.set_cons_zero, List.set_cons_succ, i64_w, i32_w]
                          rfl
                        refine pure_ (i := 1) (N := some 47) (v := ?_) (a' := ?_) #[true, true, false, false, false, false, false, false, false, false, false, false, false] rfl rfl (any_of HT_.out (by kernel_rfl)) (fun _ _ _ h => h) (Or.inl ⟨by rfl, ?_⟩) ?_ ?_
                        rotate_left
                        · intro w'
                          go_simp
                          with_reducible rfl
                        rotate_left
                        · simp only [Act.put, List.setIfInBounds_toArray, List.set_cons_zero, List.set_cons_succ, i64_w, i32_w]
                          rfl
                        refine pure_ (i := 2) (N := some 48) (v := ?_) (a' := ?_) #[true, true, true, false, false, false, false, false, false, false, false, false, false] rfl rfl (any_of HT_.out (by kernel_rfl)) (fun _ _ _ h => h) (Or.inl ⟨by rfl, ?_⟩) ?_ ?_
                        rotate_left
                        · intro w'
                          go_simp
                          with_reducible rfl
                        rotate_left
                        · simp only [Act.put, List.setIfInBounds_toArray, List.set_cons_zero, List.set_cons_succ, i64_w, i32_w]
                          rfl
                        refine pure_ (i := 3) (N := some 49) (v := ?_) (a' := ?_) #[true, true, true, true, false, false, false, false, false, false, false, false, false] rfl rfl (any_of HT_.out (by kernel_rfl)) (fun _ _ _ h => h) (Or.inl ⟨by rfl, ?_⟩) ?_ ?_
                        rotate_left
                        · intro w'
                          go_simp
                          with_reducible rfl
                        rotate_left
                        · simp only [Act.put, List.setIfInBounds_toArray, List.set_cons_zero, List.set_cons_succ, i64_w, i32_w]
                          rfl
                        refine pure_ (i := 4) (N := some 50) (v := ?_) (a' := ?_) #[true, true, true, true, true, false, false, false, false, false, false, false, false] rfl rfl (any_of HT_.out (by kernel_rfl)) (fun _ _ _ h => h) (Or.inl ⟨by rfl, ?_⟩) ?_ ?_
                        rotate_left
                        · intro w'
                          go_simp
                          with_reducible rfl
                        rotate_left
                        · simp only [Act.put, List.setIfInBounds_toArray, List.set_cons_zero, List.set_cons_succ, i64_w, i32_w]
                          rfl
                        refine pure_ (i := 7) (N := some 53) (v := ?_) (a' := ?_) #[true, true, true, true, true, false, false, true, false, false, false, false, false] rfl rfl (any_of HT_.out (by kernel_rfl)) (fun _ _ _ h => h) (Or.inl ⟨by rfl, ?_⟩) ?_ ?_
                        rotate_left
                        · intro w'
                          go_simp
                          with_reducible rfl
                        rotate_left
                        · simp only [Act.put, List.setIfInBounds_toArray, List.set_cons_zero, List.set_cons_succ, i64_w, i32_w]
                          rfl
                        refine pure_ (i := 8) (N := some 54) (v := ?_) (a' := ?_) #[true, true, true, true, true, false, false, true, true, false, false, false, false] rfl rfl (any_of HT_.out (by kernel_rfl)) (fun _ _ _ h => h) (Or.inl ⟨by rfl, ?_⟩) ?_ ?_
                        rotate_left
                        · intro w'
                          go_simp
                          with_reducible rfl
                        rotate_left
                        · simp only [Act.put, List.setIfInBounds_toArray, List.set_cons_zero, List.set_cons_succ, i64_w, i32_w]
                          rfl
                        refine pure_ (i := 9) (N := some 55) (v := ?_) (a' := ?_) #[true, true, true, true, true, false, false, true, true, true, false, false, false] rfl rfl (any_of HT_.out (by kernel_rfl)) (fun _ _ _ h => h) (Or.inl ⟨by rfl, ?_⟩) ?_ ?_
                        rotate_left
                        · intro w'
                          go_simp
                          with_reducible rfl
                        rotate_left
                        · simp only [Act.put, List.setIfInBounds_toArray, List.set_cons_zero, List.set_cons_succ, i64_w, i32_w]
                          rfl
                        refine take_ (i := 5) (N := some 51) (v := ?_) (a' := ?_) #[true, true, true, true, true, true, false, true, true, true, false, false, false] rfl rfl (take_ofW HT_.out HW_.out (by kernel_rfl)) (fun _ _ _ h => h) (Or.inl ⟨by rfl, ?_⟩) hHeld ?_ ?_
                        rotate_left
                        · rintro w' ⟨s0, s1⟩
                          go_simp
                          with_reducible rfl
                        rotate_left
                        · simp only [Act.put, List.setIfInBounds_toArray, List.set_cons_zero, List.set_cons_succ, i64_w, i32_w]
                          rfl
                        refine take_ (i := 10) (N := some 56) (v := ?_) (a' := ?_) #[true, true, true, true, true, true, false, true, true, true, true, false, false] rfl rfl (take_ofW HT_.out HW_.out (by kernel_rfl)) (fun _ _ _ h => h) (Or.inl ⟨by rfl, ?_⟩) hHeld ?_ ?_
                        rotate_left
                        · rintro w' ⟨s0, s1⟩
                          go_simp
                          with_reducible rfl
                        rotate_left
                        · simp only [Act.put, List.setIfInBounds_toArray, List.set_cons_zero, List.set_cons_succ, i64_w, i32_w]
                          rfl
                        refine one_ (i := 6) (N := some 52) #[true, true, true, true, true, true, true, true, true, true, true, false, false] rfl rfl (one_of HT_.out (by kernel_rfl)) (by decide) (fun K hK => ?_)
                        refine goes_ Try.func62 (by kernel_rfl) rfl #[.slice A0 l0.length c0, .string (rdOf ByteArray.empty l3 (ji20))] (by rfl) rfl rfl (by (try simp only [List.map_toArray, List.map_cons, List.map_nil]); first | done | (simp only [hji20]; rfl) | rfl | (simp only [List.length_drop, List.length_take]; rfl)) ?_
                        with_reducible refine (cosignerref03_parents.calls k2 _ _ l0 (rdOf ByteArray.empty l3 (ji20)) t473 _ ?side1 ?side2 A23.out).mono ?_
                        (case side1 => repeat (first | exact (Kd.C_below HR0.out HB.out) | (with_reducible refine Kd.C_alloc ?_ _) | (with_reducible refine Kd.C_drewN ?_ _) | (with_reducible refine Kd.C_drew ?_)))
                        (case side2 => exact HC0.out)
                        rintro e w31 ⟨v474, rfl, ho0, hb⟩
                        refine ⟨_, rfl, ?_⟩
                        have n0_ := Aside0.mk (Kd.R_lower ho0 (below_size (by repeat (first | (with_reducible first | exact HB.out | apply below_alloc | apply pw_below_drewN | apply below_drew1) | exact HB.out))))
                        have n1_ := Aside0.mk (below_step (by repeat (first | (with_reducible first | exact HB.out | apply below_alloc | apply pw_below_drewN | apply below_drew1) | exact HB.out)) hb)
                        clear HB
                        have HO475 := n0_
                        have HB := n1_
                        clear n0_ n1_
                        (try clear hb)
                        (try clear hb2)
                        (try clear hk)
                        (try clear hi)
                        (try clear ho0)
                        obtain ⟨Ao32, co32, eo32⟩ := Kd.R_slice HO475.out
                        (first | subst eo32 | (injection eo32 with f1_ f2_ f3_; have f4_ := f1_.symm; have f5_ := f3_.symm; clear f1_ f2_ f3_; subst f4_; subst f5_))
                        refine hK.out _ _ ⟨((HB.out.cell (World.block_lt_of_cell? w _ hw472_0)).trans hw472_0), ((HB.out.cell (World.block_lt_of_cell? w _ hw476_0)).trans hw476_0)⟩ (fun hHeld => ?_)
                        clear hK K
                        refine norm_ (a' := ?_) ?_ ?_
                        rotate_left
                        · show Act.put _ (some 52) _ = _
                          simp only [Act.put, List.setIfInBounds_toArray, List.set_cons_zero, List.set_cons_succ, i64_w, i32_w]
                          rfl
                        refine one_ (i := 11) (N := some 57) #[true, true, true, true, true, true, true, true, true, true, true, true, false] rfl rfl (one_of HT_.out (by kernel_rfl)) (by decide) (fun K hK => ?_)
                        refine goes_ Try.func60 (by kernel_rfl) rfl #[.slice Ao32 t473.length co32, .string (rdOf ByteArray.empty l3 x10_2)] (by rfl) rfl rfl (by (try simp only [List.map_toArray, List.map_cons, List.map_nil]); first | done | rfl | (simp only [List.length_drop, List.length_take]; rfl)) ?_
                        with_reducible refine (cosignerref03_Has.calls k2 _ _ t473 (rdOf ByteArray.empty l3 x10_2) false _ ?side1 ?side2 A25.out).mono ?_
                        (case side1 => repeat (first | exact (Kd.R_reads' HO475.out).2.2 | (with_reducible refine Kd.C_alloc ?_ _) | (with_reducible refine Kd.C_drewN ?_ _) | (with_reducible refine Kd.C_drew ?_)))
                        (case side2 => exact (Kd.R_reads' HO475.out).2.1)
                        rintro e w' ⟨rfl, ⟨nd, rfl⟩⟩
                        refine ⟨_, rfl, ?_⟩
                        refine hK.out _ _ ⟨((HB.out.cell (World.block_lt_of_cell? w _ hw472_0)).trans hw472_0), ((HB.out.cell (World.block_lt_of_cell? w _ hw476_0)).trans hw476_0)⟩ (fun hHeld => ?_)
                        clear hK K
                        refine norm_ (a' := ?_) ?_ ?_
                        rotate_left
                        · show Act.put _ (some 57) _ = _
                          simp only [Act.put, List.setIfInBounds_toArray, List.set_cons_zero, List.set_cons_succ, i64_w, i32_w]
                          rfl
                        refine pure_ (i := 12) (N := some 11) (v := ?_) (a' := ?_) #[true, true, true, true, true, true, true, true, true, true, true, true, true] rfl rfl (any_of HT_.out (by kernel_rfl)) (fun _ _ _ h => h) (Or.inl ⟨by rfl, ?_⟩) ?_ ?_
                        rotate_left
                        · intro w'
                          go_simp
                          with_reducible rfl
                        rotate_left
                        · simp only [Act.put, List.setIfInBounds_toArray, List.set_cons_zero, List.set_cons_succ, i64_w, i32_w]
                          rfl
                        refine done_ (done_of HT_.out (by kernel_rfl)) ?_
                        try go_wp2
                        go_ret
                        exact ⟨by first | rfl | (simp [errW_none, errW_some] <;> rfl) | (simp only [← hji20]; first | rfl | (simp [errW_none, errW_some] <;> rfl)) | (simp [*, errW_none, errW_some] <;> rfl), by repeat (first | (with_reducible first | exact HB.out | apply below_alloc | apply pw_below_drewN | apply below_drew1) | exact HB.out)⟩
                    · rw [if_neg c24] at H
                      exact absurd H (by simp)
                  · rw [if_neg c22] at H
                    exact absurd H (by simp)
                · rw [if_neg c21] at H
                  exact absurd H (by simp)
              · rw [if_neg c19] at H
                have c19b0 : decide (x10_2 < (l3.length : Int)) = false := decide_eq_false c19
                clear c19
                obtain rfl := Option.some.inj H
                go_wp2
                go_ret
                exact ⟨by first | rfl | (simp [errW_none, errW_some] <;> rfl) | (simp [*, errW_none, errW_some] <;> rfl), by repeat (first | (with_reducible first | exact HB.out | apply below_alloc | apply pw_below_drewN | apply below_drew1) | exact HB.out)⟩
  · rw [if_neg c6] at H
    have c6b0 : (t469 == 0) = false := beq_eq_false_iff_ne.mpr c6
    have c6b1 : (t469 != 0) = true := bne_iff_ne.mpr c6
    obtain rfl := Option.some.inj H
    go_enter Try.func52, Try.ntmps52
    go_wp2_with (first | ((with_reducible refine gate_dst (N := 15) rfl ?_); (try (refine gate_guard (by rfl) ?_; dsimp only)); refine Kd.R_lit Kd.string _ 9 ?hg (N := 15) ?hd (xs := ([a1, a2] : List ByteArray)) (inner := [.string a1, .string a2]) (ok := fun _ => True) (okp := fun _ => True) ?hr ?hp (fun _ hk => hk) trivial (Below.refl _ _) (Nat.le_refl _) (by simp) ?_; (case hd => rfl); (case hg => rfl); (case hr => first | (go_simp; done) | (go_simp; rfl)); (case hp => exact (Reps.one (show Kd.M Kd.string _ _ _ a1 [.string a1] from rfl) (Reps.one (show Kd.M Kd.string _ _ _ a2 [.string a2] from rfl) (Reps.none _ _)))); intro v467 w33 ho34 hb hg_ hnew_; clear hg_ hnew_; (first | rw [← Ny466.out] at ho34 | (simp only [Int.reduceToNat] at ho34; rw [← Ny466.out] at ho34)); have n0_ := Aside0.mk (Kd.R_lower ho34 (below_size (by repeat (first | (with_reducible first | exact HB.out | apply below_alloc | apply pw_below_drewN | apply below_drew1) | exact HB.out)))); have n1_ := Aside0.mk (below_step (by repeat (first | (with_reducible first | exact HB.out | apply below_alloc | apply pw_below_drewN | apply below_drew1) | exact HB.out)) hb); clear HB; have HO468 := n0_; have HB := n1_; clear n0_ n1_; clear hb ho34; obtain ⟨Ao35, co35, eo35⟩ := Kd.R_slice HO468.out; subst eo35) | ((with_reducible refine gate_callee (f := 74) rfl ?_); refine goesL_ (some 16) rfl rfl Try.func74 (by kernel_rfl) rfl #[.slice A0 l0.length c0, .slice Ao35 y466.length co35] rfl (by (try simp only [List.map_toArray, List.map_cons, List.map_nil]); first | done | rfl | (simp only [List.length_drop, List.length_take]; rfl)) ?_; (with_reducible refine (cosignerref03_asked.calls k _ _ l0 _ _ y466 t469 _ ?side1 ?side2 ?side3 ?side4 A5.out).mono ?_); (case side1 => repeat (first | exact (Kd.C_below HR0.out HB.out) | (with_reducible refine Kd.C_alloc ?_ _) | (with_reducible refine Kd.C_drewN ?_ _) | (with_reducible refine Kd.C_drew ?_))); (case side2 => exact HC0.out); (case side3 => repeat (first | exact (Kd.R_reads' HO468.out).2.2 | (with_reducible refine Kd.C_alloc ?_ _) | (with_reducible refine Kd.C_drewN ?_ _) | (with_reducible refine Kd.C_drew ?_))); (case side4 => exact (Kd.R_reads' HO468.out).2.1); rintro e w36 ⟨rfl, hb⟩; refine ⟨_, rfl, ?_⟩; have n0_ := Aside0.mk (Kd.R_below (by (with_reducible repeat (first | apply Kd.R_alloc | apply Kd.R_drewN | apply Kd.R_drew)); exact HO468.out) hb); have n1_ := Aside0.mk (below_step (by repeat (first | (with_reducible first | exact HB.out | apply below_alloc | apply pw_below_drewN | apply below_drew1) | exact HB.out)) hb); clear HO468; clear HB; have HO468 := n0_; have HB := n1_; clear n0_ n1_; (try clear hb); (try clear hb2); (try clear hk); (try clear hi)))
    go_ret
    exact ⟨by first | rfl | (simp [errW_none, errW_some] <;> rfl) | (simp [*, errW_none, errW_some] <;> rfl), by repeat (first | (with_reducible first | exact HB.out | apply below_alloc | apply pw_below_drewN | apply below_drew1) | exact HB.out)⟩
def cosignerlaw03_HeirWays.j0 : Nat → List (S61) → ByteArray → ByteArray → List ByteArray → Bool → Option (Bool)
  | 0, _, _, _, _, _ => none
  | k + 1, x0, x1, x2, x3, x19 => if x19 = true then ((cosignerlaw03_sanity.f).bind fun t479 => (some t479)) else ((heir_Way.f x0 x1 x2).bind fun bt480 => ((cosignerref03_Way.f k x0 x1 x2).bind fun bt484 => ((cosignerlaw03_sanity.f).bind fun t489 => (if t489 = true then ((cosignerref03_SameNames.f k bt480.1 bt484.1).bind fun t490 => (if t490 = true then (if bt480.2 = bt484.2 then ((heir_CheckWay.f x0 x1 x2 x3).bind fun t491 => ((cosignerref03_CheckWay.f k x0 x1 x2 x3).bind fun t492 => (some (t491 == t492)))) else (some false)) else (some false))) else (some false)))))
def cosignerlaw03_HeirWays.f (k : Nat) (l0 : List (S61)) (a1 : ByteArray) (a2 : ByteArray) (l3 : List ByteArray) : Option (Bool) := (cosignerlaw03_few.f k l0).bind fun t478 => (if t478 = true then (cosignerlaw03_HeirWays.j0 k l0 a1 a2 l3 (decide ((l3.length : Int) > 40))) else (cosignerlaw03_HeirWays.j0 k l0 a1 a2 l3 true))
set_option maxHeartbeats 8000000 in
set_option maxRecDepth 100000 in
theorem cosignerlaw03_HeirWays.calls (k : Nat) (A0 : Option Addr) (c0 : Nat) (l0 : List (S61)) (a1 : ByteArray) (a2 : ByteArray) (A3 : Option Addr) (c3 : Nat) (l3 : List ByteArray) (r : Bool) (hrt : r = true) (w : World) (hr0 : Kd.C k61 w A0 l0.length l0) (hc0 : l0.length ≤ c0) (hr3 : Kd.C Kd.string w A3 l3.length l3) (hc3 : l3.length ≤ c3) (h : cosignerlaw03_HeirWays.f k l0 a1 a2 l3 = some r) :
    Calls Try.prog 13 #[.slice A0 l0.length c0, .string a1, .string a2, .slice A3 l3.length c3] w fun e w' => e = .returned (.bool r) ∧ Below w.heap.size w w' := by
  have hu30 := Try.underlying30
  have HR0 := Aside0.mk hr0
  have HC0 := Aside0.mk hc0
  clear hr0 hc0
  have HR3 := Aside0.mk hr3
  have HC3 := Aside0.mk hc3
  clear hr3 hc3
  have HB := Aside0.mk (Below.refl w.heap.size w)
  have H : ((cosignerlaw03_few.f k l0).bind fun t478 => (if t478 = true then (cosignerlaw03_HeirWays.j0 k l0 a1 a2 l3 (decide ((l3.length : Int) > 40))) else (cosignerlaw03_HeirWays.j0 k l0 a1 a2 l3 true))) = some r := h
  clear h
  have HC5 := Aside0.mk H
  clear H
  go_enter Try.func13, Try.ntmps13
  go_upto_region 1 with (fail)
  go_cut [19] (fun v19 wc => ∃ (kq : Nat) (x19_4 : Bool), v19 = .bool x19_4 ∧ Aside0 (cosignerlaw03_HeirWays.j0 kq l0 a1 a2 l3 x19_4 = some r) ∧ Aside0 (kq ≤ k) ∧ Aside0 (Below w.heap.size w wc))
  case first =>
    have H := HC5.out
    clear HC5
    replace H := Option.bind_eq_some_iff.mp H
    obtain ⟨t478, A60, H⟩ := H
    replace H : (if t478 = true then (cosignerlaw03_HeirWays.j0 k l0 a1 a2 l3 (decide ((l3.length : Int) > 40))) else (cosignerlaw03_HeirWays.j0 k l0 a1 a2 l3 true)) = some r := H
    have A6 := Aside0.mk A60
    clear A60
    by_cases c7 : t478 = true
    · subst c7
      have H1 : (cosignerlaw03_HeirWays.j0 k l0 a1 a2 l3 (decide ((l3.length : Int) > 40))) = some r := by rw [if_pos rfl] at H; exact H
      clear H
      have H := H1
      clear H1
      have H' := Aside0.mk H
      clear H
      go_wp2_with (first | ((with_reducible refine gate_callee (f := 15) rfl ?_); refine goesL_ (some 13) rfl rfl Try.func15 (by kernel_rfl) rfl #[.slice A0 l0.length c0] rfl (by (try simp only [List.map_toArray, List.map_cons, List.map_nil]); first | done | rfl | (simp only [List.length_drop, List.length_take]; rfl)) ?_; (with_reducible refine (cosignerlaw03_few.calls k _ _ l0 true _ ?side1 ?side2 A6.out).mono ?_); (case side1 => repeat (first | exact (Kd.C_below HR0.out HB.out) | (with_reducible refine Kd.C_alloc ?_ _) | (with_reducible refine Kd.C_drewN ?_ _) | (with_reducible refine Kd.C_drew ?_))); (case side2 => exact HC0.out); rintro e w' ⟨rfl, ⟨nd, rfl⟩⟩; refine ⟨_, rfl, ?_⟩))
      go_meet
      case rel => exact ⟨_, (decide ((l3.length : Int) > 40)), (by first | rfl | (simp; done) | (simp [*]; done)), H', ⟨by first | omega | exact Nat.le_refl _⟩, ⟨by repeat (first | (with_reducible first | exact HB.out | apply below_alloc | apply pw_below_drewN | apply below_drew1) | exact HB.out)⟩⟩
    · replace c7 := Bool.eq_false_iff.mpr c7
      subst c7
      have H1 : (cosignerlaw03_HeirWays.j0 k l0 a1 a2 l3 true) = some r := by rw [if_neg (show ¬ (false = true) by decide)] at H; exact H
      clear H
      have H := H1
      clear H1
      have H' := Aside0.mk H
      clear H
      go_wp2_with (first | ((with_reducible refine gate_callee (f := 15) rfl ?_); refine goesL_ (some 13) rfl rfl Try.func15 (by kernel_rfl) rfl #[.slice A0 l0.length c0] rfl (by (try simp only [List.map_toArray, List.map_cons, List.map_nil]); first | done | rfl | (simp only [List.length_drop, List.length_take]; rfl)) ?_; (with_reducible refine (cosignerlaw03_few.calls k _ _ l0 false _ ?side1 ?side2 A6.out).mono ?_); (case side1 => repeat (first | exact (Kd.C_below HR0.out HB.out) | (with_reducible refine Kd.C_alloc ?_ _) | (with_reducible refine Kd.C_drewN ?_ _) | (with_reducible refine Kd.C_drew ?_))); (case side2 => exact HC0.out); rintro e w' ⟨rfl, ⟨nd, rfl⟩⟩; refine ⟨_, rfl, ?_⟩))
      go_meet
      case rel => exact ⟨_, (true), (by first | rfl | (simp; done) | (simp [*]; done)), H', ⟨by first | omega | exact Nat.le_refl _⟩, ⟨by repeat (first | (with_reducible first | exact HB.out | apply below_alloc | apply pw_below_drewN | apply below_drew1) | exact HB.out)⟩⟩
  case rest =>
    clear HC5
    try clear c1
    try clear p2
    try clear c3
    try clear c7
    obtain ⟨kq, x19_4, rfl, HA, HJ4, HB⟩ := hcut
    cases kq with
    | zero => exact absurd HA.out (by simp [cosignerlaw03_HeirWays.j0])
    | succ kj4 =>
      have H := HA.out
      clear HA
      simp only [cosignerlaw03_HeirWays.j0] at H
      by_cases c8 : x19_4 = true
      · subst c8
        have H1 : ((cosignerlaw03_sanity.f).bind fun t479 => (some t479)) = some r := by rw [if_pos rfl] at H; exact H
        clear H
        have H := H1
        clear H1
        replace H := Option.bind_eq_some_iff.mp H
        obtain ⟨t479, A90, H⟩ := H
        replace H : (some t479) = some r := H
        have A9 := Aside0.mk A90
        clear A90
        obtain rfl := Option.some.inj H
        go_wp2_with (first | ((with_reducible refine gate_callee (f := 16) rfl ?_); refine goesL_ (some 20) rfl rfl Try.func16 (by kernel_rfl) rfl #[] rfl (by (try simp only [List.map_toArray, List.map_cons, List.map_nil]); first | done | rfl | (simp only [List.length_drop, List.length_take]; rfl)) ?_; (with_reducible refine (cosignerlaw03_sanity.calls  t479 _ A9.out).mono ?_); rintro e w10 ⟨rfl, hb⟩; refine ⟨_, rfl, ?_⟩; have n0_ := Aside0.mk (below_step (by repeat (first | (with_reducible first | exact HB.out | apply below_alloc | apply pw_below_drewN | apply below_drew1) | exact HB.out)) hb); clear HB; have HB := n0_; clear n0_; (try clear hb); (try clear hb2); (try clear hk); (try clear hi)))
        go_ret
        exact ⟨by first | rfl | (simp [errW_none, errW_some] <;> rfl) | (simp [*, errW_none, errW_some] <;> rfl), by repeat (first | (with_reducible first | exact HB.out | apply below_alloc | apply pw_below_drewN | apply below_drew1) | exact HB.out)⟩
      · replace c8 := Bool.eq_false_iff.mpr c8
        subst c8
        have H1 : ((heir_Way.f l0 a1 a2).bind fun bt480 => ((cosignerref03_Way.f kj4 l0 a1 a2).bind fun bt484 => ((cosignerlaw03_sanity.f).bind fun t489 => (if t489 = true then ((cosignerref03_SameNames.f kj4 bt480.1 bt484.1).bind fun t490 => (if t490 = true then (if bt480.2 = bt484.2 then ((heir_CheckWay.f l0 a1 a2 l3).bind fun t491 => ((cosignerref03_CheckWay.f kj4 l0 a1 a2 l3).bind fun t492 => (some (t491 == t492)))) else (some false)) else (some false))) else (some false))))) = some r := by rw [if_neg (show ¬ (false = true) by decide)] at H; exact H
        clear H
        have H := H1
        clear H1
        replace H := Option.bind_eq_some_iff.mp H
        obtain ⟨⟨t480, t481⟩, A110, H⟩ := H
        replace H : ((cosignerref03_Way.f kj4 l0 a1 a2).bind fun bt484 => ((cosignerlaw03_sanity.f).bind fun t489 => (if t489 = true then ((cosignerref03_SameNames.f kj4 t480 bt484.1).bind fun t490 => (if t490 = true then (if t481 = bt484.2 then ((heir_CheckWay.f l0 a1 a2 l3).bind fun t491 => ((cosignerref03_CheckWay.f kj4 l0 a1 a2 l3).bind fun t492 => (some (t491 == t492)))) else (some false)) else (some false))) else (some false)))) = some r := H
        have A11 := Aside0.mk A110
        clear A110
        replace H := Option.bind_eq_some_iff.mp H
        obtain ⟨⟨t484, t487⟩, A120, H⟩ := H
        replace H : ((cosignerlaw03_sanity.f).bind fun t489 => (if t489 = true then ((cosignerref03_SameNames.f kj4 t480 t484).bind fun t490 => (if t490 = true then (if t481 = t487 then ((heir_CheckWay.f l0 a1 a2 l3).bind fun t491 => ((cosignerref03_CheckWay.f kj4 l0 a1 a2 l3).bind fun t492 => (some (t491 == t492)))) else (some false)) else (some false))) else (some false))) = some r := H
        have A12 := Aside0.mk A120
        clear A120
        replace H := Option.bind_eq_some_iff.mp H
        obtain ⟨t489, A130, H⟩ := H
        replace H : (if t489 = true then ((cosignerref03_SameNames.f kj4 t480 t484).bind fun t490 => (if t490 = true then (if t481 = t487 then ((heir_CheckWay.f l0 a1 a2 l3).bind fun t491 => ((cosignerref03_CheckWay.f kj4 l0 a1 a2 l3).bind fun t492 => (some (t491 == t492)))) else (some false)) else (some false))) else (some false)) = some r := H
        have A13 := Aside0.mk A130
        clear A130
        by_cases c14 : t489 = true
        · subst c14
          have H1 : ((cosignerref03_SameNames.f kj4 t480 t484).bind fun t490 => (if t490 = true then (if t481 = t487 then ((heir_CheckWay.f l0 a1 a2 l3).bind fun t491 => ((cosignerref03_CheckWay.f kj4 l0 a1 a2 l3).bind fun t492 => (some (t491 == t492)))) else (some false)) else (some false))) = some r := by rw [if_pos rfl] at H; exact H
          clear H
          have H := H1
          clear H1
          replace H := Option.bind_eq_some_iff.mp H
          obtain ⟨t490, A150, H⟩ := H
          replace H : (if t490 = true then (if t481 = t487 then ((heir_CheckWay.f l0 a1 a2 l3).bind fun t491 => ((cosignerref03_CheckWay.f kj4 l0 a1 a2 l3).bind fun t492 => (some (t491 == t492)))) else (some false)) else (some false)) = some r := H
          have A15 := Aside0.mk A150
          clear A150
          by_cases c16 : t490 = true
          · subst c16
            have H1 : (if t481 = t487 then ((heir_CheckWay.f l0 a1 a2 l3).bind fun t491 => ((cosignerref03_CheckWay.f kj4 l0 a1 a2 l3).bind fun t492 => (some (t491 == t492)))) else (some false)) = some r := by rw [if_pos rfl] at H; exact H
            clear H
            have H := H1
            clear H1
            by_cases c17 : t481 = t487
            · rw [if_pos c17] at H
              have c17b0 : (t481 == t487) = true := beq_iff_eq.mpr c17
              have c17b1 : (t481 != t487) = false := bne_eq_false_iff_eq.mpr c17
              clear c17
              replace H := Option.bind_eq_some_iff.mp H
              obtain ⟨t491, A180, H⟩ := H
              replace H : ((cosignerref03_CheckWay.f kj4 l0 a1 a2 l3).bind fun t492 => (some (t491 == t492))) = some r := H
              have A18 := Aside0.mk A180
              clear A180
              replace H := Option.bind_eq_some_iff.mp H
              obtain ⟨t492, A190, H⟩ := H
              replace H : (some (t491 == t492)) = some r := H
              have A19 := Aside0.mk A190
              clear A190
              obtain rfl := Option.some.inj H
              go_wp2_with (first | ((with_reducible refine gate_callee (f := 49) rfl ?_); refine goesL_ (some 25) rfl rfl Try.func49 (by kernel_rfl) rfl #[.slice A0 l0.length c0, .string a1, .string a2] rfl (by (try simp only [List.map_toArray, List.map_cons, List.map_nil]); first | done | rfl | (simp only [List.length_drop, List.length_take]; rfl)) ?_; (with_reducible refine (heir_Way.calls _ _ l0 a1 a2 t480 t481 _ ?side1 ?side2 A11.out).mono ?_); (case side1 => repeat (first | exact (Kd.C_below HR0.out HB.out) | (with_reducible refine Kd.C_alloc ?_ _) | (with_reducible refine Kd.C_drewN ?_ _) | (with_reducible refine Kd.C_drew ?_))); (case side2 => exact HC0.out); rintro e w20 ⟨v482, rfl, ho0, hb⟩; refine ⟨_, rfl, ?_⟩; have n0_ := Aside0.mk (Kd.R_lower ho0 (below_size (by repeat (first | (with_reducible first | exact HB.out | apply below_alloc | apply pw_below_drewN | apply below_drew1) | exact HB.out)))); have n1_ := Aside0.mk (below_step (by repeat (first | (with_reducible first | exact HB.out | apply below_alloc | apply pw_below_drewN | apply below_drew1) | exact HB.out)) hb); clear HB; have HO483 := n0_; have HB := n1_; clear n0_ n1_; (try clear hb); (try clear hb2); (try clear hk); (try clear hi); (try clear ho0)) | ((with_reducible refine gate_callee (f := 50) rfl ?_); refine goesL_ (some 31) rfl rfl Try.func50 (by kernel_rfl) rfl #[.slice A0 l0.length c0, .string a1, .string a2] rfl (by (try simp only [List.map_toArray, List.map_cons, List.map_nil]); first | done | rfl | (simp only [List.length_drop, List.length_take]; rfl)) ?_; (with_reducible refine (cosignerref03_Way.calls kj4 _ _ l0 a1 a2 t484 t487 _ ?side1 ?side2 A12.out).mono ?_); (case side1 => repeat (first | exact (Kd.C_below HR0.out HB.out) | (with_reducible refine Kd.C_alloc ?_ _) | (with_reducible refine Kd.C_drewN ?_ _) | (with_reducible refine Kd.C_drew ?_))); (case side2 => exact HC0.out); rintro e w21 ⟨v485, rfl, ho0, hb⟩; refine ⟨_, rfl, ?_⟩; have n0_ := Aside0.mk (Kd.R_elder' (by (with_reducible repeat (first | apply Kd.R_alloc | apply Kd.R_drewN | apply Kd.R_drew)); exact HO483.out) (Kd.R_base ho0) hb); have n1_ := Aside0.mk (Kd.R_lower (Kd.R_new' ho0 (Kd.R_lt (by (with_reducible repeat (first | apply Kd.R_alloc | apply Kd.R_drewN | apply Kd.R_drew)); exact HO483.out))) (below_size (by repeat (first | (with_reducible first | exact HB.out | apply below_alloc | apply pw_below_drewN | apply below_drew1) | exact HB.out)))); have n2_ := Aside0.mk (below_step (by repeat (first | (with_reducible first | exact HB.out | apply below_alloc | apply pw_below_drewN | apply below_drew1) | exact HB.out)) hb); clear HO483; clear HB; have HO483 := n0_; have HO486 := n1_; have HB := n2_; clear n0_ n1_ n2_; (try clear hb); (try clear hb2); (try clear hk); (try clear hi); (try clear ho0)) | ((with_reducible refine gate_dst (N := 11) rfl ?_); (try (refine gate_guard (by rfl) ?_; dsimp only)); refine box_event ?hg (N := 11) ?hd (cs := #[.slice none 0 0, .int .i64 0]) (t := 30) ?hr ?_; (case hd => rfl); (case hg => rfl); (case hr => first | (go_simp; done) | (go_simp; rfl)); intro gb488 hg w22 hbox hb; have n0_ := Aside0.mk (Kd.R_below (by (with_reducible repeat (first | apply Kd.R_alloc | apply Kd.R_drewN | apply Kd.R_drew)); exact HO483.out) hb); have n1_ := Aside0.mk (Kd.R_below (by (with_reducible repeat (first | apply Kd.R_alloc | apply Kd.R_drewN | apply Kd.R_drew)); exact HO486.out) hb); have n2_ := Aside0.mk (below_step (by repeat (first | (with_reducible first | exact HB.out | apply below_alloc | apply pw_below_drewN | apply below_drew1) | exact HB.out)) hb); have n3_ := Aside0.mk (hbox); have n4_ := Aside0.mk ((by rw [hg]; exact (below_size (by repeat (first | (with_reducible first | exact HB.out | apply below_alloc | apply pw_below_drewN | apply below_drew1) | exact HB.out))) : w.heap.size ≤ gb488)); have n5_ := Aside0.mk ((by rw [hg]; exact (below_size (by repeat (first | (with_reducible first | exact HB.out | apply below_alloc | apply pw_below_drewN | apply below_drew1) | exact HB.out))) : w.heap.size ≤ gb488)); clear HO483; clear HO486; clear HB; have HO483 := n0_; have HO486 := n1_; have HB := n2_; have BK488 := n3_; have GW488 := n4_; have GE488 := n5_; clear n0_ n1_ n2_ n3_ n4_ n5_; clear hb hbox hg; obtain ⟨Ao23, co23, eo23⟩ := Kd.R_slice HO486.out; subst eo23; have hcz24_0 : w22.cell? ⟨gb488, 0, none⟩ = some (.slice none 0 0) := (blk_cell BK488.out 0).trans rfl; have hcz24_1 : w22.cell? ⟨gb488, 1, none⟩ = some (.int .i64 0) := (blk_cell BK488.out 1).trans rfl; have hfz24_0 := blk_frozen BK488.out 0; have hfz24_1 := blk_frozen BK488.out 1) | ((with_reducible refine gate_callee (f := 16) rfl ?_); refine goesL_ (some 32) rfl rfl Try.func16 (by kernel_rfl) rfl #[] rfl (by (try simp only [List.map_toArray, List.map_cons, List.map_nil]); first | done | rfl | (simp only [List.length_drop, List.length_take]; rfl)) ?_; (with_reducible refine (cosignerlaw03_sanity.calls  true _ A13.out).mono ?_); rintro e w25 ⟨rfl, hb⟩; refine ⟨_, rfl, ?_⟩; have n0_ := Aside0.mk (Kd.R_below (by (with_reducible repeat (first | apply Kd.R_alloc | apply Kd.R_drewN | apply Kd.R_drew)); exact (Kd.R_mono (Kd.R_far (p := ⟨gb488, 1, none⟩) (Kd.R_far (p := ⟨gb488, 0, none⟩) (Kd.R_types HO483.out BK488.out (by decide)) (fun _ hk => hk.2) (.slice Ao23 t484.length co23)) (fun _ hk => hk.2) (.int .i64 t487)) (fun _ h_ => h_.1))) hb); have n1_ := Aside0.mk (Kd.R_below (by (with_reducible repeat (first | apply Kd.R_alloc | apply Kd.R_drewN | apply Kd.R_drew)); exact (Kd.R_mono (Kd.R_far (p := ⟨gb488, 1, none⟩) (Kd.R_far (p := ⟨gb488, 0, none⟩) (Kd.R_types HO486.out BK488.out (by decide)) (fun _ hk => hk.2) (.slice Ao23 t484.length co23)) (fun _ hk => hk.2) (.int .i64 t487)) (fun _ h_ => h_.1))) hb); have n2_ := Aside0.mk (blk_below (g := gb488) (o := .cells #[.slice Ao23 t484.length co23, .int .i64 t487] 30 (0, 0)) (by (with_reducible repeat (first | refine blk_drewN ?_ _ | refine blk_drew ?_ | refine blk_alloc ?_ _)); refine blk_put (cs := #[.slice Ao23 t484.length co23, .int .i64 0]) ?_ 1 _ rfl; (with_reducible repeat (first | refine blk_drewN ?_ _ | refine blk_drew ?_ | refine blk_alloc ?_ _)); refine blk_put (cs := #[.slice none 0 0, .int .i64 0]) ?_ 0 _ rfl; (with_reducible repeat (first | refine blk_drewN ?_ _ | refine blk_drew ?_ | refine blk_alloc ?_ _)); exact BK488.out) hb); have n3_ := Aside0.mk (below_step (by repeat (first | (with_reducible first | exact HB.out | apply below_alloc | apply pw_below_drewN | apply below_drew1 | refine below_set ?_ GE488.out) | exact HB.out)) hb); clear HO483; clear HO486; clear BK488; clear HB; have HO483 := n0_; have HO486 := n1_; have BK488 := n2_; have HB := n3_; clear n0_ n1_ n2_ n3_; (try clear hb); (try clear hb2); (try clear hk); (try clear hi); have hcz26_0 : w25.cell? ⟨gb488, 0, none⟩ = some (.slice Ao23 t484.length co23) := (blk_cell BK488.out 0).trans rfl; have hcz26_1 : w25.cell? ⟨gb488, 1, none⟩ = some (.int .i64 t487) := (blk_cell BK488.out 1).trans rfl; have hfz26_0 := blk_frozen BK488.out 0; have hfz26_1 := blk_frozen BK488.out 1; obtain ⟨Ao27, co27, eo27⟩ := Kd.R_slice HO483.out; subst eo27) | (go_at_call 23; (with_reducible refine (cosignerref03_SameNames.calls kj4 _ _ t480 _ _ t484 true _ ?side1 ?side2 ?side3 ?side4 A15.out).mono ?_); (case side1 => repeat (first | exact (Kd.R_reads' HO483.out).2.2 | (with_reducible refine Kd.C_alloc ?_ _) | (with_reducible refine Kd.C_drewN ?_ _) | (with_reducible refine Kd.C_drew ?_))); (case side2 => exact (Kd.R_reads' HO483.out).2.1); (case side3 => repeat (first | exact (Kd.R_reads' HO486.out).2.2 | (with_reducible refine Kd.C_alloc ?_ _) | (with_reducible refine Kd.C_drewN ?_ _) | (with_reducible refine Kd.C_drew ?_))); (case side4 => exact (Kd.R_reads' HO486.out).2.1); rintro e w' ⟨rfl, ⟨nd, rfl⟩⟩) | (go_at_call 51; (with_reducible refine (heir_CheckWay.calls _ _ l0 a1 a2 _ _ l3 t491 _ ?side1 ?side2 ?side3 ?side4 A18.out).mono ?_); (case side1 => repeat (first | exact (Kd.C_below HR0.out (by repeat (first | (with_reducible first | exact HB.out | apply below_alloc | apply pw_below_drewN | apply below_drew1 | refine below_set ?_ GE488.out) | exact HB.out))) | (with_reducible refine Kd.C_alloc ?_ _) | (with_reducible refine Kd.C_drewN ?_ _) | (with_reducible refine Kd.C_drew ?_))); (case side2 => exact HC0.out); (case side3 => repeat (first | exact (Kd.C_below HR3.out (by repeat (first | (with_reducible first | exact HB.out | apply below_alloc | apply pw_below_drewN | apply below_drew1 | refine below_set ?_ GE488.out) | exact HB.out))) | (with_reducible refine Kd.C_alloc ?_ _) | (with_reducible refine Kd.C_drewN ?_ _) | (with_reducible refine Kd.C_drew ?_))); (case side4 => exact HC3.out); rintro e w28 ⟨rfl, hb⟩; have n0_ := Aside0.mk (Kd.R_below (by (with_reducible repeat (first | apply Kd.R_alloc | apply Kd.R_drewN | apply Kd.R_drew)); exact HO483.out) hb); have n1_ := Aside0.mk (Kd.R_below (by (with_reducible repeat (first | apply Kd.R_alloc | apply Kd.R_drewN | apply Kd.R_drew)); exact HO486.out) hb); have n2_ := Aside0.mk (blk_below (g := gb488) (o := .cells #[.slice Ao23 t484.length co23, .int .i64 t487] 30 (0, 0)) (by (with_reducible repeat (first | refine blk_drewN ?_ _ | refine blk_drew ?_ | refine blk_alloc ?_ _)); exact BK488.out) hb); have n3_ := Aside0.mk (below_step (by repeat (first | (with_reducible first | exact HB.out | apply below_alloc | apply pw_below_drewN | apply below_drew1 | refine below_set ?_ GE488.out) | exact HB.out)) hb); clear HO483; clear HO486; clear BK488; clear HB; have HO483 := n0_; have HO486 := n1_; have BK488 := n2_; have HB := n3_; clear n0_ n1_ n2_ n3_; (try clear hb); (try clear hb2); (try clear hk); (try clear hi)) | (go_at_call 52; (with_reducible refine (cosignerref03_CheckWay.calls kj4 _ _ l0 a1 a2 _ _ l3 t492 _ ?side1 ?side2 ?side3 ?side4 A19.out).mono ?_); (case side1 => repeat (first | exact (Kd.C_below HR0.out HB.out) | (with_reducible refine Kd.C_alloc ?_ _) | (with_reducible refine Kd.C_drewN ?_ _) | (with_reducible refine Kd.C_drew ?_))); (case side2 => exact HC0.out); (case side3 => repeat (first | exact (Kd.C_below HR3.out HB.out) | (with_reducible refine Kd.C_alloc ?_ _) | (with_reducible refine Kd.C_drewN ?_ _) | (with_reducible refine Kd.C_drew ?_))); (case side4 => exact HC3.out); rintro e w29 ⟨rfl, hb⟩; have n0_ := Aside0.mk (Kd.R_below (by (with_reducible repeat (first | apply Kd.R_alloc | apply Kd.R_drewN | apply Kd.R_drew)); exact HO483.out) hb); have n1_ := Aside0.mk (Kd.R_below (by (with_reducible repeat (first | apply Kd.R_alloc | apply Kd.R_drewN | apply Kd.R_drew)); exact HO486.out) hb); have n2_ := Aside0.mk (blk_below (g := gb488) (o := .cells #[.slice Ao23 t484.length co23, .int .i64 t487] 30 (0, 0)) (by (with_reducible repeat (first | refine blk_drewN ?_ _ | refine blk_drew ?_ | refine blk_alloc ?_ _)); exact BK488.out) hb); have n3_ := Aside0.mk (below_step (by repeat (first | (with_reducible first | exact HB.out | apply below_alloc | apply pw_below_drewN | apply below_drew1 | refine below_set ?_ GE488.out) | exact HB.out)) hb); clear HO483; clear HO486; clear BK488; clear HB; have HO483 := n0_; have HO486 := n1_; have BK488 := n2_; have HB := n3_; clear n0_ n1_ n2_ n3_; (try clear hb); (try clear hb2); (try clear hk); (try clear hi)))
              go_ret
              exact ⟨by first | rfl | (simp [errW_none, errW_some] <;> rfl) | (simp [*, errW_none, errW_some] <;> rfl), by repeat (first | (with_reducible first | exact HB.out | apply below_alloc | apply pw_below_drewN | apply below_drew1 | refine below_set ?_ GE488.out) | exact HB.out)⟩
            · rw [if_neg c17] at H
              have c17b0 : (t481 == t487) = false := beq_eq_false_iff_ne.mpr c17
              have c17b1 : (t481 != t487) = true := bne_iff_ne.mpr c17
              exact absurd ((Option.some.inj H).trans hrt) (by decide)
          · replace c16 := Bool.eq_false_iff.mpr c16
            subst c16
            have H1 : (some false) = some r := by rw [if_neg (show ¬ (false = true) by decide)] at H; exact H
            clear H
            have H := H1
            clear H1
            exact absurd ((Option.some.inj H).trans hrt) (by decide)
        · replace c14 := Bool.eq_false_iff.mpr c14
          subst c14
          have H1 : (some false) = some r := by rw [if_neg (show ¬ (false = true) by decide)] at H; exact H
          clear H
          have H := H1
          clear H1
          exact absurd ((Option.some.inj H).trans hrt) (by decide)
end Go.Proofs.Ytdljclokenoogaa.Hp
end
section
namespace Go.Proofs.Ytdljclokenoogaa.Hw
open Go.RowKit Go.Proofs.Ytdljclokenoogaa.Hp Go.Proofs.YtdljclokenoogaaW.PrintWords Go.Proofs.YtdljclokenoogaaW.PrintLast Go.Proofs.YtdljclokenoogaaW.PrintMore
def okB (b : Nat) : Bool := (decide (65 ≤ b) && decide (b ≤ 90)) || (decide (48 ≤ b) && decide (b ≤ 57)) || decide (b = 95)
theorem oddR_ok (b : Nat) : oddR b = !okB b := by
  rw [Bool.eq_iff_iff]
  simp [oddR, okB]
  try omega
def byteN (s : ByteArray) (j : Nat) : Nat := (s.data.getD j 0).toNat
theorem byteN_list (s : ByteArray) (j : Nat) : (s.data.toList.getD j 0).toNat = byteN s j := by
  unfold byteN
  rw [Array.getD_eq_getD_getElem?, List.getD_eq_getElem?_getD, Array.getElem?_toList]
theorem bt_nat (s : ByteArray) (j : Nat) (h : j < s.size) : bt s (j : Int) = (byteN s j : Int) := by
  rw [← bt_at s (j : Int) (by simpa using h)]
  unfold byteN
  have h' : j < s.data.size := h
  rw [Array.getD_eq_getD_getElem?, Array.getElem?_eq_getElem h']
  rfl
theorem decode_big (n b0 b1 b2 b3 : Nat) (h : 128 ≤ b0) : 128 ≤ (Lib.decodeN n b0 b1 b2 b3).1 := by
  rcases Lib.decodeN_cases n b0 b1 b2 b3 with ⟨h1, _⟩ | ⟨_, _, _, h1, h2⟩ | ⟨_, _, _, _, h1, h2⟩ | ⟨h1, _⟩ | h2
  · omega
  · rw [h2]; exact h1
  · rw [h2]; show 128 ≤ _; omega
  · omega
  · rw [h2]; decide
theorem oddFrom_iff (s : ByteArray) : ∀ (f pos : Nat), s.size ≤ pos + f → (oddFrom s f pos < 0 ↔ ∀ j, pos ≤ j → j < s.size → okB (byteN s j) = true)
  | 0, pos, h => ⟨fun _ j h1 h2 => by omega, fun _ => by simp [oddFrom]⟩
  | f + 1, pos, h => by
    unfold oddFrom
    by_cases hp : pos < s.size
    · rw [if_pos hp]
      have hd := Lib.decode_N s pos
      rw [byteN_list] at hd
      by_cases hb : byteN s pos < 128
      · rw [Lib.decodeN_ascii _ _ _ _ _ hb] at hd
        rw [hd]
        have ih := oddFrom_iff s f (pos + 1) (by omega)
        simp only [oddR_ok]
        cases hok : okB (byteN s pos) with
        | false =>
          simp only [Bool.not_false, if_true]
          exact ⟨fun h => by omega, fun h => by have := h pos (Nat.le_refl _) hp; rw [hok] at this; cases this⟩
        | true =>
          simp only [Bool.not_true, Bool.false_eq_true, if_false]
          rw [ih]
          refine ⟨fun h j h1 h2 => ?_, fun h j h1 h2 => h j (by omega) h2⟩
          rcases Nat.eq_or_lt_of_le h1 with rfl | h3
          · exact hok
          · exact h j h3 h2
      · have hbig := decode_big (s.data.toList.length - pos) (byteN s pos) (s.data.toList.getD (pos + 1) 0).toNat (s.data.toList.getD (pos + 2) 0).toNat (s.data.toList.getD (pos + 3) 0).toNat (by omega)
        rw [← hd] at hbig
        have hodd : oddR (Utf8.decode s pos).1 = true := by
          rw [oddR_ok]
          simp [okB]
          omega
        rw [if_pos hodd]
        refine ⟨fun h => by omega, fun h => ?_⟩
        have := h pos (Nat.le_refl _) hp
        simp [okB] at this
        omega
    · rw [if_neg hp]
      exact ⟨fun _ j h1 h2 => by omega, fun _ => by decide⟩
theorem reserved_val (s : ByteArray) : cosignerref03_reserved.f s = some (memS keptNames s) := by
  unfold cosignerref03_reserved.f
  have k : ∀ (a : ByteArray) (x : List UInt8), a.toList = x → (s.toList = x ↔ s = a) := fun a x h => by rw [← h]; exact toList_eq_iff
  have k1 := k ⟨#[73, 78, 84, 69, 71, 69, 82]⟩ [73, 78, 84, 69, 71, 69, 82] (by rw [Lib.toList_data])
  have k2 := k ⟨#[66, 79, 79, 76, 69, 65, 78]⟩ [66, 79, 79, 76, 69, 65, 78] (by rw [Lib.toList_data])
  have k3 := k ⟨#[65, 78, 89]⟩ [65, 78, 89] (by rw [Lib.toList_data])
  have k4 := k ⟨#[78, 79, 78, 69]⟩ [78, 79, 78, 69] (by rw [Lib.toList_data])
  have e4 : (s.toList == [78, 79, 78, 69]) = decide (s = ⟨#[78, 79, 78, 69]⟩) := by
    rw [Bool.eq_iff_iff, beq_iff_eq, decide_eq_true_iff]; exact k4
  rw [e4]
  simp only [k1, k2, k3, memS, keptNames, List.any_cons, List.any_nil, Bool.or_false]
  by_cases h1 : s = ⟨#[73, 78, 84, 69, 71, 69, 82]⟩
  · rw [if_pos h1]; simp [h1]
  · by_cases h2 : s = ⟨#[66, 79, 79, 76, 69, 65, 78]⟩
    · rw [if_neg h1, if_pos h2]; simp [h2]
    · by_cases h3 : s = ⟨#[65, 78, 89]⟩
      · rw [if_neg h1, if_neg h2, if_pos h3]; simp [h3]
      · rw [if_neg h1, if_neg h2, if_neg h3]; simp [h1, h2, h3]
theorem named_l0 (s : ByteArray) (hs : s.size ≤ 20) : ∀ (d i k : Nat), s.size - i = d → i ≤ s.size → d < k → cosignerref03_named.l0 k s (i : Int) = some ((List.range d).all (fun j => okB (byteN s (i + j))) && !memS keptNames s) := by
  intro d
  induction d with
  | zero =>
    intro i k hd hi hk
    obtain ⟨k, rfl⟩ : ∃ m, k = m + 1 := ⟨k - 1, by omega⟩
    rw [cosignerref03_named.l0, if_neg (by omega), reserved_val]
    simp
  | succ d ih =>
    intro i k hd hi hk
    obtain ⟨k, rfl⟩ : ∃ m, k = m + 1 := ⟨k - 1, by omega⟩
    have hil : i < s.size := by omega
    have hn := ih (i + 1) k (by omega) hil (by omega)
    have hsplit : (List.range (d + 1)).all (fun j => okB (byteN s (i + j))) = (okB (byteN s i) && (List.range d).all (fun j => okB (byteN s (i + 1 + j)))) := by
      rw [List.range_succ_eq_map, List.all_cons, List.all_map, Nat.add_zero]
      congr 1
      refine congrArg (fun f => (List.range d).all f) (funext fun j => ?_)
      simp only [Function.comp, Nat.succ_eq_add_one]
      rw [show i + (j + 1) = i + 1 + j by omega]
    rw [cosignerref03_named.l0, if_pos (by omega), if_pos (by omega), bt_nat s i hil, wrap_nat i (by omega), hn, hsplit]
    generalize (List.range d).all (fun j => okB (byteN s (i + 1 + j))) = r
    generalize memS keptNames s = m
    generalize byteN s i = b
    unfold okB
    by_cases h1 : 65 ≤ b
    · by_cases h2 : 48 ≤ b
      · by_cases h3 : b ≤ 90
        · simp [h1, h2, h3, show (b : Int) ≥ 65 by omega, show (b : Int) ≥ 48 by omega, show (b : Int) ≤ 90 by omega]
        · by_cases h4 : b = 95
          · subst h4; simp
          · simp [h1, h2, h3, h4, show (b : Int) ≥ 65 by omega, show (b : Int) ≥ 48 by omega, show ¬ (b : Int) ≤ 90 by omega, show ¬ (b : Int) ≤ 57 by omega, show ¬ (b : Int) = 95 by omega, show ¬ b ≤ 57 by omega]
      · omega
    · by_cases h2 : 48 ≤ b
      · by_cases h3 : b ≤ 57
        · simp [h1, h2, h3, show ¬ (b : Int) ≥ 65 by omega, show (b : Int) ≥ 48 by omega, show (b : Int) ≤ 57 by omega]
        · simp [h1, h2, h3, show ¬ (b : Int) ≥ 65 by omega, show (b : Int) ≥ 48 by omega, show ¬ (b : Int) ≤ 57 by omega, show ¬ (b : Int) = 95 by omega, show ¬ b = 95 by omega]
      · simp [h1, h2, show ¬ (b : Int) ≥ 65 by omega, show ¬ (b : Int) ≥ 48 by omega, show ¬ (b : Int) = 95 by omega, show ¬ b = 95 by omega]
theorem named_val (s : ByteArray) (k : Nat) (hk : 30 ≤ k) : cosignerref03_named.f k s = some (isName s) := by
  obtain ⟨k, rfl⟩ : ∃ m, k = m + 1 := ⟨k - 1, by omega⟩
  have jT : cosignerref03_named.j0 (k + 1) s true = some false := by rw [cosignerref03_named.j0, if_pos rfl]
  unfold cosignerref03_named.f isName
  by_cases h0 : s.size = 0
  · rw [if_pos (by omega), jT]; simp [h0]
  · rw [if_neg (by omega)]
    by_cases h1 : 20 < s.size
    · rw [if_pos (by omega), jT]; simp [show ¬ s.size ≤ 20 by omega]
    · rw [if_neg (by omega), if_pos (by omega)]
      have hb := bt_nat s 0 (by omega)
      rw [show ((0 : Nat) : Int) = 0 from rfl] at hb
      rw [hb]
      have h00 : (s.data.getD 0 0).toNat = byteN s 0 := rfl
      rw [h00]
      by_cases h2 : byteN s 0 < 65
      · rw [if_pos (by omega), jT]; simp [show ¬ 65 ≤ byteN s 0 by omega]
      · rw [if_neg (by omega)]
        by_cases h3 : byteN s 0 > 90
        · rw [decide_eq_true (by omega), jT]; simp [show ¬ byteN s 0 ≤ 90 by omega]
        · rw [decide_eq_false (by omega), cosignerref03_named.j0, if_neg (by decide)]
          have := named_l0 s (by omega) s.size 0 k rfl (Nat.zero_le _) (by omega)
          rw [show ((0 : Nat) : Int) = 0 from rfl] at this
          rw [this]
          have hi := oddFrom_iff s s.size 0 (by omega)
          have ha : decide (oddFrom s s.size 0 < 0) = (List.range s.size).all (fun j => okB (byteN s (0 + j))) := by
            rw [Bool.eq_iff_iff, decide_eq_true_iff, hi, List.all_eq_true]
            simp only [List.mem_range, Nat.zero_add]
            exact ⟨fun h j hj => h j (Nat.zero_le _) hj, fun h j _ hj => h j hj⟩
          rw [ha]
          simp [show 1 ≤ s.size by omega, show s.size ≤ 20 by omega, show 65 ≤ byteN s 0 by omega, show byteN s 0 ≤ 90 by omega]
end Go.Proofs.Ytdljclokenoogaa.Hw
end
section
namespace Go.Proofs.Ytdljclokenoogaa.Hw
open Go.RowKit Go.Proofs.Ytdljclokenoogaa.Hp Go.Proofs.YtdljclokenoogaaW.PrintWords Go.Proofs.YtdljclokenoogaaW.PrintLast Go.Proofs.YtdljclokenoogaaW.PrintMore
theorem asked_ok {l : List S61} (h : (checkOf l).1 = 0) {ns : List ByteArray} (hn : ∀ s ∈ ns, s ∈ names l) : askedOf l ns = 0 := by
  unfold askedOf
  rw [if_neg (by simpa using h), if_pos]
  exact List.all_eq_true.2 (fun s hs => idx_mem.2 (hn s hs))
structure Good (l : List S61) : Prop where
  ok : (checkOf l).1 = 0
  pos : 0 < l.length
section
variable {l : List S61} (h : Good l)
include h
theorem Good.small : l.length ≤ 24 := (checkOk h.ok).1
theorem Good.rank : ∃ rk : ByteArray → Nat, (∀ c p, p ∈ ups l c → rk p < rk c) ∧ ∀ c, rk c < l.length + 1 := rank_of_ring (checkOk h.ok).2.2.2
theorem Good.anc_iff {c a : ByteArray} : memS (anc l c) a = true ↔ ∃ m, reach (ups l) m c a := by
  obtain ⟨rk, hrk, hn⟩ := h.rank
  exact mem_vis hrk (hn c)
theorem Good.refl (c : ByteArray) : memS (anc l c) c = true := h.anc_iff.2 ⟨0, rfl⟩
theorem Good.trans {a b c : ByteArray} (h1 : memS (anc l a) b = true) (h2 : memS (anc l b) c = true) : memS (anc l a) c = true := by
  obtain ⟨n, hn⟩ := h.anc_iff.1 h1
  obtain ⟨m, hm⟩ := h.anc_iff.1 h2
  exact h.anc_iff.2 ⟨n + m, reach_trans hn hm⟩
theorem Good.below {c : ByteArray} (hc : c ∈ names l) : heir_Below.f l c = some ((names l).filter (fun d => memS (anc l d) c), 0) := by
  unfold heir_Below.f belowOf
  rw [if_pos (asked_ok h.ok (by simp [hc]))]
theorem Good.name (i : Int) (h0 : 0 ≤ i) (h1 : i < 256) : ∃ c ∈ names l, cosignerlaw03_name.f l i = some c := by
  have hp := h.pos
  unfold cosignerlaw03_name.f
  have hw : wrap64 i = i := wrap64_of_range i (by omega) (by omega)
  rw [hw]
  have e1 : Int.tmod i (l.length : Int) = i % (l.length : Int) := Int.tmod_eq_emod_of_nonneg h0
  have e2 : 0 ≤ i % (l.length : Int) := Int.emod_nonneg _ (by omega)
  have e3 : i % (l.length : Int) < l.length := Int.emod_lt_of_pos _ (by omega)
  rw [e1, if_neg (by omega), if_pos e2, if_pos e3]
  refine ⟨_, ?_, rfl⟩
  have e4 : (i % (l.length : Int)).toNat < l.length := by omega
  refine List.mem_map.2 ⟨rd_T61 l (i % (l.length : Int)), ?_, rfl⟩
  unfold rd_T61
  rw [List.getD_eq_getElem?_getD, List.getElem?_eq_getElem e4]
  exact List.getElem_mem _
end
end Go.Proofs.Ytdljclokenoogaa.Hw
end
section
namespace Go.Proofs.Ytdljclokenoogaa.Hw
open Go.RowKit Go.Proofs.Ytdljclokenoogaa.Hp Go.Proofs.YtdljclokenoogaaW.PrintWords Go.Proofs.YtdljclokenoogaaW.PrintLast Go.Proofs.YtdljclokenoogaaW.PrintMore
theorem Ev.pos {α : Type} {p : Prop} [Decidable p] {f g : Nat → Option α} {r : α} (hp : p) (h : Ev f r) : Ev (fun k => if p then f k else g k) r := Ev.congr (fun _ => if_pos hp) h
theorem Ev.neg {α : Type} {p : Prop} [Decidable p] {f g : Nat → Option α} {r : α} (hp : ¬ p) (h : Ev g r) : Ev (fun k => if p then f k else g k) r := Ev.congr (fun _ => if_neg hp) h
theorem Ev.val {α : Type} {f : Nat → Option α} {r : α} {K : Nat} (h : ∀ k, K ≤ k → f k = some r) : Ev f r := ⟨K, h⟩
theorem Ev.know {α β : Type} {o : Option α} {f : Nat → α → Option β} {a : α} {r : β} (h : o = some a) (k : Ev (fun n => f n a) r) : Ev (fun n => o.bind (f n)) r := by subst h; exact k
theorem has_val (xs : List ByteArray) (s : ByteArray) (hl : xs.length < 4611686018427387904) (k : Nat) (hk : xs.length < k) : cosignerref03_Has.f k xs s = some (memS xs s) := by
  have key : ∀ (d i k : Nat), xs.length - i = d → i ≤ xs.length → d < k → cosignerref03_Has.l0 k xs s (i : Int) = some (memS (xs.drop i) s) := by
    intro d
    induction d with
    | zero =>
      intro i k hd hi hk
      obtain ⟨k, rfl⟩ : ∃ m, k = m + 1 := ⟨k - 1, by omega⟩
      have e : i = xs.length := by omega
      rw [cosignerref03_Has.l0, if_neg (by omega), e, List.drop_length]
      rfl
    | succ d ih =>
      intro i k hd hi hk
      obtain ⟨k, rfl⟩ : ∃ m, k = m + 1 := ⟨k - 1, by omega⟩
      have hil : i < xs.length := by omega
      rw [cosignerref03_Has.l0, if_pos (by omega), if_pos (by omega), rdOf_nat hil, List.drop_eq_getElem_cons hil]
      by_cases h : xs[i] = s
      · rw [if_pos (by rw [h])]; simp [memS, h]
      · rw [if_neg (fun e => h (toList_inj e)), wrap_nat i (by omega), ih (i + 1) k (by omega) hil (by omega)]
        have h' : ¬ s = xs[i] := fun e => h e.symm
        rw [show memS (xs[i] :: xs.drop (i + 1)) s = memS (xs.drop (i + 1)) s by unfold memS; rw [List.any_cons, decide_eq_false h', Bool.false_or]]
  have := key xs.length 0 k rfl (Nat.zero_le _) hk
  simpa [cosignerref03_Has.f] using this
theorem has_ev (xs : List ByteArray) (s : ByteArray) (hl : xs.length < 4611686018427387904) : Ev (fun k => cosignerref03_Has.f k xs s) (memS xs s) := Ev.val (K := xs.length + 1) (fun k hk => has_val xs s hl k (by omega))
theorem index_ev (l : List S61) (s : ByteArray) (hl : l.length < 4611686018427387904) : Ev (fun k => cosignerref03_index.f k l s) (idxI l s) := Ev.val (K := l.length + 1) (fun k hk => index_val l s hl k (by omega))
theorem named_ev (s : ByteArray) : Ev (fun k => cosignerref03_named.f k s) (isName s) := Ev.val (K := 30) (fun k hk => named_val s k hk)
def dupTail (ns : List ByteArray) : Nat → Nat → Bool
  | 0, _ => false
  | d + 1, m => memS (ns.take m) (nth ns m) || dupTail ns d (m + 1)
theorem dupTail_iff (ns : List ByteArray) : ∀ (d m : Nat), m + d = ns.length → (dupTail ns d m = false ↔ ∀ j, m ≤ j → j < ns.length → memS (ns.take j) (nth ns j) = false)
  | 0, m, h => ⟨fun _ j h1 h2 => by omega, fun _ => rfl⟩
  | d + 1, m, h => by
    rw [dupTail, Bool.or_eq_false_iff, dupTail_iff ns d (m + 1) (by omega)]
    refine ⟨fun ⟨h1, h2⟩ j h3 h4 => ?_, fun h1 => ⟨h1 m (Nat.le_refl _) (by omega), fun j h3 h4 => h1 j (by omega) h4⟩⟩
    rcases Nat.eq_or_lt_of_le h3 with rfl | h5
    · exact h1
    · exact h2 j h5 h4
theorem dupTail_eq (ns : List ByteArray) : dupTail ns ns.length 0 = dupB ns := by
  have h : dupTail ns ns.length 0 = false ↔ dupB ns = false := by
    rw [dupTail_iff ns ns.length 0 (by omega), dupB_iff, List.Nodup, List.pairwise_iff_getElem]
    constructor
    · intro h i j hi hj hij e
      have := h j (Nat.zero_le _) hj
      have h2 : memS (ns.take j) (nth ns j) = true := by
        rw [memS_iff, show nth ns j = ns[j] by simp [nth, hj], ← e]
        exact List.mem_iff_getElem.2 ⟨i, by rw [List.length_take]; omega, by simp⟩
      rw [h2] at this; cases this
    · intro h j _ hj
      cases hm : memS (ns.take j) (nth ns j) with
      | false => rfl
      | true =>
        rw [memS_iff, show nth ns j = ns[j] by simp [nth, hj]] at hm
        obtain ⟨i, hi, e⟩ := List.mem_iff_getElem.1 hm
        rw [List.length_take] at hi
        rw [List.getElem_take] at e
        exact absurd e (h i j (by omega) hj (by omega))
  cases h1 : dupTail ns ns.length 0 <;> cases h2 : dupB ns <;> simp_all
section
variable {l : List S61} {i : Nat} (hi : i < l.length) (hb : l[i].f3.length ≤ 1000000)
include hi hb
theorem alone_l1 {m : Nat} (hm : m < l[i].f3.length) {R : Int} (H : Ev (fun k => cosignerref03_alone.l0 k l (i : Int) ((m + 1 : Nat) : Int)) R) : ∀ (d j : Nat), m - j = d → j ≤ m →
    Ev (fun k => cosignerref03_alone.l1 k l (i : Int) (m : Int) (j : Int)) (if memS (((l[i].f3.map (·.f0)).take m).drop j) (nth (l[i].f3.map (·.f0)) m) then 6 else R) := by
  intro d
  induction d with
  | zero =>
    intro j hd hj
    have e : j = m := by omega
    refine Ev.step (fun k => by rw [cosignerref03_alone.l1, if_neg (by omega), wrap_nat m (by omega)]) ?_
    rw [List.drop_eq_nil_of_le (by rw [List.length_take]; omega)]
    exact H
  | succ d ih =>
    intro j hd hj
    have hjm : j < m := by omega
    have hjl : j < l[i].f3.length := by omega
    have hjn : j < ((l[i].f3.map (·.f0)).take m).length := by rw [List.length_take, List.length_map]; omega
    rw [List.drop_eq_getElem_cons hjn]
    have e1 : ((l[i].f3.map (·.f0)).take m)[j] = l[i].f3[j].f0 := by rw [List.getElem_take, List.getElem_map]
    have e2 : nth (l[i].f3.map (·.f0)) m = l[i].f3[m].f0 := by simp [nth, hm]
    rw [e1]
    refine Ev.step (fun k => by rw [cosignerref03_alone.l1, if_pos (by omega), if_pos (by omega), if_pos (by omega), if_pos (by omega), rd_class hi, if_pos (by omega), if_pos (by omega), if_pos (by omega), rd_parent hjl, rd_parent hm, wrap_nat j (by omega)]) ?_
    by_cases h : l[i].f3[j].f0 = l[i].f3[m].f0
    · refine Ev.pos (by rw [h]) ?_
      rw [show memS (l[i].f3[j].f0 :: ((l[i].f3.map (·.f0)).take m).drop (j + 1)) (nth (l[i].f3.map (·.f0)) m) = true by rw [memS_iff, e2, h]; exact List.mem_cons_self .., if_pos rfl]
      exact Ev.now _
    · refine Ev.neg (fun e => h (toList_inj e)) ?_
      have := ih (j + 1) (by omega) hjm
      have e3 : memS (l[i].f3[j].f0 :: ((l[i].f3.map (·.f0)).take m).drop (j + 1)) (nth (l[i].f3.map (·.f0)) m) = memS (((l[i].f3.map (·.f0)).take m).drop (j + 1)) (nth (l[i].f3.map (·.f0)) m) := by
        have : ¬ l[i].f3[m].f0 = l[i].f3[j].f0 := fun e => h e.symm
        rw [e2]; simp [memS, this]
      rw [e3]; exact this
theorem alone_l0 : ∀ (d m : Nat), m + d = l[i].f3.length → Ev (fun k => cosignerref03_alone.l0 k l (i : Int) (m : Int)) (if dupTail (l[i].f3.map (·.f0)) d m then 6 else 0) := by
  intro d
  induction d with
  | zero =>
    intro m hd
    refine Ev.step (fun k => by rw [cosignerref03_alone.l0, if_pos (by omega), if_pos (by omega), rd_class hi, if_neg (by omega)]) ?_
    exact Ev.now _
  | succ d ih =>
    intro m hd
    have hm : m < l[i].f3.length := by omega
    have h1 := alone_l1 hi hb hm (ih (m + 1) (by omega)) m 0 (by omega) (by omega)
    refine Ev.step (fun k => by rw [cosignerref03_alone.l0, if_pos (by omega), if_pos (by omega), rd_class hi, if_pos (by omega)]) ?_
    rw [List.drop_zero] at h1
    rw [dupTail]
    cases h2 : memS ((l[i].f3.map (·.f0)).take m) (nth (l[i].f3.map (·.f0)) m) with
    | true => rw [h2] at h1; exact h1
    | false => rw [h2] at h1; exact h1
end
theorem alone_ev {l : List S61} (hl : l.length < 1000000) {i : Nat} (hi : i < l.length) : Ev (fun k => cosignerref03_alone.f k l (i : Int)) (aloneOf l i) := by
  unfold aloneOf
  rw [rd_class hi]
  refine Ev.congr (f := fun k => if l[i].f3.length > 4 then some 3 else (cosignerref03_named.f k l[i].f0).bind fun t => if t = true then (cosignerref03_index.f k l l[i].f0).bind fun u => if u < (i : Int) then some 6 else cosignerref03_alone.l0 k l (i : Int) 0 else some 4) (fun k => by
    unfold cosignerref03_alone.f
    rw [if_pos (by omega), if_pos (by omega), rd_class hi]
    by_cases h : l[i].f3.length > 4
    · rw [if_pos h, if_pos (by omega)]
    · rw [if_neg h, if_neg (by omega)]) ?_
  by_cases h4 : 4 < l[i].f3.length
  · rw [if_pos h4]; exact Ev.pos h4 (Ev.now _)
  · rw [if_neg h4]
    refine Ev.neg h4 (Ev.bind (named_ev _) ?_)
    cases hn : isName l[i].f0 with
    | false => rw [if_pos rfl]; exact Ev.neg (by decide) (Ev.now _)
    | true =>
      rw [if_neg (by decide)]
      refine Ev.pos rfl (Ev.bind (index_ev l _ (by omega)) ?_)
      have hsome : (idx l l[i].f0).isSome = true := idx_mem.2 (List.mem_map.2 ⟨l[i], List.getElem_mem hi, rfl⟩)
      obtain ⟨j, hj⟩ := Option.isSome_iff_exists.1 hsome
      unfold idxI
      rw [hj]
      simp only [Option.getD_some]
      by_cases hji : j < i
      · rw [if_pos (.inl hji)]
        exact Ev.pos (by omega) (Ev.now _)
      · refine Ev.neg (by omega) ?_
        have h0 := alone_l0 hi (by omega) l[i].f3.length 0 (by omega)
        have hd := dupTail_eq (l[i].f3.map (·.f0))
        rw [List.length_map] at hd
        rw [hd] at h0
        cases hdb : dupB (l[i].f3.map (·.f0)) with
        | true => rw [hdb] at h0; rw [if_pos (.inr rfl)]; exact h0
        | false => rw [hdb] at h0; rw [if_neg (by rintro (e | e); exact hji e; cases e)]; exact h0
theorem IsBest.ins {b x : List ByteArray} {S : List ByteArray → Prop} (h : IsBest b S) (hx : x ≠ []) : IsBest (if b.isEmpty || lessR x b then x else b) (fun r => S r ∨ r = x) := by
  rcases h with ⟨rfl, h⟩ | ⟨h0, h1, h2⟩
  · refine .inr ⟨by simpa using hx, by simp, fun r hr => ?_⟩
    simp only [List.isEmpty_nil, Bool.true_or, if_true]
    rcases hr with hr | rfl
    · exact absurd hr (h r)
    · exact lessR_irrefl _
  · have hbe : b.isEmpty = false := by cases b <;> simp_all
    rw [hbe, Bool.false_or]
    cases hl : lessR x b with
    | true =>
      rw [if_pos rfl]
      refine .inr ⟨hx, .inr rfl, fun r hr => ?_⟩
      rcases hr with hr | rfl
      · cases e2 : lessR r x with
        | false => rfl
        | true => have := h2 r hr; rw [lessR_trans e2 hl] at this; cases this
      · exact lessR_irrefl _
    | false =>
      rw [if_neg (by simp)]
      exact .inr ⟨h0, .inl h1, fun r hr => by rcases hr with hr | rfl; exact h2 r hr; exact hl⟩
theorem ringR_best (l : List S61) : IsBest ((names l).foldl (ringStepR (ups l) l.length) []) (RingS (ups l)) := by
  have hup : ∀ c p, p ∈ ups l c → c ∈ names l := fun c p hp => (ups_mem hp).1
  have hspec := fun c => furtherOf_spec (up := ups l) hup c c
  rw [names_len] at hspec
  have key : ∀ (cs : List ByteArray) (b : List ByteArray) (S : List ByteArray → Prop), IsBest b S → IsBest (cs.foldl (ringStepR (ups l) l.length) b) (fun r => S r ∨ ∃ c ∈ cs, furtherOf (ups l) l.length c c ≠ [] ∧ r = (furtherOf (ups l) l.length c c).dropLast) := by
    intro cs
    induction cs with
    | nil => intro b S h; simpa using h
    | cons c cs ih =>
      intro b S h
      rw [List.foldl_cons]
      have hstep : IsBest (ringStepR (ups l) l.length b c) (fun r => S r ∨ (furtherOf (ups l) l.length c c ≠ [] ∧ r = (furtherOf (ups l) l.length c c).dropLast)) := by
        unfold ringStepR
        by_cases hs : furtherOf (ups l) l.length c c = []
        · rw [hs]; simpa using h
        · rw [if_neg (by simpa using hs)]
          have hne : (furtherOf (ups l) l.length c c).dropLast ≠ [] := by
            rcases hspec c with ⟨h1, _⟩ | ⟨n, h1, _⟩
            · exact absurd h1 hs
            · intro e
              have := congrArg List.length e
              rw [List.length_dropLast, h1.1.len] at this
              simp at this
          refine cast ?_ (h.ins hne)
          congr 1
          funext r
          simp [hs]
      refine cast ?_ (ih _ _ hstep)
      congr 1
      funext r
      simp [or_assoc]
  have h := key (names l) [] (fun _ => False) (.inl ⟨rfl, fun _ h => h⟩)
  refine IsBest.of h ?_ ?_
  · rintro r (h | ⟨c, hc, hs, rfl⟩)
    · exact h.elim
    · rcases hspec c with ⟨h1, _⟩ | ⟨n, h1, _⟩
      · exact absurd h1 hs
      · obtain ⟨t, ht⟩ := h1.1.last
        obtain ⟨u, hu⟩ := h1.1.head
        have hl := h1.1.len
        have hw := h1.1
        rw [ht] at hl hu hw ⊢
        rw [List.dropLast_concat]
        have htl : t.length = n + 1 := by simpa using hl
        cases t with
        | nil => simp at htl
        | cons x t =>
          simp only [List.cons_append, List.cons.injEq] at hu
          obtain ⟨rfl, _⟩ := hu
          exact ⟨x, t, rfl, by rw [htl]; exact hw⟩
  · rintro r ⟨c, t, rfl, hw⟩
    have hreach : Hw.reach (ups l) (t.length + 1) c c := by have := hw.reach; rwa [List.length_cons] at this
    obtain ⟨p, hp, _⟩ := hreach
    rcases hspec c with ⟨_, h1⟩ | ⟨n, h1, h2⟩
    · exact absurd (by have := hw.reach; rwa [List.length_cons] at this) (h1 t.length)
    · have hne : furtherOf (ups l) l.length c c ≠ [] := fun e => by have := h1.1.len; rw [e] at this; simp at this
      refine ⟨_, .inr ⟨c, hup c p hp, hne, rfl⟩, ?_⟩
      obtain ⟨s, hs⟩ := h1.1.last
      have hlen := h1.1.len
      rw [hs] at hlen
      have hlen' : s.length = n + 1 := by simpa using hlen
      have hle : n ≤ t.length := Nat.le_of_not_lt (fun hlt => h2 t.length hlt (by have := hw.reach; rwa [List.length_cons] at this))
      rw [hs, List.dropLast_concat]
      simp only [lessR, Bool.or_eq_false_iff, decide_eq_false_iff_not, Bool.and_eq_false_imp, decide_eq_true_iff, List.length_cons]
      refine ⟨by omega, fun he => ?_⟩
      have he' : t.length = n := by omega
      rw [← lexB_snoc (c :: t) s c (by rw [List.length_cons]; omega), ← hs]
      refine h1.2 _ ?_
      rw [← he']
      rwa [List.length_cons] at hw
theorem ringR_eq (l : List S61) : (names l).foldl (ringStepR (ups l) l.length) [] = ringOf l := IsBest.uniq (ringR_best l) (ringOf_best l)
def smallUps (l : List S61) : Prop := l.length ≤ 1000 ∧ ∀ x ∈ l, x.f3.length ≤ 1000
theorem smallUps.further {l : List S61} (h : smallUps l) (c a : ByteArray) : cosignerref03_further.f l c a = some (furtherOf (ups l) l.length c a) := by
  unfold cosignerref03_further.f
  rw [if_pos ⟨h.1, List.all_eq_true.2 (fun x hx => decide_eq_true (h.2 x hx))⟩]
theorem smallUps.ring {l : List S61} (h : smallUps l) : cosignerref03_Ring.f l = some (ringOf l) := by
  unfold cosignerref03_Ring.f
  rw [if_pos ⟨h.1, List.all_eq_true.2 (fun x hx => decide_eq_true (h.2 x hx))⟩]
  exact congrArg some (ringR_eq l)
theorem check_l2 {l : List S61} (hl : l.length < 1000000) {i : Nat} (hi : i < l.length) (hb : l[i].f3.length < 1000000) {R : Int × ByteArray} (H : Ev (fun k => cosignerref03_Check.l1 k l ((i + 1 : Nat) : Int)) R) : ∀ (d m : Nat), m + d = l[i].f3.length →
    Ev (fun k => cosignerref03_Check.l2 k l (i : Int) (m : Int)) (if (l[i].f3.drop m).any (fun p => (idx l p.f0).isNone) then (5, l[i].f0) else R) := by
  intro d
  induction d with
  | zero =>
    intro m hd
    refine Ev.step (fun k => by rw [cosignerref03_Check.l2, if_pos (by omega), if_pos (by omega), rd_class hi, if_neg (by omega), wrap_nat i (by omega)]) ?_
    rw [List.drop_eq_nil_of_le (by omega)]
    exact H
  | succ d ih =>
    intro m hd
    have hm : m < l[i].f3.length := by omega
    refine Ev.step (fun k => by rw [cosignerref03_Check.l2, if_pos (by omega), if_pos (by omega), rd_class hi, if_pos (by omega), if_pos (by omega), rd_parent hm, wrap_nat m (by omega)]) ?_
    rw [List.drop_eq_getElem_cons hm, List.any_cons]
    refine Ev.bind (index_ev l _ (by omega)) ?_
    cases hx : idx l l[i].f3[m].f0 with
    | none => exact Ev.pos (idxI_neg.2 hx) (Ev.now _)
    | some j => exact Ev.neg (fun e => by rw [idxI_neg.1 e] at hx; cases hx) (ih (m + 1) (by omega))
theorem check_l1 {l : List S61} (h : smallUps l) : ∀ (d i : Nat), i + d = l.length → (∀ j, j < i → lonelyOf l j = false) →
    Ev (fun k => cosignerref03_Check.l1 k l (i : Int)) (match (List.range l.length).find? (lonelyOf l) with | some i => (5, (rd_T61 l (i : Int)).f0) | none => match ringOf l with | r :: _ => (7, r) | [] => (0, ⟨#[]⟩)) := by
  intro d
  induction d with
  | zero =>
    intro i hd hall
    refine Ev.step (fun k => by rw [cosignerref03_Check.l1, if_neg (by omega)]) ?_
    have hf : (List.range l.length).find? (lonelyOf l) = none := by
      rw [List.find?_eq_none]
      intro j hj
      have := hall j (by have h2 := List.mem_range.1 hj; omega)
      simp [this]
    rw [hf]
    refine Ev.know h.ring ?_
    cases hr : ringOf l with
    | nil => exact Ev.neg (by simp) (Ev.now _)
    | cons r t =>
      refine Ev.pos (by simp only [List.length_cons]; omega) (Ev.pos (by simp only [List.length_cons]; omega) ?_)
      have : rdOf ByteArray.empty (r :: t) 0 = r := rfl
      rw [this]
      exact Ev.now _
  | succ d ih =>
    intro i hd hall
    have hi : i < l.length := by omega
    have hl := h.1
    have hb := h.2 l[i] (List.getElem_mem hi)
    refine Ev.step (fun k => by rw [cosignerref03_Check.l1, if_pos (by omega)]) ?_
    have hlon : lonelyOf l i = l[i].f3.any (fun p => (idx l p.f0).isNone) := by unfold lonelyOf; rw [rd_class hi]
    cases hx : lonelyOf l i with
    | true =>
      have hf : (List.range l.length).find? (lonelyOf l) = some i := by
        rw [List.find?_range_eq_some]
        exact ⟨hx, by simpa using hi, fun j hj => by simp [hall j hj]⟩
      rw [hf]
      simp only [rd_class hi]
      have hx2 := hlon.symm.trans hx
      have key : ∀ (d m : Nat), m + d = l[i].f3.length → (l[i].f3.drop m).any (fun p => (idx l p.f0).isNone) = true → Ev (fun k => cosignerref03_Check.l2 k l (i : Int) (m : Int)) (5, l[i].f0) := by
        intro d
        induction d with
        | zero => intro m hd hany; rw [List.drop_eq_nil_of_le (by omega)] at hany; cases hany
        | succ d ih =>
          intro m hd hany
          have hm : m < l[i].f3.length := by omega
          refine Ev.step (fun k => by rw [cosignerref03_Check.l2, if_pos (by omega), if_pos (by omega), rd_class hi, if_pos (by omega), if_pos (by omega), rd_parent hm, wrap_nat m (by omega)]) ?_
          rw [List.drop_eq_getElem_cons hm, List.any_cons] at hany
          refine Ev.bind (index_ev l _ (by omega)) ?_
          cases hx : idx l l[i].f3[m].f0 with
          | none => exact Ev.pos (idxI_neg.2 hx) (Ev.now _)
          | some j =>
            rw [hx] at hany
            exact Ev.neg (fun e => by rw [idxI_neg.1 e] at hx; cases hx) (ih (m + 1) (by omega) (by simpa using hany))
      exact key l[i].f3.length 0 (by omega) (by rw [List.drop_zero]; exact hx2)
    | false =>
      have := check_l2 (by omega) hi (by omega) (ih (i + 1) (by omega) (fun j hj => by
        rcases Nat.lt_or_ge j i with h2 | h2
        · exact hall j h2
        · obtain rfl : j = i := by omega
          exact hx)) l[i].f3.length 0 (by omega)
      rw [List.drop_zero, ← hlon, hx] at this
      exact this
theorem check_l0 {l : List S61} (h : smallUps l) (h24 : l.length ≤ 24) : ∀ (d i : Nat), i + d = l.length → (∀ j, j < i → aloneOf l j = 0) →
    Ev (fun k => cosignerref03_Check.l0 k l (i : Int)) (checkOf l) := by
  intro d
  induction d with
  | zero =>
    intro i hd hall
    refine Ev.step (fun k => by rw [cosignerref03_Check.l0, if_neg (by omega)]) ?_
    unfold checkOf
    have hf : (List.range l.length).find? (fun i => decide (aloneOf l i ≠ 0)) = none := by
      rw [List.find?_eq_none]
      intro j hj
      have := hall j (by have h2 := List.mem_range.1 hj; omega)
      simp [this]
    rw [if_neg (by omega), hf]
    exact check_l1 h l.length 0 (by omega) (fun j hj => absurd hj (Nat.not_lt_zero j))
  | succ d ih =>
    intro i hd hall
    have hi : i < l.length := by omega
    refine Ev.step (fun k => by rw [cosignerref03_Check.l0, if_pos (by omega), wrap_nat i (by omega)]) ?_
    refine Ev.bind (alone_ev (by omega) hi) ?_
    by_cases h0 : aloneOf l i = 0
    · refine Ev.pos h0 (ih (i + 1) (by omega) (fun j hj => ?_))
      rcases Nat.lt_or_ge j i with h2 | h2
      · exact hall j h2
      · obtain rfl : j = i := by omega
        exact h0
    · refine Ev.neg h0 (Ev.pos (by omega) ?_)
      rw [checkOf_alone h24 hi hall h0]
      exact Ev.now _
theorem check_ev {l : List S61} (h : smallUps l) : Ev (fun k => cosignerref03_Check.f k l) (checkOf l) := by
  by_cases h24 : 24 < l.length
  · refine Ev.congr (f := fun _ => some (3, (⟨#[]⟩ : ByteArray))) (fun k => by unfold cosignerref03_Check.f; rw [if_pos (by omega)]) ?_
    unfold checkOf
    rw [if_pos h24]
    exact Ev.now _
  · exact Ev.congr (fun k => by unfold cosignerref03_Check.f; rw [if_neg (by omega)]; rfl) (check_l0 h (by omega) l.length 0 (by omega) (fun j hj => absurd hj (Nat.not_lt_zero j)))
end Go.Proofs.Ytdljclokenoogaa.Hw
end
section
namespace Go.Proofs.Ytdljclokenoogaa.Hw
open Go.RowKit Go.Proofs.Ytdljclokenoogaa.Hp Go.Proofs.YtdljclokenoogaaW.PrintWords Go.Proofs.YtdljclokenoogaaW.PrintLast Go.Proofs.YtdljclokenoogaaW.PrintMore
structure Few (l : List S61) : Prop where
  len : l.length ≤ 40
  ups : ∀ x ∈ l, x.f3.length ≤ 8
theorem Few.small {l : List S61} (h : Few l) : smallUps l := ⟨by have := h.len; omega, fun x hx => by have := h.ups x hx; omega⟩
theorem few_ev (l : List S61) (hl : l.length < 4611686018427387904) : ∃ b, Ev (fun k => cosignerlaw03_few.f k l) b ∧ (b = true → Few l) := by
  have key : ∀ (d i : Nat), i + d = l.length → (∀ j (h : j < l.length), j < i → l[j].f3.length ≤ 8) → ∃ b, Ev (fun k => cosignerlaw03_few.l0 k l (i : Int)) b ∧ (b = true → Few l) := by
    intro d
    induction d with
    | zero =>
      intro i hd hall
      have hU : ∀ x ∈ l, x.f3.length ≤ 8 := fun x hx => by obtain ⟨j, hj, rfl⟩ := List.mem_iff_getElem.1 hx; exact hall j hj (by omega)
      by_cases h1 : l.length ≤ 10
      · exact ⟨true, Ev.step (fun k => by rw [cosignerlaw03_few.l0, if_neg (by omega), if_pos (by omega)]) (Ev.now _), fun _ => ⟨by omega, hU⟩⟩
      · by_cases h2 : l.length > 24
        · refine ⟨decide ((l.length : Int) ≤ 40), Ev.step (fun k => by rw [cosignerlaw03_few.l0, if_neg (by omega), if_neg (by omega), if_pos (by omega)]) (Ev.now _), fun h => ⟨by have := of_decide_eq_true h; omega, hU⟩⟩
        · exact ⟨false, Ev.step (fun k => by rw [cosignerlaw03_few.l0, if_neg (by omega), if_neg (by omega), if_neg (by omega)]) (Ev.now _), fun h => by cases h⟩
    | succ d ih =>
      intro i hd hall
      have hi : i < l.length := by omega
      by_cases h8 : l[i].f3.length > 8
      · exact ⟨false, Ev.step (fun k => by rw [cosignerlaw03_few.l0, if_pos (by omega), if_pos (by omega), rd_class hi, if_pos (by omega)]) (Ev.now _), fun h => by cases h⟩
      · obtain ⟨b, h1, h2⟩ := ih (i + 1) (by omega) (fun j hj hji => by
          rcases Nat.lt_or_ge j i with h2 | h2
          · exact hall j hj h2
          · obtain rfl : j = i := by omega
            omega)
        exact ⟨b, Ev.step (fun k => by rw [cosignerlaw03_few.l0, if_pos (by omega), if_pos (by omega), rd_class hi, if_neg (by omega), wrap_nat i (by omega)]) h1, h2⟩
  obtain ⟨b, h1, h2⟩ := key l.length 0 (by omega) (fun j _ h => absurd h (Nat.not_lt_zero j))
  exact ⟨b, h1, h2⟩
theorem sameNames_ev (xs : List ByteArray) (hl : xs.length < 4611686018427387904) : Ev (fun k => cosignerref03_SameNames.f k xs xs) true := by
  have key : ∀ (d i : Nat), i + d = xs.length → Ev (fun k => cosignerref03_SameNames.l0 k xs xs (i : Int)) true := by
    intro d
    induction d with
    | zero => intro i hd; exact Ev.step (fun k => by rw [cosignerref03_SameNames.l0, if_neg (by omega)]) (Ev.now _)
    | succ d ih =>
      intro i hd
      exact Ev.step (fun k => by rw [cosignerref03_SameNames.l0, if_pos (by omega), if_pos (by omega), if_pos (by omega), if_pos rfl, wrap_nat i (by omega)]) (ih (i + 1) (by omega))
  exact Ev.congr (fun k => by unfold cosignerref03_SameNames.f; rw [if_pos rfl]; rfl) (key xs.length 0 (by omega))
end Go.Proofs.Ytdljclokenoogaa.Hw
end
section
namespace Go.Proofs.Ytdljclokenoogaa.Hw
open Go.RowKit Go.Proofs.Ytdljclokenoogaa.Hp Go.Proofs.YtdljclokenoogaaW.PrintWords Go.Proofs.YtdljclokenoogaaW.PrintLast Go.Proofs.YtdljclokenoogaaW.PrintMore
theorem parents_ev {l : List S61} (h : smallUps l) (c : ByteArray) : Ev (fun k => cosignerref03_parents.f k l c) (parN l c) := Ev.val (K := 1002) (fun k hk => parents_val l c (by have := h.1; omega) (B := 1000) (by omega) h.2 k (by have := h.1; omega) (by omega))
end Go.Proofs.Ytdljclokenoogaa.Hw
end
section
namespace Go.Proofs.Ytdljclokenoogaa.Hw
open Go.RowKit Go.Proofs.Ytdljclokenoogaa.Hp Go.Proofs.YtdljclokenoogaaW.PrintWords Go.Proofs.YtdljclokenoogaaW.PrintLast Go.Proofs.YtdljclokenoogaaW.PrintMore
theorem asked_l0 {l : List S61} (hl : l.length < 4611686018427387904) (ns : List ByteArray) (hn : ns.length < 1000000) : ∀ (d i : Nat), i + d = ns.length →
    Ev (fun k => cosignerref03_asked.l0 k l ns (i : Int)) (if (ns.drop i).all (fun s => (idx l s).isSome) then 0 else 5) := by
  intro d
  induction d with
  | zero =>
    intro i hd
    rw [List.drop_eq_nil_of_le (by omega)]
    exact Ev.step (fun k => by rw [cosignerref03_asked.l0, if_neg (by omega)]; rfl) (Ev.now _)
  | succ d ih =>
    intro i hd
    have hi : i < ns.length := by omega
    rw [List.drop_eq_getElem_cons hi, List.all_cons]
    refine Ev.step (fun k => by rw [cosignerref03_asked.l0, if_pos (by omega), if_pos (by omega), rdOf_nat hi, wrap_nat i (by omega)]) ?_
    refine Ev.bind (index_ev l _ hl) ?_
    cases h : idx l ns[i] with
    | none => exact Ev.pos (idxI_neg.2 h) (Ev.now _)
    | some j => exact Ev.neg (fun e => by rw [idxI_neg.1 e] at h; cases h) (by simpa using ih (i + 1) (by omega))
theorem asked_ev {l : List S61} (h : smallUps l) (ns : List ByteArray) (hn : ns.length < 1000000) : Ev (fun k => cosignerref03_asked.f k l ns) (askedOf l ns) := by
  refine Ev.congr (fun k => by rw [cosignerref03_asked.f]) (Ev.bind (check_ev h) ?_)
  unfold askedOf
  by_cases h0 : (checkOf l).1 = 0
  · rw [if_neg (by simpa using h0)]
    refine Ev.pos h0 ?_
    have := asked_l0 (l := l) (by have := h.1; omega) ns hn ns.length 0 (by omega)
    rw [List.drop_zero] at this
    exact this
  · rw [if_pos h0]
    exact Ev.neg h0 (Ev.now _)
theorem shortF_self {up : ByteArray → List ByteArray} (N : Nat) (c : ByteArray) : shortF up N c c = [c] := by
  have : distF up N c c = some 0 := distF_some.2 ⟨Nat.zero_le _, rfl, fun j hj => absurd hj (Nat.not_lt_zero j)⟩
  rw [shortF_some this]; rfl
theorem further_short {l : List S61} {c a : ByteArray} (hca : c ≠ a) : furtherOf (ups l) l.length c a = shortF (ups l) l.length a c := by
  have hup : ∀ c p, p ∈ ups l c → c ∈ names l := fun c p hp => (ups_mem hp).1
  have hspec := furtherOf_spec (up := ups l) hup c a
  rw [names_len] at hspec
  have hpos : ∀ n, Hw.reach (ups l) n c a → ∃ m, n = m + 1 := fun n hn => by
    cases n with
    | zero => exact absurd hn hca
    | succ m => exact ⟨m, rfl⟩
  rcases hspec with ⟨h1, h2⟩ | ⟨n, h1, h2⟩
  · rw [h1]
    cases hd : distF (ups l) l.length c a with
    | none => unfold shortF; rw [hd]
    | some n =>
      obtain ⟨_, h3, _⟩ := distF_some.1 hd
      obtain ⟨m, rfl⟩ := hpos n h3
      exact absurd h3 (h2 m)
  · obtain ⟨n', hn', hd⟩ := dist_of_reach hup h1.1.reach
    rw [names_len] at hd
    obtain ⟨_, h3, h4⟩ := distF_some.1 hd
    obtain ⟨m, rfl⟩ := hpos n' h3
    have : m = n := by
      rcases Nat.lt_trichotomy m n with h5 | h5 | h5
      · exact absurd h3 (h2 m h5)
      · exact h5
      · omega
    subst this
    rw [shortF_some hd]
    exact LeastW.uniq h1 (wayF_least _ c hd)
theorem way_ev {l : List S61} (h : smallUps l) (c a : ByteArray) : Ev (fun k => cosignerref03_Way.f k l c a) (wayOf l c a) := by
  refine Ev.congr (f := fun k => (cosignerref03_asked.f k l [c, a]).bind fun t => if t = 0 then (if c.toList = a.toList then some ([c], 0) else (cosignerref03_further.f l c a).bind fun t => if (t.length : Int) = 0 then some ([], 5) else some (t, 0)) else some ([], t)) (fun k => rfl) (Ev.bind (asked_ev h [c, a] (by simp)) ?_)
  unfold wayOf
  by_cases h0 : askedOf l [c, a] = 0
  · rw [if_pos h0, if_pos h0]
    by_cases hca : c = a
    · subst hca
      rw [shortF_self]
      exact Ev.pos rfl (Ev.now _)
    · refine Ev.neg (fun e => hca (toList_inj e)) (Ev.know (h.further c a) ?_)
      rw [further_short hca]
      cases shortF (ups l) l.length a c with
      | nil => exact Ev.pos rfl (Ev.now _)
      | cons x t => exact Ev.neg (by simp only [List.length_cons]; omega) (Ev.now _)
  · rw [if_neg h0, if_neg h0]
    exact Ev.now _
theorem ups_right {l : List S61} (h : (checkOf l).1 = 0) (c : ByteArray) : ups l c = parN l c := by
  rw [ups_parN, List.filter_eq_self]
  intro p hp
  unfold parN at hp
  cases hi : idx l c with
  | none => rw [hi] at hp; cases hp
  | some i =>
    rw [hi] at hp
    obtain ⟨x, hx, rfl⟩ := List.mem_map.1 hp
    have h1 := (checkOk h).2.2.1 i (idx_lt hi)
    unfold lonelyOf at h1
    have h2 := List.any_eq_false.1 h1 x hx
    cases hj : idx l x.f0 with
    | none => rw [hj] at h2; simp at h2
    | some _ => rfl
theorem checkWay_l0 {l : List S61} (h : smallUps l) (ns : List ByteArray) (hn : ns.length < 1000000) : ∀ (d i : Nat), i + 1 + d = ns.length →
    Ev (fun k => cosignerref03_CheckWay.l0 k l ns ((i + 1 : Nat) : Int)) (if (List.range d).all (fun j => memS (parN l (nth ns (i + j))) (nth ns (i + j + 1))) then 0 else 11) := by
  intro d
  induction d with
  | zero =>
    intro i hd
    exact Ev.step (fun k => by rw [cosignerref03_CheckWay.l0, if_neg (by omega)]; rfl) (Ev.now _)
  | succ d ih =>
    intro i hd
    have hi : i + 1 < ns.length := by omega
    have hw : wrap64 (((i + 1 : Nat) : Int) - 1) = (i : Int) := by rw [wrap64_of_range _ (by omega) (by omega)]; omega
    have e1 : rdOf ByteArray.empty ns (i : Int) = nth ns i := by rw [rdOf_nat (show i < ns.length by omega)]; simp [nth, show i < ns.length by omega]
    have e2 : rdOf ByteArray.empty ns ((i + 1 : Nat) : Int) = nth ns (i + 1) := by rw [rdOf_nat hi]; simp [nth, hi]
    have hsplit : (List.range (d + 1)).all (fun j => memS (parN l (nth ns (i + j))) (nth ns (i + j + 1))) = (memS (parN l (nth ns i)) (nth ns (i + 1)) && (List.range d).all (fun j => memS (parN l (nth ns (i + 1 + j))) (nth ns (i + 1 + j + 1)))) := by
      rw [List.range_succ_eq_map, List.all_cons, List.all_map, Nat.add_zero]
      congr 1
      refine congrArg (fun f => (List.range d).all f) (funext fun j => ?_)
      simp only [Function.comp, Nat.succ_eq_add_one]
      rw [show i + (j + 1) = i + 1 + j by omega]
    refine Ev.step (fun k => by rw [cosignerref03_CheckWay.l0, if_pos (by omega), hw, if_pos (by omega), if_pos (by omega), e1, e2, wrap_nat (i + 1) (by omega)]) ?_
    rw [hsplit]
    have hpl := parN_len (c := nth ns i) h.2
    refine Ev.bind (parents_ev h _) (Ev.pos (by omega) (Ev.bind (has_ev _ _ (by omega)) ?_))
    cases memS (parN l (nth ns i)) (nth ns (i + 1)) with
    | false => exact Ev.neg (by decide) (Ev.now _)
    | true =>
      have := ih (i + 1) (by omega)
      rw [Bool.true_and]
      exact Ev.pos rfl this
theorem checkWay_ev {l : List S61} (h : smallUps l) (c a : ByteArray) (ns : List ByteArray) (hn : ns.length < 1000000) : Ev (fun k => cosignerref03_CheckWay.f k l c a ns) (checkWayOf l c a ns) := by
  refine Ev.congr (fun k => by rw [cosignerref03_CheckWay.f]) (Ev.bind (asked_ev h [c, a] (by simp)) ?_)
  unfold checkWayOf
  by_cases h0 : askedOf l [c, a] = 0
  · rw [if_neg (by simpa using h0)]
    refine Ev.pos h0 ?_
    have hj : Ev (fun k => cosignerref03_CheckWay.j0 k l ns true) 11 := Ev.step (fun k => by rw [cosignerref03_CheckWay.j0, if_pos rfl]) (Ev.now _)
    by_cases h1 : ns.length = 0
    · rw [if_pos (.inl h1)]
      exact Ev.pos (by omega) hj
    · have e0 : rdOf ByteArray.empty ns 0 = nth ns 0 := by
        have := rdOf_nat (z := ByteArray.empty) (show 0 < ns.length by omega)
        rw [show ((0 : Nat) : Int) = 0 from rfl] at this
        rw [this]; simp [nth, show 0 < ns.length by omega]
      have hw : wrap64 ((ns.length : Int) - 1) = ((ns.length - 1 : Nat) : Int) := by rw [wrap64_of_range _ (by omega) (by omega)]; omega
      have e1 : rdOf ByteArray.empty ns ((ns.length - 1 : Nat) : Int) = nth ns (ns.length - 1) := by rw [rdOf_nat (show ns.length - 1 < ns.length by omega)]; simp [nth, show ns.length - 1 < ns.length by omega]
      refine Ev.neg (by omega) (Ev.pos (by omega) ?_)
      rw [e0, hw, e1]
      by_cases h2 : nth ns 0 = c
      · refine Ev.pos (by rw [h2]) (Ev.pos (by omega) (Ev.pos (by omega) ?_))
        by_cases h3 : nth ns (ns.length - 1) = a
        · rw [if_neg (by rintro (e | e | e); exact h1 e; exact e h2; exact e h3), show ((nth ns (ns.length - 1)).toList != a.toList) = false by rw [h3]; simp]
          refine Ev.step (fun k => by rw [cosignerref03_CheckWay.j0, if_neg (by decide)]) ?_
          have := checkWay_l0 h ns hn (ns.length - 1) 0 (by omega)
          obtain ⟨hck, _⟩ := askedOk h0
          refine cast ?_ this
          congr 1
          have hsB : stepB l ns = fun j => memS (parN l (nth ns j)) (nth ns (j + 1)) := funext fun j => by unfold stepB; rw [ups_right hck]
          simp only [Nat.zero_add, hsB]
        · rw [if_pos (.inr (.inr h3)), show ((nth ns (ns.length - 1)).toList != a.toList) = true by rw [bne_iff_ne]; exact fun e => h3 (toList_inj e)]
          exact hj
      · rw [if_pos (.inr (.inl h2))]
        exact Ev.neg (fun e => h2 (toList_inj e)) hj
  · rw [if_pos h0]
    exact Ev.neg h0 (Ev.now _)
theorem wayOf_len (l : List S61) (c a : ByteArray) : (wayOf l c a).1.length ≤ l.length + 1 := by
  unfold wayOf
  have := shortF_len (ups l) l.length a c
  split
  · split
    · simp
    · exact this
  · simp
theorem pure_ways (l : List S61) (c a : ByteArray) (ns : List ByteArray) (hl : l.length < 4611686018427387904) : ∃ k, cosignerlaw03_HeirWays.f k l c a ns = some true := by
  have hs : Ev (fun k => cosignerlaw03_HeirWays.j0 k l c a ns true) true := Ev.step (fun k => by rw [cosignerlaw03_HeirWays.j0, if_pos rfl]; rfl) (Ev.now _)
  obtain ⟨b, hb, hf⟩ := few_ev l hl
  refine Ev.rounds (g := fun k => cosignerlaw03_HeirWays.f k l c a ns) (Ev.congr (fun k => by rw [cosignerlaw03_HeirWays.f]) (Ev.bind hb ?_))
  cases b with
  | false => exact Ev.neg (by decide) hs
  | true =>
    refine Ev.pos rfl ?_
    by_cases hn : ns.length > 40
    · rw [decide_eq_true (by omega)]; exact hs
    · rw [decide_eq_false (by omega)]
      have h := hf rfl
      have hll := h.len
      have hwl := wayOf_len l c a
      refine Ev.step (fun k => by rw [cosignerlaw03_HeirWays.j0, if_neg (by decide)]) ?_
      refine Ev.know (show heir_Way.f l c a = some (wayOf l c a) from rfl) (Ev.bind (way_ev h.small c a) (Ev.know rfl (Ev.pos rfl (Ev.bind (sameNames_ev (wayOf l c a).1 (by omega)) (Ev.pos rfl (Ev.pos rfl (Ev.know (show heir_CheckWay.f l c a ns = some (checkWayOf l c a ns) from rfl) (Ev.bind (checkWay_ev h.small c a ns (by omega)) ?_))))))))
      simp only [beq_self_eq_true]
      exact Ev.now _
end Go.Proofs.Ytdljclokenoogaa.Hw
end
section
namespace Go.Proofs.Ytdljclokenoogaa.Hw
open Go.RowKit Go.Proofs.Ytdljclokenoogaa.Hp Go.Proofs.YtdljclokenoogaaW.PrintWords Go.Proofs.YtdljclokenoogaaW.PrintLast Go.Proofs.YtdljclokenoogaaW.PrintMore
section
variable {H : Type} (enc : TypeId × Value → H) (W : World)
def Rd {α : Type} (d : Kd α) (t : TypeId) (n : Nat) : Prop := ∀ cs x, DataW.trod enc Try.prog W 0 (fun _ => true) true n t cs = some x → ∃ a : α, d.K W a cs
variable {enc W} {cs : List Value} {n : Nat} {t : TypeId}
theorem rd_fields {fs : Array Field} {x : DataW H × List MemPlace} (ht : Try.prog.underlying t = some (.struct fs)) (h : DataW.trod enc Try.prog W 0 (fun _ => true) true n t cs = some x) :
    ∃ m, n = m + 1 ∧ cs.length = Try.prog.cellsOf t ∧ ∀ (i : Nat) (f : Field), fs[i]? = some f → ∃ y, DataW.trod enc Try.prog W 0 (fun _ => true) true m f.type ((cs.drop f.offset).take (Try.prog.cellsOf f.type)) = some y := by
  obtain ⟨xs, m, rfl, _, hl, hx, hf⟩ := DataW.trod_struct ht h
  refine ⟨m, rfl, hl, fun i f hi => ?_⟩
  have hlt := (Array.getElem?_eq_some_iff.1 hi).1
  exact ⟨_, (hf i f hi).trans (List.getElem?_eq_getElem (by omega))⟩
theorem rd_at {α : Type} {d : Kd α} {k o : Nat} (hc : Try.prog.cellsOf t = k) (hr : Rd enc W d t n) (h : ∃ y, DataW.trod enc Try.prog W 0 (fun _ => true) true n t ((cs.drop o).take (Try.prog.cellsOf t)) = some y) : ∃ a, d.K W a ((cs.drop o).take k) := by
  obtain ⟨y, hy⟩ := h
  rw [hc] at hy
  exact hr _ _ hy
theorem rd_string (ht : Try.prog.underlying t = some .string) : Rd enc W Kd.string t n := fun cs x h => by
  obtain ⟨s, rfl, _⟩ := DataW.trod_string ht h
  exact ⟨s, rfl⟩
theorem rd_bool (ht : Try.prog.underlying t = some .bool) : Rd enc W Kd.bool t n := fun cs x h => by
  obtain ⟨s, rfl, _⟩ := DataW.trod_bool ht h
  exact ⟨s, rfl⟩
theorem rd_int (ht : Try.prog.underlying t = some (.int .i64)) : Rd enc W (Kd.int .i64) t n := fun cs x h => by
  obtain ⟨s, rfl, _⟩ := DataW.trod_int ht h
  exact ⟨s, rfl⟩
theorem rd_pair {α β : Type} {a : Kd α} {b : Kd β} {i k m : Nat} (h1 : ∃ x, a.K W x ((cs.drop i).take k)) (h2 : ∃ x, b.K W x ((cs.drop (i + k)).take m)) : ∃ x, (Kd.pair a b).K W x ((cs.drop i).take (k + m)) := by
  obtain ⟨x, hx⟩ := h1
  obtain ⟨y, hy⟩ := h2
  refine ⟨(x, y), _, _, ?_, hx, hy⟩
  rw [List.take_add, List.drop_drop]
theorem rd_all {α : Type} {d : Kd α} {k : Nat} (hl : cs.length = k) (h : ∃ x, d.K W x ((cs.drop 0).take k)) : ∃ x, d.K W x cs := by
  rw [List.drop_zero, List.take_of_length_le (Nat.le_of_eq hl)] at h
  exact h
theorem rd_slice {α : Type} {d : Kd α} {e : TypeId} (ht : Try.prog.underlying t = some (.slice e)) (hc : Try.prog.cellsOf e = d.sz) (hd : ∀ j, j < n → Rd enc W d e j) : Rd enc W (Kd.slice e d) t n := fun cs x h => by
  rcases DataW.trod_slice ht h with ⟨rfl, _⟩ | ⟨a, len, cap, elems, rest, m, rfl, rfl, _, _, hl, hm, hlen, hel, _, _⟩
  · exact ⟨[], none, 0, rfl, Nat.le_refl _, Kd.C_nil _ _⟩
  · have each : ∀ i, i < len → ∃ (p : α) (c : List Value), d.K W p c ∧ W.cells? 0 (a.add (i * d.sz)) d.sz = some c := by
      intro i hi
      have h1 := hel i hi
      rw [List.getElem?_eq_getElem (by omega), hc, Option.bind_eq_some_iff] at h1
      obtain ⟨c, hc1, hc2⟩ := h1
      obtain ⟨p, hp⟩ := hd m (by omega) _ _ hc2
      exact ⟨p, c, hp, hc1⟩
    let xs : List α := List.ofFn (fun i : Fin len => (each i.1 i.2).choose)
    have hxs : xs.length = len := List.length_ofFn
    refine ⟨xs, some a, cap, by rw [hxs], by rw [hxs]; exact hl, rfl, by rw [hxs]; simp only [maxLen] at hm; omega, fun _ => ⟨a, rfl, fun j p hj => ?_⟩⟩
    have hjl : j < len := by have := (List.getElem?_eq_some_iff.1 hj).1; omega
    have hp : p = (each j hjl).choose := by
      have h2 := (List.getElem?_eq_some_iff.1 hj).2
      rw [← h2]
      show (List.ofFn _)[j] = _
      rw [List.getElem_ofFn]
    obtain ⟨c, hK, hcell⟩ := (each j hjl).choose_spec
    rw [← hp] at hK
    refine ⟨c, d.K_len hK, hK, fun i u hu => ?_⟩
    have hi : i < d.sz := by have := (List.getElem?_eq_some_iff.1 hu).1; have h3 := d.K_len hK; omega
    unfold World.cells? at hcell
    rw [if_pos (Nat.zero_le _)] at hcell
    have h4 := mapM_some_get hcell i i (by simp [hi])
    rw [Addr.add_add] at h4
    exact h4.trans hu
end
section
variable {H : Type} {enc : TypeId × Value → H} {W : World}
theorem rd185 : ∀ n, Rd enc W k185 185 n := by
  intro n
  intro cs x h
  obtain ⟨m, rfl, hl, hf⟩ := rd_fields Try.underlying185 h
  rw [show Try.prog.cellsOf 185 = 2 by kernel_rfl] at hl
  have g0 : ∃ a, Kd.string.K W a ((cs.drop 0).take 1) := rd_at (by kernel_rfl) (rd_string Try.underlying9) (hf 0 _ rfl)
  have g1 : ∃ a, Kd.string.K W a ((cs.drop 1).take 1) := rd_at (by kernel_rfl) (rd_string Try.underlying9) (hf 1 _ rfl)
  obtain ⟨c, hc⟩ := rd_all hl (rd_pair g0 g1)
  exact ⟨⟨c.1, c.2⟩, hc⟩
theorem fold188 {x : S188} {cs : List Value} (h : (F188 k188).K W x cs) : k188.K W x cs := by
  obtain ⟨_, _, rfl, rfl, ⟨_, _, rfl, rfl, ⟨_, _, rfl, ⟨A2, c2, rfl, l2, g2⟩, ⟨_, _, rfl, rfl, rfl⟩⟩⟩⟩ := h
  exact k188_mk W x l2 g2
theorem rd188 : ∀ n, Rd enc W k188 188 n := by
  intro n
  induction n using Nat.strongRecOn with
  | _ n ih =>
  intro cs x h
  obtain ⟨m, rfl, hl, hf⟩ := rd_fields Try.underlying188 h
  rw [show Try.prog.cellsOf 188 = 5 by kernel_rfl] at hl
  have g0 : ∃ a, (Kd.int .i64).K W a ((cs.drop 0).take 1) := rd_at (by kernel_rfl) (rd_int Try.underlying3) (hf 0 _ rfl)
  have g1 : ∃ a, Kd.string.K W a ((cs.drop 1).take 1) := rd_at (by kernel_rfl) (rd_string Try.underlying9) (hf 1 _ rfl)
  have g2 : ∃ a, (Kd.slice 188 k188).K W a ((cs.drop 2).take 1) := rd_at (by kernel_rfl) (rd_slice Try.underlying62 (by kernel_rfl) (fun j hj => ih j (by omega))) (hf 2 _ rfl)
  have g3 : ∃ a, Kd.bool.K W a ((cs.drop 3).take 1) := rd_at (by kernel_rfl) (rd_bool Try.underlying4) (hf 3 _ rfl)
  have g4 : ∃ a, Kd.bool.K W a ((cs.drop 4).take 1) := rd_at (by kernel_rfl) (rd_bool Try.underlying4) (hf 4 _ rfl)
  obtain ⟨c, hc⟩ := rd_all hl (rd_pair g0 (rd_pair g1 (rd_pair g2 (rd_pair g3 g4))))
  exact ⟨⟨c.1, c.2.1, c.2.2.1, c.2.2.2.1, c.2.2.2.2⟩, fold188 hc⟩
theorem rd198 : ∀ n, Rd enc W k198 198 n := by
  intro n
  intro cs x h
  obtain ⟨m, rfl, hl, hf⟩ := rd_fields Try.underlying198 h
  rw [show Try.prog.cellsOf 198 = 2 by kernel_rfl] at hl
  have g0 : ∃ a, Kd.string.K W a ((cs.drop 0).take 1) := rd_at (by kernel_rfl) (rd_string Try.underlying9) (hf 0 _ rfl)
  have g1 : ∃ a, Kd.string.K W a ((cs.drop 1).take 1) := rd_at (by kernel_rfl) (rd_string Try.underlying9) (hf 1 _ rfl)
  obtain ⟨c, hc⟩ := rd_all hl (rd_pair g0 g1)
  exact ⟨⟨c.1, c.2⟩, hc⟩
theorem rd65 : ∀ n, Rd enc W k65 65 n := by
  intro n
  intro cs x h
  obtain ⟨m, rfl, hl, hf⟩ := rd_fields Try.underlying65 h
  rw [show Try.prog.cellsOf 65 = 6 by kernel_rfl] at hl
  have g0 : ∃ a, Kd.string.K W a ((cs.drop 0).take 1) := rd_at (by kernel_rfl) (rd_string Try.underlying9) (hf 0 _ rfl)
  have g1 : ∃ a, (Kd.slice 188 k188).K W a ((cs.drop 1).take 1) := rd_at (by kernel_rfl) (rd_slice Try.underlying62 (by kernel_rfl) (fun j hj => rd188 j)) (hf 1 _ rfl)
  have g2 : ∃ a, (Kd.slice 198 k198).K W a ((cs.drop 2).take 1) := rd_at (by kernel_rfl) (rd_slice Try.underlying63 (by kernel_rfl) (fun j hj => rd198 j)) (hf 2 _ rfl)
  have g3 : ∃ a, (Kd.slice 9 Kd.string).K W a ((cs.drop 3).take 1) := rd_at (by kernel_rfl) (rd_slice Try.underlying25 (by kernel_rfl) (fun j hj => rd_string Try.underlying9)) (hf 3 _ rfl)
  have g4 : ∃ a, (Kd.slice 9 Kd.string).K W a ((cs.drop 4).take 1) := rd_at (by kernel_rfl) (rd_slice Try.underlying25 (by kernel_rfl) (fun j hj => rd_string Try.underlying9)) (hf 4 _ rfl)
  have g5 : ∃ a, (Kd.slice 9 Kd.string).K W a ((cs.drop 5).take 1) := rd_at (by kernel_rfl) (rd_slice Try.underlying25 (by kernel_rfl) (fun j hj => rd_string Try.underlying9)) (hf 5 _ rfl)
  obtain ⟨c, hc⟩ := rd_all hl (rd_pair g0 (rd_pair g1 (rd_pair g2 (rd_pair g3 (rd_pair g4 g5)))))
  exact ⟨⟨c.1, c.2.1, c.2.2.1, c.2.2.2.1, c.2.2.2.2.1, c.2.2.2.2.2⟩, hc⟩
theorem rd201 : ∀ n, Rd enc W k201 201 n := by
  intro n
  intro cs x h
  obtain ⟨m, rfl, hl, hf⟩ := rd_fields Try.underlying201 h
  rw [show Try.prog.cellsOf 201 = 6 by kernel_rfl] at hl
  have g0 : ∃ a, Kd.string.K W a ((cs.drop 0).take 1) := rd_at (by kernel_rfl) (rd_string Try.underlying9) (hf 0 _ rfl)
  have g1 : ∃ a, k188.K W a ((cs.drop 1).take 5) := rd_at (by kernel_rfl) (rd188 m) (hf 1 _ rfl)
  obtain ⟨c, hc⟩ := rd_all hl (rd_pair g0 g1)
  exact ⟨⟨c.1, c.2⟩, hc⟩
theorem fold194 {x : S194} {cs : List Value} (h : (F194 k194).K W x cs) : k194.K W x cs := by
  obtain ⟨_, _, rfl, rfl, ⟨_, _, rfl, rfl, ⟨_, _, rfl, rfl, ⟨A3, c3, rfl, l3, g3⟩⟩⟩⟩ := h
  exact k194_mk W x l3 g3
theorem rd194 : ∀ n, Rd enc W k194 194 n := by
  intro n
  induction n using Nat.strongRecOn with
  | _ n ih =>
  intro cs x h
  obtain ⟨m, rfl, hl, hf⟩ := rd_fields Try.underlying194 h
  rw [show Try.prog.cellsOf 194 = 4 by kernel_rfl] at hl
  have g0 : ∃ a, (Kd.int .i64).K W a ((cs.drop 0).take 1) := rd_at (by kernel_rfl) (rd_int Try.underlying3) (hf 0 _ rfl)
  have g1 : ∃ a, Kd.string.K W a ((cs.drop 1).take 1) := rd_at (by kernel_rfl) (rd_string Try.underlying9) (hf 1 _ rfl)
  have g2 : ∃ a, (Kd.int .i64).K W a ((cs.drop 2).take 1) := rd_at (by kernel_rfl) (rd_int Try.underlying3) (hf 2 _ rfl)
  have g3 : ∃ a, (Kd.slice 194 k194).K W a ((cs.drop 3).take 1) := rd_at (by kernel_rfl) (rd_slice Try.underlying192 (by kernel_rfl) (fun j hj => ih j (by omega))) (hf 3 _ rfl)
  obtain ⟨c, hc⟩ := rd_all hl (rd_pair g0 (rd_pair g1 (rd_pair g2 g3)))
  exact ⟨⟨c.1, c.2.1, c.2.2.1, c.2.2.2⟩, fold194 hc⟩
theorem rd196 : ∀ n, Rd enc W k196 196 n := by
  intro n
  intro cs x h
  obtain ⟨m, rfl, hl, hf⟩ := rd_fields Try.underlying196 h
  rw [show Try.prog.cellsOf 196 = 5 by kernel_rfl] at hl
  have g0 : ∃ a, Kd.string.K W a ((cs.drop 0).take 1) := rd_at (by kernel_rfl) (rd_string Try.underlying9) (hf 0 _ rfl)
  have g1 : ∃ a, k194.K W a ((cs.drop 1).take 4) := rd_at (by kernel_rfl) (rd194 m) (hf 1 _ rfl)
  obtain ⟨c, hc⟩ := rd_all hl (rd_pair g0 g1)
  exact ⟨⟨c.1, c.2⟩, hc⟩
theorem fold203 {x : S203} {cs : List Value} (h : (F203 k203).K W x cs) : k203.K W x cs := by
  obtain ⟨_, _, rfl, rfl, ⟨_, _, rfl, rfl, ⟨_, _, rfl, rfl, ⟨_, _, rfl, ⟨A3, c3, rfl, l3, g3⟩, ⟨_, _, rfl, ⟨A4, c4, rfl, l4, g4⟩, ⟨_, _, rfl, ⟨A5, c5, rfl, l5, g5⟩, ⟨_, _, rfl, ⟨A6, c6, rfl, l6, g6⟩, ⟨A7, c7, rfl, l7, g7⟩⟩⟩⟩⟩⟩⟩⟩ := h
  exact k203_mk W x l3 g3 l4 g4 l5 g5 l6 g6 l7 g7
theorem rd203 : ∀ n, Rd enc W k203 203 n := by
  intro n
  induction n using Nat.strongRecOn with
  | _ n ih =>
  intro cs x h
  obtain ⟨m, rfl, hl, hf⟩ := rd_fields Try.underlying203 h
  rw [show Try.prog.cellsOf 203 = 8 by kernel_rfl] at hl
  have g0 : ∃ a, (Kd.int .i64).K W a ((cs.drop 0).take 1) := rd_at (by kernel_rfl) (rd_int Try.underlying3) (hf 0 _ rfl)
  have g1 : ∃ a, Kd.string.K W a ((cs.drop 1).take 1) := rd_at (by kernel_rfl) (rd_string Try.underlying9) (hf 1 _ rfl)
  have g2 : ∃ a, (Kd.int .i64).K W a ((cs.drop 2).take 1) := rd_at (by kernel_rfl) (rd_int Try.underlying3) (hf 2 _ rfl)
  have g3 : ∃ a, (Kd.slice 194 k194).K W a ((cs.drop 3).take 1) := rd_at (by kernel_rfl) (rd_slice Try.underlying192 (by kernel_rfl) (fun j hj => rd194 j)) (hf 3 _ rfl)
  have g4 : ∃ a, (Kd.slice 196 k196).K W a ((cs.drop 4).take 1) := rd_at (by kernel_rfl) (rd_slice Try.underlying59 (by kernel_rfl) (fun j hj => rd196 j)) (hf 4 _ rfl)
  have g5 : ∃ a, (Kd.slice 203 k203).K W a ((cs.drop 5).take 1) := rd_at (by kernel_rfl) (rd_slice Try.underlying189 (by kernel_rfl) (fun j hj => ih j (by omega))) (hf 5 _ rfl)
  have g6 : ∃ a, (Kd.slice 203 k203).K W a ((cs.drop 6).take 1) := rd_at (by kernel_rfl) (rd_slice Try.underlying189 (by kernel_rfl) (fun j hj => ih j (by omega))) (hf 6 _ rfl)
  have g7 : ∃ a, (Kd.slice 203 k203).K W a ((cs.drop 7).take 1) := rd_at (by kernel_rfl) (rd_slice Try.underlying189 (by kernel_rfl) (fun j hj => ih j (by omega))) (hf 7 _ rfl)
  obtain ⟨c, hc⟩ := rd_all hl (rd_pair g0 (rd_pair g1 (rd_pair g2 (rd_pair g3 (rd_pair g4 (rd_pair g5 (rd_pair g6 g7)))))))
  exact ⟨⟨c.1, c.2.1, c.2.2.1, c.2.2.2.1, c.2.2.2.2.1, c.2.2.2.2.2.1, c.2.2.2.2.2.2.1, c.2.2.2.2.2.2.2⟩, fold203 hc⟩
theorem rd191 : ∀ n, Rd enc W k191 191 n := by
  intro n
  intro cs x h
  obtain ⟨m, rfl, hl, hf⟩ := rd_fields Try.underlying191 h
  rw [show Try.prog.cellsOf 191 = 15 by kernel_rfl] at hl
  have g0 : ∃ a, (Kd.int .i64).K W a ((cs.drop 0).take 1) := rd_at (by kernel_rfl) (rd_int Try.underlying3) (hf 0 _ rfl)
  have g1 : ∃ a, Kd.string.K W a ((cs.drop 1).take 1) := rd_at (by kernel_rfl) (rd_string Try.underlying9) (hf 1 _ rfl)
  have g2 : ∃ a, (Kd.slice 9 Kd.string).K W a ((cs.drop 2).take 1) := rd_at (by kernel_rfl) (rd_slice Try.underlying25 (by kernel_rfl) (fun j hj => rd_string Try.underlying9)) (hf 2 _ rfl)
  have g3 : ∃ a, (Kd.slice 201 k201).K W a ((cs.drop 3).take 1) := rd_at (by kernel_rfl) (rd_slice Try.underlying186 (by kernel_rfl) (fun j hj => rd201 j)) (hf 3 _ rfl)
  have g4 : ∃ a, k188.K W a ((cs.drop 4).take 5) := rd_at (by kernel_rfl) (rd188 m) (hf 4 _ rfl)
  have g5 : ∃ a, (Kd.slice 201 k201).K W a ((cs.drop 9).take 1) := rd_at (by kernel_rfl) (rd_slice Try.underlying186 (by kernel_rfl) (fun j hj => rd201 j)) (hf 5 _ rfl)
  have g6 : ∃ a, (Kd.slice 196 k196).K W a ((cs.drop 10).take 1) := rd_at (by kernel_rfl) (rd_slice Try.underlying59 (by kernel_rfl) (fun j hj => rd196 j)) (hf 6 _ rfl)
  have g7 : ∃ a, (Kd.slice 196 k196).K W a ((cs.drop 11).take 1) := rd_at (by kernel_rfl) (rd_slice Try.underlying59 (by kernel_rfl) (fun j hj => rd196 j)) (hf 7 _ rfl)
  have g8 : ∃ a, (Kd.slice 203 k203).K W a ((cs.drop 12).take 1) := rd_at (by kernel_rfl) (rd_slice Try.underlying189 (by kernel_rfl) (fun j hj => rd203 j)) (hf 8 _ rfl)
  have g9 : ∃ a, (Kd.slice 203 k203).K W a ((cs.drop 13).take 1) := rd_at (by kernel_rfl) (rd_slice Try.underlying189 (by kernel_rfl) (fun j hj => rd203 j)) (hf 9 _ rfl)
  have g10 : ∃ a, Kd.bool.K W a ((cs.drop 14).take 1) := rd_at (by kernel_rfl) (rd_bool Try.underlying4) (hf 10 _ rfl)
  obtain ⟨c, hc⟩ := rd_all hl (rd_pair g0 (rd_pair g1 (rd_pair g2 (rd_pair g3 (rd_pair g4 (rd_pair g5 (rd_pair g6 (rd_pair g7 (rd_pair g8 (rd_pair g9 g10))))))))))
  exact ⟨⟨c.1, c.2.1, c.2.2.1, c.2.2.2.1, c.2.2.2.2.1, c.2.2.2.2.2.1, c.2.2.2.2.2.2.1, c.2.2.2.2.2.2.2.1, c.2.2.2.2.2.2.2.2.1, c.2.2.2.2.2.2.2.2.2.1, c.2.2.2.2.2.2.2.2.2.2⟩, hc⟩
theorem rd61 : ∀ n, Rd enc W k61 61 n := by
  intro n
  intro cs x h
  obtain ⟨m, rfl, hl, hf⟩ := rd_fields Try.underlying61 h
  rw [show Try.prog.cellsOf 61 = 7 by kernel_rfl] at hl
  have g0 : ∃ a, Kd.string.K W a ((cs.drop 0).take 1) := rd_at (by kernel_rfl) (rd_string Try.underlying9) (hf 0 _ rfl)
  have g1 : ∃ a, Kd.bool.K W a ((cs.drop 1).take 1) := rd_at (by kernel_rfl) (rd_bool Try.underlying4) (hf 1 _ rfl)
  have g2 : ∃ a, (Kd.slice 185 k185).K W a ((cs.drop 2).take 1) := rd_at (by kernel_rfl) (rd_slice Try.underlying56 (by kernel_rfl) (fun j hj => rd185 j)) (hf 2 _ rfl)
  have g3 : ∃ a, (Kd.slice 65 k65).K W a ((cs.drop 3).take 1) := rd_at (by kernel_rfl) (rd_slice Try.underlying57 (by kernel_rfl) (fun j hj => rd65 j)) (hf 3 _ rfl)
  have g4 : ∃ a, (Kd.slice 9 Kd.string).K W a ((cs.drop 4).take 1) := rd_at (by kernel_rfl) (rd_slice Try.underlying25 (by kernel_rfl) (fun j hj => rd_string Try.underlying9)) (hf 4 _ rfl)
  have g5 : ∃ a, (Kd.slice 191 k191).K W a ((cs.drop 5).take 1) := rd_at (by kernel_rfl) (rd_slice Try.underlying58 (by kernel_rfl) (fun j hj => rd191 j)) (hf 5 _ rfl)
  have g6 : ∃ a, (Kd.slice 196 k196).K W a ((cs.drop 6).take 1) := rd_at (by kernel_rfl) (rd_slice Try.underlying59 (by kernel_rfl) (fun j hj => rd196 j)) (hf 6 _ rfl)
  obtain ⟨c, hc⟩ := rd_all hl (rd_pair g0 (rd_pair g1 (rd_pair g2 (rd_pair g3 (rd_pair g4 (rd_pair g5 g6))))))
  exact ⟨⟨c.1, c.2.1, c.2.2.1, c.2.2.2.1, c.2.2.2.2.1, c.2.2.2.2.2.1, c.2.2.2.2.2.2⟩, hc⟩
theorem trod_classes {d : DataW H} {p : List MemPlace} {A : Option Addr} {len cap : Nat} (h : DataW.Trod enc Try.prog W 0 (fun _ => true) true 22 (.slice A len cap) d p) : ∃ l : List S61, len = l.length ∧ len ≤ cap ∧ k61.C W A l.length l := by
  obtain ⟨n, hn⟩ := h
  obtain ⟨l, A', c, he, hl, hC⟩ := rd_slice (n := n) Try.underlying22 (by kernel_rfl) (fun j _ => rd61 (enc := enc) (W := W) j) _ _ hn
  injection he with he _
  injection he with h1 h2 h3
  subst h1; subst h2; subst h3
  exact ⟨l, rfl, hl, hC⟩
theorem trod_strings {d : DataW H} {p : List MemPlace} {A : Option Addr} {len cap : Nat} {t : TypeId} (ht : Try.prog.underlying t = some (.slice 9)) (h : DataW.Trod enc Try.prog W 0 (fun _ => true) true t (.slice A len cap) d p) : ∃ l : List ByteArray, len = l.length ∧ len ≤ cap ∧ Kd.string.C W A l.length l := by
  obtain ⟨n, hn⟩ := h
  obtain ⟨l, A', c, he, hl, hC⟩ := rd_slice (n := n) ht (by kernel_rfl) (fun j _ => rd_string Try.underlying9) _ _ hn
  injection he with he _
  injection he with h1 h2 h3
  subst h1; subst h2; subst h3
  exact ⟨l, rfl, hl, hC⟩
end
end Go.Proofs.Ytdljclokenoogaa.Hw
end
section
namespace Go.Proofs.Ytdljclokenoogaa.Hw
open Go.RowKit Go.Proofs.Ytdljclokenoogaa.Hp Go.Proofs.YtdljclokenoogaaW.PrintWords Go.Proofs.YtdljclokenoogaaW.PrintLast Go.Proofs.YtdljclokenoogaaW.PrintMore
section
variable {H : Type} {enc : TypeId × Value → H} {W : World}
theorem weights_slice {P : Program} {t e : TypeId} (ht : P.underlying t = some (.slice e)) (xs ys : List (DataW H)) : (DataW.slice xs ys).weights P t = (xs.length + ys.length) * P.bytesOf e :: (DataW.weightsAll P e xs ++ DataW.weightsAll P e ys) := by
  rw [DataW.weights, ht]
theorem slice_weight {P : Program} {t e : TypeId} {cs : List Value} {n : Nat} {x : DataW H × List MemPlace} {A : Option Addr} {len cap : Nat} (ht : P.underlying t = some (.slice e)) (hcs : cs = [.slice A len cap]) (h : DataW.trod enc P W 0 (fun _ => true) true n t cs = some x)
    (hw : ∀ m ∈ x.1.weights P t, m ≤ reachBytes) : len * P.bytesOf e ≤ reachBytes := by
  subst hcs
  rcases DataW.trod_slice ht h with ⟨h1, _⟩ | ⟨a, len', cap', elems, rest, m, rfl, h1, rfl, _, _, _, hlen, _, _, _⟩
  · injection h1 with h1 _
    injection h1 with _ h2 _
    subst h2; simp
  · injection h1 with h1 _
    injection h1 with _ h2 _
    subst h2
    rw [weights_slice ht] at hw
    have hw' := hw _ (List.mem_cons_self ..)
    rw [List.length_map, List.length_map] at hw'
    exact Nat.le_trans (Nat.mul_le_mul_right _ (by omega)) hw'
theorem trod_len {ts : List TypeId} {ds : List (DataW H)} {j : Nat} {d : DataW H} {p : List MemPlace} {A : Option Addr} {len cap : Nat} (hsz : (DataW.weightsEach Try.prog ts ds).all (· ≤ reachBytes) = true) (ht : ts[j]? = some 22) (hd : ds[j]? = some d)
    (h : DataW.Trod enc Try.prog W 0 (fun _ => true) true 22 (.slice A len cap) d p) : len ≤ 1100000000000 := by
  obtain ⟨n, hn⟩ := h
  have h4 := slice_weight (enc := enc) (W := W) (e := 61) Try.underlying22 rfl hn (fun m hm => by
    have := List.all_eq_true.1 hsz m (DataW.weights_mem_each ht hd m hm)
    simpa using this)
  rw [show Try.prog.bytesOf 61 = 144 by kernel_rfl] at h4
  unfold reachBytes at h4
  omega
end
end Go.Proofs.Ytdljclokenoogaa.Hw
end
section
namespace Go.Proofs.Ytdljclokenoogaa.heirWays
open Go.ChangeShapes Go.WideShapes Go.ChangeAt Go.RowKit Go.Proofs.Ytdljclokenoogaa.Hw
open Go.ChangeMaps (open_string shut_string)
set_option linter.unusedVariables false
theorem own : ownKnob Try.prog.godebug = none := by kernel_rfl
theorem laidOut : laidOutB Try.prog = true := by kernel_rfl
set_option maxRecDepth 100000 in
theorem lifted (os : Os) (started : os.Started) (H : Type) (enc : TypeId × Value → H) :
    ReturnsInHanded {} Try.checked os 13 .any (Rows.heirWaysSpec.pre6 enc Try.prog Try.f13 Rows.heirWaysRow.domain false) (Rows.heirWaysSpec.post enc Try.prog Try.f13 false true false false) := by
  refine returnsInHanded_of_change_sized (C := Try.checked) own started (by kernel_rfl) Try.func13
    (ChangeSpec.witness6 (enc := enc) (C := Try.checked) false ⟨#[], #[.slice none 0 0, .string ByteArray.empty, .string ByteArray.empty, .slice none 0 0], []⟩ 8 (by kernel_rfl) (by kernel_rfl) (by kernel_rfl) (by kernel_rfl)) ?_
  intro W base args ds gs before hval0 hW hcnd hsz0 _
  have hsz : (DataW.weightsEach Try.prog (Try.f13.params.toList ++ Rows.heirWaysSpec.plain.varTypes Try.prog) (ds ++ gs)).all (· ≤ reachBytes) = true := hsz0
  have hval : ∀ (j : Nat) t v, Try.f13.params[j]? = some t → args[j]? = some v → Value.okWide Try.prog W .any base t v := hval0
  have hW' := hW
  obtain ⟨p, q, hA0, hV, rfl, hfz, hnd⟩ := hW
  have hA : DataW.TrodAll enc Try.prog W 0 (fun _ => true) true Try.f13.params.toList args.toList ds p := hA0
  rw [Try.params13] at hA hval hsz
  obtain ⟨v0, vs0, d0, ds0, p0, q0, hargs, rfl, rfl, h0, r0⟩ := trodAll_cons hA
  obtain ⟨v1, vs1, d1, ds1, p1, q1, rfl, rfl, rfl, h1, r1⟩ := trodAll_cons r0
  obtain ⟨v2, vs2, d2, ds2, p2, q2, rfl, rfl, rfl, h2, r2⟩ := trodAll_cons r1
  obtain ⟨v3, vs3, d3, ds3, p3, q3, rfl, rfl, rfl, h3, r3⟩ := trodAll_cons r2
  obtain ⟨rfl, rfl, rfl⟩ := trodAll_nil r3
  obtain rfl : args = #[v0, v1, v2, v3] := by cases args; simp_all
  obtain ⟨rfl, rfl⟩ := trodVars_none hV
  obtain ⟨b0, len0, cap0, rfl⟩ := okWide_slice Try.underlying22 (hval 0 22 v0 rfl rfl)
  have k0 := h0
  have lt0 : ∀ x ∈ p0, x.block < W.heap.size := by obtain ⟨m, hm⟩ := k0; exact DataW.trod_lt m _ _ _ hm
  have ln0 := trod_len hsz (j := 0) rfl rfl h0
  obtain ⟨l0, rfl, hc0, hC0⟩ := trod_classes h0
  obtain ⟨a1, rfl, rfl, rfl, y1⟩ := open_string Try.underlying9 (hval 1 9 v1 rfl rfl) h1
  obtain ⟨a2, rfl, rfl, rfl, y2⟩ := open_string Try.underlying9 (hval 2 9 v2 rfl rfl) h2
  obtain ⟨b3, len3, cap3, rfl⟩ := okWide_slice Try.underlying25 (hval 3 25 v3 rfl rfl)
  have k3 := h3
  have lt3 : ∀ x ∈ p3, x.block < W.heap.size := by obtain ⟨m, hm⟩ := k3; exact DataW.trod_lt m _ _ _ hm
  obtain ⟨l3, rfl, hc3, hC3⟩ := trod_strings Try.underlying25 h3
  obtain ⟨kf, hkf⟩ := pure_ways l0 a1 a2 l3 (by omega)
  clear hA0 hval0 hsz0 hsz
  refine (Hp.cosignerlaw03_HeirWays.calls kf b0 cap0 l0 a1 a2 b3 cap3 l3 true rfl W hC0 hc0 hC3 hc3 (hkf)).mono fun e W' ⟨he, bel⟩ => ?_
  subst he
  exact ⟨_, rfl, _, _, _, [], _, [], hW', trodAll_mk1 (shut_bool Try.underlying4 _), (trodAll_cons_mk (Below.trod laidOut (by kernel_rfl) (of_decide_eq_true (by kernel_rfl)) k0 bel lt0) (trodAll_cons_mk (shut_string Try.underlying9 y1) (trodAll_cons_mk (shut_string Try.underlying9 y2) (trodAll_cons_mk (Below.trod laidOut (by kernel_rfl) (of_decide_eq_true (by kernel_rfl)) k3 bel lt3) trodAll_mk0)))), rfl, bel.frame _, fun h => by cases h⟩
theorem over : Rows.heirWaysRow.holds Try.pinned (OpenSpec.ofChange Rows.heirWaysSpec) :=
  OpenClaim.holds_of_wide 13 Try.f13 rfl rfl rfl rfl rfl rfl rfl ⟨rfl, rfl, rfl, rfl, rfl⟩ rfl rfl rfl rfl rfl (by kernel_rfl) Try.func13 (by kernel_rfl)
    (of_decide_eq_true (by kernel_rfl)) (by unfold Func.isWrapper; first | (rw [if_pos (by decide +kernel)]; kernel_rfl) | (rw [if_neg (by decide +kernel)]; exact ⟨rfl, rfl⟩))
    (fun os started H enc _ => lifted os started H enc)
theorem proved : Rows.HeirWaysSaid := over
#print axioms proved
end Go.Proofs.Ytdljclokenoogaa.heirWays
namespace Go.Proofs.Ytdljclokenoogaa
theorem heirWays_holds : Rows.HeirWaysSaid := heirWays.proved
end Go.Proofs.Ytdljclokenoogaa
end
