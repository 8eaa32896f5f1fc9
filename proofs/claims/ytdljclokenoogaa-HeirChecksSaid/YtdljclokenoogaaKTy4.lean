/-
  Part 4 (Ty) of the proof: walks of functions and plain facts.
-/
import Derived.Lib.SpaceUEq
import Derived.Lib.TrimUEq
import Derived.Test.YtdljclokenoogaaKTy3
set_option linter.unusedVariables false
set_option linter.unusedSimpArgs false
section
namespace Go.Proofs.Ytdljclokenoogaa.Hw
open Go.RowKit Go.Proofs.Ytdljclokenoogaa.Hp Go.Proofs.YtdljclokenoogaaW.PrintWords Go.Proofs.YtdljclokenoogaaW.PrintLast Go.Proofs.YtdljclokenoogaaW.PrintMore
def ringStepR (up : ByteArray → List ByteArray) (N : Nat) (b : List ByteArray) (c : ByteArray) : List ByteArray :=
  if (furtherOf up N c c).isEmpty then b else if b.isEmpty || lessR (furtherOf up N c c).dropLast b then (furtherOf up N c c).dropLast else b
def ringRef (l : List S61) : List ByteArray := (names l).foldl (ringStepR (ups l) l.length) []
theorem ringRef_take {l : List S61} {i : Nat} (hi : i < l.length) : (names (l.take (i + 1))).foldl (ringStepR (ups l) l.length) [] = ringStepR (ups l) l.length ((names (l.take i)).foldl (ringStepR (ups l) l.length) []) l[i].f0 := by
  have : names (l.take (i + 1)) = names (l.take i) ++ [l[i].f0] := by
    unfold names
    rw [List.take_succ_eq_append_getElem hi, List.map_append]; rfl
  rw [this, List.foldl_append]; rfl
set_option maxHeartbeats 32000000 in
set_option maxRecDepth 100000 in
theorem refRing_calls (A0 : Option Addr) (c0 : Nat) (l : List S61) (w : World) (hr0 : k61.C w A0 l.length l) (hc0 : l.length ≤ c0) (hl : l.length ≤ 1000) (hup : ∀ x ∈ l, x.f3.length ≤ 1000) :
    Calls Try.prog 46 #[.slice A0 l.length c0] w fun e w' => ∃ v, e = .returned v ∧ Kd.string.R 9 w' w.heap.size (fun _ => True) v (ringRef l) ∧ Below w.heap.size w w' := by
  obtain ⟨i0, hi0, _, hsz0, _⟩ := info_parts info_s
  have HR0 := Lib.hid hr0
  have HUP := Lib.hid hup
  clear hr0 hup
  have hnl : (names l).length = l.length := names_len l
  go_enter Try.func46, Try.ntmps46
  go_wp2
  go_loopg [3, 4] l.length (fun kq v3 v4 w' => ∃ (i : Nat), v4 = .int .i64 (i : Int) ∧ i ≤ l.length ∧ kq = l.length - i ∧ Aside0 (∃ b, Kd.string.R 9 w' w.heap.size (fun _ => True) v3 b ∧ b = (names (l.take i)).foldl (ringStepR (ups l) l.length) [] ∧ b.length ≤ l.length + 1 ∧ Below w.heap.size w w'))
  case atStart => exact ⟨0, rfl, Nat.zero_le _, rfl, ⟨[], Kd.R_nil _ _ _ _ _, rfl, by simp, Below.refl _ _⟩⟩
  case round =>
    obtain ⟨i, rfl, hi, hk, ⟨b, hRb, hbe, hbl, hB⟩⟩ := hrel
    obtain ⟨A3, c3, e3, hc3, hC3⟩ := Kd.R_reads hRb
    cases e3
    have HB3 := Lib.hid hRb
    have HC3 := Lib.hid hC3
    have HBE := Lib.hid hbe
    clear hRb hC3 hbe
    by_cases cA : i < l.length
    · have cA1 : (i : Int) < (l.length : Int) := by omega
      have cA0 : (0 : Int) ≤ (i : Int) := by omega
      obtain ⟨ad, A2, c2, A3', c3', A4, c4, A5, c5, A6, c6, ea, hx0, _⟩ := at_T61 (Kd.C_below HR0.out hB) (i : Int) (by omega) (by omega)
      subst ea
      rw [Int.toNat_natCast, rd_class cA] at hx0
      obtain ⟨y, hy⟩ : ∃ y, l[i].f0 = y := ⟨_, rfl⟩
      have hnx := ringRef_take cA
      rw [← HBE.out, hy] at hnx
      rw [hy] at hx0
      have HNX0 := Lib.hid hnx
      clear hnx hy
      go_upto_region 5 with fail
      refine start_ (n := 13) (S := fun Y => Y.cell? (ad.add (i * 7)) = some (.string y)) (ds := [11]) #[false, false, false, false, false, false, false, false, false, false, false, false, false] (by kernel_rfl) rfl rfl hx0 (fun hHeld => ?_)
      have hB9 : Below wr.heap.size wr wr.drew := (Below.refl _ _).drew
      generalize wr.drew = w3 at hB9 hHeld ⊢
      refine pure_ (i := 0) (N := some 13) (v := ?_) (a' := ?_) #[true, false, false, false, false, false, false, false, false, false, false, false, false] rfl rfl (by kernel_rfl) (fun _ _ _ h => h) (Or.inl ⟨by rfl, ?_⟩) ?_ ?_
      rotate_left
      · intro w'; go_simp <;> (with_reducible rfl)
      rotate_left
      · simp only [Act.put, List.setIfInBounds_toArray, List.set_cons_zero, List.set_cons_succ]; rfl
      refine pure_ (i := 1) (N := some 14) (v := ?_) (a' := ?_) #[true, true, false, false, false, false, false, false, false, false, false, false, false] rfl rfl (by kernel_rfl) (fun _ _ _ h => h) (Or.inl ⟨by rfl, ?_⟩) ?_ ?_
      rotate_left
      · intro w'; go_simp <;> (with_reducible rfl)
      rotate_left
      · simp only [Act.put, List.setIfInBounds_toArray, List.set_cons_zero, List.set_cons_succ]; rfl
      refine pure_ (i := 2) (N := some 15) (v := ?_) (a' := ?_) #[true, true, true, false, false, false, false, false, false, false, false, false, false] rfl rfl (by kernel_rfl) (fun _ _ _ h => h) (Or.inl ⟨by rfl, ?_⟩) ?_ ?_
      rotate_left
      · intro w'; go_simp <;> (with_reducible rfl)
      rotate_left
      · simp only [Act.put, List.setIfInBounds_toArray, List.set_cons_zero, List.set_cons_succ]; rfl
      refine pure_ (i := 3) (N := some 16) (v := ?_) (a' := ?_) #[true, true, true, true, false, false, false, false, false, false, false, false, false] rfl rfl (by kernel_rfl) (fun _ _ _ h => h) (Or.inl ⟨by rfl, ?_⟩) ?_ ?_
      rotate_left
      · intro w'; go_simp <;> (with_reducible rfl)
      rotate_left
      · simp only [Act.put, List.setIfInBounds_toArray, List.set_cons_zero, List.set_cons_succ]; rfl
      refine pure_ (i := 4) (N := some 17) (v := ?_) (a' := ?_) #[true, true, true, true, true, false, false, false, false, false, false, false, false] rfl rfl (by kernel_rfl) (fun _ _ _ h => h) (Or.inl ⟨by rfl, ?_⟩) ?_ ?_
      rotate_left
      · intro w'; go_simp <;> (with_reducible rfl)
      rotate_left
      · simp only [Act.put, List.setIfInBounds_toArray, List.set_cons_zero, List.set_cons_succ]; rfl
      refine take_ (i := 5) (N := some 18) (v := ?_) (a' := ?_) #[true, true, true, true, true, true, false, false, false, false, false, false, false] rfl rfl (by kernel_rfl) (fun _ _ _ h => h) (Or.inl ⟨by rfl, ?_⟩) hHeld ?_ ?_
      rotate_left
      · rintro w' s0; go_simp <;> (with_reducible rfl)
      rotate_left
      · simp only [Act.put, List.setIfInBounds_toArray, List.set_cons_zero, List.set_cons_succ]; rfl
      refine pure_ (i := 6) (N := some 19) (v := ?_) (a' := ?_) #[true, true, true, true, true, true, true, false, false, false, false, false, false] rfl rfl (by kernel_rfl) (fun _ _ _ h => h) (Or.inl ⟨by rfl, ?_⟩) ?_ ?_
      rotate_left
      · intro w'; go_simp <;> (with_reducible rfl)
      rotate_left
      · simp only [Act.put, List.setIfInBounds_toArray, List.set_cons_zero, List.set_cons_succ]; rfl
      refine pure_ (i := 7) (N := some 20) (v := ?_) (a' := ?_) #[true, true, true, true, true, true, true, true, false, false, false, false, false] rfl rfl (by kernel_rfl) (fun _ _ _ h => h) (Or.inl ⟨by rfl, ?_⟩) ?_ ?_
      rotate_left
      · intro w'; go_simp <;> (with_reducible rfl)
      rotate_left
      · simp only [Act.put, List.setIfInBounds_toArray, List.set_cons_zero, List.set_cons_succ]; rfl
      refine pure_ (i := 8) (N := some 21) (v := ?_) (a' := ?_) #[true, true, true, true, true, true, true, true, true, false, false, false, false] rfl rfl (by kernel_rfl) (fun _ _ _ h => h) (Or.inl ⟨by rfl, ?_⟩) ?_ ?_
      rotate_left
      · intro w'; go_simp <;> (with_reducible rfl)
      rotate_left
      · simp only [Act.put, List.setIfInBounds_toArray, List.set_cons_zero, List.set_cons_succ]; rfl
      refine pure_ (i := 9) (N := some 22) (v := ?_) (a' := ?_) #[true, true, true, true, true, true, true, true, true, true, false, false, false] rfl rfl (by kernel_rfl) (fun _ _ _ h => h) (Or.inl ⟨by rfl, ?_⟩) ?_ ?_
      rotate_left
      · intro w'; go_simp <;> (with_reducible rfl)
      rotate_left
      · simp only [Act.put, List.setIfInBounds_toArray, List.set_cons_zero, List.set_cons_succ]; rfl
      refine take_ (i := 10) (N := some 23) (v := ?_) (a' := ?_) #[true, true, true, true, true, true, true, true, true, true, true, false, false] rfl rfl (by kernel_rfl) (fun _ _ _ h => h) (Or.inl ⟨by rfl, ?_⟩) hHeld ?_ ?_
      rotate_left
      · rintro w' s0; go_simp <;> (with_reducible rfl)
      rotate_left
      · simp only [Act.put, List.setIfInBounds_toArray, List.set_cons_zero, List.set_cons_succ]; rfl
      refine last_ (i := 11) (N := some 24) #[true, true, true, true, true, true, true, true, true, true, true, true, false] rfl rfl (by kernel_rfl) (by decide) (fun K hK => ?_)
      refine goes_ Try.func93 (by kernel_rfl) rfl #[.slice (some ad) l.length c0, .string y, .string y] (by rfl) rfl rfl (by simp only [List.map_toArray, List.map_cons, List.map_nil]; first | done | rfl) ?_
      have hB3 := hB.trans (hB9.mono hB.size)
      refine (further_calls (some ad) c0 l y y _ (Kd.C_below HR0.out hB3) hc0 hl HUP.out).mono ?_
      rintro e w4 ⟨vp, rfl, hRp, hB4⟩
      refine ⟨_, rfl, ?_⟩
      refine hK.out _ _ ?_
      clear hK K
      refine norm_ (a' := ?_) ?_ ?_
      rotate_left
      · show Act.put _ (some 24) _ = _; simp only [Act.put, List.setIfInBounds_toArray, List.set_cons_zero, List.set_cons_succ]; rfl
      refine pure_ (i := 12) (N := some 5) (v := ?_) (a' := ?_) #[true, true, true, true, true, true, true, true, true, true, true, true, true] rfl rfl (by kernel_rfl) (fun _ _ _ h => h) (Or.inl ⟨by rfl, ?_⟩) ?_ ?_
      rotate_left
      · intro w'; go_simp <;> (with_reducible rfl)
      rotate_left
      · simp only [Act.put, List.setIfInBounds_toArray, List.set_cons_zero, List.set_cons_succ]; rfl
      refine done_ (by kernel_rfl) ?_
      have hfl := furtherOf_len (up := ups l) (names := names l) (c := y) (a := y)
      rw [hnl] at hfl
      have hstep : ringStepR (ups l) l.length b y = if (furtherOf (ups l) l.length y y).isEmpty then b else if b.isEmpty || lessR (furtherOf (ups l) l.length y y).dropLast b then (furtherOf (ups l) l.length y y).dropLast else b := rfl
      rw [hstep] at HNX0
      generalize furtherOf (ups l) l.length y y = t at hRp hfl HNX0
      clear hstep
      have hB14 : Below w.heap.size w w4 := hB3.trans (hB4.mono hB3.size)
      have hBr4 : Below wr.heap.size wr w4 := hB9.trans (hB4.mono hB9.size)
      obtain ⟨Ap, cp, ep, hcp, Cp⟩ := hRp.reads
      cases ep
      by_cases ht : t = []
      · have ht0 : t.length = 0 := by rw [ht]; rfl
        have htb : ((t.length : Int) == 0) = true := by rw [ht0]; rfl
        have hnx2 := HNX0.out
        rw [if_pos (by rw [ht]; rfl)] at hnx2
        have HNX := Lib.hid hnx2
        have HT := Lib.hid ht
        clear hnx2 ht ht0 hRp Cp
        go_wp2
        go_roundg (l.length - (i + 1))
        case measure => omega
        case rel => exact ⟨i + 1, (by first | rfl | rw [wrap_nat i (by omega)]), by omega, rfl, ⟨b, Kd.R_below HB3.out hBr4, HNX.out.symm, hbl, hB14⟩⟩
      · have htp : 0 < t.length := List.length_pos_iff.2 ht
        have htb : ((t.length : Int) == 0) = false := by rw [beq_eq_false_iff_ne]; omega
        have hemp : ¬ t.isEmpty = true := by simpa using ht
        have HNX : Hid ((names (l.take (i + 1))).foldl (ringStepR (ups l) l.length) [] = if t.isEmpty = true then b else if (b.isEmpty || lessR t.dropLast b) = true then t.dropLast else b) := HNX0.out
        have hwt : IntKind.i64.wrap ((t.length : Int) - 1) = ((t.length - 1 : Nat) : Int) := by rw [Go.IntWalk.i64_in _ ⟨by omega, by omega⟩]; omega
        have hcut1 := cut_to (P := Try.prog) 25 9 .i64 Try.underlying25 hi0 Ap t.length cp ((t.length - 1 : Nat) : Int) (by omega) (by omega) hcp
        rw [Int.toNat_natCast] at hcut1
        have hRy : Kd.string.R 9 w4 w.heap.size (fun _ => True) (.slice Ap (t.length - 1) cp) t.dropLast := by
          rw [List.dropLast_eq_take]
          exact Kd.R_lower (Kd.R_take hRp.1 (by omega)) hB3.size
        have hyl : t.dropLast.length = t.length - 1 := by rw [List.length_dropLast]
        obtain ⟨yy, hyy⟩ : ∃ z, t.dropLast = z := ⟨_, rfl⟩
        rw [hyy] at hRy hyl HNX
        have hcpy : yy.length ≤ cp := by omega
        have hCy : Kd.string.C w4 Ap yy.length yy := (Kd.R_reads' hRy).2.2
        have hbv := before_val yy b (by omega) (2 * yy.length + 2) (Nat.le_refl _)
        rw [← hyl] at hcut1 hwt hRy
        have hyl2 : yy.length ≤ l.length + 1 := by omega
        have HY0 := Lib.hid hRy
        have HYL : Hid (yy.length ≤ l.length + 1) := hyl2
        clear hyy hRy hRp Cp HNX0 hyl
        have hbc := Kd.C_below HC3.out hBr4
        have hC8 : ∀ (r : Bool) w5, Drawn0 w4 w5 → Below w.heap.size w w5 ∧ Kd.string.R 9 w5 w.heap.size (fun _ => True) (.slice Ap yy.length cp) yy ∧ Kd.string.R 9 w5 w.heap.size (fun _ => True) (.slice A3 b.length c3) b ∧ r = r := by
          rintro r w5 ⟨nd, rfl⟩
          exact ⟨pw_below_drewN hB14 nd, Kd.R_below HY0.out (pw_below_drewN (Below.refl _ _) nd), Kd.R_below HB3.out (pw_below_drewN hBr4 nd), rfl⟩
        have HC8 := Lib.hid (hC8 true)
        clear hC8
        obtain ⟨q, hq⟩ : ∃ q, lexB yy b = q := ⟨_, rfl⟩
        rw [hq] at hbv
        by_cases hb0 : b.length = 0
        · have hbb : ((b.length : Int) == 0) = true := by rw [hb0]; rfl
          have HC : Hid ((b.isEmpty || lessR yy b) = true) := by show _ = _; rw [List.length_eq_zero_iff.1 hb0]; rfl
          clear hb0 hq
          go_wp2_with (go_at_call 94; refine (cosignerref03_Before.calls _ _ _ yy _ _ b q _ hCy hcpy hbc hc3 hbv).mono ?_; rintro e w5 ⟨rfl, hd⟩; obtain ⟨hB5, hY5, hBB5, _⟩ := HC8.out w5 hd; have HY := Lib.hid hY5; have HBB := Lib.hid hBB5; clear hd hY5 hBB5)
          go_roundg (l.length - (i + 1))
          case measure => omega
          case rel =>
            refine ⟨i + 1, (by first | rfl | rw [wrap_nat i (by omega)]), by omega, rfl, ⟨_, HY.out, ?_, ?_, hB5⟩⟩
            · rw [HNX.out, if_neg hemp, if_pos HC.out]
            · exact HYL.out
        · have hbb : ((b.length : Int) == 0) = false := by rw [beq_eq_false_iff_ne]; omega
          have hbemp : b.isEmpty = false := by rw [List.isEmpty_eq_false_iff]; exact fun e => hb0 (by rw [e]; rfl)
          by_cases h1 : yy.length < b.length
          · have h1b : (yy.length : Int) < (b.length : Int) := by omega
            have HC : Hid ((b.isEmpty || lessR yy b) = true) := by show _ = _; unfold lessR; rw [decide_eq_true h1]; simp
            go_wp2_with (go_at_call 94; refine (cosignerref03_Before.calls _ _ _ yy _ _ b q _ hCy hcpy hbc hc3 hbv).mono ?_; rintro e w5 ⟨rfl, hd⟩; obtain ⟨hB5, hY5, hBB5, _⟩ := HC8.out w5 hd; have HY := Lib.hid hY5; have HBB := Lib.hid hBB5; clear hd hY5 hBB5)
            go_roundg (l.length - (i + 1))
            case measure => omega
            case rel =>
              refine ⟨i + 1, (by first | rfl | rw [wrap_nat i (by omega)]), by omega, rfl, ⟨_, HY.out, ?_, ?_, hB5⟩⟩
              · rw [HNX.out, if_neg hemp, if_pos HC.out]
              · exact HYL.out
          · have h1b : ¬ (yy.length : Int) < (b.length : Int) := by omega
            by_cases h2 : yy.length = b.length
            · have h2b : ((yy.length : Int) == (b.length : Int)) = true := by rw [h2]; exact beq_self_eq_true _
              have hlr : lessR yy b = q := by unfold lessR; rw [decide_eq_false h1, decide_eq_true h2, Bool.false_or, Bool.true_and, hq]
              cases q with
              | true =>
                have HC : Hid ((b.isEmpty || lessR yy b) = true) := by show _ = _; rw [hlr]; simp
                have H2 := Lib.hid h2
                clear h2 hlr hq
                go_wp2_with (go_at_call 94; refine (cosignerref03_Before.calls _ _ _ yy _ _ b true _ hCy hcpy hbc hc3 hbv).mono ?_; rintro e w5 ⟨rfl, hd⟩; obtain ⟨hB5, hY5, hBB5, _⟩ := HC8.out w5 hd; have HY := Lib.hid hY5; have HBB := Lib.hid hBB5; clear hd hY5 hBB5)
                go_roundg (l.length - (i + 1))
                case measure => omega
                case rel =>
                  refine ⟨i + 1, (by first | rfl | rw [wrap_nat i (by omega)]), by omega, rfl, ⟨_, HY.out, ?_, ?_, hB5⟩⟩
                  · rw [HNX.out, if_neg hemp, if_pos HC.out]
                  · exact HYL.out
              | false =>
                have HC : Hid (¬ (b.isEmpty || lessR yy b) = true) := by show ¬ _; rw [hlr, hbemp]; decide
                have H2 := Lib.hid h2
                clear h2 hlr hq
                go_wp2_with (go_at_call 94; refine (cosignerref03_Before.calls _ _ _ yy _ _ b false _ hCy hcpy hbc hc3 hbv).mono ?_; rintro e w5 ⟨rfl, hd⟩; obtain ⟨hB5, hY5, hBB5, _⟩ := HC8.out w5 hd; have HY := Lib.hid hY5; have HBB := Lib.hid hBB5; clear hd hY5 hBB5)
                go_roundg (l.length - (i + 1))
                case measure => omega
                case rel =>
                  refine ⟨i + 1, (by first | rfl | rw [wrap_nat i (by omega)]), by omega, rfl, ⟨_, HBB.out, ?_, hbl, hB5⟩⟩
                  rw [HNX.out, if_neg hemp, if_neg HC.out]
            · have h2b : ((yy.length : Int) == (b.length : Int)) = false := by rw [beq_eq_false_iff_ne]; omega
              have HC : Hid (¬ (b.isEmpty || lessR yy b) = true) := by show ¬ _; unfold lessR; rw [decide_eq_false h1, decide_eq_false h2, hbemp]; simp
              go_wp2_with (go_at_call 94; refine (cosignerref03_Before.calls _ _ _ yy _ _ b q _ hCy hcpy hbc hc3 hbv).mono ?_; rintro e w5 ⟨rfl, hd⟩; obtain ⟨hB5, hY5, hBB5, _⟩ := HC8.out w5 hd; have HY := Lib.hid hY5; have HBB := Lib.hid hBB5; clear hd hY5 hBB5)
              go_roundg (l.length - (i + 1))
              case measure => omega
              case rel =>
                refine ⟨i + 1, (by first | rfl | rw [wrap_nat i (by omega)]), by omega, rfl, ⟨_, HBB.out, ?_, hbl, hB5⟩⟩
                rw [HNX.out, if_neg hemp, if_neg HC.out]
    · have cA1 : ¬ (i : Int) < (l.length : Int) := by omega
      have ei : l.take i = l := List.take_of_length_le (by omega)
      rw [ei] at HBE
      go_wp2
      go_ret
      exact ⟨_, rfl, by rw [show ringRef l = b from HBE.out.symm]; exact HB3.out, hB⟩
end Go.Proofs.Ytdljclokenoogaa.Hw
end
section
namespace Go.Proofs.Ytdljclokenoogaa.Hp
open Go.RowKit Go.Proofs.YtdljclokenoogaaW.PrintWords Go.Proofs.YtdljclokenoogaaW.PrintLast Go.Proofs.YtdljclokenoogaaW.PrintMore Go.Proofs.Ytdljclokenoogaa.Hw
def fewUps (l : List S61) : Bool := l.all (fun x => decide (x.f3.length ≤ 1000))
theorem fewUps_at {l : List S61} (h : fewUps l = true) : ∀ x ∈ l, x.f3.length ≤ 1000 := fun x hx => of_decide_eq_true (List.all_eq_true.1 h x hx)
def cosignerref03_Ring.f (l0 : List S61) : Option (List ByteArray) := if l0.length ≤ 1000 ∧ fewUps l0 = true then some (ringRef l0) else none
theorem cosignerref03_Ring.calls (A0 : Option Addr) (c0 : Nat) (l0 : List S61) (r : List ByteArray) (w : World) (hr0 : Kd.C k61 w A0 l0.length l0) (hc0 : l0.length ≤ c0) (h : cosignerref03_Ring.f l0 = some r) :
    Calls Try.prog 46 #[.slice A0 l0.length c0] w fun e w' => ∃ v, e = .returned v ∧ Kd.R Kd.string 9 w' w.heap.size (fun _ => True) v r ∧ Below w.heap.size w w' := by
  unfold cosignerref03_Ring.f at h
  split at h
  · rename_i hb
    obtain rfl := Option.some.inj h
    exact refRing_calls A0 c0 l0 w hr0 hc0 hb.1 (fewUps_at hb.2)
  · cases h
end Go.Proofs.Ytdljclokenoogaa.Hp
end
section
namespace Go.Proofs.Ytdljclokenoogaa.Hp
open Go.RowKit Go.Proofs.YtdljclokenoogaaW.PrintWords Go.Proofs.YtdljclokenoogaaW.PrintLast Go.Proofs.YtdljclokenoogaaW.PrintMore
attribute [local go_sem] max2_int min2_int max_two min_two max_three min_three max_four min_four
set_option linter.unusedVariables false
set_option linter.unusedSimpArgs false
mutual
def cosignerref03_Check.l0 : Nat → List (S61) → Int → Option (Int × ByteArray)
  | 0, _, _ => none
  | k + 1, x0, x3 => if x3 < (x0.length : Int) then ((cosignerref03_alone.f k x0 x3).bind fun t334 => (if t334 = 0 then (cosignerref03_Check.l0 k x0 (wrap64 (x3 + 1))) else (if 0 ≤ x3 then (some (t334, (rd_T61 x0 x3).f0)) else (none)))) else (cosignerref03_Check.l1 k x0 0)
def cosignerref03_Check.l1 : Nat → List (S61) → Int → Option (Int × ByteArray)
  | 0, _, _ => none
  | k + 1, x0, x5 => if x5 < (x0.length : Int) then (cosignerref03_Check.l2 k x0 x5 0) else ((cosignerref03_Ring.f x0).bind fun t336 => (if (t336.length : Int) > 0 then (if 0 < (t336.length : Int) then (some (7, rdOf ByteArray.empty t336 0)) else (none)) else (some (0, (⟨#[]⟩ : ByteArray)))))
def cosignerref03_Check.l2 : Nat → List (S61) → Int → Int → Option (Int × ByteArray)
  | 0, _, _, _ => none
  | k + 1, x0, x5, x6 => if 0 ≤ x5 then (if x5 < (x0.length : Int) then (if x6 < (((rd_T61 x0 x5).f3).length : Int) then (if 0 ≤ x6 then ((cosignerref03_index.f k x0 ((rd_T65 ((rd_T61 x0 x5).f3) x6).f0)).bind fun t343 => (if t343 < 0 then (some (5, (rd_T61 x0 x5).f0)) else (cosignerref03_Check.l2 k x0 x5 (wrap64 (x6 + 1))))) else (none)) else (cosignerref03_Check.l1 k x0 (wrap64 (x5 + 1)))) else (none)) else (none)
end
def cosignerref03_Check.f (k : Nat) (l0 : List (S61)) : Option (Int × ByteArray) := if (l0.length : Int) > 24 then (some (3, (⟨#[]⟩ : ByteArray))) else (cosignerref03_Check.l0 k l0 0)
set_option maxHeartbeats 8000000 in
set_option maxRecDepth 100000 in
theorem cosignerref03_Check.calls (k : Nat) (A0 : Option Addr) (c0 : Nat) (l0 : List (S61)) (r1 : Int) (r2 : ByteArray) (w : World) (hr0 : Kd.C k61 w A0 l0.length l0) (hc0 : l0.length ≤ c0) (h : cosignerref03_Check.f k l0 = some (r1, r2)) :
    Calls Try.prog 44 #[.slice A0 l0.length c0] w fun e w' => e = .returned (.agg #[.int .i64 r1, .string r2]) ∧ Below w.heap.size w w' := by
  have hu87 := Try.underlying87
  have HR0 := Aside0.mk hr0
  have HC0 := Aside0.mk hc0
  clear hr0 hc0
  have HB := Aside0.mk (Below.refl w.heap.size w)
  have H : (if (l0.length : Int) > 24 then (some (3, (⟨#[]⟩ : ByteArray))) else (cosignerref03_Check.l0 k l0 0)) = some (r1, r2) := h
  clear h
  by_cases c2 : (l0.length : Int) > 24
  · rw [if_pos c2] at H
    have c2b0 : decide (24 < (l0.length : Int)) = true := decide_eq_true c2
    have c2b1 : decide (24 < l0.length) = true := decide_eq_true (by omega)
    clear c2
    simp only [Option.some.injEq, Prod.mk.injEq] at H
    obtain ⟨rfl, rfl⟩ := H
    go_enter Try.func44, Try.ntmps44
    go_wp2_with (first | ((with_reducible refine gate_dst (N := 2) rfl ?_); refine box_event ?hg (N := 2) ?hd (cs := #[.int .i64 0, .string (⟨#[]⟩ : ByteArray)]) (t := 87) ?hr ?_; (case hd => rfl); (case hg => rfl); (case hr => first | (go_simp; done) | (go_simp; rfl)); intro gb333 hg w3 hbox hb; have n0_ := Aside0.mk (below_step (by repeat (first | (with_reducible first | exact HB.out | apply below_alloc | apply pw_below_drewN | apply below_drew1) | exact HB.out)) hb); have n1_ := Aside0.mk (hbox); have n2_ := Aside0.mk ((by rw [hg]; exact (below_size (by repeat (first | (with_reducible first | exact HB.out | apply below_alloc | apply pw_below_drewN | apply below_drew1) | exact HB.out))) : w.heap.size ≤ gb333)); have n3_ := Aside0.mk ((by rw [hg]; exact (below_size (by repeat (first | (with_reducible first | exact HB.out | apply below_alloc | apply pw_below_drewN | apply below_drew1) | exact HB.out))) : w.heap.size ≤ gb333)); clear HB; have HB := n0_; have BK333 := n1_; have GW333 := n2_; have GE333 := n3_; clear n0_ n1_ n2_ n3_; clear hb hbox hg; have hcz4_0 : w3.cell? ⟨gb333, 0, none⟩ = some (.int .i64 0) := (blk_cell BK333.out 0).trans rfl; have hcz4_1 : w3.cell? ⟨gb333, 1, none⟩ = some (.string (⟨#[]⟩ : ByteArray)) := (blk_cell BK333.out 1).trans rfl; have hfz4_0 := blk_frozen BK333.out 0; have hfz4_1 := blk_frozen BK333.out 1))
    refine bodyPost_ret (results_cell_row rfl _ _ gb333 87 #[.int .i64 3, .string (⟨#[]⟩ : ByteArray)] (0, 0) _ rfl (by (with_reducible repeat (first | refine blk_drewN ?_ _ | refine blk_drew ?_ | refine blk_alloc ?_ _)); refine blk_put (cs := #[.int .i64 3, .string (⟨#[]⟩ : ByteArray)]) ?_ 1 _ rfl; (with_reducible repeat (first | refine blk_drewN ?_ _ | refine blk_drew ?_ | refine blk_alloc ?_ _)); refine blk_put (cs := #[.int .i64 0, .string (⟨#[]⟩ : ByteArray)]) ?_ 0 _ rfl; (with_reducible repeat (first | refine blk_drewN ?_ _ | refine blk_drew ?_ | refine blk_alloc ?_ _)); exact BK333.out) Try.underlying87 rfl (by kernel_rfl)) rfl ?_
    exact ⟨by first | rfl | (simp [errW_none, errW_some] <;> rfl) | (simp [*, errW_none, errW_some] <;> rfl), by repeat (first | (with_reducible first | exact HB.out | apply below_alloc | apply pw_below_drewN | apply below_drew1 | refine below_set ?_ GE333.out) | exact HB.out)⟩
  · rw [if_neg c2] at H
    have c2b0 : decide (24 < (l0.length : Int)) = false := decide_eq_false c2
    have c2b1 : decide (24 < l0.length) = false := decide_eq_false (by omega)
    clear c2
    have H' := Aside0.mk H
    clear H
    go_enter Try.func44, Try.ntmps44
    go_wp2_with (first | ((with_reducible refine gate_dst (N := 2) rfl ?_); refine box_event ?hg (N := 2) ?hd (cs := #[.int .i64 0, .string (⟨#[]⟩ : ByteArray)]) (t := 87) ?hr ?_; (case hd => rfl); (case hg => rfl); (case hr => first | (go_simp; done) | (go_simp; rfl)); intro gb333 hg w5 hbox hb; have n0_ := Aside0.mk (below_step (by repeat (first | (with_reducible first | exact HB.out | apply below_alloc | apply pw_below_drewN | apply below_drew1) | exact HB.out)) hb); have n1_ := Aside0.mk (hbox); have n2_ := Aside0.mk ((by rw [hg]; exact (below_size (by repeat (first | (with_reducible first | exact HB.out | apply below_alloc | apply pw_below_drewN | apply below_drew1) | exact HB.out))) : w.heap.size ≤ gb333)); have n3_ := Aside0.mk ((by rw [hg]; exact (below_size (by repeat (first | (with_reducible first | exact HB.out | apply below_alloc | apply pw_below_drewN | apply below_drew1) | exact HB.out))) : w.heap.size ≤ gb333)); clear HB; have HB := n0_; have BK333 := n1_; have GW333 := n2_; have GE333 := n3_; clear n0_ n1_ n2_ n3_; clear hb hbox hg))
    go_loopg [3] k (fun kq v3 w' => ∃ (x3_1 : Int) (x334000_1 : Int) (x334001_1 : ByteArray), v3 = .int .i64 x3_1 ∧ Aside0 (cosignerref03_Check.l0 kq l0 x3_1 = some (r1, r2)) ∧ Aside0 (kq ≤ k) ∧ Aside0 (w'.heap[gb333]? = some (.cells #[.int .i64 x334000_1, .string x334001_1] 87 (0, 0))) ∧ Aside0 (Below w.heap.size w w'))
    case atStart => exact ⟨(0), (0), ((⟨#[]⟩ : ByteArray)), (by first | rfl | (simp; done) | (simp [*]; done)), H', ⟨Nat.le_refl _⟩, ⟨by (with_reducible repeat (first | refine blk_drewN ?_ _ | refine blk_drew ?_ | refine blk_alloc ?_ _)); exact BK333.out⟩, ⟨by repeat (first | (with_reducible first | exact HB.out | apply below_alloc | apply pw_below_drewN | apply below_drew1 | refine below_set ?_ GE333.out) | exact HB.out)⟩⟩
    case round =>
      clear H'
      try clear c2
      try clear c2b0
      try clear c2b1
      try clear p2
      try clear c4
      try clear hcz4_0
      try clear hcz4_1
      try clear hfz4_0
      try clear hfz4_1
      obtain ⟨x3_1, x334000_1, x334001_1, rfl, HA, HK1, BK333, HB⟩ := hrel
      cases gk with
      | zero => exact absurd HA.out (by simp [cosignerref03_Check.l0])
      | succ k1 =>
        have H := HA.out
        clear HA
        simp only [cosignerref03_Check.l0] at H
        by_cases c6 : x3_1 < (l0.length : Int)
        · rw [if_pos c6] at H
          have c6b0 : decide (x3_1 < (l0.length : Int)) = true := decide_eq_true c6
          clear c6
          replace H := Option.bind_eq_some_iff.mp H
          obtain ⟨t334, A70, H⟩ := H
          replace H : (if t334 = 0 then (cosignerref03_Check.l0 k1 l0 (wrap64 (x3_1 + 1))) else (if 0 ≤ x3_1 then (some (t334, (rd_T61 l0 x3_1).f0)) else (none))) = some (r1, r2) := H
          have A7 := Aside0.mk A70
          clear A70
          by_cases c8 : t334 = 0
          · rw [if_pos c8] at H
            have c8b0 : (t334 == 0) = true := beq_iff_eq.mpr c8
            have c8b1 : (t334 != 0) = false := bne_eq_false_iff_eq.mpr c8
            clear c8
            have H' := Aside0.mk H
            clear H
            go_wp2_with (first | ((with_reducible refine gate_callee (f := 87) rfl ?_); refine goesL_ (some 20) rfl rfl Try.func87 (by kernel_rfl) rfl #[.slice A0 l0.length c0, .int .i64 x3_1] rfl (by (try simp only [List.map_toArray, List.map_cons, List.map_nil]); first | done | rfl | (simp only [List.length_drop, List.length_take]; rfl)) ?_; (with_reducible refine (cosignerref03_alone.calls k1 _ _ l0 x3_1 t334 _ ?side1 ?side2 A7.out).mono ?_); (case side1 => repeat (first | exact (Kd.C_below HR0.out HB.out) | (with_reducible refine Kd.C_alloc ?_ _) | (with_reducible refine Kd.C_drewN ?_ _) | (with_reducible refine Kd.C_drew ?_))); (case side2 => exact HC0.out); rintro e w' ⟨rfl, ⟨nd, rfl⟩⟩; refine ⟨_, rfl, ?_⟩))
            go_roundg k1
            case measure => have := HK1.out; omega
            case rel => exact ⟨(wrap64 (x3_1 + 1)), (x334000_1), (x334001_1), (by first | rfl | (simp; done) | (simp [*]; done)), H', ⟨by have := HK1.out; omega⟩, ⟨by (with_reducible repeat (first | refine blk_drewN ?_ _ | refine blk_drew ?_ | refine blk_alloc ?_ _)); exact BK333.out⟩, ⟨by repeat (first | (with_reducible first | exact HB.out | apply below_alloc | apply pw_below_drewN | apply below_drew1 | refine below_set ?_ GE333.out) | exact HB.out)⟩⟩
          · rw [if_neg c8] at H
            have c8b0 : (t334 == 0) = false := beq_eq_false_iff_ne.mpr c8
            have c8b1 : (t334 != 0) = true := bne_iff_ne.mpr c8
            by_cases c9 : 0 ≤ x3_1
            · rw [if_pos c9] at H
              have c9b0 : decide (0 ≤ x3_1) = true := decide_eq_true c9
              clear c9
              simp only [Option.some.injEq, Prod.mk.injEq] at H
              obtain ⟨rfl, rfl⟩ := H
              go_wp2_with (first | ((with_reducible refine gate_callee (f := 87) rfl ?_); refine goesL_ (some 20) rfl rfl Try.func87 (by kernel_rfl) rfl #[.slice A0 l0.length c0, .int .i64 x3_1] rfl (by (try simp only [List.map_toArray, List.map_cons, List.map_nil]); first | done | rfl | (simp only [List.length_drop, List.length_take]; rfl)) ?_; (with_reducible refine (cosignerref03_alone.calls k1 _ _ l0 x3_1 t334 _ ?side1 ?side2 A7.out).mono ?_); (case side1 => repeat (first | exact (Kd.C_below HR0.out HB.out) | (with_reducible refine Kd.C_alloc ?_ _) | (with_reducible refine Kd.C_drewN ?_ _) | (with_reducible refine Kd.C_drew ?_))); (case side2 => exact HC0.out); rintro e w' ⟨rfl, ⟨nd, rfl⟩⟩; refine ⟨_, rfl, ?_⟩; (try (rw [drewN_self wr]; generalize hq_ : World.drewN wr _ = wr; have n0_ : Aside0 (wr.heap[gb333]? = some (.cells #[.int .i64 x334000_1, .string x334001_1] 87 (0, 0))) := ⟨by rw [← hq_]; exact (by (with_reducible repeat (first | refine blk_drewN ?_ _ | refine blk_drew ?_ | refine blk_alloc ?_ _)); exact BK333.out)⟩; have n1_ : Aside0 (Below w.heap.size w wr) := ⟨by rw [← hq_]; exact (by repeat (first | (with_reducible first | exact HB.out | apply below_alloc | apply pw_below_drewN | apply below_drew1 | refine below_set ?_ GE333.out) | exact HB.out))⟩; clear BK333 HB hq_; have BK333 := n0_; have HB := n1_; clear n0_ n1_)); have p335 : 0 ≤ (x3_1 : Int) := of_decide_eq_true (by first | (with_reducible assumption) | assumption); have q335 : x3_1 < (l0.length : Int) := of_decide_eq_true (by first | (with_reducible assumption) | assumption); obtain ⟨ad335, A335_2, c335_2, A335_3, c335_3, A335_4, c335_4, A335_5, c335_5, A335_6, c335_6, e335, hx335_0, hx335_1, hx335_2, hx335_3, hx335_4, hx335_5, hx335_6, hl335_2, hi335_2, hl335_3, hi335_3, hl335_4, hi335_4, hl335_5, hi335_5, hl335_6, hi335_6⟩ := at_T61 HR0.out x3_1 p335 q335; cases e335; replace hx335_0 := (HB.out.cell (World.block_lt_of_cell? w _ hx335_0)).trans hx335_0; replace hx335_1 := (HB.out.cell (World.block_lt_of_cell? w _ hx335_1)).trans hx335_1; replace hx335_2 := (HB.out.cell (World.block_lt_of_cell? w _ hx335_2)).trans hx335_2; replace hx335_3 := (HB.out.cell (World.block_lt_of_cell? w _ hx335_3)).trans hx335_3; replace hx335_4 := (HB.out.cell (World.block_lt_of_cell? w _ hx335_4)).trans hx335_4; replace hx335_5 := (HB.out.cell (World.block_lt_of_cell? w _ hx335_5)).trans hx335_5; replace hx335_6 := (HB.out.cell (World.block_lt_of_cell? w _ hx335_6)).trans hx335_6; have HR335_2 := Aside0.mk hi335_2; have HC335_2 := Aside0.mk hl335_2; clear hi335_2 hl335_2; have HR335_3 := Aside0.mk hi335_3; have HC335_3 := Aside0.mk hl335_3; clear hi335_3 hl335_3; have HR335_4 := Aside0.mk hi335_4; have HC335_4 := Aside0.mk hl335_4; clear hi335_4 hl335_4; have HR335_5 := Aside0.mk hi335_5; have HC335_5 := Aside0.mk hl335_5; clear hi335_5 hl335_5; have HR335_6 := Aside0.mk hi335_6; have HC335_6 := Aside0.mk hl335_6; clear hi335_6 hl335_6; replace p335 := eq_true p335; replace q335 := eq_true q335; have hcz10_0 : wr.cell? ⟨gb333, 0, none⟩ = some (.int .i64 x334000_1) := (blk_cell BK333.out 0).trans rfl; have hcz10_1 : wr.cell? ⟨gb333, 1, none⟩ = some (.string x334001_1) := (blk_cell BK333.out 1).trans rfl; have hfz10_0 := blk_frozen BK333.out 0; have hfz10_1 := blk_frozen BK333.out 1))
              refine bodyPost_ret (results_cell_row rfl _ _ gb333 87 #[.int .i64 t334, .string ((rd_T61 l0 x3_1).f0)] (0, 0) _ rfl (by (with_reducible repeat (first | refine blk_drewN ?_ _ | refine blk_drew ?_ | refine blk_alloc ?_ _)); refine blk_put (cs := #[.int .i64 t334, .string x334001_1]) ?_ 1 _ rfl; (with_reducible repeat (first | refine blk_drewN ?_ _ | refine blk_drew ?_ | refine blk_alloc ?_ _)); refine blk_put (cs := #[.int .i64 x334000_1, .string x334001_1]) ?_ 0 _ rfl; (with_reducible repeat (first | refine blk_drewN ?_ _ | refine blk_drew ?_ | refine blk_alloc ?_ _)); exact BK333.out) Try.underlying87 rfl (by kernel_rfl)) rfl ?_
              exact ⟨by first | rfl | (simp [errW_none, errW_some] <;> rfl) | (simp [*, errW_none, errW_some] <;> rfl), by repeat (first | (with_reducible first | exact HB.out | apply below_alloc | apply pw_below_drewN | apply below_drew1 | refine below_set ?_ GE333.out) | exact HB.out)⟩
            · rw [if_neg c9] at H
              exact absurd H (by simp)
        · rw [if_neg c6] at H
          have c6b0 : decide (x3_1 < (l0.length : Int)) = false := decide_eq_false c6
          clear c6
          have H' := Aside0.mk H
          clear H
          go_wp2
          go_loopg [5] k1 (fun kq v5 w' => ∃ (x5_2 : Int) (x334000_2 : Int) (x334001_2 : ByteArray), v5 = .int .i64 x5_2 ∧ Aside0 (cosignerref03_Check.l1 kq l0 x5_2 = some (r1, r2)) ∧ Aside0 (kq ≤ k1) ∧ Aside0 (w'.heap[gb333]? = some (.cells #[.int .i64 x334000_2, .string x334001_2] 87 (0, 0))) ∧ Aside0 (Below w.heap.size w w'))
          case atStart => exact ⟨(0), (x334000_1), (x334001_1), (by first | rfl | (simp; done) | (simp [*]; done)), H', ⟨Nat.le_refl _⟩, ⟨by (with_reducible repeat (first | refine blk_drewN ?_ _ | refine blk_drew ?_ | refine blk_alloc ?_ _)); exact BK333.out⟩, ⟨by repeat (first | (with_reducible first | exact HB.out | apply below_alloc | apply pw_below_drewN | apply below_drew1 | refine below_set ?_ GE333.out) | exact HB.out)⟩⟩
          case round =>
            clear H'
            try clear c2
            try clear c2b0
            try clear c2b1
            try clear p2
            try clear c3
            try clear p3
            try clear q3
            try clear hx3
            try clear c4
            try clear c6
            try clear c6b0
            try clear p6
            try clear c8
            try clear c8b0
            try clear c8b1
            try clear c9
            try clear c9b0
            try clear hcz10_0
            try clear hcz10_1
            try clear hcz4_0
            try clear hcz4_1
            try clear hfz10_0
            try clear hfz10_1
            try clear hfz4_0
            try clear hfz4_1
            try clear hx335_0
            try clear hx335_1
            try clear hx335_2
            try clear hx335_3
            try clear hx335_4
            try clear hx335_5
            try clear hx335_6
            try clear p2
            try clear p335
            try clear q335
            obtain ⟨x5_2, x334000_2, x334001_2, rfl, HA, HK2, BK333, HB⟩ := hrel
            cases gk with
            | zero => exact absurd HA.out (by simp [cosignerref03_Check.l1])
            | succ k2 =>
              have H := HA.out
              clear HA
              simp only [cosignerref03_Check.l1] at H
              by_cases c11 : x5_2 < (l0.length : Int)
              · rw [if_pos c11] at H
                have c11b0 : decide (x5_2 < (l0.length : Int)) = true := decide_eq_true c11
                clear c11
                have H' := Aside0.mk H
                clear H
                go_wp2
                go_loopg [6] k2 (fun kq v6 w' => ∃ (x6_3 : Int) (x334000_3 : Int) (x334001_3 : ByteArray), v6 = .int .i64 x6_3 ∧ Aside0 (cosignerref03_Check.l2 kq l0 x5_2 x6_3 = some (r1, r2)) ∧ Aside0 (kq ≤ k2) ∧ Aside0 (w'.heap[gb333]? = some (.cells #[.int .i64 x334000_3, .string x334001_3] 87 (0, 0))) ∧ Aside0 (Below w.heap.size w w'))
                case atStart => exact ⟨(0), (x334000_2), (x334001_2), (by first | rfl | (simp; done) | (simp [*]; done)), H', ⟨Nat.le_refl _⟩, ⟨by (with_reducible repeat (first | refine blk_drewN ?_ _ | refine blk_drew ?_ | refine blk_alloc ?_ _)); exact BK333.out⟩, ⟨by repeat (first | (with_reducible first | exact HB.out | apply below_alloc | apply pw_below_drewN | apply below_drew1 | refine below_set ?_ GE333.out) | exact HB.out)⟩⟩
                case round =>
                  clear H'
                  try clear c1
                  try clear c2
                  try clear c2b0
                  try clear c2b1
                  try clear p2
                  try clear c3
                  try clear p3
                  try clear q3
                  try clear hx3
                  try clear c4
                  try clear c6
                  try clear c6b0
                  try clear p6
                  try clear c8
                  try clear c8b0
                  try clear c8b1
                  try clear c9
                  try clear c9b0
                  try clear c11
                  try clear c11b0
                  try clear hcz10_0
                  try clear hcz10_1
                  try clear hcz4_0
                  try clear hcz4_1
                  try clear hfz10_0
                  try clear hfz10_1
                  try clear hfz4_0
                  try clear hfz4_1
                  try clear hx335_0
                  try clear hx335_1
                  try clear hx335_2
                  try clear hx335_3
                  try clear hx335_4
                  try clear hx335_5
                  try clear hx335_6
                  try clear p2
                  try clear p3
                  try clear p335
                  try clear p6
                  try clear q3
                  try clear q335
                  obtain ⟨x6_3, x334000_3, x334001_3, rfl, HA, HK3, BK333, HB⟩ := hrel
                  cases gk with
                  | zero => exact absurd HA.out (by simp [cosignerref03_Check.l2])
                  | succ k3 =>
                    have H := HA.out
                    clear HA
                    simp only [cosignerref03_Check.l2] at H
                    by_cases c12 : 0 ≤ x5_2
                    · rw [if_pos c12] at H
                      have c12b0 : decide (0 ≤ x5_2) = true := decide_eq_true c12
                      clear c12
                      by_cases c13 : x5_2 < (l0.length : Int)
                      · rw [if_pos c13] at H
                        have c13b0 : decide (x5_2 < (l0.length : Int)) = true := decide_eq_true c13
                        clear c13
                        by_cases c14 : x6_3 < (((rd_T61 l0 x5_2).f3).length : Int)
                        · rw [if_pos c14] at H
                          have c14b0 : decide (x6_3 < (((rd_T61 l0 x5_2).f3).length : Int)) = true := decide_eq_true c14
                          clear c14
                          by_cases c15 : 0 ≤ x6_3
                          · rw [if_pos c15] at H
                            have c15b0 : decide (0 ≤ x6_3) = true := decide_eq_true c15
                            clear c15
                            replace H := Option.bind_eq_some_iff.mp H
                            obtain ⟨t343, A160, H⟩ := H
                            replace H : (if t343 < 0 then (some (5, (rd_T61 l0 x5_2).f0)) else (cosignerref03_Check.l2 k3 l0 x5_2 (wrap64 (x6_3 + 1)))) = some (r1, r2) := H
                            have A16 := Aside0.mk A160
                            clear A160
                            by_cases c17 : t343 < 0
                            · rw [if_pos c17] at H
                              have c17b0 : decide (t343 < 0) = true := decide_eq_true c17
                              clear c17
                              simp only [Option.some.injEq, Prod.mk.injEq] at H
                              obtain ⟨rfl, rfl⟩ := H
                              have p340 : 0 ≤ (x5_2 : Int) := of_decide_eq_true (by first | (with_reducible assumption) | assumption)
                              have q340 : x5_2 < (l0.length : Int) := of_decide_eq_true (by first | (with_reducible assumption) | assumption)
                              obtain ⟨ad340, A340_2, c340_2, A340_3, c340_3, A340_4, c340_4, A340_5, c340_5, A340_6, c340_6, e340, hx340_0, hx340_1, hx340_2, hx340_3, hx340_4, hx340_5, hx340_6, hl340_2, hi340_2, hl340_3, hi340_3, hl340_4, hi340_4, hl340_5, hi340_5, hl340_6, hi340_6⟩ := at_T61 HR0.out x5_2 p340 q340
                              cases e340
                              replace hx340_0 := (HB.out.cell (World.block_lt_of_cell? w _ hx340_0)).trans hx340_0
                              replace hx340_1 := (HB.out.cell (World.block_lt_of_cell? w _ hx340_1)).trans hx340_1
                              replace hx340_2 := (HB.out.cell (World.block_lt_of_cell? w _ hx340_2)).trans hx340_2
                              replace hx340_3 := (HB.out.cell (World.block_lt_of_cell? w _ hx340_3)).trans hx340_3
                              replace hx340_4 := (HB.out.cell (World.block_lt_of_cell? w _ hx340_4)).trans hx340_4
                              replace hx340_5 := (HB.out.cell (World.block_lt_of_cell? w _ hx340_5)).trans hx340_5
                              replace hx340_6 := (HB.out.cell (World.block_lt_of_cell? w _ hx340_6)).trans hx340_6
                              have HR340_2 := Aside0.mk hi340_2
                              have HC340_2 := Aside0.mk hl340_2
                              clear hi340_2 hl340_2
                              have HR340_3 := Aside0.mk hi340_3
                              have HC340_3 := Aside0.mk hl340_3
                              clear hi340_3 hl340_3
                              have HR340_4 := Aside0.mk hi340_4
                              have HC340_4 := Aside0.mk hl340_4
                              clear hi340_4 hl340_4
                              have HR340_5 := Aside0.mk hi340_5
                              have HC340_5 := Aside0.mk hl340_5
                              clear hi340_5 hl340_5
                              have HR340_6 := Aside0.mk hi340_6
                              have HC340_6 := Aside0.mk hl340_6
                              clear hi340_6 hl340_6
                              replace p340 := eq_true p340
                              replace q340 := eq_true q340
                              have p341 : 0 ≤ (x5_2 : Int) := of_decide_eq_true (by first | (with_reducible assumption) | assumption)
                              have q341 : x5_2 < (l0.length : Int) := of_decide_eq_true (by first | (with_reducible assumption) | assumption)
                              obtain ⟨ad341, A341_2, c341_2, A341_3, c341_3, A341_4, c341_4, A341_5, c341_5, A341_6, c341_6, e341, hx341_0, hx341_1, hx341_2, hx341_3, hx341_4, hx341_5, hx341_6, hl341_2, hi341_2, hl341_3, hi341_3, hl341_4, hi341_4, hl341_5, hi341_5, hl341_6, hi341_6⟩ := at_T61 HR0.out x5_2 p341 q341
                              obtain rfl : ad340 = ad341 := (by injection e341)
                              replace hx341_0 := (HB.out.cell (World.block_lt_of_cell? w _ hx341_0)).trans hx341_0
                              replace hx341_1 := (HB.out.cell (World.block_lt_of_cell? w _ hx341_1)).trans hx341_1
                              replace hx341_2 := (HB.out.cell (World.block_lt_of_cell? w _ hx341_2)).trans hx341_2
                              replace hx341_3 := (HB.out.cell (World.block_lt_of_cell? w _ hx341_3)).trans hx341_3
                              replace hx341_4 := (HB.out.cell (World.block_lt_of_cell? w _ hx341_4)).trans hx341_4
                              replace hx341_5 := (HB.out.cell (World.block_lt_of_cell? w _ hx341_5)).trans hx341_5
                              replace hx341_6 := (HB.out.cell (World.block_lt_of_cell? w _ hx341_6)).trans hx341_6
                              have HR341_2 := Aside0.mk hi341_2
                              have HC341_2 := Aside0.mk hl341_2
                              clear hi341_2 hl341_2
                              have HR341_3 := Aside0.mk hi341_3
                              have HC341_3 := Aside0.mk hl341_3
                              clear hi341_3 hl341_3
                              have HR341_4 := Aside0.mk hi341_4
                              have HC341_4 := Aside0.mk hl341_4
                              clear hi341_4 hl341_4
                              have HR341_5 := Aside0.mk hi341_5
                              have HC341_5 := Aside0.mk hl341_5
                              clear hi341_5 hl341_5
                              have HR341_6 := Aside0.mk hi341_6
                              have HC341_6 := Aside0.mk hl341_6
                              clear hi341_6 hl341_6
                              replace p341 := eq_true p341
                              replace q341 := eq_true q341
                              have ea_ := Option.some.inj (hx340_2.symm.trans hx341_2)
                              injection ea_ with ea_ en_ ec_
                              subst ea_
                              subst ec_
                              clear en_
                              have ea_ := Option.some.inj (hx340_3.symm.trans hx341_3)
                              injection ea_ with ea_ en_ ec_
                              subst ea_
                              subst ec_
                              clear en_
                              have ea_ := Option.some.inj (hx340_4.symm.trans hx341_4)
                              injection ea_ with ea_ en_ ec_
                              subst ea_
                              subst ec_
                              clear en_
                              have ea_ := Option.some.inj (hx340_5.symm.trans hx341_5)
                              injection ea_ with ea_ en_ ec_
                              subst ea_
                              subst ec_
                              clear en_
                              have ea_ := Option.some.inj (hx340_6.symm.trans hx341_6)
                              injection ea_ with ea_ en_ ec_
                              subst ea_
                              subst ec_
                              clear en_
                              have p342 : 0 ≤ (x6_3 : Int) := of_decide_eq_true (by first | (with_reducible assumption) | assumption)
                              have q342 : x6_3 < (((rd_T61 l0 x5_2).f3).length : Int) := of_decide_eq_true (by first | (with_reducible assumption) | assumption)
                              obtain ⟨ad342, A342_1, c342_1, A342_2, c342_2, A342_3, c342_3, A342_4, c342_4, A342_5, c342_5, e342, hx342_0, hx342_1, hx342_2, hx342_3, hx342_4, hx342_5, hl342_1, hi342_1, hl342_2, hi342_2, hl342_3, hi342_3, hl342_4, hi342_4, hl342_5, hi342_5⟩ := at_T65 HR341_3.out x6_3 p342 q342
                              cases e342
                              replace hx342_0 := (HB.out.cell (World.block_lt_of_cell? w _ hx342_0)).trans hx342_0
                              replace hx342_1 := (HB.out.cell (World.block_lt_of_cell? w _ hx342_1)).trans hx342_1
                              replace hx342_2 := (HB.out.cell (World.block_lt_of_cell? w _ hx342_2)).trans hx342_2
                              replace hx342_3 := (HB.out.cell (World.block_lt_of_cell? w _ hx342_3)).trans hx342_3
                              replace hx342_4 := (HB.out.cell (World.block_lt_of_cell? w _ hx342_4)).trans hx342_4
                              replace hx342_5 := (HB.out.cell (World.block_lt_of_cell? w _ hx342_5)).trans hx342_5
                              have HR342_1 := Aside0.mk hi342_1
                              have HC342_1 := Aside0.mk hl342_1
                              clear hi342_1 hl342_1
                              have HR342_2 := Aside0.mk hi342_2
                              have HC342_2 := Aside0.mk hl342_2
                              clear hi342_2 hl342_2
                              have HR342_3 := Aside0.mk hi342_3
                              have HC342_3 := Aside0.mk hl342_3
                              clear hi342_3 hl342_3
                              have HR342_4 := Aside0.mk hi342_4
                              have HC342_4 := Aside0.mk hl342_4
                              clear hi342_4 hl342_4
                              have HR342_5 := Aside0.mk hi342_5
                              have HC342_5 := Aside0.mk hl342_5
                              clear hi342_5 hl342_5
                              replace p342 := eq_true p342
                              replace q342 := eq_true q342
                              go_wp2_with (first | ((with_reducible refine gate_callee (f := 88) rfl ?_); refine goesL_ (some 56) rfl rfl Try.func88 (by kernel_rfl) rfl #[.slice (some ad340) l0.length c0, .string ((rd_T65 ((rd_T61 l0 x5_2).f3) x6_3).f0)] rfl (by (try simp only [List.map_toArray, List.map_cons, List.map_nil]); first | done | rfl | (simp only [List.length_drop, List.length_take]; rfl)) ?_; (with_reducible refine (cosignerref03_index.calls k3 _ _ l0 ((rd_T65 ((rd_T61 l0 x5_2).f3) x6_3).f0) t343 _ ?side1 ?side2 A16.out).mono ?_); (case side1 => repeat (first | exact (Kd.C_below HR0.out HB.out) | (with_reducible refine Kd.C_alloc ?_ _) | (with_reducible refine Kd.C_drewN ?_ _) | (with_reducible refine Kd.C_drew ?_))); (case side2 => exact HC0.out); rintro e w' ⟨rfl, ⟨nd, rfl⟩⟩; refine ⟨_, rfl, ?_⟩; (try (rw [drewN_self wr]; generalize hq_ : World.drewN wr _ = wr; have n0_ : Aside0 (wr.heap[gb333]? = some (.cells #[.int .i64 x334000_3, .string x334001_3] 87 (0, 0))) := ⟨by rw [← hq_]; exact (by (with_reducible repeat (first | refine blk_drewN ?_ _ | refine blk_drew ?_ | refine blk_alloc ?_ _)); exact BK333.out)⟩; have n1_ : Aside0 (Below w.heap.size w wr) := ⟨by rw [← hq_]; exact (by repeat (first | (with_reducible first | exact HB.out | apply below_alloc | apply pw_below_drewN | apply below_drew1 | refine below_set ?_ GE333.out) | exact HB.out))⟩; clear BK333 HB hq_; have BK333 := n0_; have HB := n1_; clear n0_ n1_)); have p344 : 0 ≤ (x5_2 : Int) := of_decide_eq_true (by first | (with_reducible assumption) | assumption); have q344 : x5_2 < (l0.length : Int) := of_decide_eq_true (by first | (with_reducible assumption) | assumption); obtain ⟨ad344, A344_2, c344_2, A344_3, c344_3, A344_4, c344_4, A344_5, c344_5, A344_6, c344_6, e344, hx344_0, hx344_1, hx344_2, hx344_3, hx344_4, hx344_5, hx344_6, hl344_2, hi344_2, hl344_3, hi344_3, hl344_4, hi344_4, hl344_5, hi344_5, hl344_6, hi344_6⟩ := at_T61 HR0.out x5_2 p344 q344; obtain rfl : ad340 = ad344 := (by injection e344); replace hx344_0 := (HB.out.cell (World.block_lt_of_cell? w _ hx344_0)).trans hx344_0; replace hx344_1 := (HB.out.cell (World.block_lt_of_cell? w _ hx344_1)).trans hx344_1; replace hx344_2 := (HB.out.cell (World.block_lt_of_cell? w _ hx344_2)).trans hx344_2; replace hx344_3 := (HB.out.cell (World.block_lt_of_cell? w _ hx344_3)).trans hx344_3; replace hx344_4 := (HB.out.cell (World.block_lt_of_cell? w _ hx344_4)).trans hx344_4; replace hx344_5 := (HB.out.cell (World.block_lt_of_cell? w _ hx344_5)).trans hx344_5; replace hx344_6 := (HB.out.cell (World.block_lt_of_cell? w _ hx344_6)).trans hx344_6; have HR344_2 := Aside0.mk hi344_2; have HC344_2 := Aside0.mk hl344_2; clear hi344_2 hl344_2; have HR344_3 := Aside0.mk hi344_3; have HC344_3 := Aside0.mk hl344_3; clear hi344_3 hl344_3; have HR344_4 := Aside0.mk hi344_4; have HC344_4 := Aside0.mk hl344_4; clear hi344_4 hl344_4; have HR344_5 := Aside0.mk hi344_5; have HC344_5 := Aside0.mk hl344_5; clear hi344_5 hl344_5; have HR344_6 := Aside0.mk hi344_6; have HC344_6 := Aside0.mk hl344_6; clear hi344_6 hl344_6; replace p344 := eq_true p344; replace q344 := eq_true q344; have hcz18_0 : wr.cell? ⟨gb333, 0, none⟩ = some (.int .i64 x334000_3) := (blk_cell BK333.out 0).trans rfl; have hcz18_1 : wr.cell? ⟨gb333, 1, none⟩ = some (.string x334001_3) := (blk_cell BK333.out 1).trans rfl; have hfz18_0 := blk_frozen BK333.out 0; have hfz18_1 := blk_frozen BK333.out 1))
                              refine bodyPost_ret (results_cell_row rfl _ _ gb333 87 #[.int .i64 5, .string ((rd_T61 l0 x5_2).f0)] (0, 0) _ rfl (by (with_reducible repeat (first | refine blk_drewN ?_ _ | refine blk_drew ?_ | refine blk_alloc ?_ _)); refine blk_put (cs := #[.int .i64 5, .string x334001_3]) ?_ 1 _ rfl; (with_reducible repeat (first | refine blk_drewN ?_ _ | refine blk_drew ?_ | refine blk_alloc ?_ _)); refine blk_put (cs := #[.int .i64 x334000_3, .string x334001_3]) ?_ 0 _ rfl; (with_reducible repeat (first | refine blk_drewN ?_ _ | refine blk_drew ?_ | refine blk_alloc ?_ _)); exact BK333.out) Try.underlying87 rfl (by kernel_rfl)) rfl ?_
                              exact ⟨by first | rfl | (simp [errW_none, errW_some] <;> rfl) | (simp [*, errW_none, errW_some] <;> rfl), by repeat (first | (with_reducible first | exact HB.out | apply below_alloc | apply pw_below_drewN | apply below_drew1 | refine below_set ?_ GE333.out) | exact HB.out)⟩
                            · rw [if_neg c17] at H
                              have c17b0 : decide (t343 < 0) = false := decide_eq_false c17
                              clear c17
                              have H' := Aside0.mk H
                              clear H
                              have p340 : 0 ≤ (x5_2 : Int) := of_decide_eq_true (by first | (with_reducible assumption) | assumption)
                              have q340 : x5_2 < (l0.length : Int) := of_decide_eq_true (by first | (with_reducible assumption) | assumption)
                              obtain ⟨ad340, A340_2, c340_2, A340_3, c340_3, A340_4, c340_4, A340_5, c340_5, A340_6, c340_6, e340, hx340_0, hx340_1, hx340_2, hx340_3, hx340_4, hx340_5, hx340_6, hl340_2, hi340_2, hl340_3, hi340_3, hl340_4, hi340_4, hl340_5, hi340_5, hl340_6, hi340_6⟩ := at_T61 HR0.out x5_2 p340 q340
                              cases e340
                              replace hx340_0 := (HB.out.cell (World.block_lt_of_cell? w _ hx340_0)).trans hx340_0
                              replace hx340_1 := (HB.out.cell (World.block_lt_of_cell? w _ hx340_1)).trans hx340_1
                              replace hx340_2 := (HB.out.cell (World.block_lt_of_cell? w _ hx340_2)).trans hx340_2
                              replace hx340_3 := (HB.out.cell (World.block_lt_of_cell? w _ hx340_3)).trans hx340_3
                              replace hx340_4 := (HB.out.cell (World.block_lt_of_cell? w _ hx340_4)).trans hx340_4
                              replace hx340_5 := (HB.out.cell (World.block_lt_of_cell? w _ hx340_5)).trans hx340_5
                              replace hx340_6 := (HB.out.cell (World.block_lt_of_cell? w _ hx340_6)).trans hx340_6
                              have HR340_2 := Aside0.mk hi340_2
                              have HC340_2 := Aside0.mk hl340_2
                              clear hi340_2 hl340_2
                              have HR340_3 := Aside0.mk hi340_3
                              have HC340_3 := Aside0.mk hl340_3
                              clear hi340_3 hl340_3
                              have HR340_4 := Aside0.mk hi340_4
                              have HC340_4 := Aside0.mk hl340_4
                              clear hi340_4 hl340_4
                              have HR340_5 := Aside0.mk hi340_5
                              have HC340_5 := Aside0.mk hl340_5
                              clear hi340_5 hl340_5
                              have HR340_6 := Aside0.mk hi340_6
                              have HC340_6 := Aside0.mk hl340_6
                              clear hi340_6 hl340_6
                              replace p340 := eq_true p340
                              replace q340 := eq_true q340
                              have p341 : 0 ≤ (x5_2 : Int) := of_decide_eq_true (by first | (with_reducible assumption) | assumption)
                              have q341 : x5_2 < (l0.length : Int) := of_decide_eq_true (by first | (with_reducible assumption) | assumption)
                              obtain ⟨ad341, A341_2, c341_2, A341_3, c341_3, A341_4, c341_4, A341_5, c341_5, A341_6, c341_6, e341, hx341_0, hx341_1, hx341_2, hx341_3, hx341_4, hx341_5, hx341_6, hl341_2, hi341_2, hl341_3, hi341_3, hl341_4, hi341_4, hl341_5, hi341_5, hl341_6, hi341_6⟩ := at_T61 HR0.out x5_2 p341 q341
                              obtain rfl : ad340 = ad341 := (by injection e341)
                              replace hx341_0 := (HB.out.cell (World.block_lt_of_cell? w _ hx341_0)).trans hx341_0
                              replace hx341_1 := (HB.out.cell (World.block_lt_of_cell? w _ hx341_1)).trans hx341_1
                              replace hx341_2 := (HB.out.cell (World.block_lt_of_cell? w _ hx341_2)).trans hx341_2
                              replace hx341_3 := (HB.out.cell (World.block_lt_of_cell? w _ hx341_3)).trans hx341_3
                              replace hx341_4 := (HB.out.cell (World.block_lt_of_cell? w _ hx341_4)).trans hx341_4
                              replace hx341_5 := (HB.out.cell (World.block_lt_of_cell? w _ hx341_5)).trans hx341_5
                              replace hx341_6 := (HB.out.cell (World.block_lt_of_cell? w _ hx341_6)).trans hx341_6
                              have HR341_2 := Aside0.mk hi341_2
                              have HC341_2 := Aside0.mk hl341_2
                              clear hi341_2 hl341_2
                              have HR341_3 := Aside0.mk hi341_3
                              have HC341_3 := Aside0.mk hl341_3
                              clear hi341_3 hl341_3
                              have HR341_4 := Aside0.mk hi341_4
                              have HC341_4 := Aside0.mk hl341_4
                              clear hi341_4 hl341_4
                              have HR341_5 := Aside0.mk hi341_5
                              have HC341_5 := Aside0.mk hl341_5
                              clear hi341_5 hl341_5
                              have HR341_6 := Aside0.mk hi341_6
                              have HC341_6 := Aside0.mk hl341_6
                              clear hi341_6 hl341_6
                              replace p341 := eq_true p341
                              replace q341 := eq_true q341
                              have ea_ := Option.some.inj (hx340_2.symm.trans hx341_2)
                              injection ea_ with ea_ en_ ec_
                              subst ea_
                              subst ec_
                              clear en_
                              have ea_ := Option.some.inj (hx340_3.symm.trans hx341_3)
                              injection ea_ with ea_ en_ ec_
                              subst ea_
                              subst ec_
                              clear en_
                              have ea_ := Option.some.inj (hx340_4.symm.trans hx341_4)
                              injection ea_ with ea_ en_ ec_
                              subst ea_
                              subst ec_
                              clear en_
                              have ea_ := Option.some.inj (hx340_5.symm.trans hx341_5)
                              injection ea_ with ea_ en_ ec_
                              subst ea_
                              subst ec_
                              clear en_
                              have ea_ := Option.some.inj (hx340_6.symm.trans hx341_6)
                              injection ea_ with ea_ en_ ec_
                              subst ea_
                              subst ec_
                              clear en_
                              have p342 : 0 ≤ (x6_3 : Int) := of_decide_eq_true (by first | (with_reducible assumption) | assumption)
                              have q342 : x6_3 < (((rd_T61 l0 x5_2).f3).length : Int) := of_decide_eq_true (by first | (with_reducible assumption) | assumption)
                              obtain ⟨ad342, A342_1, c342_1, A342_2, c342_2, A342_3, c342_3, A342_4, c342_4, A342_5, c342_5, e342, hx342_0, hx342_1, hx342_2, hx342_3, hx342_4, hx342_5, hl342_1, hi342_1, hl342_2, hi342_2, hl342_3, hi342_3, hl342_4, hi342_4, hl342_5, hi342_5⟩ := at_T65 HR341_3.out x6_3 p342 q342
                              cases e342
                              replace hx342_0 := (HB.out.cell (World.block_lt_of_cell? w _ hx342_0)).trans hx342_0
                              replace hx342_1 := (HB.out.cell (World.block_lt_of_cell? w _ hx342_1)).trans hx342_1
                              replace hx342_2 := (HB.out.cell (World.block_lt_of_cell? w _ hx342_2)).trans hx342_2
                              replace hx342_3 := (HB.out.cell (World.block_lt_of_cell? w _ hx342_3)).trans hx342_3
                              replace hx342_4 := (HB.out.cell (World.block_lt_of_cell? w _ hx342_4)).trans hx342_4
                              replace hx342_5 := (HB.out.cell (World.block_lt_of_cell? w _ hx342_5)).trans hx342_5
                              have HR342_1 := Aside0.mk hi342_1
                              have HC342_1 := Aside0.mk hl342_1
                              clear hi342_1 hl342_1
                              have HR342_2 := Aside0.mk hi342_2
                              have HC342_2 := Aside0.mk hl342_2
                              clear hi342_2 hl342_2
                              have HR342_3 := Aside0.mk hi342_3
                              have HC342_3 := Aside0.mk hl342_3
                              clear hi342_3 hl342_3
                              have HR342_4 := Aside0.mk hi342_4
                              have HC342_4 := Aside0.mk hl342_4
                              clear hi342_4 hl342_4
                              have HR342_5 := Aside0.mk hi342_5
                              have HC342_5 := Aside0.mk hl342_5
                              clear hi342_5 hl342_5
                              replace p342 := eq_true p342
                              replace q342 := eq_true q342
                              go_wp2_with (first | ((with_reducible refine gate_callee (f := 88) rfl ?_); refine goesL_ (some 56) rfl rfl Try.func88 (by kernel_rfl) rfl #[.slice (some ad340) l0.length c0, .string ((rd_T65 ((rd_T61 l0 x5_2).f3) x6_3).f0)] rfl (by (try simp only [List.map_toArray, List.map_cons, List.map_nil]); first | done | rfl | (simp only [List.length_drop, List.length_take]; rfl)) ?_; (with_reducible refine (cosignerref03_index.calls k3 _ _ l0 ((rd_T65 ((rd_T61 l0 x5_2).f3) x6_3).f0) t343 _ ?side1 ?side2 A16.out).mono ?_); (case side1 => repeat (first | exact (Kd.C_below HR0.out HB.out) | (with_reducible refine Kd.C_alloc ?_ _) | (with_reducible refine Kd.C_drewN ?_ _) | (with_reducible refine Kd.C_drew ?_))); (case side2 => exact HC0.out); rintro e w' ⟨rfl, ⟨nd, rfl⟩⟩; refine ⟨_, rfl, ?_⟩))
                              go_roundg k3
                              case measure => have := HK1.out; have := HK2.out; have := HK3.out; omega
                              case rel => exact ⟨(wrap64 (x6_3 + 1)), (x334000_3), (x334001_3), (by first | rfl | (simp; done) | (simp [*]; done)), H', ⟨by have := HK1.out; have := HK2.out; have := HK3.out; omega⟩, ⟨by (with_reducible repeat (first | refine blk_drewN ?_ _ | refine blk_drew ?_ | refine blk_alloc ?_ _)); exact BK333.out⟩, ⟨by repeat (first | (with_reducible first | exact HB.out | apply below_alloc | apply pw_below_drewN | apply below_drew1 | refine below_set ?_ GE333.out) | exact HB.out)⟩⟩
                          · rw [if_neg c15] at H
                            exact absurd H (by simp)
                        · rw [if_neg c14] at H
                          have c14b0 : decide (x6_3 < (((rd_T61 l0 x5_2).f3).length : Int)) = false := decide_eq_false c14
                          clear c14
                          have H' := Aside0.mk H
                          clear H
                          have p340 : 0 ≤ (x5_2 : Int) := of_decide_eq_true (by first | (with_reducible assumption) | assumption)
                          have q340 : x5_2 < (l0.length : Int) := of_decide_eq_true (by first | (with_reducible assumption) | assumption)
                          obtain ⟨ad340, A340_2, c340_2, A340_3, c340_3, A340_4, c340_4, A340_5, c340_5, A340_6, c340_6, e340, hx340_0, hx340_1, hx340_2, hx340_3, hx340_4, hx340_5, hx340_6, hl340_2, hi340_2, hl340_3, hi340_3, hl340_4, hi340_4, hl340_5, hi340_5, hl340_6, hi340_6⟩ := at_T61 HR0.out x5_2 p340 q340
                          cases e340
                          replace hx340_0 := (HB.out.cell (World.block_lt_of_cell? w _ hx340_0)).trans hx340_0
                          replace hx340_1 := (HB.out.cell (World.block_lt_of_cell? w _ hx340_1)).trans hx340_1
                          replace hx340_2 := (HB.out.cell (World.block_lt_of_cell? w _ hx340_2)).trans hx340_2
                          replace hx340_3 := (HB.out.cell (World.block_lt_of_cell? w _ hx340_3)).trans hx340_3
                          replace hx340_4 := (HB.out.cell (World.block_lt_of_cell? w _ hx340_4)).trans hx340_4
                          replace hx340_5 := (HB.out.cell (World.block_lt_of_cell? w _ hx340_5)).trans hx340_5
                          replace hx340_6 := (HB.out.cell (World.block_lt_of_cell? w _ hx340_6)).trans hx340_6
                          have HR340_2 := Aside0.mk hi340_2
                          have HC340_2 := Aside0.mk hl340_2
                          clear hi340_2 hl340_2
                          have HR340_3 := Aside0.mk hi340_3
                          have HC340_3 := Aside0.mk hl340_3
                          clear hi340_3 hl340_3
                          have HR340_4 := Aside0.mk hi340_4
                          have HC340_4 := Aside0.mk hl340_4
                          clear hi340_4 hl340_4
                          have HR340_5 := Aside0.mk hi340_5
                          have HC340_5 := Aside0.mk hl340_5
                          clear hi340_5 hl340_5
                          have HR340_6 := Aside0.mk hi340_6
                          have HC340_6 := Aside0.mk hl340_6
                          clear hi340_6 hl340_6
                          replace p340 := eq_true p340
                          replace q340 := eq_true q340
                          go_wp2
                          go_roundg k3
                          case measure => have := HK1.out; have := HK2.out; have := HK3.out; omega
                          case rel => exact ⟨(wrap64 (x5_2 + 1)), (x334000_3), (x334001_3), (by first | rfl | (simp; done) | (simp [*]; done)), H', ⟨by have := HK1.out; have := HK2.out; have := HK3.out; omega⟩, ⟨by (with_reducible repeat (first | refine blk_drewN ?_ _ | refine blk_drew ?_ | refine blk_alloc ?_ _)); exact BK333.out⟩, ⟨by repeat (first | (with_reducible first | exact HB.out | apply below_alloc | apply pw_below_drewN | apply below_drew1 | refine below_set ?_ GE333.out) | exact HB.out)⟩⟩
                      · rw [if_neg c13] at H
                        exact absurd H (by simp)
                    · rw [if_neg c12] at H
                      exact absurd H (by simp)
              · rw [if_neg c11] at H
                have c11b0 : decide (x5_2 < (l0.length : Int)) = false := decide_eq_false c11
                clear c11
                replace H := Option.bind_eq_some_iff.mp H
                obtain ⟨t336, A190, H⟩ := H
                replace H : (if (t336.length : Int) > 0 then (if 0 < (t336.length : Int) then (some (7, rdOf ByteArray.empty t336 0)) else (none)) else (some (0, (⟨#[]⟩ : ByteArray)))) = some (r1, r2) := H
                have A19 := Aside0.mk A190
                clear A190
                by_cases c20 : (t336.length : Int) > 0
                · rw [if_pos c20] at H
                  have c20b0 : decide (0 < (t336.length : Int)) = true := decide_eq_true c20
                  have c20b1 : decide (0 < t336.length) = true := decide_eq_true (by omega)
                  clear c20
                  by_cases c21 : 0 < (t336.length : Int)
                  · rw [if_pos c21] at H
                    have c21b0 : decide (0 < (t336.length : Int)) = true := decide_eq_true c21
                    have c21b1 : decide (0 < t336.length) = true := decide_eq_true (by omega)
                    clear c21
                    simp only [Option.some.injEq, Prod.mk.injEq] at H
                    obtain ⟨rfl, rfl⟩ := H
                    go_wp2_with (first | ((with_reducible refine gate_callee (f := 46) rfl ?_); refine goesL_ (some 65) rfl rfl Try.func46 (by kernel_rfl) rfl #[.slice A0 l0.length c0] rfl (by (try simp only [List.map_toArray, List.map_cons, List.map_nil]); first | done | rfl | (simp only [List.length_drop, List.length_take]; rfl)) ?_; (with_reducible refine (cosignerref03_Ring.calls _ _ l0 t336 _ ?side1 ?side2 A19.out).mono ?_); (case side1 => repeat (first | exact (Kd.C_below HR0.out HB.out) | (with_reducible refine Kd.C_alloc ?_ _) | (with_reducible refine Kd.C_drewN ?_ _) | (with_reducible refine Kd.C_drew ?_))); (case side2 => exact HC0.out); rintro e w22 ⟨v337, rfl, ho0, hb⟩; refine ⟨_, rfl, ?_⟩; have n0_ := Aside0.mk (Kd.R_lower ho0 (below_size (by repeat (first | (with_reducible first | exact HB.out | apply below_alloc | apply pw_below_drewN | apply below_drew1 | refine below_set ?_ GE333.out) | exact HB.out)))); have n1_ := Aside0.mk (blk_below (g := gb333) (o := .cells #[.int .i64 x334000_2, .string x334001_2] 87 (0, 0)) (by (with_reducible repeat (first | refine blk_drewN ?_ _ | refine blk_drew ?_ | refine blk_alloc ?_ _)); exact BK333.out) hb); have n2_ := Aside0.mk (below_step (by repeat (first | (with_reducible first | exact HB.out | apply below_alloc | apply pw_below_drewN | apply below_drew1 | refine below_set ?_ GE333.out) | exact HB.out)) hb); clear BK333; clear HB; have HO338 := n0_; have BK333 := n1_; have HB := n2_; clear n0_ n1_ n2_; (try clear hb); (try clear hb2); (try clear hk); (try clear hi); (try clear ho0); obtain ⟨Ao23, co23, eo23⟩ := Kd.R_slice HO338.out; subst eo23; have p339 : 0 ≤ (0 : Int) := (by omega); have q339 : 0 < (t336.length : Int) := of_decide_eq_true (by first | (with_reducible assumption) | assumption); obtain ⟨ad339, e339, hx339_0⟩ := Kd.at_string (Kd.R_reads' HO338.out).2.2 0 p339 q339; cases e339; have qi339 : (0 < t336.length) = True := eq_true (by omega); (try rw [show ((0 : Int)).toNat = 0 from rfl] at hx339_0); (try rw [Addr.add_zero'] at hx339_0); replace p339 := eq_true p339; replace q339 := eq_true q339; have hcz24_0 : w22.cell? ⟨gb333, 0, none⟩ = some (.int .i64 x334000_2) := (blk_cell BK333.out 0).trans rfl; have hcz24_1 : w22.cell? ⟨gb333, 1, none⟩ = some (.string x334001_2) := (blk_cell BK333.out 1).trans rfl; have hfz24_0 := blk_frozen BK333.out 0; have hfz24_1 := blk_frozen BK333.out 1))
                    refine bodyPost_ret (results_cell_row rfl _ _ gb333 87 #[.int .i64 7, .string (rdOf ByteArray.empty t336 0)] (0, 0) _ rfl (by (with_reducible repeat (first | refine blk_drewN ?_ _ | refine blk_drew ?_ | refine blk_alloc ?_ _)); refine blk_put (cs := #[.int .i64 7, .string x334001_2]) ?_ 1 _ rfl; (with_reducible repeat (first | refine blk_drewN ?_ _ | refine blk_drew ?_ | refine blk_alloc ?_ _)); refine blk_put (cs := #[.int .i64 x334000_2, .string x334001_2]) ?_ 0 _ rfl; (with_reducible repeat (first | refine blk_drewN ?_ _ | refine blk_drew ?_ | refine blk_alloc ?_ _)); exact BK333.out) Try.underlying87 rfl (by kernel_rfl)) rfl ?_
                    exact ⟨by first | rfl | (simp [errW_none, errW_some] <;> rfl) | (simp [*, errW_none, errW_some] <;> rfl), by repeat (first | (with_reducible first | exact HB.out | apply below_alloc | apply pw_below_drewN | apply below_drew1 | refine below_set ?_ GE333.out) | exact HB.out)⟩
                  · rw [if_neg c21] at H
                    exact absurd H (by simp)
                · rw [if_neg c20] at H
                  have c20b0 : decide (0 < (t336.length : Int)) = false := decide_eq_false c20
                  have c20b1 : decide (0 < t336.length) = false := decide_eq_false (by omega)
                  clear c20
                  simp only [Option.some.injEq, Prod.mk.injEq] at H
                  obtain ⟨rfl, rfl⟩ := H
                  go_wp2_with (first | ((with_reducible refine gate_callee (f := 46) rfl ?_); refine goesL_ (some 65) rfl rfl Try.func46 (by kernel_rfl) rfl #[.slice A0 l0.length c0] rfl (by (try simp only [List.map_toArray, List.map_cons, List.map_nil]); first | done | rfl | (simp only [List.length_drop, List.length_take]; rfl)) ?_; (with_reducible refine (cosignerref03_Ring.calls _ _ l0 t336 _ ?side1 ?side2 A19.out).mono ?_); (case side1 => repeat (first | exact (Kd.C_below HR0.out HB.out) | (with_reducible refine Kd.C_alloc ?_ _) | (with_reducible refine Kd.C_drewN ?_ _) | (with_reducible refine Kd.C_drew ?_))); (case side2 => exact HC0.out); rintro e w25 ⟨v337, rfl, ho0, hb⟩; refine ⟨_, rfl, ?_⟩; have n0_ := Aside0.mk (Kd.R_lower ho0 (below_size (by repeat (first | (with_reducible first | exact HB.out | apply below_alloc | apply pw_below_drewN | apply below_drew1 | refine below_set ?_ GE333.out) | exact HB.out)))); have n1_ := Aside0.mk (blk_below (g := gb333) (o := .cells #[.int .i64 x334000_2, .string x334001_2] 87 (0, 0)) (by (with_reducible repeat (first | refine blk_drewN ?_ _ | refine blk_drew ?_ | refine blk_alloc ?_ _)); exact BK333.out) hb); have n2_ := Aside0.mk (below_step (by repeat (first | (with_reducible first | exact HB.out | apply below_alloc | apply pw_below_drewN | apply below_drew1 | refine below_set ?_ GE333.out) | exact HB.out)) hb); clear BK333; clear HB; have HO338 := n0_; have BK333 := n1_; have HB := n2_; clear n0_ n1_ n2_; (try clear hb); (try clear hb2); (try clear hk); (try clear hi); (try clear ho0); obtain ⟨Ao26, co26, eo26⟩ := Kd.R_slice HO338.out; subst eo26; have hcz27_0 : w25.cell? ⟨gb333, 0, none⟩ = some (.int .i64 x334000_2) := (blk_cell BK333.out 0).trans rfl; have hcz27_1 : w25.cell? ⟨gb333, 1, none⟩ = some (.string x334001_2) := (blk_cell BK333.out 1).trans rfl; have hfz27_0 := blk_frozen BK333.out 0; have hfz27_1 := blk_frozen BK333.out 1))
                  refine bodyPost_ret (results_cell_row rfl _ _ gb333 87 #[.int .i64 0, .string (⟨#[]⟩ : ByteArray)] (0, 0) _ rfl (by (with_reducible repeat (first | refine blk_drewN ?_ _ | refine blk_drew ?_ | refine blk_alloc ?_ _)); refine blk_put (cs := #[.int .i64 0, .string x334001_2]) ?_ 1 _ rfl; (with_reducible repeat (first | refine blk_drewN ?_ _ | refine blk_drew ?_ | refine blk_alloc ?_ _)); refine blk_put (cs := #[.int .i64 x334000_2, .string x334001_2]) ?_ 0 _ rfl; (with_reducible repeat (first | refine blk_drewN ?_ _ | refine blk_drew ?_ | refine blk_alloc ?_ _)); exact BK333.out) Try.underlying87 rfl (by kernel_rfl)) rfl ?_
                  exact ⟨by first | rfl | (simp [errW_none, errW_some] <;> rfl) | (simp [*, errW_none, errW_some] <;> rfl), by repeat (first | (with_reducible first | exact HB.out | apply below_alloc | apply pw_below_drewN | apply below_drew1 | refine below_set ?_ GE333.out) | exact HB.out)⟩
def cosignerref03_Has.l0 : Nat → List ByteArray → ByteArray → Int → Option (Bool)
  | 0, _, _, _ => none
  | k + 1, x0, x1, x5 => if x5 < (x0.length : Int) then (if 0 ≤ x5 then (if (rdOf ByteArray.empty x0 x5).toList = x1.toList then (some true) else (cosignerref03_Has.l0 k x0 x1 (wrap64 (x5 + 1)))) else (none)) else (some false)
def cosignerref03_Has.f (k : Nat) (l0 : List ByteArray) (a1 : ByteArray) : Option (Bool) := cosignerref03_Has.l0 k l0 a1 0
set_option maxHeartbeats 8000000 in
set_option maxRecDepth 100000 in
theorem cosignerref03_Has.calls (k : Nat) (A0 : Option Addr) (c0 : Nat) (l0 : List ByteArray) (a1 : ByteArray) (r : Bool) (w : World) (hr0 : Kd.C Kd.string w A0 l0.length l0) (hc0 : l0.length ≤ c0) (h : cosignerref03_Has.f k l0 a1 = some r) :
    Calls Try.prog 60 #[.slice A0 l0.length c0, .string a1] w fun e w' => e = .returned (.bool r) ∧ Drawn0 w w' := by
  have HR0 := Aside0.mk hr0
  have HC0 := Aside0.mk hc0
  clear hr0 hc0
  have H : (cosignerref03_Has.l0 k l0 a1 0) = some r := h
  clear h
  have H' := Aside0.mk H
  clear H
  go_enter Try.func60, Try.ntmps60
  go_wp2
  go_loopg [5] k (fun kq v5 w' => ∃ (x5_1 : Int), v5 = .int .i64 x5_1 ∧ Aside0 (cosignerref03_Has.l0 kq l0 a1 x5_1 = some r) ∧ Aside0 (kq ≤ k) ∧ Drawn0 w w')
  case atStart => exact ⟨(0), (by first | rfl | (simp; done) | (simp [*]; done)), H', ⟨Nat.le_refl _⟩, by repeat (first | exact Drawn0.refl _ | apply Drawn0.step)⟩
  case round =>
    clear H'
    try clear p2
    obtain ⟨x5_1, rfl, HA, HK1, ⟨m1, rfl⟩⟩ := hrel
    cases gk with
    | zero => exact absurd HA.out (by simp [cosignerref03_Has.l0])
    | succ k1 =>
      have H := HA.out
      clear HA
      simp only [cosignerref03_Has.l0] at H
      by_cases c3 : x5_1 < (l0.length : Int)
      · rw [if_pos c3] at H
        have c3b0 : decide (x5_1 < (l0.length : Int)) = true := decide_eq_true c3
        clear c3
        by_cases c4 : 0 ≤ x5_1
        · rw [if_pos c4] at H
          have c4b0 : decide (0 ≤ x5_1) = true := decide_eq_true c4
          clear c4
          by_cases c5 : (rdOf ByteArray.empty l0 x5_1).toList = a1.toList
          · rw [if_pos c5] at H
            have c5b0 : ((rdOf ByteArray.empty l0 x5_1).toList == a1.toList) = true := beq_iff_eq.mpr c5
            have c5b1 : ((rdOf ByteArray.empty l0 x5_1).toList != a1.toList) = false := bne_eq_false_iff_eq.mpr c5
            clear c5
            obtain rfl := Option.some.inj H
            have p345 : 0 ≤ (x5_1 : Int) := of_decide_eq_true (by first | (with_reducible assumption) | assumption)
            have q345 : x5_1 < (l0.length : Int) := of_decide_eq_true (by first | (with_reducible assumption) | assumption)
            obtain ⟨ad345, e345, hx345_0⟩ := Kd.at_string HR0.out x5_1 p345 q345
            cases e345
            replace p345 := eq_true p345
            replace q345 := eq_true q345
            go_wp2
            go_ret
            exact ⟨by first | rfl | (simp; done) | (simp [*]; done), by repeat (first | exact Drawn0.refl _ | apply Drawn0.step)⟩
          · rw [if_neg c5] at H
            have c5b0 : ((rdOf ByteArray.empty l0 x5_1).toList == a1.toList) = false := beq_eq_false_iff_ne.mpr c5
            have c5b1 : ((rdOf ByteArray.empty l0 x5_1).toList != a1.toList) = true := bne_iff_ne.mpr c5
            have H' := Aside0.mk H
            clear H
            have p345 : 0 ≤ (x5_1 : Int) := of_decide_eq_true (by first | (with_reducible assumption) | assumption)
            have q345 : x5_1 < (l0.length : Int) := of_decide_eq_true (by first | (with_reducible assumption) | assumption)
            obtain ⟨ad345, e345, hx345_0⟩ := Kd.at_string HR0.out x5_1 p345 q345
            cases e345
            replace p345 := eq_true p345
            replace q345 := eq_true q345
            go_wp2
            go_roundg k1
            case measure => have := HK1.out; omega
            case rel => exact ⟨(wrap64 (x5_1 + 1)), (by first | rfl | (simp; done) | (simp [*]; done)), H', ⟨by have := HK1.out; omega⟩, by repeat (first | exact Drawn0.refl _ | apply Drawn0.step)⟩
        · rw [if_neg c4] at H
          exact absurd H (by simp)
      · rw [if_neg c3] at H
        have c3b0 : decide (x5_1 < (l0.length : Int)) = false := decide_eq_false c3
        clear c3
        obtain rfl := Option.some.inj H
        go_wp2
        go_ret
        exact ⟨by first | rfl | (simp; done) | (simp [*]; done), by repeat (first | exact Drawn0.refl _ | apply Drawn0.step)⟩
end Go.Proofs.Ytdljclokenoogaa.Hp
end
section
namespace Go.Proofs.Ytdljclokenoogaa.Hp
open Go.RowKit Go.Proofs.YtdljclokenoogaaW.PrintWords Go.Proofs.YtdljclokenoogaaW.PrintLast Go.Proofs.YtdljclokenoogaaW.PrintMore
attribute [local go_sem] max2_int min2_int max_two min_two max_three min_three max_four min_four
set_option linter.unusedVariables false
set_option linter.unusedSimpArgs false
mutual
def cosignerref03_CheckRing.j0 : Nat → List (S61) → List ByteArray → Bool → Option (Int)
  | 0, _, _, _ => none
  | k + 1, x0, x1, x15 => if x15 = true then (some 3) else (if (x1.length : Int) = 0 then (some 11) else (cosignerref03_CheckRing.l0 k x0 x1 0))
def cosignerref03_CheckRing.l0 : Nat → List (S61) → List ByteArray → Int → Option (Int)
  | 0, _, _, _ => none
  | k + 1, x0, x1, x5 => if x5 < (x1.length : Int) then (if 0 ≤ x5 then (if x5 ≤ (x1.length : Int) then ((cosignerref03_Has.f k (x1.take (x5 : Int).toNat) (rdOf ByteArray.empty x1 x5)).bind fun t423 => ((cosignerref03_parents.f k x0 (rdOf ByteArray.empty x1 x5)).bind fun t425 => (if (x1.length : Int) = 0 then (none) else (if 0 ≤ (Int.tmod (wrap64 (x5 + 1)) (x1.length : Int)) then (if (Int.tmod (wrap64 (x5 + 1)) (x1.length : Int)) < (x1.length : Int) then ((cosignerref03_Has.f k t425 (rdOf ByteArray.empty x1 (Int.tmod (wrap64 (x5 + 1)) (x1.length : Int)))).bind fun t429 => (if t423 = true then (some 11) else (if t429 = true then ((cosignerref03_index.f k x0 (rdOf ByteArray.empty x1 (Int.tmod (wrap64 (x5 + 1)) (x1.length : Int)))).bind fun t431 => (if t431 < 0 then (some 11) else (cosignerref03_CheckRing.l0 k x0 x1 (wrap64 (x5 + 1))))) else (some 11)))) else (none)) else (none))))) else (none)) else (none)) else (some 0)
end
def cosignerref03_CheckRing.f (k : Nat) (l0 : List (S61)) (l1 : List ByteArray) : Option (Int) := if (l0.length : Int) > 24 then (cosignerref03_CheckRing.j0 k l0 l1 true) else (cosignerref03_CheckRing.j0 k l0 l1 (decide ((l1.length : Int) > 24)))
def cosignerref03_CheckRing.T8 : Bool × List (List Nat × List Nat) := (true, [([], []), ([], []), ([0, 1], [0, 1]), ([], []), ([], []), ([3, 4], [3, 4]), ([5], [5]), ([2, 6], [2, 6]), ([7, 7, 0, 1, 2, 3, 4, 5, 6, 7], [7])])
def cosignerref03_CheckRing.B8 : List Nat := [0, 0, 3, 0, 0, 24, 56, 127, 255]
theorem cosignerref03_CheckRing.tab8 : rtab .any (opsOf Try.f48 8) = cosignerref03_CheckRing.T8 := by kernel_rfl
theorem cosignerref03_CheckRing.bits8 : waitsOk cosignerref03_CheckRing.T8.2 cosignerref03_CheckRing.B8 = true := by kernel_rfl
def cosignerref03_CheckRing.T9 : Bool × List (List Nat × List Nat) := (true, [([], []), ([], []), ([], []), ([1, 2], [1, 2]), ([3], [3]), ([0, 4], [0, 4]), ([], []), ([], []), ([7], [7]), ([], []), ([9], [9]), ([8, 10], [8, 10]), ([6, 11], [6, 11]), ([12], [12]), ([5, 13, 5], [5, 13]), ([14, 14, 0, 1, 2, 3, 4, 5, 6, 7, 8, 9, 10, 11, 12, 13, 14], [14])])
def cosignerref03_CheckRing.B9 : List Nat := [0, 0, 0, 6, 14, 31, 0, 0, 128, 0, 512, 1920, 4032, 8128, 16383, 32767]
theorem cosignerref03_CheckRing.tab9 : rtab .any (opsOf Try.f48 9) = cosignerref03_CheckRing.T9 := by kernel_rfl
theorem cosignerref03_CheckRing.bits9 : waitsOk cosignerref03_CheckRing.T9.2 cosignerref03_CheckRing.B9 = true := by kernel_rfl
set_option maxHeartbeats 8000000 in
set_option maxRecDepth 100000 in
theorem cosignerref03_CheckRing.calls (k : Nat) (A0 : Option Addr) (c0 : Nat) (l0 : List (S61)) (A1 : Option Addr) (c1 : Nat) (l1 : List ByteArray) (r : Int) (w : World) (hr0 : Kd.C k61 w A0 l0.length l0) (hc0 : l0.length ≤ c0) (hr1 : Kd.C Kd.string w A1 l1.length l1) (hc1 : l1.length ≤ c1) (h : cosignerref03_CheckRing.f k l0 l1 = some r) :
    Calls Try.prog 48 #[.slice A0 l0.length c0, .slice A1 l1.length c1] w fun e w' => e = .returned (.int .i64 r) ∧ Below w.heap.size w w' := by
  have HR0 := Aside0.mk hr0
  have HC0 := Aside0.mk hc0
  clear hr0 hc0
  have HR1 := Aside0.mk hr1
  have HC1 := Aside0.mk hc1
  clear hr1 hc1
  have HB := Aside0.mk (Below.refl w.heap.size w)
  have H : (if (l0.length : Int) > 24 then (cosignerref03_CheckRing.j0 k l0 l1 true) else (cosignerref03_CheckRing.j0 k l0 l1 (decide ((l1.length : Int) > 24)))) = some r := h
  clear h
  have HC3 := Aside0.mk H
  clear H
  go_enter Try.func48, Try.ntmps48
  go_upto_region 1 with (fail)
  go_cut [15] (fun v15 wc => ∃ (kq : Nat) (x15_2 : Bool), v15 = .bool x15_2 ∧ Aside0 (cosignerref03_CheckRing.j0 kq l0 l1 x15_2 = some r) ∧ Aside0 (kq ≤ k) ∧ Aside0 (Below w.heap.size w wc))
  case first =>
    have H := HC3.out
    clear HC3
    by_cases c4 : (l0.length : Int) > 24
    · rw [if_pos c4] at H
      have c4b0 : decide (24 < (l0.length : Int)) = true := decide_eq_true c4
      have c4b1 : decide (24 < l0.length) = true := decide_eq_true (by omega)
      clear c4
      (first | rw [c4b0] | (simp only [i64_w, i32_w]; rw [c4b0]) | skip)
      have H' := Aside0.mk H
      clear H
      go_wp2
      go_meet
      case rel => exact ⟨_, (true), (by first | rfl | (simp; done) | (simp [*]; done)), H', ⟨by first | omega | exact Nat.le_refl _⟩, ⟨by repeat (first | (with_reducible first | exact HB.out | apply below_alloc | apply pw_below_drewN | apply below_drew1) | exact HB.out)⟩⟩
    · rw [if_neg c4] at H
      have c4b0 : decide (24 < (l0.length : Int)) = false := decide_eq_false c4
      have c4b1 : decide (24 < l0.length) = false := decide_eq_false (by omega)
      clear c4
      (first | rw [c4b0] | (simp only [i64_w, i32_w]; rw [c4b0]) | skip)
      have H' := Aside0.mk H
      clear H
      go_wp2
      go_meet
      case rel => exact ⟨_, (decide ((l1.length : Int) > 24)), (by first | rfl | (simp; done) | (simp [*]; done)), H', ⟨by first | omega | exact Nat.le_refl _⟩, ⟨by repeat (first | (with_reducible first | exact HB.out | apply below_alloc | apply pw_below_drewN | apply below_drew1) | exact HB.out)⟩⟩
  case rest =>
    clear HC3
    try clear c1
    try clear p2
    try clear c4
    try clear c4b0
    try clear c4b1
    obtain ⟨kq, x15_2, rfl, HA, HJ2, HB⟩ := hcut
    cases kq with
    | zero => exact absurd HA.out (by simp [cosignerref03_CheckRing.j0])
    | succ kj2 =>
      have H := HA.out
      clear HA
      simp only [cosignerref03_CheckRing.j0] at H
      by_cases c5 : x15_2 = true
      · subst c5
        have H1 : (some 3) = some r := by rw [if_pos rfl] at H; exact H
        clear H
        have H := H1
        clear H1
        obtain rfl := Option.some.inj H
        go_wp2
        go_ret
        exact ⟨by first | rfl | (simp [errW_none, errW_some] <;> rfl) | (simp [*, errW_none, errW_some] <;> rfl), by repeat (first | (with_reducible first | exact HB.out | apply below_alloc | apply pw_below_drewN | apply below_drew1) | exact HB.out)⟩
      · replace c5 := Bool.eq_false_iff.mpr c5
        subst c5
        have H1 : (if (l1.length : Int) = 0 then (some 11) else (cosignerref03_CheckRing.l0 kj2 l0 l1 0)) = some r := by rw [if_neg (show ¬ (false = true) by decide)] at H; exact H
        clear H
        have H := H1
        clear H1
        by_cases c6 : (l1.length : Int) = 0
        · rw [if_pos c6] at H
          have c6b0 : ((l1.length : Int) == 0) = true := beq_iff_eq.mpr c6
          have c6b1 : ((l1.length : Int) != 0) = false := bne_eq_false_iff_eq.mpr c6
          clear c6
          obtain rfl := Option.some.inj H
          go_wp2
          go_ret
          exact ⟨by first | rfl | (simp [errW_none, errW_some] <;> rfl) | (simp [*, errW_none, errW_some] <;> rfl), by repeat (first | (with_reducible first | exact HB.out | apply below_alloc | apply pw_below_drewN | apply below_drew1) | exact HB.out)⟩
        · rw [if_neg c6] at H
          have c6b0 : ((l1.length : Int) == 0) = false := beq_eq_false_iff_ne.mpr c6
          have c6b1 : ((l1.length : Int) != 0) = true := bne_iff_ne.mpr c6
          have c6b2 : ¬ (l1 = []) := fun h_ => c6 (by rw [h_]; rfl)
          have H' := Aside0.mk H
          clear H
          go_wp2
          go_loopg [5] kj2 (fun kq v5 w' => ∃ (x5_2 : Int), v5 = .int .i64 x5_2 ∧ Aside0 (cosignerref03_CheckRing.l0 kq l0 l1 x5_2 = some r) ∧ Aside0 (kq ≤ kj2) ∧ Aside0 (Below w.heap.size w w'))
          case atStart => exact ⟨(0), (by first | rfl | (simp; done) | (simp [*]; done)), H', ⟨Nat.le_refl _⟩, ⟨by repeat (first | (with_reducible first | exact HB.out | apply below_alloc | apply pw_below_drewN | apply below_drew1) | exact HB.out)⟩⟩
          case round =>
            clear H'
            try clear c1
            try clear p2
            try clear c4
            try clear c4b0
            try clear c4b1
            try clear c5
            try clear c6
            try clear c6b0
            try clear c6b1
            try clear c6b2
            try clear p2
            obtain ⟨x5_2, rfl, HA, HK2, HB⟩ := hrel
            cases gk with
            | zero => exact absurd HA.out (by simp [cosignerref03_CheckRing.l0])
            | succ k2 =>
              have H := HA.out
              clear HA
              simp only [cosignerref03_CheckRing.l0] at H
              by_cases c7 : x5_2 < (l1.length : Int)
              · rw [if_pos c7] at H
                have c7b0 : decide (x5_2 < (l1.length : Int)) = true := decide_eq_true c7
                clear c7
                by_cases c8 : 0 ≤ x5_2
                · rw [if_pos c8] at H
                  have c8b0 := eq_true c8
                  have c8b1 : decide (0 ≤ x5_2) = true := decide_eq_true c8
                  clear c8
                  by_cases c9 : x5_2 ≤ (l1.length : Int)
                  · rw [if_pos c9] at H
                    have c9b0 := eq_true c9
                    have c9b1 : decide (x5_2 ≤ (l1.length : Int)) = true := decide_eq_true c9
                    clear c9
                    replace H := Option.bind_eq_some_iff.mp H
                    obtain ⟨t423, A100, H⟩ := H
                    replace H : ((cosignerref03_parents.f k2 l0 (rdOf ByteArray.empty l1 x5_2)).bind fun t425 => (if (l1.length : Int) = 0 then (none) else (if 0 ≤ (Int.tmod (wrap64 (x5_2 + 1)) (l1.length : Int)) then (if (Int.tmod (wrap64 (x5_2 + 1)) (l1.length : Int)) < (l1.length : Int) then ((cosignerref03_Has.f k2 t425 (rdOf ByteArray.empty l1 (Int.tmod (wrap64 (x5_2 + 1)) (l1.length : Int)))).bind fun t429 => (if t423 = true then (some 11) else (if t429 = true then ((cosignerref03_index.f k2 l0 (rdOf ByteArray.empty l1 (Int.tmod (wrap64 (x5_2 + 1)) (l1.length : Int)))).bind fun t431 => (if t431 < 0 then (some 11) else (cosignerref03_CheckRing.l0 k2 l0 l1 (wrap64 (x5_2 + 1))))) else (some 11)))) else (none)) else (none)))) = some r := H
                    have A10 := Aside0.mk A100
                    clear A100
                    replace H := Option.bind_eq_some_iff.mp H
                    obtain ⟨t425, A110, H⟩ := H
                    replace H : (if (l1.length : Int) = 0 then (none) else (if 0 ≤ (Int.tmod (wrap64 (x5_2 + 1)) (l1.length : Int)) then (if (Int.tmod (wrap64 (x5_2 + 1)) (l1.length : Int)) < (l1.length : Int) then ((cosignerref03_Has.f k2 t425 (rdOf ByteArray.empty l1 (Int.tmod (wrap64 (x5_2 + 1)) (l1.length : Int)))).bind fun t429 => (if t423 = true then (some 11) else (if t429 = true then ((cosignerref03_index.f k2 l0 (rdOf ByteArray.empty l1 (Int.tmod (wrap64 (x5_2 + 1)) (l1.length : Int)))).bind fun t431 => (if t431 < 0 then (some 11) else (cosignerref03_CheckRing.l0 k2 l0 l1 (wrap64 (x5_2 + 1))))) else (some 11)))) else (none)) else (none))) = some r := H
                    have A11 := Aside0.mk A110
                    clear A110
                    by_cases c12 : (l1.length : Int) = 0
                    · rw [if_pos c12] at H
                      exact absurd H (by simp)
                    · rw [if_neg c12] at H
                      have c12b0 : ((l1.length : Int) == 0) = false := beq_eq_false_iff_ne.mpr c12
                      have c12b1 : ((l1.length : Int) != 0) = true := bne_iff_ne.mpr c12
                      have c12b2 : ¬ (l1 = []) := fun h_ => c12 (by rw [h_]; rfl)
                      obtain ⟨ji13, hji13⟩ : ∃ j_ : Int, (Int.tmod (wrap64 (x5_2 + 1)) (l1.length : Int)) = j_ := ⟨_, rfl⟩
                      replace H : (if 0 ≤ (ji13) then (if (ji13) < (l1.length : Int) then ((cosignerref03_Has.f k2 t425 (rdOf ByteArray.empty l1 (ji13))).bind fun t429 => (if t423 = true then (some 11) else (if t429 = true then ((cosignerref03_index.f k2 l0 (rdOf ByteArray.empty l1 (ji13))).bind fun t431 => (if t431 < 0 then (some 11) else (cosignerref03_CheckRing.l0 k2 l0 l1 (wrap64 (x5_2 + 1))))) else (some 11)))) else (none)) else (none)) = some r := by first | (rw [hji13] at H; exact H) | (simp only [hji13] at H ⊢; exact H)
                      (try rw [hji13] at A10)
                      (try rw [hji13] at A11)
                      by_cases c14 : 0 ≤ (ji13)
                      · rw [if_pos c14] at H
                        have c14b0 : decide (0 ≤ (ji13)) = true := decide_eq_true c14
                        clear c14
                        by_cases c15 : (ji13) < (l1.length : Int)
                        · rw [if_pos c15] at H
                          have c15b0 : decide ((ji13) < (l1.length : Int)) = true := decide_eq_true c15
                          clear c15
                          replace H := Option.bind_eq_some_iff.mp H
                          obtain ⟨t429, A160, H⟩ := H
                          replace H : (if t423 = true then (some 11) else (if t429 = true then ((cosignerref03_index.f k2 l0 (rdOf ByteArray.empty l1 (ji13))).bind fun t431 => (if t431 < 0 then (some 11) else (cosignerref03_CheckRing.l0 k2 l0 l1 (wrap64 (x5_2 + 1))))) else (some 11))) = some r := H
                          have A16 := Aside0.mk A160
                          clear A160
                          by_cases c17 : t423 = true
                          · subst c17
                            have H1 : (some 11) = some r := by rw [if_pos rfl] at H; exact H
                            clear H
                            have H := H1
                            clear H1
                            obtain rfl := Option.some.inj H
                            try go_wp2
                            have n0_ := Aside0.mk (below_drew1 HB.out)
                            clear HB
                            have HB := n0_
                            clear n0_
                            obtain ⟨i019, hi019, _, hsz19, _⟩ := info_parts info9
                            obtain ⟨hcut19, hA19, hC19⟩ := print_take_of (P := Try.prog) Value.string (⟨#[]⟩ : ByteArray) 25 9 .i64 Try.underlying25 hi019 hsz19 A1 c1 l1 x5_2 (of_decide_eq_true (by first | (with_reducible assumption) | assumption)) (of_decide_eq_true (by first | (with_reducible assumption) | assumption)) HC1.out
                            have HR421 := Aside0.mk (Kd.C_of_reads (h1 := fun _ => rfl) (hA19 _ (Kd.reads_of_C HR1.out)))
                            have HC421 := Aside0.mk hC19
                            clear hA19 hC19 hi019 hsz19
                            have p422 : 0 ≤ (x5_2 : Int) := of_decide_eq_true (by first | (with_reducible assumption) | assumption)
                            have q422 : x5_2 < (l1.length : Int) := of_decide_eq_true (by first | (with_reducible assumption) | assumption)
                            obtain ⟨ad422, e422, hx422_0⟩ := Kd.at_string HR1.out x5_2 p422 q422
                            have hw422_0 := hx422_0
                            cases e422
                            replace hx422_0 := (HB.out.cell (World.block_lt_of_cell? w _ hx422_0)).trans hx422_0
                            replace p422 := eq_true p422
                            replace q422 := eq_true q422
                            refine start_ (n := 9) (S := fun w' => w'.cell? (ad422.add (x5_2).toNat) = some (.string (rdOf ByteArray.empty l1 x5_2))) (ds := []) #[false, false, false, false, false, false, false, false, false] (by kernel_rfl) rfl rfl (((HB.out.cell (World.block_lt_of_cell? w _ hw422_0)).trans hw422_0)) (fun hHeld => ?_); refine with_tabW cosignerref03_CheckRing.tab8 cosignerref03_CheckRing.bits8 (fun HT_ HW_ => ?_)
                            generalize wr.drew = w18 at HB HR421 hx422_0 hHeld ⊢
                            refine pure_ (i := 0) (N := some 25) (v := ?_) (a' := ?_) #[true, false, false, false, false, false, false, false, false] rfl rfl (any_of HT_.out (by kernel_rfl)) (fun _ _ _ h => h) (Or.inl ⟨by rfl, ?_⟩) ?_ ?_
                            rotate_left
                            · intro w'
                              go_simp
                              with_reducible rfl
                            rotate_left
                            · simp only [Act.put, List.setIfInBounds_toArray, List.set_cons_zero, List.set_cons_succ, i64_w, i32_w]
                              rfl
                            refine pure_ (i := 1) (N := some 26) (v := ?_) (a' := ?_) #[true, true, false, false, false, false, false, false, false] rfl rfl (any_of HT_.out (by kernel_rfl)) (fun _ _ _ h => h) (Or.inl ⟨by rfl, ?_⟩) ?_ ?_
                            rotate_left
                            · intro w'
                              go_simp
                              with_reducible rfl
                            rotate_left
                            · simp only [Act.put, List.setIfInBounds_toArray, List.set_cons_zero, List.set_cons_succ, i64_w, i32_w]
                              rfl
                            refine pure_ (i := 2) (N := some 27) (v := ?_) (a' := ?_) #[true, true, true, false, false, false, false, false, false] rfl rfl (any_of HT_.out (by kernel_rfl)) (fun _ _ _ h => h) (Or.inl ⟨by rfl, ?_⟩) ?_ ?_
                            rotate_left
                            · intro w'
                              go_simp
                              with_reducible rfl
                            rotate_left
                            · simp only [Act.put, List.setIfInBounds_toArray, List.set_cons_zero, List.set_cons_succ, i64_w, i32_w]
                              rfl
                            refine pure_ (i := 3) (N := some 28) (v := ?_) (a' := ?_) #[true, true, true, true, false, false, false, false, false] rfl rfl (any_of HT_.out (by kernel_rfl)) (fun _ _ _ h => h) (Or.inl ⟨by rfl, ?_⟩) ?_ ?_
                            rotate_left
                            · intro w'
                              go_simp
                              with_reducible rfl
                            rotate_left
                            · simp only [Act.put, List.setIfInBounds_toArray, List.set_cons_zero, List.set_cons_succ, i64_w, i32_w]
                              rfl
                            refine pure_ (i := 4) (N := some 29) (v := ?_) (a' := ?_) #[true, true, true, true, true, false, false, false, false] rfl rfl (any_of HT_.out (by kernel_rfl)) (fun _ _ _ h => h) (Or.inl ⟨by rfl, ?_⟩) ?_ ?_
                            rotate_left
                            · intro w'
                              go_simp
                              with_reducible rfl
                            rotate_left
                            · simp only [Act.put, List.setIfInBounds_toArray, List.set_cons_zero, List.set_cons_succ, i64_w, i32_w]
                              rfl
                            refine pure_ (i := 5) (N := some 30) (v := ?_) (a' := ?_) #[true, true, true, true, true, true, false, false, false] rfl rfl (any_of HT_.out (by kernel_rfl)) (fun _ _ _ h => h) (Or.inl ⟨by rfl, ?_⟩) ?_ ?_
                            rotate_left
                            · intro w'
                              go_simp
                              with_reducible rfl
                            rotate_left
                            · simp only [Act.put, List.setIfInBounds_toArray, List.set_cons_zero, List.set_cons_succ, i64_w, i32_w]
                              rfl
                            refine take_ (i := 6) (N := some 31) (v := ?_) (a' := ?_) #[true, true, true, true, true, true, true, false, false] rfl rfl (take_ofW HT_.out HW_.out (by kernel_rfl)) (fun _ _ _ h => h) (Or.inl ⟨by rfl, ?_⟩) hHeld ?_ ?_
                            rotate_left
                            · intro w' s0
                              go_simp
                              with_reducible rfl
                            rotate_left
                            · simp only [Act.put, List.setIfInBounds_toArray, List.set_cons_zero, List.set_cons_succ, i64_w, i32_w]
                              rfl
                            refine one_ (i := 7) (N := some 32) #[true, true, true, true, true, true, true, true, false] rfl rfl (one_of HT_.out (by kernel_rfl)) (by decide) (fun K hK => ?_)
                            refine goes_ Try.func60 (by kernel_rfl) rfl #[.slice (some ad422) (l1.take (x5_2 : Int).toNat).length c1, .string (rdOf ByteArray.empty l1 x5_2)] (by rfl) rfl rfl (by (try simp only [List.map_toArray, List.map_cons, List.map_nil]); first | done | (rw [show (l1.take (x5_2 : Int).toNat).length = x5_2.toNat from (by rw [List.length_take]; have h_ : (x5_2 : Int) ≤ (l1.length : Int) := of_decide_eq_true (by first | (with_reducible assumption) | assumption); omega)] <;> rfl) | rfl | (simp only [List.length_drop, List.length_take]; rfl)) ?_
                            with_reducible refine (cosignerref03_Has.calls k2 _ _ (l1.take (x5_2 : Int).toNat) (rdOf ByteArray.empty l1 x5_2) true _ ?side1 ?side2 A10.out).mono ?_
                            (case side1 => repeat (first | exact (Kd.C_below HR421.out HB.out) | (with_reducible refine Kd.C_alloc ?_ _) | (with_reducible refine Kd.C_drewN ?_ _) | (with_reducible refine Kd.C_drew ?_)))
                            (case side2 => exact HC421.out)
                            rintro e w' ⟨rfl, ⟨nd, rfl⟩⟩
                            refine ⟨_, rfl, ?_⟩
                            refine hK.out _ _ (((HB.out.cell (World.block_lt_of_cell? w _ hw422_0)).trans hw422_0)) (fun hHeld => ?_)
                            clear hK K
                            refine norm_ (a' := ?_) ?_ ?_
                            rotate_left
                            · show Act.put _ (some 32) _ = _
                              simp only [Act.put, List.setIfInBounds_toArray, List.set_cons_zero, List.set_cons_succ, i64_w, i32_w]
                              rfl
                            refine pure_ (i := 8) (N := some 6) (v := ?_) (a' := ?_) #[true, true, true, true, true, true, true, true, true] rfl rfl (any_of HT_.out (by kernel_rfl)) (fun _ _ _ h => h) (Or.inl ⟨by rfl, ?_⟩) ?_ ?_
                            rotate_left
                            · intro w'
                              go_simp
                              with_reducible rfl
                            rotate_left
                            · simp only [Act.put, List.setIfInBounds_toArray, List.set_cons_zero, List.set_cons_succ, i64_w, i32_w]
                              rfl
                            refine done_ (done_of HT_.out (by kernel_rfl)) ?_
                            try go_wp2
                            (try (rw [drewN_self w18]; generalize hq_ : World.drewN w18 _ = w18; have n0_ : Aside0 (Below w.heap.size w w18) := ⟨by rw [← hq_]; exact (by repeat (first | (with_reducible first | exact HB.out | apply below_alloc | apply pw_below_drewN | apply below_drew1) | exact HB.out))⟩; clear HB hq_; have HB := n0_; clear n0_))
                            have n0_ := Aside0.mk (below_drew1 HB.out)
                            clear HB
                            have HB := n0_
                            clear n0_
                            have p424 : 0 ≤ (x5_2 : Int) := of_decide_eq_true (by first | (with_reducible assumption) | assumption)
                            have q424 : x5_2 < (l1.length : Int) := of_decide_eq_true (by first | (with_reducible assumption) | assumption)
                            obtain ⟨ad424, e424, hx424_0⟩ := Kd.at_string HR1.out x5_2 p424 q424
                            have hw424_0 := hx424_0
                            obtain rfl : ad422 = ad424 := (by injection e424)
                            replace hx424_0 := (HB.out.cell (World.block_lt_of_cell? w _ hx424_0)).trans hx424_0
                            replace p424 := eq_true p424
                            replace q424 := eq_true q424
                            have p428 : 0 ≤ ((ji13) : Int) := of_decide_eq_true (by first | (with_reducible assumption) | assumption)
                            have q428 : (ji13) < (l1.length : Int) := of_decide_eq_true (by first | (with_reducible assumption) | assumption)
                            obtain ⟨ad428, e428, hx428_0⟩ := Kd.at_string HR1.out (ji13) p428 q428
                            have hw428_0 := hx428_0
                            obtain rfl : ad422 = ad428 := (by injection e428)
                            replace hx428_0 := (HB.out.cell (World.block_lt_of_cell? w _ hx428_0)).trans hx428_0
                            replace p428 := eq_true p428
                            replace q428 := eq_true q428
                            refine start_ (n := 16) (S := fun w' => w'.cell? (ad422.add (x5_2).toNat) = some (.string (rdOf ByteArray.empty l1 x5_2)) ∧ w'.cell? (ad422.add ((ji13)).toNat) = some (.string (rdOf ByteArray.empty l1 (ji13)))) (ds := []) #[false, false, false, false, false, false, false, false, false, false, false, false, false, false, false, false] (by kernel_rfl) rfl rfl ⟨((HB.out.cell (World.block_lt_of_cell? w _ hw424_0)).trans hw424_0), ((HB.out.cell (World.block_lt_of_cell? w _ hw428_0)).trans hw428_0)⟩ (fun hHeld => ?_); refine with_tabW cosignerref03_CheckRing.tab9 cosignerref03_CheckRing.bits9 (fun HT_ HW_ => ?_)
                            generalize w18.drew = w20 at HB hx424_0 hx428_0 hHeld ⊢
                            refine pure_ (i := 0) (N := some 33) (v := ?_) (a' := ?_) #[true, false, false, false, false, false, false, false, false, false, false, false, false, false, false, false] rfl rfl (any_of HT_.out (by kernel_rfl)) (fun _ _ _ h => h) (Or.inl ⟨by rfl, ?_⟩) ?_ ?_
                            rotate_left
                            · intro w'
                              go_simp
                              with_reducible rfl
                            rotate_left
                            · simp only [Act.put, List.setIfInBounds_toArray, List.set_cons_zero, List.set_cons_succ, i64_w, i32_w]
                              rfl
                            refine pure_ (i := 1) (N := some 34) (v := ?_) (a' := ?_) #[true, true, false, false, false, false, false, false, false, false, false, false, false, false, false, false] rfl rfl (any_of HT_.out (by kernel_rfl)) (fun _ _ _ h => h) (Or.inl ⟨by rfl, ?_⟩) ?_ ?_
                            rotate_left
                            · intro w'
                              go_simp
                              with_reducible rfl
                            rotate_left
                            · simp only [Act.put, List.setIfInBounds_toArray, List.set_cons_zero, List.set_cons_succ, i64_w, i32_w]
                              rfl
                            refine pure_ (i := 2) (N := some 35) (v := ?_) (a' := ?_) #[true, true, true, false, false, false, false, false, false, false, false, false, false, false, false, false] rfl rfl (any_of HT_.out (by kernel_rfl)) (fun _ _ _ h => h) (Or.inl ⟨by rfl, ?_⟩) ?_ ?_
                            rotate_left
                            · intro w'
                              go_simp
                              with_reducible rfl
                            rotate_left
                            · simp only [Act.put, List.setIfInBounds_toArray, List.set_cons_zero, List.set_cons_succ, i64_w, i32_w]
                              rfl
                            refine pure_ (i := 3) (N := some 36) (v := ?_) (a' := ?_) #[true, true, true, true, false, false, false, false, false, false, false, false, false, false, false, false] rfl rfl (any_of HT_.out (by kernel_rfl)) (fun _ _ _ h => h) (Or.inl ⟨by rfl, ?_⟩) ?_ ?_
                            rotate_left
                            · intro w'
                              go_simp
                              with_reducible rfl
                            rotate_left
                            · simp only [Act.put, List.setIfInBounds_toArray, List.set_cons_zero, List.set_cons_succ, i64_w, i32_w]
                              rfl
                            refine pure_ (i := 6) (N := some 39) (v := ?_) (a' := ?_) #[true, true, true, true, false, false, true, false, false, false, false, false, false, false, false, false] rfl rfl (any_of HT_.out (by kernel_rfl)) (fun _ _ _ h => h) (Or.inl ⟨by rfl, ?_⟩) ?_ ?_
                            rotate_left
                            · intro w'
                              go_simp
                              with_reducible rfl
                            rotate_left
                            · simp only [Act.put, List.setIfInBounds_toArray, List.set_cons_zero, List.set_cons_succ, i64_w, i32_w]
                              rfl
                            refine pure_ (i := 7) (N := some 40) (v := ?_) (a' := ?_) #[true, true, true, true, false, false, true, true, false, false, false, false, false, false, false, false] rfl rfl (any_of HT_.out (by kernel_rfl)) (fun _ _ _ h => h) (Or.inl ⟨by rfl, ?_⟩) ?_ ?_
                            rotate_left
                            · intro w'
                              go_simp
                              with_reducible rfl
                            rotate_left
                            · simp only [Act.put, List.setIfInBounds_toArray, List.set_cons_zero, List.set_cons_succ, i64_w, i32_w]
                              rfl
                            refine pure_ (i := 8) (N := some 41) (v := ?_) (a' := ?_) #[true, true, true, true, false, false, true, true, true, false, false, false, false, false, false, false] rfl rfl (any_of HT_.out (by kernel_rfl)) (fun _ _ _ h => h) (Or.inl ⟨by rfl, ?_⟩) ?_ ?_
                            rotate_left
                            · intro w'
                              go_simp
                              with_reducible rfl
                            rotate_left
                            · simp only [Act.put, List.setIfInBounds_toArray, List.set_cons_zero, List.set_cons_succ, i64_w, i32_w]
                              rfl
                            refine pure_ (i := 9) (N := some 42) (v := ?_) (a' := ?_) #[true, true, true, true, false, false, true, true, true, true, false, false, false, false, false, false] rfl rfl (any_of HT_.out (by kernel_rfl)) (fun _ _ _ h => h) (Or.inl ⟨by rfl, ?_⟩) ?_ ?_
                            rotate_left
                            · intro w'
                              go_simp
                              with_reducible rfl
                            rotate_left
                            · simp only [Act.put, List.setIfInBounds_toArray, List.set_cons_zero, List.set_cons_succ, i64_w, i32_w]
                              rfl
                            refine pure_ (i := 10) (N := some 43) (v := ?_) (a' := ?_) #[true, true, true, true, false, false, true, true, true, true, true, false, false, false, false, false] rfl rfl (any_of HT_.out (by kernel_rfl)) (fun _ _ _ h => h) (Or.inl ⟨by rfl, ?_⟩) ?_ ?_
                            rotate_left
                            · intro w'
                              go_simp
                              with_reducible rfl
                            rotate_left
                            · simp only [Act.put, List.setIfInBounds_toArray, List.set_cons_zero, List.set_cons_succ, i64_w, i32_w]
                              rfl
                            refine pure_ (i := 11) (N := some 44) (v := ?_) (a' := ?_) #[true, true, true, true, false, false, true, true, true, true, true, true, false, false, false, false] rfl rfl (any_of HT_.out (by kernel_rfl)) (fun _ _ _ h => h) (Or.inl ⟨by rfl, ?_⟩) ?_ ?_
                            rotate_left
                            · intro w'
                              go_simp
                              with_reducible rfl
                            rotate_left
                            · simp only [Act.put, List.setIfInBounds_toArray, List.set_cons_zero, List.set_cons_succ, i64_w, i32_w]
                              rfl
                            refine pure_ (i := 12) (N := some 45) (v := ?_) (a' := ?_) #[true, true, true, true, false, false, true, true, true, true, true, true, true, false, false, false] rfl rfl (any_of HT_.out (by kernel_rfl)) (fun _ _ _ h => h) (Or.inl ⟨by rfl, ?_⟩) ?_ ?_
                            rotate_left
                            · intro w'
                              go_simp
                              with_reducible rfl
                            rotate_left
                            · simp only [Act.put, List.setIfInBounds_toArray, List.set_cons_zero, List.set_cons_succ, i64_w, i32_w]
                              rfl
                            refine take_ (i := 4) (N := some 37) (v := ?_) (a' := ?_) #[true, true, true, true, true, false, true, true, true, true, true, true, true, false, false, false] rfl rfl (take_ofW HT_.out HW_.out (by kernel_rfl)) (fun _ _ _ h => h) (Or.inl ⟨by rfl, ?_⟩) hHeld ?_ ?_
                            rotate_left
                            · rintro w' ⟨s0, s1⟩
                              go_simp
                              with_reducible rfl
                            rotate_left
                            · simp only [Act.put, List.setIfInBounds_toArray, List.set_cons_zero, List.set_cons_succ, i64_w, i32_w]
                              rfl
                            refine take_ (i := 13) (N := some 46) (v := ?_) (a' := ?_) #[true, true, true, true, true, false, true, true, true, true, true, true, true, true, false, false] rfl rfl (take_ofW HT_.out HW_.out (by kernel_rfl)) (fun _ _ _ h => h) (Or.inl ⟨by rfl, ?_⟩) hHeld ?_ ?_
                            rotate_left
                            · rintro w' ⟨s0, s1⟩
                              go_simp
                              with_reducible rfl
                            rotate_left
                            · simp only [Act.put, List.setIfInBounds_toArray, List.set_cons_zero, List.set_cons_succ, i64_w, i32_w]
                              rfl
                            refine one_ (i := 5) (N := some 38) #[true, true, true, true, true, true, true, true, true, true, true, true, true, true, false, false] rfl rfl (one_of HT_.out (by kernel_rfl)) (by decide) (fun K hK => ?_)
                            refine goes_ Try.func62 (by kernel_rfl) rfl #[.slice A0 l0.length c0, .string (rdOf ByteArray.empty l1 x5_2)] (by rfl) rfl rfl (by (try simp only [List.map_toArray, List.map_cons, List.map_nil]); first | done | rfl | (simp only [List.length_drop, List.length_take]; rfl)) ?_
                            with_reducible refine (cosignerref03_parents.calls k2 _ _ l0 (rdOf ByteArray.empty l1 x5_2) t425 _ ?side1 ?side2 A11.out).mono ?_
                            (case side1 => repeat (first | exact (Kd.C_below HR0.out HB.out) | (with_reducible refine Kd.C_alloc ?_ _) | (with_reducible refine Kd.C_drewN ?_ _) | (with_reducible refine Kd.C_drew ?_)))
                            (case side2 => exact HC0.out)
                            rintro e w21 ⟨v426, rfl, ho0, hb⟩
                            refine ⟨_, rfl, ?_⟩
                            have n0_ := Aside0.mk (Kd.R_lower ho0 (below_size (by repeat (first | (with_reducible first | exact HB.out | apply below_alloc | apply pw_below_drewN | apply below_drew1) | exact HB.out))))
                            have n1_ := Aside0.mk (below_step (by repeat (first | (with_reducible first | exact HB.out | apply below_alloc | apply pw_below_drewN | apply below_drew1) | exact HB.out)) hb)
                            clear HB
                            have HO427 := n0_
                            have HB := n1_
                            clear n0_ n1_
                            (try clear hb)
                            (try clear hb2)
                            (try clear hk)
                            (try clear hi)
                            (try clear ho0)
                            obtain ⟨Ao22, co22, eo22⟩ := Kd.R_slice HO427.out
                            (first | subst eo22 | (injection eo22 with f1_ f2_ f3_; have f4_ := f1_.symm; have f5_ := f3_.symm; clear f1_ f2_ f3_; subst f4_; subst f5_))
                            refine hK.out _ _ ⟨((HB.out.cell (World.block_lt_of_cell? w _ hw424_0)).trans hw424_0), ((HB.out.cell (World.block_lt_of_cell? w _ hw428_0)).trans hw428_0)⟩ (fun hHeld => ?_)
                            clear hK K
                            refine norm_ (a' := ?_) ?_ ?_
                            rotate_left
                            · show Act.put _ (some 38) _ = _
                              simp only [Act.put, List.setIfInBounds_toArray, List.set_cons_zero, List.set_cons_succ, i64_w, i32_w]
                              rfl
                            refine one_ (i := 14) (N := some 47) #[true, true, true, true, true, true, true, true, true, true, true, true, true, true, true, false] rfl rfl (one_of HT_.out (by kernel_rfl)) (by decide) (fun K hK => ?_)
                            refine goes_ Try.func60 (by kernel_rfl) rfl #[.slice Ao22 t425.length co22, .string (rdOf ByteArray.empty l1 (ji13))] (by rfl) rfl rfl (by (try simp only [List.map_toArray, List.map_cons, List.map_nil]); first | done | (simp only [hji13]; rfl) | rfl | (simp only [List.length_drop, List.length_take]; rfl)) ?_
                            with_reducible refine (cosignerref03_Has.calls k2 _ _ t425 (rdOf ByteArray.empty l1 (ji13)) t429 _ ?side1 ?side2 A16.out).mono ?_
                            (case side1 => repeat (first | exact (Kd.R_reads' HO427.out).2.2 | (with_reducible refine Kd.C_alloc ?_ _) | (with_reducible refine Kd.C_drewN ?_ _) | (with_reducible refine Kd.C_drew ?_)))
                            (case side2 => exact (Kd.R_reads' HO427.out).2.1)
                            rintro e w' ⟨rfl, ⟨nd, rfl⟩⟩
                            refine ⟨_, rfl, ?_⟩
                            refine hK.out _ _ ⟨((HB.out.cell (World.block_lt_of_cell? w _ hw424_0)).trans hw424_0), ((HB.out.cell (World.block_lt_of_cell? w _ hw428_0)).trans hw428_0)⟩ (fun hHeld => ?_)
                            clear hK K
                            refine norm_ (a' := ?_) ?_ ?_
                            rotate_left
                            · show Act.put _ (some 47) _ = _
                              simp only [Act.put, List.setIfInBounds_toArray, List.set_cons_zero, List.set_cons_succ, i64_w, i32_w]
                              rfl
                            refine pure_ (i := 15) (N := some 7) (v := ?_) (a' := ?_) #[true, true, true, true, true, true, true, true, true, true, true, true, true, true, true, true] rfl rfl (any_of HT_.out (by kernel_rfl)) (fun _ _ _ h => h) (Or.inl ⟨by rfl, ?_⟩) ?_ ?_
                            rotate_left
                            · intro w'
                              go_simp
                              with_reducible rfl
                            rotate_left
                            · simp only [Act.put, List.setIfInBounds_toArray, List.set_cons_zero, List.set_cons_succ, i64_w, i32_w]
                              rfl
                            refine done_ (done_of HT_.out (by kernel_rfl)) ?_
                            try go_wp2
                            go_ret
                            exact ⟨by first | rfl | (simp [errW_none, errW_some] <;> rfl) | (simp only [← hji13]; first | rfl | (simp [errW_none, errW_some] <;> rfl)) | (simp [*, errW_none, errW_some] <;> rfl), by repeat (first | (with_reducible first | exact HB.out | apply below_alloc | apply pw_below_drewN | apply below_drew1) | exact HB.out)⟩
                          · replace c17 := Bool.eq_false_iff.mpr c17
                            subst c17
                            have H1 : (if t429 = true then ((cosignerref03_index.f k2 l0 (rdOf ByteArray.empty l1 (ji13))).bind fun t431 => (if t431 < 0 then (some 11) else (cosignerref03_CheckRing.l0 k2 l0 l1 (wrap64 (x5_2 + 1))))) else (some 11)) = some r := by rw [if_neg (show ¬ (false = true) by decide)] at H; exact H
                            clear H
                            have H := H1
                            clear H1
                            by_cases c23 : t429 = true
                            · subst c23
                              have H1 : ((cosignerref03_index.f k2 l0 (rdOf ByteArray.empty l1 (ji13))).bind fun t431 => (if t431 < 0 then (some 11) else (cosignerref03_CheckRing.l0 k2 l0 l1 (wrap64 (x5_2 + 1))))) = some r := by rw [if_pos rfl] at H; exact H
                              clear H
                              have H := H1
                              clear H1
                              replace H := Option.bind_eq_some_iff.mp H
                              obtain ⟨t431, A240, H⟩ := H
                              replace H : (if t431 < 0 then (some 11) else (cosignerref03_CheckRing.l0 k2 l0 l1 (wrap64 (x5_2 + 1)))) = some r := H
                              have A24 := Aside0.mk A240
                              clear A240
                              by_cases c25 : t431 < 0
                              · rw [if_pos c25] at H
                                have c25b0 : decide (t431 < 0) = true := decide_eq_true c25
                                clear c25
                                obtain rfl := Option.some.inj H
                                try go_wp2
                                have n0_ := Aside0.mk (below_drew1 HB.out)
                                clear HB
                                have HB := n0_
                                clear n0_
                                obtain ⟨i027, hi027, _, hsz27, _⟩ := info_parts info9
                                obtain ⟨hcut27, hA27, hC27⟩ := print_take_of (P := Try.prog) Value.string (⟨#[]⟩ : ByteArray) 25 9 .i64 Try.underlying25 hi027 hsz27 A1 c1 l1 x5_2 (of_decide_eq_true (by first | (with_reducible assumption) | assumption)) (of_decide_eq_true (by first | (with_reducible assumption) | assumption)) HC1.out
                                have HR421 := Aside0.mk (Kd.C_of_reads (h1 := fun _ => rfl) (hA27 _ (Kd.reads_of_C HR1.out)))
                                have HC421 := Aside0.mk hC27
                                clear hA27 hC27 hi027 hsz27
                                have p422 : 0 ≤ (x5_2 : Int) := of_decide_eq_true (by first | (with_reducible assumption) | assumption)
                                have q422 : x5_2 < (l1.length : Int) := of_decide_eq_true (by first | (with_reducible assumption) | assumption)
                                obtain ⟨ad422, e422, hx422_0⟩ := Kd.at_string HR1.out x5_2 p422 q422
                                have hw422_0 := hx422_0
                                cases e422
                                replace hx422_0 := (HB.out.cell (World.block_lt_of_cell? w _ hx422_0)).trans hx422_0
                                replace p422 := eq_true p422
                                replace q422 := eq_true q422
                                refine start_ (n := 9) (S := fun w' => w'.cell? (ad422.add (x5_2).toNat) = some (.string (rdOf ByteArray.empty l1 x5_2))) (ds := []) #[false, false, false, false, false, false, false, false, false] (by kernel_rfl) rfl rfl (((HB.out.cell (World.block_lt_of_cell? w _ hw422_0)).trans hw422_0)) (fun hHeld => ?_); refine with_tabW cosignerref03_CheckRing.tab8 cosignerref03_CheckRing.bits8 (fun HT_ HW_ => ?_)
                                generalize wr.drew = w26 at HB HR421 hx422_0 hHeld ⊢
                                refine pure_ (i := 0) (N := some 25) (v := ?_) (a' := ?_) #[true, false, false, false, false, false, false, false, false] rfl rfl (any_of HT_.out (by kernel_rfl)) (fun _ _ _ h => h) (Or.inl ⟨by rfl, ?_⟩) ?_ ?_
                                rotate_left
                                · intro w'
                                  go_simp
                                  with_reducible rfl
                                rotate_left
                                · simp only [Act.put, List.setIfInBounds_toArray, List.set_cons_zero, List.set_cons_succ, i64_w, i32_w]
                                  rfl
                                refine pure_ (i := 1) (N := some 26) (v := ?_) (a' := ?_) #[true, true, false, false, false, false, false, false, false] rfl rfl (any_of HT_.out (by kernel_rfl)) (fun _ _ _ h => h) (Or.inl ⟨by rfl, ?_⟩) ?_ ?_
                                rotate_left
                                · intro w'
                                  go_simp
                                  with_reducible rfl
                                rotate_left
                                · simp only [Act.put, List.setIfInBounds_toArray, List.set_cons_zero, List.set_cons_succ, i64_w, i32_w]
                                  rfl
                                refine pure_ (i := 2) (N := some 27) (v := ?_) (a' := ?_) #[true, true, true, false, false, false, false, false, false] rfl rfl (any_of HT_.out (by kernel_rfl)) (fun _ _ _ h => h) (Or.inl ⟨by rfl, ?_⟩) ?_ ?_
                                rotate_left
                                · intro w'
                                  go_simp
                                  with_reducible rfl
                                rotate_left
                                · simp only [Act.put, List.setIfInBounds_toArray, List.set_cons_zero, List.set_cons_succ, i64_w, i32_w]
                                  rfl
                                refine pure_ (i := 3) (N := some 28) (v := ?_) (a' := ?_) #[true, true, true, true, false, false, false, false, false] rfl rfl (any_of HT_.out (by kernel_rfl)) (fun _ _ _ h => h) (Or.inl ⟨by rfl, ?_⟩) ?_ ?_
                                rotate_left
                                · intro w'
                                  go_simp
                                  with_reducible rfl
                                rotate_left
                                · simp only [Act.put, List.setIfInBounds_toArray, List.set_cons_zero, List.set_cons_succ, i64_w, i32_w]
                                  rfl
                                refine pure_ (i := 4) (N := some 29) (v := ?_) (a' := ?_) #[true, true, true, true, true, false, false, false, false] rfl rfl (any_of HT_.out (by kernel_rfl)) (fun _ _ _ h => h) (Or.inl ⟨by rfl, ?_⟩) ?_ ?_
                                rotate_left
                                · intro w'
                                  go_simp
                                  with_reducible rfl
                                rotate_left
                                · simp only [Act.put, List.setIfInBounds_toArray, List.set_cons_zero, List.set_cons_succ, i64_w, i32_w]
                                  rfl
                                refine pure_ (i := 5) (N := some 30) (v := ?_) (a' := ?_) #[true, true, true, true, true, true, false, false, false] rfl rfl (any_of HT_.out (by kernel_rfl)) (fun _ _ _ h => h) (Or.inl ⟨by rfl, ?_⟩) ?_ ?_
                                rotate_left
                                · intro w'
                                  go_simp
                                  with_reducible rfl
                                rotate_left
                                · simp only [Act.put, List.setIfInBounds_toArray, List.set_cons_zero, List.set_cons_succ, i64_w, i32_w]
                                  rfl
                                refine take_ (i := 6) (N := some 31) (v := ?_) (a' := ?_) #[true, true, true, true, true, true, true, false, false] rfl rfl (take_ofW HT_.out HW_.out (by kernel_rfl)) (fun _ _ _ h => h) (Or.inl ⟨by rfl, ?_⟩) hHeld ?_ ?_
                                rotate_left
                                · intro w' s0
                                  go_simp
                                  with_reducible rfl
                                rotate_left
                                · simp only [Act.put, List.setIfInBounds_toArray, List.set_cons_zero, List.set_cons_succ, i64_w, i32_w]
                                  rfl
                                refine one_ (i := 7) (N := some 32) #[true, true, true, true, true, true, true, true, false] rfl rfl (one_of HT_.out (by kernel_rfl)) (by decide) (fun K hK => ?_)
                                refine goes_ Try.func60 (by kernel_rfl) rfl #[.slice (some ad422) (l1.take (x5_2 : Int).toNat).length c1, .string (rdOf ByteArray.empty l1 x5_2)] (by rfl) rfl rfl (by (try simp only [List.map_toArray, List.map_cons, List.map_nil]); first | done | (rw [show (l1.take (x5_2 : Int).toNat).length = x5_2.toNat from (by rw [List.length_take]; have h_ : (x5_2 : Int) ≤ (l1.length : Int) := of_decide_eq_true (by first | (with_reducible assumption) | assumption); omega)] <;> rfl) | rfl | (simp only [List.length_drop, List.length_take]; rfl)) ?_
                                with_reducible refine (cosignerref03_Has.calls k2 _ _ (l1.take (x5_2 : Int).toNat) (rdOf ByteArray.empty l1 x5_2) false _ ?side1 ?side2 A10.out).mono ?_
                                (case side1 => repeat (first | exact (Kd.C_below HR421.out HB.out) | (with_reducible refine Kd.C_alloc ?_ _) | (with_reducible refine Kd.C_drewN ?_ _) | (with_reducible refine Kd.C_drew ?_)))
                                (case side2 => exact HC421.out)
                                rintro e w' ⟨rfl, ⟨nd, rfl⟩⟩
                                refine ⟨_, rfl, ?_⟩
                                refine hK.out _ _ (((HB.out.cell (World.block_lt_of_cell? w _ hw422_0)).trans hw422_0)) (fun hHeld => ?_)
                                clear hK K
                                refine norm_ (a' := ?_) ?_ ?_
                                rotate_left
                                · show Act.put _ (some 32) _ = _
                                  simp only [Act.put, List.setIfInBounds_toArray, List.set_cons_zero, List.set_cons_succ, i64_w, i32_w]
                                  rfl
                                refine pure_ (i := 8) (N := some 6) (v := ?_) (a' := ?_) #[true, true, true, true, true, true, true, true, true] rfl rfl (any_of HT_.out (by kernel_rfl)) (fun _ _ _ h => h) (Or.inl ⟨by rfl, ?_⟩) ?_ ?_
                                rotate_left
                                · intro w'
                                  go_simp
                                  with_reducible rfl
                                rotate_left
                                · simp only [Act.put, List.setIfInBounds_toArray, List.set_cons_zero, List.set_cons_succ, i64_w, i32_w]
                                  rfl
                                refine done_ (done_of HT_.out (by kernel_rfl)) ?_
                                try go_wp2
                                (try (rw [drewN_self w26]; generalize hq_ : World.drewN w26 _ = w26; have n0_ : Aside0 (Below w.heap.size w w26) := ⟨by rw [← hq_]; exact (by repeat (first | (with_reducible first | exact HB.out | apply below_alloc | apply pw_below_drewN | apply below_drew1) | exact HB.out))⟩; clear HB hq_; have HB := n0_; clear n0_))
                                have n0_ := Aside0.mk (below_drew1 HB.out)
                                clear HB
                                have HB := n0_
                                clear n0_
                                have p424 : 0 ≤ (x5_2 : Int) := of_decide_eq_true (by first | (with_reducible assumption) | assumption)
                                have q424 : x5_2 < (l1.length : Int) := of_decide_eq_true (by first | (with_reducible assumption) | assumption)
                                obtain ⟨ad424, e424, hx424_0⟩ := Kd.at_string HR1.out x5_2 p424 q424
                                have hw424_0 := hx424_0
                                obtain rfl : ad422 = ad424 := (by injection e424)
                                replace hx424_0 := (HB.out.cell (World.block_lt_of_cell? w _ hx424_0)).trans hx424_0
                                replace p424 := eq_true p424
                                replace q424 := eq_true q424
                                have p428 : 0 ≤ ((ji13) : Int) := of_decide_eq_true (by first | (with_reducible assumption) | assumption)
                                have q428 : (ji13) < (l1.length : Int) := of_decide_eq_true (by first | (with_reducible assumption) | assumption)
                                obtain ⟨ad428, e428, hx428_0⟩ := Kd.at_string HR1.out (ji13) p428 q428
                                have hw428_0 := hx428_0
                                obtain rfl : ad422 = ad428 := (by injection e428)
                                replace hx428_0 := (HB.out.cell (World.block_lt_of_cell? w _ hx428_0)).trans hx428_0
                                replace p428 := eq_true p428
                                replace q428 := eq_true q428
                                refine start_ (n := 16) (S := fun w' => w'.cell? (ad422.add (x5_2).toNat) = some (.string (rdOf ByteArray.empty l1 x5_2)) ∧ w'.cell? (ad422.add ((ji13)).toNat) = some (.string (rdOf ByteArray.empty l1 (ji13)))) (ds := []) #[false, false, false, false, false, false, false, false, false, false, false, false, false, false, false, false] (by kernel_rfl) rfl rfl ⟨((HB.out.cell (World.block_lt_of_cell? w _ hw424_0)).trans hw424_0), ((HB.out.cell (World.block_lt_of_cell? w _ hw428_0)).trans hw428_0)⟩ (fun hHeld => ?_); refine with_tabW cosignerref03_CheckRing.tab9 cosignerref03_CheckRing.bits9 (fun HT_ HW_ => ?_)
                                generalize w26.drew = w28 at HB hx424_0 hx428_0 hHeld ⊢
                                refine pure_ (i := 0) (N := some 33) (v := ?_) (a' := ?_) #[true, false, false, false, false, false, false, false, false, false, false, false, false, false, false, false] rfl rfl (any_of HT_.out (by kernel_rfl)) (fun _ _ _ h => h) (Or.inl ⟨by rfl, ?_⟩) ?_ ?_
                                rotate_left
                                · intro w'
                                  go_simp
                                  with_reducible rfl
                                rotate_left
                                · simp only [Act.put, List.setIfInBounds_toArray, List.set_cons_zero, List.set_cons_succ, i64_w, i32_w]
                                  rfl
                                refine pure_ (i := 1) (N := some 34) (v := ?_) (a' := ?_) #[true, true, false, false, false, false, false, false, false, false, false, false, false, false, false, false] rfl rfl (any_of HT_.out (by kernel_rfl)) (fun _ _ _ h => h) (Or.inl ⟨by rfl, ?_⟩) ?_ ?_
                                rotate_left
                                · intro w'
                                  go_simp
                                  with_reducible rfl
                                rotate_left
                                · simp only [Act.put, List.setIfInBounds_toArray, List.set_cons_zero, List.set_cons_succ, i64_w, i32_w]
                                  rfl
                                refine pure_ (i := 2) (N := some 35) (v := ?_) (a' := ?_) #[true, true, true, false, false, false, false, false, false, false, false, false, false, false, false, false] rfl rfl (any_of HT_.out (by kernel_rfl)) (fun _ _ _ h => h) (Or.inl ⟨by rfl, ?_⟩) ?_ ?_
                                rotate_left
                                · intro w'
                                  go_simp
                                  with_reducible rfl
                                rotate_left
                                · simp only [Act.put, List.setIfInBounds_toArray, List.set_cons_zero, List.set_cons_succ, i64_w, i32_w]
                                  rfl
                                refine pure_ (i := 3) (N := some 36) (v := ?_) (a' := ?_) #[true, true, true, true, false, false, false, false, false, false, false, false, false, false, false, false] rfl rfl (any_of HT_.out (by kernel_rfl)) (fun _ _ _ h => h) (Or.inl ⟨by rfl, ?_⟩) ?_ ?_
                                rotate_left
                                · intro w'
                                  go_simp
                                  with_reducible rfl
                                rotate_left
                                · simp only [Act.put, List.setIfInBounds_toArray, List.set_cons_zero, List.set_cons_succ, i64_w, i32_w]
                                  rfl
                                refine pure_ (i := 6) (N := some 39) (v := ?_) (a' := ?_) #[true, true, true, true, false, false, true, false, false, false, false, false, false, false, false, false] rfl rfl (any_of HT_.out (by kernel_rfl)) (fun _ _ _ h => h) (Or.inl ⟨by rfl, ?_⟩) ?_ ?_
                                rotate_left
                                · intro w'
                                  go_simp
                                  with_reducible rfl
                                rotate_left
                                · simp only [Act.put, List.setIfInBounds_toArray, List.set_cons_zero, List.set_cons_succ, i64_w, i32_w]
                                  rfl
                                refine pure_ (i := 7) (N := some 40) (v := ?_) (a' := ?_) #[true, true, true, true, false, false, true, true, false, false, false, false, false, false, false, false] rfl rfl (any_of HT_.out (by kernel_rfl)) (fun _ _ _ h => h) (Or.inl ⟨by rfl, ?_⟩) ?_ ?_
                                rotate_left
                                · intro w'
                                  go_simp
                                  with_reducible rfl
                                rotate_left
                                · simp only [Act.put, List.setIfInBounds_toArray, List.set_cons_zero, List.set_cons_succ, i64_w, i32_w]
                                  rfl
                                refine pure_ (i := 8) (N := some 41) (v := ?_) (a' := ?_) #[true, true, true, true, false, false, true, true, true, false, false, false, false, false, false, false] rfl rfl (any_of HT_.out (by kernel_rfl)) (fun _ _ _ h => h) (Or.inl ⟨by rfl, ?_⟩) ?_ ?_
                                rotate_left
                                · intro w'
                                  go_simp
                                  with_reducible rfl
                                rotate_left
                                · simp only [Act.put, List.setIfInBounds_toArray, List.set_cons_zero, List.set_cons_succ, i64_w, i32_w]
                                  rfl
                                refine pure_ (i := 9) (N := some 42) (v := ?_) (a' := ?_) #[true, true, true, true, false, false, true, true, true, true, false, false, false, false, false, false] rfl rfl (any_of HT_.out (by kernel_rfl)) (fun _ _ _ h => h) (Or.inl ⟨by rfl, ?_⟩) ?_ ?_
                                rotate_left
                                · intro w'
                                  go_simp
                                  with_reducible rfl
                                rotate_left
                                · simp only [Act.put, List.setIfInBounds_toArray, List.set_cons_zero, List.set_cons_succ, i64_w, i32_w]
                                  rfl
                                refine pure_ (i := 10) (N := some 43) (v := ?_) (a' := ?_) #[true, true, true, true, false, false, true, true, true, true, true, false, false, false, false, false] rfl rfl (any_of HT_.out (by kernel_rfl)) (fun _ _ _ h => h) (Or.inl ⟨by rfl, ?_⟩) ?_ ?_
                                rotate_left
                                · intro w'
                                  go_simp
                                  with_reducible rfl
                                rotate_left
                                · simp only [Act.put, List.setIfInBounds_toArray, List.set_cons_zero, List.set_cons_succ, i64_w, i32_w]
                                  rfl
                                refine pure_ (i := 11) (N := some 44) (v := ?_) (a' := ?_) #[true, true, true, true, false, false, true, true, true, true, true, true, false, false, false, false] rfl rfl (any_of HT_.out (by kernel_rfl)) (fun _ _ _ h => h) (Or.inl ⟨by rfl, ?_⟩) ?_ ?_
                                rotate_left
                                · intro w'
                                  go_simp
                                  with_reducible rfl
                                rotate_left
                                · simp only [Act.put, List.setIfInBounds_toArray, List.set_cons_zero, List.set_cons_succ, i64_w, i32_w]
                                  rfl
                                refine pure_ (i := 12) (N := some 45) (v := ?_) (a' := ?_) #[true, true, true, true, false, false, true, true, true, true, true, true, true, false, false, false] rfl rfl (any_of HT_.out (by kernel_rfl)) (fun _ _ _ h => h) (Or.inl ⟨by rfl, ?_⟩) ?_ ?_
                                rotate_left
                                · intro w'
                                  go_simp
                                  with_reducible rfl
                                rotate_left
                                · simp only [Act.put, List.setIfInBounds_toArray, List.set_cons_zero, List.set_cons_succ, i64_w, i32_w]
                                  rfl
                                refine take_ (i := 4) (N := some 37) (v := ?_) (a' := ?_) #[true, true, true, true, true, false, true, true, true, true, true, true, true, false, false, false] rfl rfl (take_ofW HT_.out HW_.out (by kernel_rfl)) (fun _ _ _ h => h) (Or.inl ⟨by rfl, ?_⟩) hHeld ?_ ?_
                                rotate_left
                                · rintro w' ⟨s0, s1⟩
                                  go_simp
                                  with_reducible rfl
                                rotate_left
                                · simp only [Act.put, List.setIfInBounds_toArray, List.set_cons_zero, List.set_cons_succ, i64_w, i32_w]
                                  rfl
                                refine take_ (i := 13) (N := some 46) (v := ?_) (a' := ?_) #[true, true, true, true, true, false, true, true, true, true, true, true, true, true, false, false] rfl rfl (take_ofW HT_.out HW_.out (by kernel_rfl)) (fun _ _ _ h => h) (Or.inl ⟨by rfl, ?_⟩) hHeld ?_ ?_
                                rotate_left
                                · rintro w' ⟨s0, s1⟩
                                  go_simp
                                  with_reducible rfl
                                rotate_left
                                · simp only [Act.put, List.setIfInBounds_toArray, List.set_cons_zero, List.set_cons_succ, i64_w, i32_w]
                                  rfl
                                refine one_ (i := 5) (N := some 38) #[true, true, true, true, true, true, true, true, true, true, true, true, true, true, false, false] rfl rfl (one_of HT_.out (by kernel_rfl)) (by decide) (fun K hK => ?_)
                                refine goes_ Try.func62 (by kernel_rfl) rfl #[.slice A0 l0.length c0, .string (rdOf ByteArray.empty l1 x5_2)] (by rfl) rfl rfl (by (try simp only [List.map_toArray, List.map_cons, List.map_nil]); first | done | rfl | (simp only [List.length_drop, List.length_take]; rfl)) ?_
                                with_reducible refine (cosignerref03_parents.calls k2 _ _ l0 (rdOf ByteArray.empty l1 x5_2) t425 _ ?side1 ?side2 A11.out).mono ?_
                                (case side1 => repeat (first | exact (Kd.C_below HR0.out HB.out) | (with_reducible refine Kd.C_alloc ?_ _) | (with_reducible refine Kd.C_drewN ?_ _) | (with_reducible refine Kd.C_drew ?_)))
                                (case side2 => exact HC0.out)
                                rintro e w29 ⟨v426, rfl, ho0, hb⟩
                                refine ⟨_, rfl, ?_⟩
                                have n0_ := Aside0.mk (Kd.R_lower ho0 (below_size (by repeat (first | (with_reducible first | exact HB.out | apply below_alloc | apply pw_below_drewN | apply below_drew1) | exact HB.out))))
                                have n1_ := Aside0.mk (below_step (by repeat (first | (with_reducible first | exact HB.out | apply below_alloc | apply pw_below_drewN | apply below_drew1) | exact HB.out)) hb)
                                clear HB
                                have HO427 := n0_
                                have HB := n1_
                                clear n0_ n1_
                                (try clear hb)
                                (try clear hb2)
                                (try clear hk)
                                (try clear hi)
                                (try clear ho0)
                                obtain ⟨Ao30, co30, eo30⟩ := Kd.R_slice HO427.out
                                (first | subst eo30 | (injection eo30 with f1_ f2_ f3_; have f4_ := f1_.symm; have f5_ := f3_.symm; clear f1_ f2_ f3_; subst f4_; subst f5_))
                                refine hK.out _ _ ⟨((HB.out.cell (World.block_lt_of_cell? w _ hw424_0)).trans hw424_0), ((HB.out.cell (World.block_lt_of_cell? w _ hw428_0)).trans hw428_0)⟩ (fun hHeld => ?_)
                                clear hK K
                                refine norm_ (a' := ?_) ?_ ?_
                                rotate_left
                                · show Act.put _ (some 38) _ = _
                                  simp only [Act.put, List.setIfInBounds_toArray, List.set_cons_zero, List.set_cons_succ, i64_w, i32_w]
                                  rfl
                                refine one_ (i := 14) (N := some 47) #[true, true, true, true, true, true, true, true, true, true, true, true, true, true, true, false] rfl rfl (one_of HT_.out (by kernel_rfl)) (by decide) (fun K hK => ?_)
                                refine goes_ Try.func60 (by kernel_rfl) rfl #[.slice Ao30 t425.length co30, .string (rdOf ByteArray.empty l1 (ji13))] (by rfl) rfl rfl (by (try simp only [List.map_toArray, List.map_cons, List.map_nil]); first | done | (simp only [hji13]; rfl) | rfl | (simp only [List.length_drop, List.length_take]; rfl)) ?_
                                with_reducible refine (cosignerref03_Has.calls k2 _ _ t425 (rdOf ByteArray.empty l1 (ji13)) true _ ?side1 ?side2 A16.out).mono ?_
                                (case side1 => repeat (first | exact (Kd.R_reads' HO427.out).2.2 | (with_reducible refine Kd.C_alloc ?_ _) | (with_reducible refine Kd.C_drewN ?_ _) | (with_reducible refine Kd.C_drew ?_)))
                                (case side2 => exact (Kd.R_reads' HO427.out).2.1)
                                rintro e w' ⟨rfl, ⟨nd, rfl⟩⟩
                                refine ⟨_, rfl, ?_⟩
                                refine hK.out _ _ ⟨((HB.out.cell (World.block_lt_of_cell? w _ hw424_0)).trans hw424_0), ((HB.out.cell (World.block_lt_of_cell? w _ hw428_0)).trans hw428_0)⟩ (fun hHeld => ?_)
                                clear hK K
                                refine norm_ (a' := ?_) ?_ ?_
                                rotate_left
                                · show Act.put _ (some 47) _ = _
                                  simp only [Act.put, List.setIfInBounds_toArray, List.set_cons_zero, List.set_cons_succ, i64_w, i32_w]
                                  rfl
                                refine pure_ (i := 15) (N := some 7) (v := ?_) (a' := ?_) #[true, true, true, true, true, true, true, true, true, true, true, true, true, true, true, true] rfl rfl (any_of HT_.out (by kernel_rfl)) (fun _ _ _ h => h) (Or.inl ⟨by rfl, ?_⟩) ?_ ?_
                                rotate_left
                                · intro w'
                                  go_simp
                                  with_reducible rfl
                                rotate_left
                                · simp only [Act.put, List.setIfInBounds_toArray, List.set_cons_zero, List.set_cons_succ, i64_w, i32_w]
                                  rfl
                                refine done_ (done_of HT_.out (by kernel_rfl)) ?_
                                have p430 : 0 ≤ ((ji13) : Int) := of_decide_eq_true (by first | (with_reducible assumption) | assumption)
                                have q430 : (ji13) < (l1.length : Int) := of_decide_eq_true (by first | (with_reducible assumption) | assumption)
                                obtain ⟨ad430, e430, hx430_0⟩ := Kd.at_string HR1.out (ji13) p430 q430
                                obtain rfl : ad422 = ad430 := (by injection e430)
                                replace hx430_0 := (HB.out.cell (World.block_lt_of_cell? w _ hx430_0)).trans hx430_0
                                replace p430 := eq_true p430
                                replace q430 := eq_true q430
                                try go_wp2_with (first | (go_at_call 88; (with_reducible refine (cosignerref03_index.calls k2 _ _ l0 (rdOf ByteArray.empty l1 (ji13)) t431 _ ?side1 ?side2 A24.out).mono ?_); (case side1 => repeat (first | exact (Kd.C_below HR0.out (by repeat (first | (with_reducible first | exact HB.out | apply below_alloc | apply pw_below_drewN | apply below_drew1) | exact HB.out))) | (with_reducible refine Kd.C_alloc ?_ _) | (with_reducible refine Kd.C_drewN ?_ _) | (with_reducible refine Kd.C_drew ?_))); (case side2 => exact HC0.out); rintro e w' ⟨rfl, ⟨nd, rfl⟩⟩))
                                go_ret
                                exact ⟨by first | rfl | (simp [errW_none, errW_some] <;> rfl) | (simp only [← hji13]; first | rfl | (simp [errW_none, errW_some] <;> rfl)) | (simp [*, errW_none, errW_some] <;> rfl), by repeat (first | (with_reducible first | exact HB.out | apply below_alloc | apply pw_below_drewN | apply below_drew1) | exact HB.out)⟩
                              · rw [if_neg c25] at H
                                have c25b0 : decide (t431 < 0) = false := decide_eq_false c25
                                clear c25
                                have H' := Aside0.mk H
                                clear H
                                try go_wp2
                                have n0_ := Aside0.mk (below_drew1 HB.out)
                                clear HB
                                have HB := n0_
                                clear n0_
                                obtain ⟨i032, hi032, _, hsz32, _⟩ := info_parts info9
                                obtain ⟨hcut32, hA32, hC32⟩ := print_take_of (P := Try.prog) Value.string (⟨#[]⟩ : ByteArray) 25 9 .i64 Try.underlying25 hi032 hsz32 A1 c1 l1 x5_2 (of_decide_eq_true (by first | (with_reducible assumption) | assumption)) (of_decide_eq_true (by first | (with_reducible assumption) | assumption)) HC1.out
                                have HR421 := Aside0.mk (Kd.C_of_reads (h1 := fun _ => rfl) (hA32 _ (Kd.reads_of_C HR1.out)))
                                have HC421 := Aside0.mk hC32
                                clear hA32 hC32 hi032 hsz32
                                have p422 : 0 ≤ (x5_2 : Int) := of_decide_eq_true (by first | (with_reducible assumption) | assumption)
                                have q422 : x5_2 < (l1.length : Int) := of_decide_eq_true (by first | (with_reducible assumption) | assumption)
                                obtain ⟨ad422, e422, hx422_0⟩ := Kd.at_string HR1.out x5_2 p422 q422
                                have hw422_0 := hx422_0
                                cases e422
                                replace hx422_0 := (HB.out.cell (World.block_lt_of_cell? w _ hx422_0)).trans hx422_0
                                replace p422 := eq_true p422
                                replace q422 := eq_true q422
                                refine start_ (n := 9) (S := fun w' => w'.cell? (ad422.add (x5_2).toNat) = some (.string (rdOf ByteArray.empty l1 x5_2))) (ds := []) #[false, false, false, false, false, false, false, false, false] (by kernel_rfl) rfl rfl (((HB.out.cell (World.block_lt_of_cell? w _ hw422_0)).trans hw422_0)) (fun hHeld => ?_); refine with_tabW cosignerref03_CheckRing.tab8 cosignerref03_CheckRing.bits8 (fun HT_ HW_ => ?_)
                                generalize wr.drew = w31 at HB HR421 hx422_0 hHeld ⊢
                                refine pure_ (i := 0) (N := some 25) (v := ?_) (a' := ?_) #[true, false, false, false, false, false, false, false, false] rfl rfl (any_of HT_.out (by kernel_rfl)) (fun _ _ _ h => h) (Or.inl ⟨by rfl, ?_⟩) ?_ ?_
                                rotate_left
                                · intro w'
                                  go_simp
                                  with_reducible rfl
                                rotate_left
                                · simp only [Act.put, List.setIfInBounds_toArray, List.set_cons_zero, List.set_cons_succ, i64_w, i32_w]
                                  rfl
                                refine pure_ (i := 1) (N := some 26) (v := ?_) (a' := ?_) #[true, true, false, false, false, false, false, false, false] rfl rfl (any_of HT_.out (by kernel_rfl)) (fun _ _ _ h => h) (Or.inl ⟨by rfl, ?_⟩) ?_ ?_
                                rotate_left
                                · intro w'
                                  go_simp
                                  with_reducible rfl
                                rotate_left
                                · simp only [Act.put, List.setIfInBounds_toArray, List.set_cons_zero, List.set_cons_succ, i64_w, i32_w]
                                  rfl
                                refine pure_ (i := 2) (N := some 27) (v := ?_) (a' := ?_) #[true, true, true, false, false, false, false, false, false] rfl rfl (any_of HT_.out (by kernel_rfl)) (fun _ _ _ h => h) (Or.inl ⟨by rfl, ?_⟩) ?_ ?_
                                rotate_left
                                · intro w'
                                  go_simp
                                  with_reducible rfl
                                rotate_left
                                · simp only [Act.put, List.setIfInBounds_toArray, List.set_cons_zero, List.set_cons_succ, i64_w, i32_w]
                                  rfl
                                refine pure_ (i := 3) (N := some 28) (v := ?_) (a' := ?_) #[true, true, true, true, false, false, false, false, false] rfl rfl (any_of HT_.out (by kernel_rfl)) (fun _ _ _ h => h) (Or.inl ⟨by rfl, ?_⟩) ?_ ?_
                                rotate_left
                                · intro w'
                                  go_simp
                                  with_reducible rfl
                                rotate_left
                                · simp only [Act.put, List.setIfInBounds_toArray, List.set_cons_zero, List.set_cons_succ, i64_w, i32_w]
                                  rfl
                                refine pure_ (i := 4) (N := some 29) (v := ?_) (a' := ?_) #[true, true, true, true, true, false, false, false, false] rfl rfl (any_of HT_.out (by kernel_rfl)) (fun _ _ _ h => h) (Or.inl ⟨by rfl, ?_⟩) ?_ ?_
                                rotate_left
                                · intro w'
                                  go_simp
                                  with_reducible rfl
                                rotate_left
                                · simp only [Act.put, List.setIfInBounds_toArray, List.set_cons_zero, List.set_cons_succ, i64_w, i32_w]
                                  rfl
                                refine pure_ (i := 5) (N := some 30) (v := ?_) (a' := ?_) #[true, true, true, true, true, true, false, false, false] rfl rfl (any_of HT_.out (by kernel_rfl)) (fun _ _ _ h => h) (Or.inl ⟨by rfl, ?_⟩) ?_ ?_
                                rotate_left
                                · intro w'
                                  go_simp
                                  with_reducible rfl
                                rotate_left
                                · simp only [Act.put, List.setIfInBounds_toArray, List.set_cons_zero, List.set_cons_succ, i64_w, i32_w]
                                  rfl
                                refine take_ (i := 6) (N := some 31) (v := ?_) (a' := ?_) #[true, true, true, true, true, true, true, false, false] rfl rfl (take_ofW HT_.out HW_.out (by kernel_rfl)) (fun _ _ _ h => h) (Or.inl ⟨by rfl, ?_⟩) hHeld ?_ ?_
                                rotate_left
                                · intro w' s0
                                  go_simp
                                  with_reducible rfl
                                rotate_left
                                · simp only [Act.put, List.setIfInBounds_toArray, List.set_cons_zero, List.set_cons_succ, i64_w, i32_w]
                                  rfl
                                refine one_ (i := 7) (N := some 32) #[true, true, true, true, true, true, true, true, false] rfl rfl (one_of HT_.out (by kernel_rfl)) (by decide) (fun K hK => ?_)
                                refine goes_ Try.func60 (by kernel_rfl) rfl #[.slice (some ad422) (l1.take (x5_2 : Int).toNat).length c1, .string (rdOf ByteArray.empty l1 x5_2)] (by rfl) rfl rfl (by (try simp only [List.map_toArray, List.map_cons, List.map_nil]); first | done | (rw [show (l1.take (x5_2 : Int).toNat).length = x5_2.toNat from (by rw [List.length_take]; have h_ : (x5_2 : Int) ≤ (l1.length : Int) := of_decide_eq_true (by first | (with_reducible assumption) | assumption); omega)] <;> rfl) | rfl | (simp only [List.length_drop, List.length_take]; rfl)) ?_
                                with_reducible refine (cosignerref03_Has.calls k2 _ _ (l1.take (x5_2 : Int).toNat) (rdOf ByteArray.empty l1 x5_2) false _ ?side1 ?side2 A10.out).mono ?_
                                (case side1 => repeat (first | exact (Kd.C_below HR421.out HB.out) | (with_reducible refine Kd.C_alloc ?_ _) | (with_reducible refine Kd.C_drewN ?_ _) | (with_reducible refine Kd.C_drew ?_)))
                                (case side2 => exact HC421.out)
                                rintro e w' ⟨rfl, ⟨nd, rfl⟩⟩
                                refine ⟨_, rfl, ?_⟩
                                refine hK.out _ _ (((HB.out.cell (World.block_lt_of_cell? w _ hw422_0)).trans hw422_0)) (fun hHeld => ?_)
                                clear hK K
                                refine norm_ (a' := ?_) ?_ ?_
                                rotate_left
                                · show Act.put _ (some 32) _ = _
                                  simp only [Act.put, List.setIfInBounds_toArray, List.set_cons_zero, List.set_cons_succ, i64_w, i32_w]
                                  rfl
                                refine pure_ (i := 8) (N := some 6) (v := ?_) (a' := ?_) #[true, true, true, true, true, true, true, true, true] rfl rfl (any_of HT_.out (by kernel_rfl)) (fun _ _ _ h => h) (Or.inl ⟨by rfl, ?_⟩) ?_ ?_
                                rotate_left
                                · intro w'
                                  go_simp
                                  with_reducible rfl
                                rotate_left
                                · simp only [Act.put, List.setIfInBounds_toArray, List.set_cons_zero, List.set_cons_succ, i64_w, i32_w]
                                  rfl
                                refine done_ (done_of HT_.out (by kernel_rfl)) ?_
                                try go_wp2
                                (try (rw [drewN_self w31]; generalize hq_ : World.drewN w31 _ = w31; have n0_ : Aside0 (Below w.heap.size w w31) := ⟨by rw [← hq_]; exact (by repeat (first | (with_reducible first | exact HB.out | apply below_alloc | apply pw_below_drewN | apply below_drew1) | exact HB.out))⟩; clear HB hq_; have HB := n0_; clear n0_))
                                have n0_ := Aside0.mk (below_drew1 HB.out)
                                clear HB
                                have HB := n0_
                                clear n0_
                                have p424 : 0 ≤ (x5_2 : Int) := of_decide_eq_true (by first | (with_reducible assumption) | assumption)
                                have q424 : x5_2 < (l1.length : Int) := of_decide_eq_true (by first | (with_reducible assumption) | assumption)
                                obtain ⟨ad424, e424, hx424_0⟩ := Kd.at_string HR1.out x5_2 p424 q424
                                have hw424_0 := hx424_0
                                obtain rfl : ad422 = ad424 := (by injection e424)
                                replace hx424_0 := (HB.out.cell (World.block_lt_of_cell? w _ hx424_0)).trans hx424_0
                                replace p424 := eq_true p424
                                replace q424 := eq_true q424
                                have p428 : 0 ≤ ((ji13) : Int) := of_decide_eq_true (by first | (with_reducible assumption) | assumption)
                                have q428 : (ji13) < (l1.length : Int) := of_decide_eq_true (by first | (with_reducible assumption) | assumption)
                                obtain ⟨ad428, e428, hx428_0⟩ := Kd.at_string HR1.out (ji13) p428 q428
                                have hw428_0 := hx428_0
                                obtain rfl : ad422 = ad428 := (by injection e428)
                                replace hx428_0 := (HB.out.cell (World.block_lt_of_cell? w _ hx428_0)).trans hx428_0
                                replace p428 := eq_true p428
                                replace q428 := eq_true q428
                                refine start_ (n := 16) (S := fun w' => w'.cell? (ad422.add (x5_2).toNat) = some (.string (rdOf ByteArray.empty l1 x5_2)) ∧ w'.cell? (ad422.add ((ji13)).toNat) = some (.string (rdOf ByteArray.empty l1 (ji13)))) (ds := []) #[false, false, false, false, false, false, false, false, false, false, false, false, false, false, false, false] (by kernel_rfl) rfl rfl ⟨((HB.out.cell (World.block_lt_of_cell? w _ hw424_0)).trans hw424_0), ((HB.out.cell (World.block_lt_of_cell? w _ hw428_0)).trans hw428_0)⟩ (fun hHeld => ?_); refine with_tabW cosignerref03_CheckRing.tab9 cosignerref03_CheckRing.bits9 (fun HT_ HW_ => ?_)
                                generalize w31.drew = w33 at HB hx424_0 hx428_0 hHeld ⊢
                                refine pure_ (i := 0) (N := some 33) (v := ?_) (a' := ?_) #[true, false, false, false, false, false, false, false, false, false, false, false, false, false, false, false] rfl rfl (any_of HT_.out (by kernel_rfl)) (fun _ _ _ h => h) (Or.inl ⟨by rfl, ?_⟩) ?_ ?_
                                rotate_left
                                · intro w'
                                  go_simp
                                  with_reducible rfl
                                rotate_left
                                · simp only [Act.put, List.setIfInBounds_toArray, List.set_cons_zero, List.set_cons_succ, i64_w, i32_w]
                                  rfl
                                refine pure_ (i := 1) (N := some 34) (v := ?_) (a' := ?_) #[true, true, false, false, false, false, false, false, false, false, false, false, false, false, false, false] rfl rfl (any_of HT_.out (by kernel_rfl)) (fun _ _ _ h => h) (Or.inl ⟨by rfl, ?_⟩) ?_ ?_
                                rotate_left
                                · intro w'
                                  go_simp
                                  with_reducible rfl
                                rotate_left
                                · simp only [Act.put, List.setIfInBounds_toArray, List.set_cons_zero, List.set_cons_succ, i64_w, i32_w]
                                  rfl
                                refine pure_ (i := 2) (N := some 35) (v := ?_) (a' := ?_) #[true, true, true, false, false, false, false, false, false, false, false, false, false, false, false, false] rfl rfl (any_of HT_.out (by kernel_rfl)) (fun _ _ _ h => h) (Or.inl ⟨by rfl, ?_⟩) ?_ ?_
                                rotate_left
                                · intro w'
                                  go_simp
                                  with_reducible rfl
                                rotate_left
                                · simp only [Act.put, List.setIfInBounds_toArray, List.set_cons_zero, List.set_cons_succ, i64_w, i32_w]
                                  rfl
                                refine pure_ (i := 3) (N := some 36) (v := ?_) (a' := ?_) #[true, true, true, true, false, false, false, false, false, false, false, false, false, false, false, false] rfl rfl (any_of HT_.out (by kernel_rfl)) (fun _ _ _ h => h) (Or.inl ⟨by rfl, ?_⟩) ?_ ?_
                                rotate_left
                                · intro w'
                                  go_simp
                                  with_reducible rfl
                                rotate_left
                                · simp only [Act.put, List.setIfInBounds_toArray, List.set_cons_zero, List.set_cons_succ, i64_w, i32_w]
                                  rfl
                                refine pure_ (i := 6) (N := some 39) (v := ?_) (a' := ?_) #[true, true, true, true, false, false, true, false, false, false, false, false, false, false, false, false] rfl rfl (any_of HT_.out (by kernel_rfl)) (fun _ _ _ h => h) (Or.inl ⟨by rfl, ?_⟩) ?_ ?_
                                rotate_left
                                · intro w'
                                  go_simp
                                  with_reducible rfl
                                rotate_left
                                · simp only [Act.put, List.setIfInBounds_toArray, List.set_cons_zero, List.set_cons_succ, i64_w, i32_w]
                                  rfl
                                refine pure_ (i := 7) (N := some 40) (v := ?_) (a' := ?_) #[true, true, true, true, false, false, true, true, false, false, false, false, false, false, false, false] rfl rfl (any_of HT_.out (by kernel_rfl)) (fun _ _ _ h => h) (Or.inl ⟨by rfl, ?_⟩) ?_ ?_
                                rotate_left
                                · intro w'
                                  go_simp
                                  with_reducible rfl
                                rotate_left
                                · simp only [Act.put, List.setIfInBounds_toArray, List.set_cons_zero, List.set_cons_succ, i64_w, i32_w]
                                  rfl
                                refine pure_ (i := 8) (N := some 41) (v := ?_) (a' := ?_) #[true, true, true, true, false, false, true, true, true, false, false, false, false, false, false, false] rfl rfl (any_of HT_.out (by kernel_rfl)) (fun _ _ _ h => h) (Or.inl ⟨by rfl, ?_⟩) ?_ ?_
                                rotate_left
                                · intro w'
                                  go_simp
                                  with_reducible rfl
                                rotate_left
                                · simp only [Act.put, List.setIfInBounds_toArray, List.set_cons_zero, List.set_cons_succ, i64_w, i32_w]
                                  rfl
                                refine pure_ (i := 9) (N := some 42) (v := ?_) (a' := ?_) #[true, true, true, true, false, false, true, true, true, true, false, false, false, false, false, false] rfl rfl (any_of HT_.out (by kernel_rfl)) (fun _ _ _ h => h) (Or.inl ⟨by rfl, ?_⟩) ?_ ?_
                                rotate_left
                                · intro w'
                                  go_simp
                                  with_reducible rfl
                                rotate_left
                                · simp only [Act.put, List.setIfInBounds_toArray, List.set_cons_zero, List.set_cons_succ, i64_w, i32_w]
                                  rfl
                                refine pure_ (i := 10) (N := some 43) (v := ?_) (a' := ?_) #[true, true, true, true, false, false, true, true, true, true, true, false, false, false, false, false] rfl rfl (any_of HT_.out (by kernel_rfl)) (fun _ _ _ h => h) (Or.inl ⟨by rfl, ?_⟩) ?_ ?_
                                rotate_left
                                · intro w'
                                  go_simp
                                  with_reducible rfl
                                rotate_left
                                · simp only [Act.put, List.setIfInBounds_toArray, List.set_cons_zero, List.set_cons_succ, i64_w, i32_w]
                                  rfl
                                refine pure_ (i := 11) (N := some 44) (v := ?_) (a' := ?_) #[true, true, true, true, false, false, true, true, true, true, true, true, false, false, false, false] rfl rfl (any_of HT_.out (by kernel_rfl)) (fun _ _ _ h => h) (Or.inl ⟨by rfl, ?_⟩) ?_ ?_
                                rotate_left
                                · intro w'
                                  go_simp
                                  with_reducible rfl
                                rotate_left
                                · simp only [Act.put, List.setIfInBounds_toArray, List.set_cons_zero, List.set_cons_succ, i64_w, i32_w]
                                  rfl
                                refine pure_ (i := 12) (N := some 45) (v := ?_) (a' := ?_) #[true, true, true, true, false, false, true, true, true, true, true, true, true, false, false, false] rfl rfl (any_of HT_.out (by kernel_rfl)) (fun _ _ _ h => h) (Or.inl ⟨by rfl, ?_⟩) ?_ ?_
                                rotate_left
                                · intro w'
                                  go_simp
                                  with_reducible rfl
                                rotate_left
                                · simp only [Act.put, List.setIfInBounds_toArray, List.set_cons_zero, List.set_cons_succ, i64_w, i32_w]
                                  rfl
                                refine take_ (i := 4) (N := some 37) (v := ?_) (a' := ?_) #[true, true, true, true, true, false, true, true, true, true, true, true, true, false, false, false] rfl rfl (take_ofW HT_.out HW_.out (by kernel_rfl)) (fun _ _ _ h => h) (Or.inl ⟨by rfl, ?_⟩) hHeld ?_ ?_
                                rotate_left
                                · rintro w' ⟨s0, s1⟩
                                  go_simp
                                  with_reducible rfl
                                rotate_left
                                · simp only [Act.put, List.setIfInBounds_toArray, List.set_cons_zero, List.set_cons_succ, i64_w, i32_w]
                                  rfl
                                refine take_ (i := 13) (N := some 46) (v := ?_) (a' := ?_) #[true, true, true, true, true, false, true, true, true, true, true, true, true, true, false, false] rfl rfl (take_ofW HT_.out HW_.out (by kernel_rfl)) (fun _ _ _ h => h) (Or.inl ⟨by rfl, ?_⟩) hHeld ?_ ?_
                                rotate_left
                                · rintro w' ⟨s0, s1⟩
                                  go_simp
                                  with_reducible rfl
                                rotate_left
                                · simp only [Act.put, List.setIfInBounds_toArray, List.set_cons_zero, List.set_cons_succ, i64_w, i32_w]
                                  rfl
                                refine one_ (i := 5) (N := some 38) #[true, true, true, true, true, true, true, true, true, true, true, true, true, true, false, false] rfl rfl (one_of HT_.out (by kernel_rfl)) (by decide) (fun K hK => ?_)
                                refine goes_ Try.func62 (by kernel_rfl) rfl #[.slice A0 l0.length c0, .string (rdOf ByteArray.empty l1 x5_2)] (by rfl) rfl rfl (by (try simp only [List.map_toArray, List.map_cons, List.map_nil]); first | done | rfl | (simp only [List.length_drop, List.length_take]; rfl)) ?_
                                with_reducible refine (cosignerref03_parents.calls k2 _ _ l0 (rdOf ByteArray.empty l1 x5_2) t425 _ ?side1 ?side2 A11.out).mono ?_
                                (case side1 => repeat (first | exact (Kd.C_below HR0.out HB.out) | (with_reducible refine Kd.C_alloc ?_ _) | (with_reducible refine Kd.C_drewN ?_ _) | (with_reducible refine Kd.C_drew ?_)))
                                (case side2 => exact HC0.out)
                                rintro e w34 ⟨v426, rfl, ho0, hb⟩
                                refine ⟨_, rfl, ?_⟩
                                have n0_ := Aside0.mk (Kd.R_lower ho0 (below_size (by repeat (first | (with_reducible first | exact HB.out | apply below_alloc | apply pw_below_drewN | apply below_drew1) | exact HB.out))))
                                have n1_ := Aside0.mk (below_step (by repeat (first | (with_reducible first | exact HB.out | apply below_alloc | apply pw_below_drewN | apply below_drew1) | exact HB.out)) hb)
                                clear HB
                                have HO427 := n0_
                                have HB := n1_
                                clear n0_ n1_
                                (try clear hb)
                                (try clear hb2)
                                (try clear hk)
                                (try clear hi)
                                (try clear ho0)
                                obtain ⟨Ao35, co35, eo35⟩ := Kd.R_slice HO427.out
                                (first | subst eo35 | (injection eo35 with f1_ f2_ f3_; have f4_ := f1_.symm; have f5_ := f3_.symm; clear f1_ f2_ f3_; subst f4_; subst f5_))
                                refine hK.out _ _ ⟨((HB.out.cell (World.block_lt_of_cell? w _ hw424_0)).trans hw424_0), ((HB.out.cell (World.block_lt_of_cell? w _ hw428_0)).trans hw428_0)⟩ (fun hHeld => ?_)
                                clear hK K
                                refine norm_ (a' := ?_) ?_ ?_
                                rotate_left
                                · show Act.put _ (some 38) _ = _
                                  simp only [Act.put, List.setIfInBounds_toArray, List.set_cons_zero, List.set_cons_succ, i64_w, i32_w]
                                  rfl
                                refine one_ (i := 14) (N := some 47) #[true, true, true, true, true, true, true, true, true, true, true, true, true, true, true, false] rfl rfl (one_of HT_.out (by kernel_rfl)) (by decide) (fun K hK => ?_)
                                refine goes_ Try.func60 (by kernel_rfl) rfl #[.slice Ao35 t425.length co35, .string (rdOf ByteArray.empty l1 (ji13))] (by rfl) rfl rfl (by (try simp only [List.map_toArray, List.map_cons, List.map_nil]); first | done | (simp only [hji13]; rfl) | rfl | (simp only [List.length_drop, List.length_take]; rfl)) ?_
                                with_reducible refine (cosignerref03_Has.calls k2 _ _ t425 (rdOf ByteArray.empty l1 (ji13)) true _ ?side1 ?side2 A16.out).mono ?_
                                (case side1 => repeat (first | exact (Kd.R_reads' HO427.out).2.2 | (with_reducible refine Kd.C_alloc ?_ _) | (with_reducible refine Kd.C_drewN ?_ _) | (with_reducible refine Kd.C_drew ?_)))
                                (case side2 => exact (Kd.R_reads' HO427.out).2.1)
                                rintro e w' ⟨rfl, ⟨nd, rfl⟩⟩
                                refine ⟨_, rfl, ?_⟩
                                refine hK.out _ _ ⟨((HB.out.cell (World.block_lt_of_cell? w _ hw424_0)).trans hw424_0), ((HB.out.cell (World.block_lt_of_cell? w _ hw428_0)).trans hw428_0)⟩ (fun hHeld => ?_)
                                clear hK K
                                refine norm_ (a' := ?_) ?_ ?_
                                rotate_left
                                · show Act.put _ (some 47) _ = _
                                  simp only [Act.put, List.setIfInBounds_toArray, List.set_cons_zero, List.set_cons_succ, i64_w, i32_w]
                                  rfl
                                refine pure_ (i := 15) (N := some 7) (v := ?_) (a' := ?_) #[true, true, true, true, true, true, true, true, true, true, true, true, true, true, true, true] rfl rfl (any_of HT_.out (by kernel_rfl)) (fun _ _ _ h => h) (Or.inl ⟨by rfl, ?_⟩) ?_ ?_
                                rotate_left
                                · intro w'
                                  go_simp
                                  with_reducible rfl
                                rotate_left
                                · simp only [Act.put, List.setIfInBounds_toArray, List.set_cons_zero, List.set_cons_succ, i64_w, i32_w]
                                  rfl
                                refine done_ (done_of HT_.out (by kernel_rfl)) ?_
                                have p430 : 0 ≤ ((ji13) : Int) := of_decide_eq_true (by first | (with_reducible assumption) | assumption)
                                have q430 : (ji13) < (l1.length : Int) := of_decide_eq_true (by first | (with_reducible assumption) | assumption)
                                obtain ⟨ad430, e430, hx430_0⟩ := Kd.at_string HR1.out (ji13) p430 q430
                                obtain rfl : ad422 = ad430 := (by injection e430)
                                replace hx430_0 := (HB.out.cell (World.block_lt_of_cell? w _ hx430_0)).trans hx430_0
                                replace p430 := eq_true p430
                                replace q430 := eq_true q430
                                try go_wp2_with (first | (go_at_call 88; (with_reducible refine (cosignerref03_index.calls k2 _ _ l0 (rdOf ByteArray.empty l1 (ji13)) t431 _ ?side1 ?side2 A24.out).mono ?_); (case side1 => repeat (first | exact (Kd.C_below HR0.out (by repeat (first | (with_reducible first | exact HB.out | apply below_alloc | apply pw_below_drewN | apply below_drew1) | exact HB.out))) | (with_reducible refine Kd.C_alloc ?_ _) | (with_reducible refine Kd.C_drewN ?_ _) | (with_reducible refine Kd.C_drew ?_))); (case side2 => exact HC0.out); rintro e w' ⟨rfl, ⟨nd, rfl⟩⟩))
                                go_roundg k2
                                case measure => have := HJ2.out; have := HK2.out; omega
                                case rel => exact ⟨(wrap64 (x5_2 + 1)), (by first | rfl | (simp; done) | (simp [*]; done)), H', ⟨by have := HJ2.out; have := HK2.out; omega⟩, ⟨by repeat (first | (with_reducible first | exact HB.out | apply below_alloc | apply pw_below_drewN | apply below_drew1) | exact HB.out)⟩⟩
                            · replace c23 := Bool.eq_false_iff.mpr c23
                              subst c23
                              have H1 : (some 11) = some r := by rw [if_neg (show ¬ (false = true) by decide)] at H; exact H
                              clear H
                              have H := H1
                              clear H1
                              obtain rfl := Option.some.inj H
                              try go_wp2
                              have n0_ := Aside0.mk (below_drew1 HB.out)
                              clear HB
                              have HB := n0_
                              clear n0_
                              obtain ⟨i037, hi037, _, hsz37, _⟩ := info_parts info9
                              obtain ⟨hcut37, hA37, hC37⟩ := print_take_of (P := Try.prog) Value.string (⟨#[]⟩ : ByteArray) 25 9 .i64 Try.underlying25 hi037 hsz37 A1 c1 l1 x5_2 (of_decide_eq_true (by first | (with_reducible assumption) | assumption)) (of_decide_eq_true (by first | (with_reducible assumption) | assumption)) HC1.out
                              have HR421 := Aside0.mk (Kd.C_of_reads (h1 := fun _ => rfl) (hA37 _ (Kd.reads_of_C HR1.out)))
                              have HC421 := Aside0.mk hC37
                              clear hA37 hC37 hi037 hsz37
                              have p422 : 0 ≤ (x5_2 : Int) := of_decide_eq_true (by first | (with_reducible assumption) | assumption)
                              have q422 : x5_2 < (l1.length : Int) := of_decide_eq_true (by first | (with_reducible assumption) | assumption)
                              obtain ⟨ad422, e422, hx422_0⟩ := Kd.at_string HR1.out x5_2 p422 q422
                              have hw422_0 := hx422_0
                              cases e422
                              replace hx422_0 := (HB.out.cell (World.block_lt_of_cell? w _ hx422_0)).trans hx422_0
                              replace p422 := eq_true p422
                              replace q422 := eq_true q422
                              refine start_ (n := 9) (S := fun w' => w'.cell? (ad422.add (x5_2).toNat) = some (.string (rdOf ByteArray.empty l1 x5_2))) (ds := []) #[false, false, false, false, false, false, false, false, false] (by kernel_rfl) rfl rfl (((HB.out.cell (World.block_lt_of_cell? w _ hw422_0)).trans hw422_0)) (fun hHeld => ?_); refine with_tabW cosignerref03_CheckRing.tab8 cosignerref03_CheckRing.bits8 (fun HT_ HW_ => ?_)
                              generalize wr.drew = w36 at HB HR421 hx422_0 hHeld ⊢
                              refine pure_ (i := 0) (N := some 25) (v := ?_) (a' := ?_) #[true, false, false, false, false, false, false, false, false] rfl rfl (any_of HT_.out (by kernel_rfl)) (fun _ _ _ h => h) (Or.inl ⟨by rfl, ?_⟩) ?_ ?_
                              rotate_left
                              · intro w'
                                go_simp
                                with_reducible rfl
                              rotate_left
                              · simp only [Act.put, List.setIfInBounds_toArray, List.set_cons_zero, List.set_cons_succ, i64_w, i32_w]
                                rfl
                              refine pure_ (i := 1) (N := some 26) (v := ?_) (a' := ?_) #[true, true, false, false, false, false, false, false, false] rfl rfl (any_of HT_.out (by kernel_rfl)) (fun _ _ _ h => h) (Or.inl ⟨by rfl, ?_⟩) ?_ ?_
                              rotate_left
                              · intro w'
                                go_simp
                                with_reducible rfl
                              rotate_left
                              · simp only [Act.put, List.setIfInBounds_toArray, List.set_cons_zero, List.set_cons_succ, i64_w, i32_w]
                                rfl
                              refine pure_ (i := 2) (N := some 27) (v := ?_) (a' := ?_) #[true, true, true, false, false, false, false, false, false] rfl rfl (any_of HT_.out (by kernel_rfl)) (fun _ _ _ h => h) (Or.inl ⟨by rfl, ?_⟩) ?_ ?_
                              rotate_left
                              · intro w'
                                go_simp
                                with_reducible rfl
                              rotate_left
                              · simp only [Act.put, List.setIfInBounds_toArray, List.set_cons_zero, List.set_cons_succ, i64_w, i32_w]
                                rfl
                              refine pure_ (i := 3) (N := some 28) (v := ?_) (a' := ?_) #[true, true, true, true, false, false, false, false, false] rfl rfl (any_of HT_.out (by kernel_rfl)) (fun _ _ _ h => h) (Or.inl ⟨by rfl, ?_⟩) ?_ ?_
                              rotate_left
                              · intro w'
                                go_simp
                                with_reducible rfl
                              rotate_left
                              · simp only [Act.put, List.setIfInBounds_toArray, List.set_cons_zero, List.set_cons_succ, i64_w, i32_w]
                                rfl
                              refine pure_ (i := 4) (N := some 29) (v := ?_) (a' := ?_) #[true, true, true, true, true, false, false, false, false] rfl rfl (any_of HT_.out (by kernel_rfl)) (fun _ _ _ h => h) (Or.inl ⟨by rfl, ?_⟩) ?_ ?_
                              rotate_left
                              · intro w'
                                go_simp
                                with_reducible rfl
                              rotate_left
                              · simp only [Act.put, List.setIfInBounds_toArray, List.set_cons_zero, List.set_cons_succ, i64_w, i32_w]
                                rfl
                              refine pure_ (i := 5) (N := some 30) (v := ?_) (a' := ?_) #[true, true, true, true, true, true, false, false, false] rfl rfl (any_of HT_.out (by kernel_rfl)) (fun _ _ _ h => h) (Or.inl ⟨by rfl, ?_⟩) ?_ ?_
                              rotate_left
                              · intro w'
                                go_simp
                                with_reducible rfl
                              rotate_left
                              · simp only [Act.put, List.setIfInBounds_toArray, List.set_cons_zero, List.set_cons_succ, i64_w, i32_w]
                                rfl
                              refine take_ (i := 6) (N := some 31) (v := ?_) (a' := ?_) #[true, true, true, true, true, true, true, false, false] rfl rfl (take_ofW HT_.out HW_.out (by kernel_rfl)) (fun _ _ _ h => h) (Or.inl ⟨by rfl, ?_⟩) hHeld ?_ ?_
                              rotate_left
                              · intro w' s0
                                go_simp
                                with_reducible rfl
                              rotate_left
                              · simp only [Act.put, List.setIfInBounds_toArray, List.set_cons_zero, List.set_cons_succ, i64_w, i32_w]
                                rfl
                              refine one_ (i := 7) (N := some 32) #[true, true, true, true, true, true, true, true, false] rfl rfl (one_of HT_.out (by kernel_rfl)) (by decide) (fun K hK => ?_)
                              refine goes_ Try.func60 (by kernel_rfl) rfl #[.slice (some ad422) (l1.take (x5_2 : Int).toNat).length c1, .string (rdOf ByteArray.empty l1 x5_2)] (by rfl) rfl rfl (by (try simp only [List.map_toArray, List.map_cons, List.map_nil]); first | done | (rw [show (l1.take (x5_2 : Int).toNat).length = x5_2.toNat from (by rw [List.length_take]; have h_ : (x5_2 : Int) ≤ (l1.length : Int) := of_decide_eq_true (by first | (with_reducible assumption) | assumption); omega)] <;> rfl) | rfl | (simp only [List.length_drop, List.length_take]; rfl)) ?_
                              with_reducible refine (cosignerref03_Has.calls k2 _ _ (l1.take (x5_2 : Int).toNat) (rdOf ByteArray.empty l1 x5_2) false _ ?side1 ?side2 A10.out).mono ?_
                              (case side1 => repeat (first | exact (Kd.C_below HR421.out HB.out) | (with_reducible refine Kd.C_alloc ?_ _) | (with_reducible refine Kd.C_drewN ?_ _) | (with_reducible refine Kd.C_drew ?_)))
                              (case side2 => exact HC421.out)
                              rintro e w' ⟨rfl, ⟨nd, rfl⟩⟩
                              refine ⟨_, rfl, ?_⟩
                              refine hK.out _ _ (((HB.out.cell (World.block_lt_of_cell? w _ hw422_0)).trans hw422_0)) (fun hHeld => ?_)
                              clear hK K
                              refine norm_ (a' := ?_) ?_ ?_
                              rotate_left
                              · show Act.put _ (some 32) _ = _
                                simp only [Act.put, List.setIfInBounds_toArray, List.set_cons_zero, List.set_cons_succ, i64_w, i32_w]
                                rfl
                              refine pure_ (i := 8) (N := some 6) (v := ?_) (a' := ?_) #[true, true, true, true, true, true, true, true, true] rfl rfl (any_of HT_.out (by kernel_rfl)) (fun _ _ _ h => h) (Or.inl ⟨by rfl, ?_⟩) ?_ ?_
                              rotate_left
                              · intro w'
                                go_simp
                                with_reducible rfl
                              rotate_left
                              · simp only [Act.put, List.setIfInBounds_toArray, List.set_cons_zero, List.set_cons_succ, i64_w, i32_w]
                                rfl
                              refine done_ (done_of HT_.out (by kernel_rfl)) ?_
                              try go_wp2
                              (try (rw [drewN_self w36]; generalize hq_ : World.drewN w36 _ = w36; have n0_ : Aside0 (Below w.heap.size w w36) := ⟨by rw [← hq_]; exact (by repeat (first | (with_reducible first | exact HB.out | apply below_alloc | apply pw_below_drewN | apply below_drew1) | exact HB.out))⟩; clear HB hq_; have HB := n0_; clear n0_))
                              have n0_ := Aside0.mk (below_drew1 HB.out)
                              clear HB
                              have HB := n0_
                              clear n0_
                              have p424 : 0 ≤ (x5_2 : Int) := of_decide_eq_true (by first | (with_reducible assumption) | assumption)
                              have q424 : x5_2 < (l1.length : Int) := of_decide_eq_true (by first | (with_reducible assumption) | assumption)
                              obtain ⟨ad424, e424, hx424_0⟩ := Kd.at_string HR1.out x5_2 p424 q424
                              have hw424_0 := hx424_0
                              obtain rfl : ad422 = ad424 := (by injection e424)
                              replace hx424_0 := (HB.out.cell (World.block_lt_of_cell? w _ hx424_0)).trans hx424_0
                              replace p424 := eq_true p424
                              replace q424 := eq_true q424
                              have p428 : 0 ≤ ((ji13) : Int) := of_decide_eq_true (by first | (with_reducible assumption) | assumption)
                              have q428 : (ji13) < (l1.length : Int) := of_decide_eq_true (by first | (with_reducible assumption) | assumption)
                              obtain ⟨ad428, e428, hx428_0⟩ := Kd.at_string HR1.out (ji13) p428 q428
                              have hw428_0 := hx428_0
                              obtain rfl : ad422 = ad428 := (by injection e428)
                              replace hx428_0 := (HB.out.cell (World.block_lt_of_cell? w _ hx428_0)).trans hx428_0
                              replace p428 := eq_true p428
                              replace q428 := eq_true q428
                              refine start_ (n := 16) (S := fun w' => w'.cell? (ad422.add (x5_2).toNat) = some (.string (rdOf ByteArray.empty l1 x5_2)) ∧ w'.cell? (ad422.add ((ji13)).toNat) = some (.string (rdOf ByteArray.empty l1 (ji13)))) (ds := []) #[false, false, false, false, false, false, false, false, false, false, false, false, false, false, false, false] (by kernel_rfl) rfl rfl ⟨((HB.out.cell (World.block_lt_of_cell? w _ hw424_0)).trans hw424_0), ((HB.out.cell (World.block_lt_of_cell? w _ hw428_0)).trans hw428_0)⟩ (fun hHeld => ?_); refine with_tabW cosignerref03_CheckRing.tab9 cosignerref03_CheckRing.bits9 (fun HT_ HW_ => ?_)
                              generalize w36.drew = w38 at HB hx424_0 hx428_0 hHeld ⊢
                              refine pure_ (i := 0) (N := some 33) (v := ?_) (a' := ?_) #[true, false, false, false, false, false, false, false, false, false, false, false, false, false, false, false] rfl rfl (any_of HT_.out (by kernel_rfl)) (fun _ _ _ h => h) (Or.inl ⟨by rfl, ?_⟩) ?_ ?_
                              rotate_left
                              · intro w'
                                go_simp
                                with_reducible rfl
                              rotate_left
                              · simp only [Act.put, List.setIfInBounds_toArray, List.set_cons_zero, List.set_cons_succ, i64_w, i32_w]
                                rfl
                              refine pure_ (i := 1) (N := some 34) (v := ?_) (a' := ?_) #[true, true, false, false, false, false, false, false, false, false, false, false, false, false, false, false] rfl rfl (any_of HT_.out (by kernel_rfl)) (fun _ _ _ h => h) (Or.inl ⟨by rfl, ?_⟩) ?_ ?_
                              rotate_left
                              · intro w'
                                go_simp
                                with_reducible rfl
                              rotate_left
                              · simp only [Act.put, List.setIfInBounds_toArray, List.set_cons_zero, List.set_cons_succ, i64_w, i32_w]
                                rfl
                              refine pure_ (i := 2) (N := some 35) (v := ?_) (a' := ?_) #[true, true, true, false, false, false, false, false, false, false, false, false, false, false, false, false] rfl rfl (any_of HT_.out (by kernel_rfl)) (fun _ _ _ h => h) (Or.inl ⟨by rfl, ?_⟩) ?_ ?_
                              rotate_left
                              · intro w'
                                go_simp
                                with_reducible rfl
                              rotate_left
                              · simp only [Act.put, List.setIfInBounds_toArray, List.set_cons_zero, List.set_cons_succ, i64_w, i32_w]
                                rfl
                              refine pure_ (i := 3) (N := some 36) (v := ?_) (a' := ?_) #[true, true, true, true, false, false, false, false, false, false, false, false, false, false, false, false] rfl rfl (any_of HT_.out (by kernel_rfl)) (fun _ _ _ h => h) (Or.inl ⟨by rfl, ?_⟩) ?_ ?_
                              rotate_left
                              · intro w'
                                go_simp
                                with_reducible rfl
                              rotate_left
                              · simp only [Act.put, List.setIfInBounds_toArray, List.set_cons_zero, List.set_cons_succ, i64_w, i32_w]
                                rfl
                              refine pure_ (i := 6) (N := some 39) (v := ?_) (a' := ?_) #[true, true, true, true, false, false, true, false, false, false, false, false, false, false, false, false] rfl rfl (any_of HT_.out (by kernel_rfl)) (fun _ _ _ h => h) (Or.inl ⟨by rfl, ?_⟩) ?_ ?_
                              rotate_left
                              · intro w'
                                go_simp
                                with_reducible rfl
                              rotate_left
                              · simp only [Act.put, List.setIfInBounds_toArray, List.set_cons_zero, List.set_cons_succ, i64_w, i32_w]
                                rfl
                              refine pure_ (i := 7) (N := some 40) (v := ?_) (a' := ?_) #[true, true, true, true, false, false, true, true, false, false, false, false, false, false, false, false] rfl rfl (any_of HT_.out (by kernel_rfl)) (fun _ _ _ h => h) (Or.inl ⟨by rfl, ?_⟩) ?_ ?_
                              rotate_left
                              · intro w'
                                go_simp
                                with_reducible rfl
                              rotate_left
                              · simp only [Act.put, List.setIfInBounds_toArray, List.set_cons_zero, List.set_cons_succ, i64_w, i32_w]
                                rfl
                              refine pure_ (i := 8) (N := some 41) (v := ?_) (a' := ?_) #[true, true, true, true, false, false, true, true, true, false, false, false, false, false, false, false] rfl rfl (any_of HT_.out (by kernel_rfl)) (fun _ _ _ h => h) (Or.inl ⟨by rfl, ?_⟩) ?_ ?_
                              rotate_left
                              · intro w'
                                go_simp
                                with_reducible rfl
                              rotate_left
                              · simp only [Act.put, List.setIfInBounds_toArray, List.set_cons_zero, List.set_cons_succ, i64_w, i32_w]
                                rfl
                              refine pure_ (i := 9) (N := some 42) (v := ?_) (a' := ?_) #[true, true, true, true, false, false, true, true, true, true, false, false, false, false, false, false] rfl rfl (any_of HT_.out (by kernel_rfl)) (fun _ _ _ h => h) (Or.inl ⟨by rfl, ?_⟩) ?_ ?_
                              rotate_left
                              · intro w'
                                go_simp
                                with_reducible rfl
                              rotate_left
                              · simp only [Act.put, List.setIfInBounds_toArray, List.set_cons_zero, List.set_cons_succ, i64_w, i32_w]
                                rfl
                              refine pure_ (i := 10) (N := some 43) (v := ?_) (a' := ?_) #[true, true, true, true, false, false, true, true, true, true, true, false, false, false, false, false] rfl rfl (any_of HT_.out (by kernel_rfl)) (fun _ _ _ h => h) (Or.inl ⟨by rfl, ?_⟩) ?_ ?_
                              rotate_left
                              · intro w'
                                go_simp
                                with_reducible rfl
                              rotate_left
                              · simp only [Act.put, List.setIfInBounds_toArray, List.set_cons_zero, List.set_cons_succ, i64_w, i32_w]
                                rfl
                              refine pure_ (i := 11) (N := some 44) (v := ?_) (a' := ?_) #[true, true, true, true, false, false, true, true, true, true, true, true, false, false, false, false] rfl rfl (any_of HT_.out (by kernel_rfl)) (fun _ _ _ h => h) (Or.inl ⟨by rfl, ?_⟩) ?_ ?_
                              rotate_left
                              · intro w'
                                go_simp
                                with_reducible rfl
                              rotate_left
                              · simp only [Act.put, List.setIfInBounds_toArray, List.set_cons_zero, List.set_cons_succ, i64_w, i32_w]
                                rfl
                              refine pure_ (i := 12) (N := some 45) (v := ?_) (a' := ?_) #[true, true, true, true, false, false, true, true, true, true, true, true, true, false, false, false] rfl rfl (any_of HT_.out (by kernel_rfl)) (fun _ _ _ h => h) (Or.inl ⟨by rfl, ?_⟩) ?_ ?_
                              rotate_left
                              · intro w'
                                go_simp
                                with_reducible rfl
                              rotate_left
                              · simp only [Act.put, List.setIfInBounds_toArray, List.set_cons_zero, List.set_cons_succ, i64_w, i32_w]
                                rfl
                              refine take_ (i := 4) (N := some 37) (v := ?_) (a' := ?_) #[true, true, true, true, true, false, true, true, true, true, true, true, true, false, false, false] rfl rfl (take_ofW HT_.out HW_.out (by kernel_rfl)) (fun _ _ _ h => h) (Or.inl ⟨by rfl, ?_⟩) hHeld ?_ ?_
                              rotate_left
                              · rintro w' ⟨s0, s1⟩
                                go_simp
                                with_reducible rfl
                              rotate_left
                              · simp only [Act.put, List.setIfInBounds_toArray, List.set_cons_zero, List.set_cons_succ, i64_w, i32_w]
                                rfl
                              refine take_ (i := 13) (N := some 46) (v := ?_) (a' := ?_) #[true, true, true, true, true, false, true, true, true, true, true, true, true, true, false, false] rfl rfl (take_ofW HT_.out HW_.out (by kernel_rfl)) (fun _ _ _ h => h) (Or.inl ⟨by rfl, ?_⟩) hHeld ?_ ?_
                              rotate_left
                              · rintro w' ⟨s0, s1⟩
                                go_simp
                                with_reducible rfl
                              rotate_left
                              · simp only [Act.put, List.setIfInBounds_toArray, List.set_cons_zero, List.set_cons_succ, i64_w, i32_w]
                                rfl
                              refine one_ (i := 5) (N := some 38) #[true, true, true, true, true, true, true, true, true, true, true, true, true, true, false, false] rfl rfl (one_of HT_.out (by kernel_rfl)) (by decide) (fun K hK => ?_)
                              refine goes_ Try.func62 (by kernel_rfl) rfl #[.slice A0 l0.length c0, .string (rdOf ByteArray.empty l1 x5_2)] (by rfl) rfl rfl (by (try simp only [List.map_toArray, List.map_cons, List.map_nil]); first | done | rfl | (simp only [List.length_drop, List.length_take]; rfl)) ?_
                              with_reducible refine (cosignerref03_parents.calls k2 _ _ l0 (rdOf ByteArray.empty l1 x5_2) t425 _ ?side1 ?side2 A11.out).mono ?_
                              (case side1 => repeat (first | exact (Kd.C_below HR0.out HB.out) | (with_reducible refine Kd.C_alloc ?_ _) | (with_reducible refine Kd.C_drewN ?_ _) | (with_reducible refine Kd.C_drew ?_)))
                              (case side2 => exact HC0.out)
                              rintro e w39 ⟨v426, rfl, ho0, hb⟩
                              refine ⟨_, rfl, ?_⟩
                              have n0_ := Aside0.mk (Kd.R_lower ho0 (below_size (by repeat (first | (with_reducible first | exact HB.out | apply below_alloc | apply pw_below_drewN | apply below_drew1) | exact HB.out))))
                              have n1_ := Aside0.mk (below_step (by repeat (first | (with_reducible first | exact HB.out | apply below_alloc | apply pw_below_drewN | apply below_drew1) | exact HB.out)) hb)
                              clear HB
                              have HO427 := n0_
                              have HB := n1_
                              clear n0_ n1_
                              (try clear hb)
                              (try clear hb2)
                              (try clear hk)
                              (try clear hi)
                              (try clear ho0)
                              obtain ⟨Ao40, co40, eo40⟩ := Kd.R_slice HO427.out
                              (first | subst eo40 | (injection eo40 with f1_ f2_ f3_; have f4_ := f1_.symm; have f5_ := f3_.symm; clear f1_ f2_ f3_; subst f4_; subst f5_))
                              refine hK.out _ _ ⟨((HB.out.cell (World.block_lt_of_cell? w _ hw424_0)).trans hw424_0), ((HB.out.cell (World.block_lt_of_cell? w _ hw428_0)).trans hw428_0)⟩ (fun hHeld => ?_)
                              clear hK K
                              refine norm_ (a' := ?_) ?_ ?_
                              rotate_left
                              · show Act.put _ (some 38) _ = _
                                simp only [Act.put, List.setIfInBounds_toArray, List.set_cons_zero, List.set_cons_succ, i64_w, i32_w]
                                rfl
                              refine one_ (i := 14) (N := some 47) #[true, true, true, true, true, true, true, true, true, true, true, true, true, true, true, false] rfl rfl (one_of HT_.out (by kernel_rfl)) (by decide) (fun K hK => ?_)
                              refine goes_ Try.func60 (by kernel_rfl) rfl #[.slice Ao40 t425.length co40, .string (rdOf ByteArray.empty l1 (ji13))] (by rfl) rfl rfl (by (try simp only [List.map_toArray, List.map_cons, List.map_nil]); first | done | (simp only [hji13]; rfl) | rfl | (simp only [List.length_drop, List.length_take]; rfl)) ?_
                              with_reducible refine (cosignerref03_Has.calls k2 _ _ t425 (rdOf ByteArray.empty l1 (ji13)) false _ ?side1 ?side2 A16.out).mono ?_
                              (case side1 => repeat (first | exact (Kd.R_reads' HO427.out).2.2 | (with_reducible refine Kd.C_alloc ?_ _) | (with_reducible refine Kd.C_drewN ?_ _) | (with_reducible refine Kd.C_drew ?_)))
                              (case side2 => exact (Kd.R_reads' HO427.out).2.1)
                              rintro e w' ⟨rfl, ⟨nd, rfl⟩⟩
                              refine ⟨_, rfl, ?_⟩
                              refine hK.out _ _ ⟨((HB.out.cell (World.block_lt_of_cell? w _ hw424_0)).trans hw424_0), ((HB.out.cell (World.block_lt_of_cell? w _ hw428_0)).trans hw428_0)⟩ (fun hHeld => ?_)
                              clear hK K
                              refine norm_ (a' := ?_) ?_ ?_
                              rotate_left
                              · show Act.put _ (some 47) _ = _
                                simp only [Act.put, List.setIfInBounds_toArray, List.set_cons_zero, List.set_cons_succ, i64_w, i32_w]
                                rfl
                              refine pure_ (i := 15) (N := some 7) (v := ?_) (a' := ?_) #[true, true, true, true, true, true, true, true, true, true, true, true, true, true, true, true] rfl rfl (any_of HT_.out (by kernel_rfl)) (fun _ _ _ h => h) (Or.inl ⟨by rfl, ?_⟩) ?_ ?_
                              rotate_left
                              · intro w'
                                go_simp
                                with_reducible rfl
                              rotate_left
                              · simp only [Act.put, List.setIfInBounds_toArray, List.set_cons_zero, List.set_cons_succ, i64_w, i32_w]
                                rfl
                              refine done_ (done_of HT_.out (by kernel_rfl)) ?_
                              try go_wp2
                              go_ret
                              exact ⟨by first | rfl | (simp [errW_none, errW_some] <;> rfl) | (simp only [← hji13]; first | rfl | (simp [errW_none, errW_some] <;> rfl)) | (simp [*, errW_none, errW_some] <;> rfl), by repeat (first | (with_reducible first | exact HB.out | apply below_alloc | apply pw_below_drewN | apply below_drew1) | exact HB.out)⟩
                        · rw [if_neg c15] at H
                          exact absurd H (by simp)
                      · rw [if_neg c14] at H
                        exact absurd H (by simp)
                  · rw [if_neg c9] at H
                    exact absurd H (by simp)
                · rw [if_neg c8] at H
                  exact absurd H (by simp)
              · rw [if_neg c7] at H
                have c7b0 : decide (x5_2 < (l1.length : Int)) = false := decide_eq_false c7
                clear c7
                obtain rfl := Option.some.inj H
                go_wp2
                go_ret
                exact ⟨by first | rfl | (simp [errW_none, errW_some] <;> rfl) | (simp [*, errW_none, errW_some] <;> rfl), by repeat (first | (with_reducible first | exact HB.out | apply below_alloc | apply pw_below_drewN | apply below_drew1) | exact HB.out)⟩
end Go.Proofs.Ytdljclokenoogaa.Hp
end
section
namespace Go.Proofs.Ytdljclokenoogaa.Hp
open Go.RowKit Go.Proofs.YtdljclokenoogaaW.PrintWords Go.Proofs.YtdljclokenoogaaW.PrintLast Go.Proofs.YtdljclokenoogaaW.PrintMore
attribute [local go_sem] max2_int min2_int max_two min_two max_three min_three max_four min_four
set_option linter.unusedVariables false
set_option linter.unusedSimpArgs false
def cosignerlaw03_HeirChecks.j0 : Nat → List (S61) → List ByteArray → Bool → Option (Bool)
  | 0, _, _, _ => none
  | k + 1, x0, x1, x18 => if x18 = true then ((cosignerlaw03_sanity.f).bind fun t433 => (some t433)) else ((heir_Check.f x0).bind fun bt434 => ((cosignerref03_Check.f k x0).bind fun bt436 => ((heir_Ring.f x0).bind fun bt439 => ((cosignerref03_Ring.f x0).bind fun t443 => ((cosignerlaw03_sanity.f).bind fun t446 => (if t446 = true then (if bt434.1 = bt436.1 then (if bt434.2.toList = bt436.2.toList then ((cosignerref03_SameNames.f k bt439.1 t443).bind fun t447 => (if t447 = true then (if (bt439.2 == (decide ((t443.length : Int) > 0))) = true then ((heir_CheckRing.f x0 x1).bind fun t448 => ((cosignerref03_CheckRing.f k x0 x1).bind fun t449 => (some (t448 == t449)))) else (some false)) else (some false))) else (some false)) else (some false)) else (some false)))))))
def cosignerlaw03_HeirChecks.f (k : Nat) (l0 : List (S61)) (l1 : List ByteArray) : Option (Bool) := (cosignerlaw03_few.f k l0).bind fun t432 => (if t432 = true then (cosignerlaw03_HeirChecks.j0 k l0 l1 (decide ((l1.length : Int) > 40))) else (cosignerlaw03_HeirChecks.j0 k l0 l1 true))
set_option maxHeartbeats 8000000 in
set_option maxRecDepth 100000 in
theorem cosignerlaw03_HeirChecks.calls (k : Nat) (A0 : Option Addr) (c0 : Nat) (l0 : List (S61)) (A1 : Option Addr) (c1 : Nat) (l1 : List ByteArray) (r : Bool) (hrt : r = true) (w : World) (hr0 : Kd.C k61 w A0 l0.length l0) (hc0 : l0.length ≤ c0) (hr1 : Kd.C Kd.string w A1 l1.length l1) (hc1 : l1.length ≤ c1) (h : cosignerlaw03_HeirChecks.f k l0 l1 = some r) :
    Calls Try.prog 12 #[.slice A0 l0.length c0, .slice A1 l1.length c1] w fun e w' => e = .returned (.bool r) ∧ Below w.heap.size w w' := by
  have hu87 := Try.underlying87
  have HR0 := Aside0.mk hr0
  have HC0 := Aside0.mk hc0
  clear hr0 hc0
  have HR1 := Aside0.mk hr1
  have HC1 := Aside0.mk hc1
  clear hr1 hc1
  have HB := Aside0.mk (Below.refl w.heap.size w)
  have H : ((cosignerlaw03_few.f k l0).bind fun t432 => (if t432 = true then (cosignerlaw03_HeirChecks.j0 k l0 l1 (decide ((l1.length : Int) > 40))) else (cosignerlaw03_HeirChecks.j0 k l0 l1 true))) = some r := h
  clear h
  have HC3 := Aside0.mk H
  clear H
  go_enter Try.func12, Try.ntmps12
  go_upto_region 1 with (fail)
  go_cut [18] (fun v18 wc => ∃ (kq : Nat) (x18_2 : Bool), v18 = .bool x18_2 ∧ Aside0 (cosignerlaw03_HeirChecks.j0 kq l0 l1 x18_2 = some r) ∧ Aside0 (kq ≤ k) ∧ Aside0 (Below w.heap.size w wc))
  case first =>
    have H := HC3.out
    clear HC3
    replace H := Option.bind_eq_some_iff.mp H
    obtain ⟨t432, A40, H⟩ := H
    replace H : (if t432 = true then (cosignerlaw03_HeirChecks.j0 k l0 l1 (decide ((l1.length : Int) > 40))) else (cosignerlaw03_HeirChecks.j0 k l0 l1 true)) = some r := H
    have A4 := Aside0.mk A40
    clear A40
    by_cases c5 : t432 = true
    · subst c5
      have H1 : (cosignerlaw03_HeirChecks.j0 k l0 l1 (decide ((l1.length : Int) > 40))) = some r := by rw [if_pos rfl] at H; exact H
      clear H
      have H := H1
      clear H1
      have H' := Aside0.mk H
      clear H
      go_wp2_with (first | ((with_reducible refine gate_callee (f := 15) rfl ?_); refine goesL_ (some 12) rfl rfl Try.func15 (by kernel_rfl) rfl #[.slice A0 l0.length c0] rfl (by (try simp only [List.map_toArray, List.map_cons, List.map_nil]); first | done | rfl | (simp only [List.length_drop, List.length_take]; rfl)) ?_; (with_reducible refine (cosignerlaw03_few.calls k _ _ l0 true _ ?side1 ?side2 A4.out).mono ?_); (case side1 => repeat (first | exact (Kd.C_below HR0.out HB.out) | (with_reducible refine Kd.C_alloc ?_ _) | (with_reducible refine Kd.C_drewN ?_ _) | (with_reducible refine Kd.C_drew ?_))); (case side2 => exact HC0.out); rintro e w' ⟨rfl, ⟨nd, rfl⟩⟩; refine ⟨_, rfl, ?_⟩))
      go_meet
      case rel => exact ⟨_, (decide ((l1.length : Int) > 40)), (by first | rfl | (simp; done) | (simp [*]; done)), H', ⟨by first | omega | exact Nat.le_refl _⟩, ⟨by repeat (first | (with_reducible first | exact HB.out | apply below_alloc | apply pw_below_drewN | apply below_drew1) | exact HB.out)⟩⟩
    · replace c5 := Bool.eq_false_iff.mpr c5
      subst c5
      have H1 : (cosignerlaw03_HeirChecks.j0 k l0 l1 true) = some r := by rw [if_neg (show ¬ (false = true) by decide)] at H; exact H
      clear H
      have H := H1
      clear H1
      have H' := Aside0.mk H
      clear H
      go_wp2_with (first | ((with_reducible refine gate_callee (f := 15) rfl ?_); refine goesL_ (some 12) rfl rfl Try.func15 (by kernel_rfl) rfl #[.slice A0 l0.length c0] rfl (by (try simp only [List.map_toArray, List.map_cons, List.map_nil]); first | done | rfl | (simp only [List.length_drop, List.length_take]; rfl)) ?_; (with_reducible refine (cosignerlaw03_few.calls k _ _ l0 false _ ?side1 ?side2 A4.out).mono ?_); (case side1 => repeat (first | exact (Kd.C_below HR0.out HB.out) | (with_reducible refine Kd.C_alloc ?_ _) | (with_reducible refine Kd.C_drewN ?_ _) | (with_reducible refine Kd.C_drew ?_))); (case side2 => exact HC0.out); rintro e w' ⟨rfl, ⟨nd, rfl⟩⟩; refine ⟨_, rfl, ?_⟩))
      go_meet
      case rel => exact ⟨_, (true), (by first | rfl | (simp; done) | (simp [*]; done)), H', ⟨by first | omega | exact Nat.le_refl _⟩, ⟨by repeat (first | (with_reducible first | exact HB.out | apply below_alloc | apply pw_below_drewN | apply below_drew1) | exact HB.out)⟩⟩
  case rest =>
    clear HC3
    try clear c1
    try clear p2
    try clear c5
    obtain ⟨kq, x18_2, rfl, HA, HJ2, HB⟩ := hcut
    cases kq with
    | zero => exact absurd HA.out (by simp [cosignerlaw03_HeirChecks.j0])
    | succ kj2 =>
      have H := HA.out
      clear HA
      simp only [cosignerlaw03_HeirChecks.j0] at H
      by_cases c6 : x18_2 = true
      · subst c6
        have H1 : ((cosignerlaw03_sanity.f).bind fun t433 => (some t433)) = some r := by rw [if_pos rfl] at H; exact H
        clear H
        have H := H1
        clear H1
        replace H := Option.bind_eq_some_iff.mp H
        obtain ⟨t433, A70, H⟩ := H
        replace H : (some t433) = some r := H
        have A7 := Aside0.mk A70
        clear A70
        obtain rfl := Option.some.inj H
        go_wp2_with (first | ((with_reducible refine gate_callee (f := 16) rfl ?_); refine goesL_ (some 19) rfl rfl Try.func16 (by kernel_rfl) rfl #[] rfl (by (try simp only [List.map_toArray, List.map_cons, List.map_nil]); first | done | rfl | (simp only [List.length_drop, List.length_take]; rfl)) ?_; (with_reducible refine (cosignerlaw03_sanity.calls  t433 _ A7.out).mono ?_); rintro e w8 ⟨rfl, hb⟩; refine ⟨_, rfl, ?_⟩; have n0_ := Aside0.mk (below_step (by repeat (first | (with_reducible first | exact HB.out | apply below_alloc | apply pw_below_drewN | apply below_drew1) | exact HB.out)) hb); clear HB; have HB := n0_; clear n0_; (try clear hb); (try clear hb2); (try clear hk); (try clear hi)))
        go_ret
        exact ⟨by first | rfl | (simp [errW_none, errW_some] <;> rfl) | (simp [*, errW_none, errW_some] <;> rfl), by repeat (first | (with_reducible first | exact HB.out | apply below_alloc | apply pw_below_drewN | apply below_drew1) | exact HB.out)⟩
      · replace c6 := Bool.eq_false_iff.mpr c6
        subst c6
        have H1 : ((heir_Check.f l0).bind fun bt434 => ((cosignerref03_Check.f kj2 l0).bind fun bt436 => ((heir_Ring.f l0).bind fun bt439 => ((cosignerref03_Ring.f l0).bind fun t443 => ((cosignerlaw03_sanity.f).bind fun t446 => (if t446 = true then (if bt434.1 = bt436.1 then (if bt434.2.toList = bt436.2.toList then ((cosignerref03_SameNames.f kj2 bt439.1 t443).bind fun t447 => (if t447 = true then (if (bt439.2 == (decide ((t443.length : Int) > 0))) = true then ((heir_CheckRing.f l0 l1).bind fun t448 => ((cosignerref03_CheckRing.f kj2 l0 l1).bind fun t449 => (some (t448 == t449)))) else (some false)) else (some false))) else (some false)) else (some false)) else (some false))))))) = some r := by rw [if_neg (show ¬ (false = true) by decide)] at H; exact H
        clear H
        have H := H1
        clear H1
        replace H := Option.bind_eq_some_iff.mp H
        obtain ⟨⟨t434, t435⟩, A90, H⟩ := H
        replace H : ((cosignerref03_Check.f kj2 l0).bind fun bt436 => ((heir_Ring.f l0).bind fun bt439 => ((cosignerref03_Ring.f l0).bind fun t443 => ((cosignerlaw03_sanity.f).bind fun t446 => (if t446 = true then (if t434 = bt436.1 then (if t435.toList = bt436.2.toList then ((cosignerref03_SameNames.f kj2 bt439.1 t443).bind fun t447 => (if t447 = true then (if (bt439.2 == (decide ((t443.length : Int) > 0))) = true then ((heir_CheckRing.f l0 l1).bind fun t448 => ((cosignerref03_CheckRing.f kj2 l0 l1).bind fun t449 => (some (t448 == t449)))) else (some false)) else (some false))) else (some false)) else (some false)) else (some false)))))) = some r := H
        have A9 := Aside0.mk A90
        clear A90
        replace H := Option.bind_eq_some_iff.mp H
        obtain ⟨⟨t436, t437⟩, A100, H⟩ := H
        replace H : ((heir_Ring.f l0).bind fun bt439 => ((cosignerref03_Ring.f l0).bind fun t443 => ((cosignerlaw03_sanity.f).bind fun t446 => (if t446 = true then (if t434 = t436 then (if t435.toList = t437.toList then ((cosignerref03_SameNames.f kj2 bt439.1 t443).bind fun t447 => (if t447 = true then (if (bt439.2 == (decide ((t443.length : Int) > 0))) = true then ((heir_CheckRing.f l0 l1).bind fun t448 => ((cosignerref03_CheckRing.f kj2 l0 l1).bind fun t449 => (some (t448 == t449)))) else (some false)) else (some false))) else (some false)) else (some false)) else (some false))))) = some r := H
        have A10 := Aside0.mk A100
        clear A100
        replace H := Option.bind_eq_some_iff.mp H
        obtain ⟨⟨t439, t440⟩, A110, H⟩ := H
        replace H : ((cosignerref03_Ring.f l0).bind fun t443 => ((cosignerlaw03_sanity.f).bind fun t446 => (if t446 = true then (if t434 = t436 then (if t435.toList = t437.toList then ((cosignerref03_SameNames.f kj2 t439 t443).bind fun t447 => (if t447 = true then (if (t440 == (decide ((t443.length : Int) > 0))) = true then ((heir_CheckRing.f l0 l1).bind fun t448 => ((cosignerref03_CheckRing.f kj2 l0 l1).bind fun t449 => (some (t448 == t449)))) else (some false)) else (some false))) else (some false)) else (some false)) else (some false)))) = some r := H
        have A11 := Aside0.mk A110
        clear A110
        replace H := Option.bind_eq_some_iff.mp H
        obtain ⟨t443, A120, H⟩ := H
        replace H : ((cosignerlaw03_sanity.f).bind fun t446 => (if t446 = true then (if t434 = t436 then (if t435.toList = t437.toList then ((cosignerref03_SameNames.f kj2 t439 t443).bind fun t447 => (if t447 = true then (if (t440 == (decide ((t443.length : Int) > 0))) = true then ((heir_CheckRing.f l0 l1).bind fun t448 => ((cosignerref03_CheckRing.f kj2 l0 l1).bind fun t449 => (some (t448 == t449)))) else (some false)) else (some false))) else (some false)) else (some false)) else (some false))) = some r := H
        have A12 := Aside0.mk A120
        clear A120
        replace H := Option.bind_eq_some_iff.mp H
        obtain ⟨t446, A130, H⟩ := H
        replace H : (if t446 = true then (if t434 = t436 then (if t435.toList = t437.toList then ((cosignerref03_SameNames.f kj2 t439 t443).bind fun t447 => (if t447 = true then (if (t440 == (decide ((t443.length : Int) > 0))) = true then ((heir_CheckRing.f l0 l1).bind fun t448 => ((cosignerref03_CheckRing.f kj2 l0 l1).bind fun t449 => (some (t448 == t449)))) else (some false)) else (some false))) else (some false)) else (some false)) else (some false)) = some r := H
        have A13 := Aside0.mk A130
        clear A130
        by_cases c14 : t446 = true
        · subst c14
          have H1 : (if t434 = t436 then (if t435.toList = t437.toList then ((cosignerref03_SameNames.f kj2 t439 t443).bind fun t447 => (if t447 = true then (if (t440 == (decide ((t443.length : Int) > 0))) = true then ((heir_CheckRing.f l0 l1).bind fun t448 => ((cosignerref03_CheckRing.f kj2 l0 l1).bind fun t449 => (some (t448 == t449)))) else (some false)) else (some false))) else (some false)) else (some false)) = some r := by rw [if_pos rfl] at H; exact H
          clear H
          have H := H1
          clear H1
          by_cases c15 : t434 = t436
          · rw [if_pos c15] at H
            have c15b0 : (t434 == t436) = true := beq_iff_eq.mpr c15
            have c15b1 : (t434 != t436) = false := bne_eq_false_iff_eq.mpr c15
            clear c15
            by_cases c16 : t435.toList = t437.toList
            · rw [if_pos c16] at H
              have c16b0 : (t435.toList == t437.toList) = true := beq_iff_eq.mpr c16
              have c16b1 : (t435.toList != t437.toList) = false := bne_eq_false_iff_eq.mpr c16
              clear c16
              replace H := Option.bind_eq_some_iff.mp H
              obtain ⟨t447, A170, H⟩ := H
              replace H : (if t447 = true then (if (t440 == (decide ((t443.length : Int) > 0))) = true then ((heir_CheckRing.f l0 l1).bind fun t448 => ((cosignerref03_CheckRing.f kj2 l0 l1).bind fun t449 => (some (t448 == t449)))) else (some false)) else (some false)) = some r := H
              have A17 := Aside0.mk A170
              clear A170
              by_cases c18 : t447 = true
              · subst c18
                have H1 : (if (t440 == (decide ((t443.length : Int) > 0))) = true then ((heir_CheckRing.f l0 l1).bind fun t448 => ((cosignerref03_CheckRing.f kj2 l0 l1).bind fun t449 => (some (t448 == t449)))) else (some false)) = some r := by rw [if_pos rfl] at H; exact H
                clear H
                have H := H1
                clear H1
                by_cases c19 : (t440 == (decide ((t443.length : Int) > 0))) = true
                · rw [if_pos c19] at H
                  have c19b0 : (t440 == (decide ((t443.length : Int) > 0))) = true := c19
                  obtain rfl : t440 = ((decide ((t443.length : Int) > 0))) := beq_iff_eq.mp c19b0
                  (try (have c19b1 : decide (t440 = (decide ((t443.length : Int) > 0))) = true := by simpa using c19))
                  (try (have c19b2 : (t440 == (decide ((t443.length : Int) > 0))) = true := by simpa using c19))
                  clear c19
                  replace H := Option.bind_eq_some_iff.mp H
                  obtain ⟨t448, A200, H⟩ := H
                  replace H : ((cosignerref03_CheckRing.f kj2 l0 l1).bind fun t449 => (some (t448 == t449))) = some r := H
                  have A20 := Aside0.mk A200
                  clear A200
                  replace H := Option.bind_eq_some_iff.mp H
                  obtain ⟨t449, A210, H⟩ := H
                  replace H : (some (t448 == t449)) = some r := H
                  have A21 := Aside0.mk A210
                  clear A210
                  obtain rfl := Option.some.inj H
                  go_wp2_with (first | ((with_reducible refine gate_callee (f := 43) rfl ?_); refine goesL_ (some 22) rfl rfl Try.func43 (by kernel_rfl) rfl #[.slice A0 l0.length c0] rfl (by (try simp only [List.map_toArray, List.map_cons, List.map_nil]); first | done | rfl | (simp only [List.length_drop, List.length_take]; rfl)) ?_; (with_reducible refine (heir_Check.calls _ _ l0 t434 t435 _ ?side1 ?side2 A9.out).mono ?_); (case side1 => repeat (first | exact (Kd.C_below HR0.out HB.out) | (with_reducible refine Kd.C_alloc ?_ _) | (with_reducible refine Kd.C_drewN ?_ _) | (with_reducible refine Kd.C_drew ?_))); (case side2 => exact HC0.out); rintro e w22 ⟨rfl, hb⟩; refine ⟨_, rfl, ?_⟩; have n0_ := Aside0.mk (below_step (by repeat (first | (with_reducible first | exact HB.out | apply below_alloc | apply pw_below_drewN | apply below_drew1) | exact HB.out)) hb); clear HB; have HB := n0_; clear n0_; (try clear hb); (try clear hb2); (try clear hk); (try clear hi)) | ((with_reducible refine gate_callee (f := 44) rfl ?_); refine goesL_ (some 26) rfl rfl Try.func44 (by kernel_rfl) rfl #[.slice A0 l0.length c0] rfl (by (try simp only [List.map_toArray, List.map_cons, List.map_nil]); first | done | rfl | (simp only [List.length_drop, List.length_take]; rfl)) ?_; (with_reducible refine (cosignerref03_Check.calls kj2 _ _ l0 t436 t437 _ ?side1 ?side2 A10.out).mono ?_); (case side1 => repeat (first | exact (Kd.C_below HR0.out HB.out) | (with_reducible refine Kd.C_alloc ?_ _) | (with_reducible refine Kd.C_drewN ?_ _) | (with_reducible refine Kd.C_drew ?_))); (case side2 => exact HC0.out); rintro e w23 ⟨rfl, hb⟩; refine ⟨_, rfl, ?_⟩; have n0_ := Aside0.mk (below_step (by repeat (first | (with_reducible first | exact HB.out | apply below_alloc | apply pw_below_drewN | apply below_drew1) | exact HB.out)) hb); clear HB; have HB := n0_; clear n0_; (try clear hb); (try clear hb2); (try clear hk); (try clear hi)) | ((with_reducible refine gate_dst (N := 7) rfl ?_); (try (refine gate_guard (by rfl) ?_; dsimp only)); refine box_event ?hg (N := 7) ?hd (cs := #[.int .i64 0, .string (⟨#[]⟩ : ByteArray)]) (t := 87) ?hr ?_; (case hd => rfl); (case hg => rfl); (case hr => first | (go_simp; done) | (go_simp; rfl)); intro gb438 hg w24 hbox hb; have n0_ := Aside0.mk (below_step (by repeat (first | (with_reducible first | exact HB.out | apply below_alloc | apply pw_below_drewN | apply below_drew1) | exact HB.out)) hb); have n1_ := Aside0.mk (hbox); have n2_ := Aside0.mk ((by rw [hg]; exact (below_size (by repeat (first | (with_reducible first | exact HB.out | apply below_alloc | apply pw_below_drewN | apply below_drew1) | exact HB.out))) : w.heap.size ≤ gb438)); have n3_ := Aside0.mk ((by rw [hg]; exact (below_size (by repeat (first | (with_reducible first | exact HB.out | apply below_alloc | apply pw_below_drewN | apply below_drew1) | exact HB.out))) : w.heap.size ≤ gb438)); clear HB; have HB := n0_; have BK438 := n1_; have GW438 := n2_; have GE438 := n3_; clear n0_ n1_ n2_ n3_; clear hb hbox hg; have hcz25_0 : w24.cell? ⟨gb438, 0, none⟩ = some (.int .i64 0) := (blk_cell BK438.out 0).trans rfl; have hcz25_1 : w24.cell? ⟨gb438, 1, none⟩ = some (.string (⟨#[]⟩ : ByteArray)) := (blk_cell BK438.out 1).trans rfl; have hfz25_0 := blk_frozen BK438.out 0; have hfz25_1 := blk_frozen BK438.out 1) | ((with_reducible refine gate_callee (f := 45) rfl ?_); refine goesL_ (some 29) rfl rfl Try.func45 (by kernel_rfl) rfl #[.slice A0 l0.length c0] rfl (by (try simp only [List.map_toArray, List.map_cons, List.map_nil]); first | done | rfl | (simp only [List.length_drop, List.length_take]; rfl)) ?_; (with_reducible refine (heir_Ring.calls _ _ l0 t439 ((decide ((t443.length : Int) > 0))) _ ?side1 ?side2 A11.out).mono ?_); (case side1 => exact Kd.C_below HR0.out (by repeat (first | (with_reducible first | exact HB.out | apply below_alloc | apply pw_below_drewN | apply below_drew1 | refine below_set ?_ GE438.out) | exact HB.out))); (case side2 => exact HC0.out); rintro e w26 ⟨v441, rfl, ho0, hb⟩; refine ⟨_, rfl, ?_⟩; have n0_ := Aside0.mk (Kd.R_lower ho0 (below_size (by repeat (first | (with_reducible first | exact HB.out | apply below_alloc | apply pw_below_drewN | apply below_drew1 | refine below_set ?_ GE438.out) | exact HB.out)))); have n1_ := Aside0.mk (blk_below (g := gb438) (o := .cells #[.int .i64 t436, .string t437] 87 (0, 0)) (by (with_reducible repeat (first | refine blk_drewN ?_ _ | refine blk_drew ?_ | refine blk_alloc ?_ _)); refine blk_put (cs := #[.int .i64 t436, .string (⟨#[]⟩ : ByteArray)]) ?_ 1 _ rfl; (with_reducible repeat (first | refine blk_drewN ?_ _ | refine blk_drew ?_ | refine blk_alloc ?_ _)); refine blk_put (cs := #[.int .i64 0, .string (⟨#[]⟩ : ByteArray)]) ?_ 0 _ rfl; (with_reducible repeat (first | refine blk_drewN ?_ _ | refine blk_drew ?_ | refine blk_alloc ?_ _)); exact BK438.out) hb); have n2_ := Aside0.mk (below_step (by repeat (first | (with_reducible first | exact HB.out | apply below_alloc | apply pw_below_drewN | apply below_drew1 | refine below_set ?_ GE438.out) | exact HB.out)) hb); clear BK438; clear HB; have HO442 := n0_; have BK438 := n1_; have HB := n2_; clear n0_ n1_ n2_; (try clear hb); (try clear hb2); (try clear hk); (try clear hi); (try clear ho0)) | ((with_reducible refine gate_callee (f := 46) rfl ?_); refine goesL_ (some 33) rfl rfl Try.func46 (by kernel_rfl) rfl #[.slice A0 l0.length c0] rfl (by (try simp only [List.map_toArray, List.map_cons, List.map_nil]); first | done | rfl | (simp only [List.length_drop, List.length_take]; rfl)) ?_; (with_reducible refine (cosignerref03_Ring.calls _ _ l0 t443 _ ?side1 ?side2 A12.out).mono ?_); (case side1 => repeat (first | exact (Kd.C_below HR0.out HB.out) | (with_reducible refine Kd.C_alloc ?_ _) | (with_reducible refine Kd.C_drewN ?_ _) | (with_reducible refine Kd.C_drew ?_))); (case side2 => exact HC0.out); rintro e w27 ⟨v444, rfl, ho0, hb⟩; refine ⟨_, rfl, ?_⟩; have n0_ := Aside0.mk (Kd.R_elder' (by (with_reducible repeat (first | apply Kd.R_alloc | apply Kd.R_drewN | apply Kd.R_drew)); exact HO442.out) (Kd.R_base ho0) hb); have n1_ := Aside0.mk (Kd.R_lower (Kd.R_new' ho0 (Kd.R_lt (by (with_reducible repeat (first | apply Kd.R_alloc | apply Kd.R_drewN | apply Kd.R_drew)); exact HO442.out))) (below_size (by repeat (first | (with_reducible first | exact HB.out | apply below_alloc | apply pw_below_drewN | apply below_drew1 | refine below_set ?_ GE438.out) | exact HB.out)))); have n2_ := Aside0.mk (blk_below (g := gb438) (o := .cells #[.int .i64 t436, .string t437] 87 (0, 0)) (by (with_reducible repeat (first | refine blk_drewN ?_ _ | refine blk_drew ?_ | refine blk_alloc ?_ _)); exact BK438.out) hb); have n3_ := Aside0.mk (below_step (by repeat (first | (with_reducible first | exact HB.out | apply below_alloc | apply pw_below_drewN | apply below_drew1 | refine below_set ?_ GE438.out) | exact HB.out)) hb); clear HO442; clear BK438; clear HB; have HO442 := n0_; have HO445 := n1_; have BK438 := n2_; have HB := n3_; clear n0_ n1_ n2_ n3_; (try clear hb); (try clear hb2); (try clear hk); (try clear hi); (try clear ho0)) | ((with_reducible refine gate_callee (f := 16) rfl ?_); refine goesL_ (some 34) rfl rfl Try.func16 (by kernel_rfl) rfl #[] rfl (by (try simp only [List.map_toArray, List.map_cons, List.map_nil]); first | done | rfl | (simp only [List.length_drop, List.length_take]; rfl)) ?_; (with_reducible refine (cosignerlaw03_sanity.calls  true _ A13.out).mono ?_); rintro e w28 ⟨rfl, hb⟩; refine ⟨_, rfl, ?_⟩; have n0_ := Aside0.mk (Kd.R_below (by (with_reducible repeat (first | apply Kd.R_alloc | apply Kd.R_drewN | apply Kd.R_drew)); exact HO442.out) hb); have n1_ := Aside0.mk (Kd.R_below (by (with_reducible repeat (first | apply Kd.R_alloc | apply Kd.R_drewN | apply Kd.R_drew)); exact HO445.out) hb); have n2_ := Aside0.mk (blk_below (g := gb438) (o := .cells #[.int .i64 t436, .string t437] 87 (0, 0)) (by (with_reducible repeat (first | refine blk_drewN ?_ _ | refine blk_drew ?_ | refine blk_alloc ?_ _)); exact BK438.out) hb); have n3_ := Aside0.mk (below_step (by repeat (first | (with_reducible first | exact HB.out | apply below_alloc | apply pw_below_drewN | apply below_drew1 | refine below_set ?_ GE438.out) | exact HB.out)) hb); clear HO442; clear HO445; clear BK438; clear HB; have HO442 := n0_; have HO445 := n1_; have BK438 := n2_; have HB := n3_; clear n0_ n1_ n2_ n3_; (try clear hb); (try clear hb2); (try clear hk); (try clear hi); have hcz29_0 : w28.cell? ⟨gb438, 0, none⟩ = some (.int .i64 t436) := (blk_cell BK438.out 0).trans rfl; have hcz29_1 : w28.cell? ⟨gb438, 1, none⟩ = some (.string t437) := (blk_cell BK438.out 1).trans rfl; have hfz29_0 := blk_frozen BK438.out 0; have hfz29_1 := blk_frozen BK438.out 1; obtain ⟨Ao30, co30, eo30⟩ := Kd.R_slice HO442.out; subst eo30; obtain ⟨Ao31, co31, eo31⟩ := Kd.R_slice HO445.out; subst eo31) | (go_at_call 23; (with_reducible refine (cosignerref03_SameNames.calls kj2 _ _ t439 _ _ t443 true _ ?side1 ?side2 ?side3 ?side4 A17.out).mono ?_); (case side1 => repeat (first | exact (Kd.R_reads' HO442.out).2.2 | (with_reducible refine Kd.C_alloc ?_ _) | (with_reducible refine Kd.C_drewN ?_ _) | (with_reducible refine Kd.C_drew ?_))); (case side2 => exact (Kd.R_reads' HO442.out).2.1); (case side3 => repeat (first | exact (Kd.R_reads' HO445.out).2.2 | (with_reducible refine Kd.C_alloc ?_ _) | (with_reducible refine Kd.C_drewN ?_ _) | (with_reducible refine Kd.C_drew ?_))); (case side4 => exact (Kd.R_reads' HO445.out).2.1); rintro e w' ⟨rfl, ⟨nd, rfl⟩⟩) | (go_at_call 47; (with_reducible refine (heir_CheckRing.calls _ _ l0 _ _ l1 t448 _ ?side1 ?side2 ?side3 ?side4 A20.out).mono ?_); (case side1 => repeat (first | exact (Kd.C_below HR0.out (by repeat (first | (with_reducible first | exact HB.out | apply below_alloc | apply pw_below_drewN | apply below_drew1 | refine below_set ?_ GE438.out) | exact HB.out))) | (with_reducible refine Kd.C_alloc ?_ _) | (with_reducible refine Kd.C_drewN ?_ _) | (with_reducible refine Kd.C_drew ?_))); (case side2 => exact HC0.out); (case side3 => repeat (first | exact (Kd.C_below HR1.out (by repeat (first | (with_reducible first | exact HB.out | apply below_alloc | apply pw_below_drewN | apply below_drew1 | refine below_set ?_ GE438.out) | exact HB.out))) | (with_reducible refine Kd.C_alloc ?_ _) | (with_reducible refine Kd.C_drewN ?_ _) | (with_reducible refine Kd.C_drew ?_))); (case side4 => exact HC1.out); rintro e w32 ⟨rfl, hb⟩; have n0_ := Aside0.mk (Kd.R_below (by (with_reducible repeat (first | apply Kd.R_alloc | apply Kd.R_drewN | apply Kd.R_drew)); exact HO442.out) hb); have n1_ := Aside0.mk (Kd.R_below (by (with_reducible repeat (first | apply Kd.R_alloc | apply Kd.R_drewN | apply Kd.R_drew)); exact HO445.out) hb); have n2_ := Aside0.mk (blk_below (g := gb438) (o := .cells #[.int .i64 t436, .string t437] 87 (0, 0)) (by (with_reducible repeat (first | refine blk_drewN ?_ _ | refine blk_drew ?_ | refine blk_alloc ?_ _)); exact BK438.out) hb); have n3_ := Aside0.mk (below_step (by repeat (first | (with_reducible first | exact HB.out | apply below_alloc | apply pw_below_drewN | apply below_drew1 | refine below_set ?_ GE438.out) | exact HB.out)) hb); clear HO442; clear HO445; clear BK438; clear HB; have HO442 := n0_; have HO445 := n1_; have BK438 := n2_; have HB := n3_; clear n0_ n1_ n2_ n3_; (try clear hb); (try clear hb2); (try clear hk); (try clear hi)) | (go_at_call 48; (with_reducible refine (cosignerref03_CheckRing.calls kj2 _ _ l0 _ _ l1 t449 _ ?side1 ?side2 ?side3 ?side4 A21.out).mono ?_); (case side1 => repeat (first | exact (Kd.C_below HR0.out HB.out) | (with_reducible refine Kd.C_alloc ?_ _) | (with_reducible refine Kd.C_drewN ?_ _) | (with_reducible refine Kd.C_drew ?_))); (case side2 => exact HC0.out); (case side3 => repeat (first | exact (Kd.C_below HR1.out HB.out) | (with_reducible refine Kd.C_alloc ?_ _) | (with_reducible refine Kd.C_drewN ?_ _) | (with_reducible refine Kd.C_drew ?_))); (case side4 => exact HC1.out); rintro e w33 ⟨rfl, hb⟩; have n0_ := Aside0.mk (Kd.R_below (by (with_reducible repeat (first | apply Kd.R_alloc | apply Kd.R_drewN | apply Kd.R_drew)); exact HO442.out) hb); have n1_ := Aside0.mk (Kd.R_below (by (with_reducible repeat (first | apply Kd.R_alloc | apply Kd.R_drewN | apply Kd.R_drew)); exact HO445.out) hb); have n2_ := Aside0.mk (blk_below (g := gb438) (o := .cells #[.int .i64 t436, .string t437] 87 (0, 0)) (by (with_reducible repeat (first | refine blk_drewN ?_ _ | refine blk_drew ?_ | refine blk_alloc ?_ _)); exact BK438.out) hb); have n3_ := Aside0.mk (below_step (by repeat (first | (with_reducible first | exact HB.out | apply below_alloc | apply pw_below_drewN | apply below_drew1 | refine below_set ?_ GE438.out) | exact HB.out)) hb); clear HO442; clear HO445; clear BK438; clear HB; have HO442 := n0_; have HO445 := n1_; have BK438 := n2_; have HB := n3_; clear n0_ n1_ n2_ n3_; (try clear hb); (try clear hb2); (try clear hk); (try clear hi)))
                  go_ret
                  exact ⟨by first | rfl | (simp [errW_none, errW_some] <;> rfl) | (simp [*, errW_none, errW_some] <;> rfl), by repeat (first | (with_reducible first | exact HB.out | apply below_alloc | apply pw_below_drewN | apply below_drew1 | refine below_set ?_ GE438.out) | exact HB.out)⟩
                · rw [if_neg c19] at H
                  have c19b0 : (t440 == (decide ((t443.length : Int) > 0))) = false := by simpa using c19
                  obtain rfl : t440 = (!(decide ((t443.length : Int) > 0))) := Bool.eq_not.mpr (beq_eq_false_iff_ne.mp c19b0)
                  (try (have c19b1 : decide (t440 = (decide ((t443.length : Int) > 0))) = false := by simpa using c19))
                  (try (have c19b2 : (t440 == (decide ((t443.length : Int) > 0))) = false := by simpa using c19))
                  (try (have c19b3 : ¬ (t440 = (decide ((t443.length : Int) > 0))) := by simpa using c19))
                  clear c19
                  exact absurd ((Option.some.inj H).trans hrt) (by decide)
              · replace c18 := Bool.eq_false_iff.mpr c18
                subst c18
                have H1 : (some false) = some r := by rw [if_neg (show ¬ (false = true) by decide)] at H; exact H
                clear H
                have H := H1
                clear H1
                exact absurd ((Option.some.inj H).trans hrt) (by decide)
            · rw [if_neg c16] at H
              have c16b0 : (t435.toList == t437.toList) = false := beq_eq_false_iff_ne.mpr c16
              have c16b1 : (t435.toList != t437.toList) = true := bne_iff_ne.mpr c16
              exact absurd ((Option.some.inj H).trans hrt) (by decide)
          · rw [if_neg c15] at H
            have c15b0 : (t434 == t436) = false := beq_eq_false_iff_ne.mpr c15
            have c15b1 : (t434 != t436) = true := bne_iff_ne.mpr c15
            exact absurd ((Option.some.inj H).trans hrt) (by decide)
        · replace c14 := Bool.eq_false_iff.mpr c14
          subst c14
          have H1 : (some false) = some r := by rw [if_neg (show ¬ (false = true) by decide)] at H; exact H
          clear H
          have H := H1
          clear H1
          exact absurd ((Option.some.inj H).trans hrt) (by decide)
end Go.Proofs.Ytdljclokenoogaa.Hp
end
section
namespace Go.Proofs.Ytdljclokenoogaa.Hw
open Go.RowKit Go.Proofs.Ytdljclokenoogaa.Hp Go.Proofs.YtdljclokenoogaaW.PrintWords Go.Proofs.YtdljclokenoogaaW.PrintLast Go.Proofs.YtdljclokenoogaaW.PrintMore
def okB (b : Nat) : Bool := (decide (65 ≤ b) && decide (b ≤ 90)) || (decide (48 ≤ b) && decide (b ≤ 57)) || decide (b = 95)
theorem oddR_ok (b : Nat) : oddR b = !okB b := by
  rw [Bool.eq_iff_iff]
  simp [oddR, okB]
  try omega
def byteN (s : ByteArray) (j : Nat) : Nat := (s.data.getD j 0).toNat
theorem byteN_list (s : ByteArray) (j : Nat) : (s.data.toList.getD j 0).toNat = byteN s j := by
  unfold byteN
  rw [Array.getD_eq_getD_getElem?, List.getD_eq_getElem?_getD, Array.getElem?_toList]
theorem bt_nat (s : ByteArray) (j : Nat) (h : j < s.size) : bt s (j : Int) = (byteN s j : Int) := by
  rw [← bt_at s (j : Int) (by simpa using h)]
  unfold byteN
  have h' : j < s.data.size := h
  rw [Array.getD_eq_getD_getElem?, Array.getElem?_eq_getElem h']
  rfl
theorem decode_big (n b0 b1 b2 b3 : Nat) (h : 128 ≤ b0) : 128 ≤ (Lib.decodeN n b0 b1 b2 b3).1 := by
  rcases Lib.decodeN_cases n b0 b1 b2 b3 with ⟨h1, _⟩ | ⟨_, _, _, h1, h2⟩ | ⟨_, _, _, _, h1, h2⟩ | ⟨h1, _⟩ | h2
  · omega
  · rw [h2]; exact h1
  · rw [h2]; show 128 ≤ _; omega
  · omega
  · rw [h2]; decide
theorem oddFrom_iff (s : ByteArray) : ∀ (f pos : Nat), s.size ≤ pos + f → (oddFrom s f pos < 0 ↔ ∀ j, pos ≤ j → j < s.size → okB (byteN s j) = true)
  | 0, pos, h => ⟨fun _ j h1 h2 => by omega, fun _ => by simp [oddFrom]⟩
  | f + 1, pos, h => by
    unfold oddFrom
    by_cases hp : pos < s.size
    · rw [if_pos hp]
      have hd := Lib.decode_N s pos
      rw [byteN_list] at hd
      by_cases hb : byteN s pos < 128
      · rw [Lib.decodeN_ascii _ _ _ _ _ hb] at hd
        rw [hd]
        have ih := oddFrom_iff s f (pos + 1) (by omega)
        simp only [oddR_ok]
        cases hok : okB (byteN s pos) with
        | false =>
          simp only [Bool.not_false, if_true]
          exact ⟨fun h => by omega, fun h => by have := h pos (Nat.le_refl _) hp; rw [hok] at this; cases this⟩
        | true =>
          simp only [Bool.not_true, Bool.false_eq_true, if_false]
          rw [ih]
          refine ⟨fun h j h1 h2 => ?_, fun h j h1 h2 => h j (by omega) h2⟩
          rcases Nat.eq_or_lt_of_le h1 with rfl | h3
          · exact hok
          · exact h j h3 h2
      · have hbig := decode_big (s.data.toList.length - pos) (byteN s pos) (s.data.toList.getD (pos + 1) 0).toNat (s.data.toList.getD (pos + 2) 0).toNat (s.data.toList.getD (pos + 3) 0).toNat (by omega)
        rw [← hd] at hbig
        have hodd : oddR (Utf8.decode s pos).1 = true := by
          rw [oddR_ok]
          simp [okB]
          omega
        rw [if_pos hodd]
        refine ⟨fun h => by omega, fun h => ?_⟩
        have := h pos (Nat.le_refl _) hp
        simp [okB] at this
        omega
    · rw [if_neg hp]
      exact ⟨fun _ j h1 h2 => by omega, fun _ => by decide⟩
theorem reserved_val (s : ByteArray) : cosignerref03_reserved.f s = some (memS keptNames s) := by
  unfold cosignerref03_reserved.f
  have k : ∀ (a : ByteArray) (x : List UInt8), a.toList = x → (s.toList = x ↔ s = a) := fun a x h => by rw [← h]; exact toList_eq_iff
  have k1 := k ⟨#[73, 78, 84, 69, 71, 69, 82]⟩ [73, 78, 84, 69, 71, 69, 82] (by rw [Lib.toList_data])
  have k2 := k ⟨#[66, 79, 79, 76, 69, 65, 78]⟩ [66, 79, 79, 76, 69, 65, 78] (by rw [Lib.toList_data])
  have k3 := k ⟨#[65, 78, 89]⟩ [65, 78, 89] (by rw [Lib.toList_data])
  have k4 := k ⟨#[78, 79, 78, 69]⟩ [78, 79, 78, 69] (by rw [Lib.toList_data])
  have e4 : (s.toList == [78, 79, 78, 69]) = decide (s = ⟨#[78, 79, 78, 69]⟩) := by
    rw [Bool.eq_iff_iff, beq_iff_eq, decide_eq_true_iff]; exact k4
  rw [e4]
  simp only [k1, k2, k3, memS, keptNames, List.any_cons, List.any_nil, Bool.or_false]
  by_cases h1 : s = ⟨#[73, 78, 84, 69, 71, 69, 82]⟩
  · rw [if_pos h1]; simp [h1]
  · by_cases h2 : s = ⟨#[66, 79, 79, 76, 69, 65, 78]⟩
    · rw [if_neg h1, if_pos h2]; simp [h2]
    · by_cases h3 : s = ⟨#[65, 78, 89]⟩
      · rw [if_neg h1, if_neg h2, if_pos h3]; simp [h3]
      · rw [if_neg h1, if_neg h2, if_neg h3]; simp [h1, h2, h3]
theorem named_l0 (s : ByteArray) (hs : s.size ≤ 20) : ∀ (d i k : Nat), s.size - i = d → i ≤ s.size → d < k → cosignerref03_named.l0 k s (i : Int) = some ((List.range d).all (fun j => okB (byteN s (i + j))) && !memS keptNames s) := by
  intro d
  induction d with
  | zero =>
    intro i k hd hi hk
    obtain ⟨k, rfl⟩ : ∃ m, k = m + 1 := ⟨k - 1, by omega⟩
    rw [cosignerref03_named.l0, if_neg (by omega), reserved_val]
    simp
  | succ d ih =>
    intro i k hd hi hk
    obtain ⟨k, rfl⟩ : ∃ m, k = m + 1 := ⟨k - 1, by omega⟩
    have hil : i < s.size := by omega
    have hn := ih (i + 1) k (by omega) hil (by omega)
    have hsplit : (List.range (d + 1)).all (fun j => okB (byteN s (i + j))) = (okB (byteN s i) && (List.range d).all (fun j => okB (byteN s (i + 1 + j)))) := by
      rw [List.range_succ_eq_map, List.all_cons, List.all_map, Nat.add_zero]
      congr 1
      refine congrArg (fun f => (List.range d).all f) (funext fun j => ?_)
      simp only [Function.comp, Nat.succ_eq_add_one]
      rw [show i + (j + 1) = i + 1 + j by omega]
    rw [cosignerref03_named.l0, if_pos (by omega), if_pos (by omega), bt_nat s i hil, wrap_nat i (by omega), hn, hsplit]
    generalize (List.range d).all (fun j => okB (byteN s (i + 1 + j))) = r
    generalize memS keptNames s = m
    generalize byteN s i = b
    unfold okB
    by_cases h1 : 65 ≤ b
    · by_cases h2 : 48 ≤ b
      · by_cases h3 : b ≤ 90
        · simp [h1, h2, h3, show (b : Int) ≥ 65 by omega, show (b : Int) ≥ 48 by omega, show (b : Int) ≤ 90 by omega]
        · by_cases h4 : b = 95
          · subst h4; simp
          · simp [h1, h2, h3, h4, show (b : Int) ≥ 65 by omega, show (b : Int) ≥ 48 by omega, show ¬ (b : Int) ≤ 90 by omega, show ¬ (b : Int) ≤ 57 by omega, show ¬ (b : Int) = 95 by omega, show ¬ b ≤ 57 by omega]
      · omega
    · by_cases h2 : 48 ≤ b
      · by_cases h3 : b ≤ 57
        · simp [h1, h2, h3, show ¬ (b : Int) ≥ 65 by omega, show (b : Int) ≥ 48 by omega, show (b : Int) ≤ 57 by omega]
        · simp [h1, h2, h3, show ¬ (b : Int) ≥ 65 by omega, show (b : Int) ≥ 48 by omega, show ¬ (b : Int) ≤ 57 by omega, show ¬ (b : Int) = 95 by omega, show ¬ b = 95 by omega]
      · simp [h1, h2, show ¬ (b : Int) ≥ 65 by omega, show ¬ (b : Int) ≥ 48 by omega, show ¬ (b : Int) = 95 by omega, show ¬ b = 95 by omega]
theorem named_val (s : ByteArray) (k : Nat) (hk : 30 ≤ k) : cosignerref03_named.f k s = some (isName s) := by
  obtain ⟨k, rfl⟩ : ∃ m, k = m + 1 := ⟨k - 1, by omega⟩
  have jT : cosignerref03_named.j0 (k + 1) s true = some false := by rw [cosignerref03_named.j0, if_pos rfl]
  unfold cosignerref03_named.f isName
  by_cases h0 : s.size = 0
  · rw [if_pos (by omega), jT]; simp [h0]
  · rw [if_neg (by omega)]
    by_cases h1 : 20 < s.size
    · rw [if_pos (by omega), jT]; simp [show ¬ s.size ≤ 20 by omega]
    · rw [if_neg (by omega), if_pos (by omega)]
      have hb := bt_nat s 0 (by omega)
      rw [show ((0 : Nat) : Int) = 0 from rfl] at hb
      rw [hb]
      have h00 : (s.data.getD 0 0).toNat = byteN s 0 := rfl
      rw [h00]
      by_cases h2 : byteN s 0 < 65
      · rw [if_pos (by omega), jT]; simp [show ¬ 65 ≤ byteN s 0 by omega]
      · rw [if_neg (by omega)]
        by_cases h3 : byteN s 0 > 90
        · rw [decide_eq_true (by omega), jT]; simp [show ¬ byteN s 0 ≤ 90 by omega]
        · rw [decide_eq_false (by omega), cosignerref03_named.j0, if_neg (by decide)]
          have := named_l0 s (by omega) s.size 0 k rfl (Nat.zero_le _) (by omega)
          rw [show ((0 : Nat) : Int) = 0 from rfl] at this
          rw [this]
          have hi := oddFrom_iff s s.size 0 (by omega)
          have ha : decide (oddFrom s s.size 0 < 0) = (List.range s.size).all (fun j => okB (byteN s (0 + j))) := by
            rw [Bool.eq_iff_iff, decide_eq_true_iff, hi, List.all_eq_true]
            simp only [List.mem_range, Nat.zero_add]
            exact ⟨fun h j hj => h j (Nat.zero_le _) hj, fun h j _ hj => h j hj⟩
          rw [ha]
          simp [show 1 ≤ s.size by omega, show s.size ≤ 20 by omega, show 65 ≤ byteN s 0 by omega, show byteN s 0 ≤ 90 by omega]
end Go.Proofs.Ytdljclokenoogaa.Hw
end
section
namespace Go.Proofs.Ytdljclokenoogaa.Hw
open Go.RowKit Go.Proofs.Ytdljclokenoogaa.Hp Go.Proofs.YtdljclokenoogaaW.PrintWords Go.Proofs.YtdljclokenoogaaW.PrintLast Go.Proofs.YtdljclokenoogaaW.PrintMore
theorem asked_ok {l : List S61} (h : (checkOf l).1 = 0) {ns : List ByteArray} (hn : ∀ s ∈ ns, s ∈ names l) : askedOf l ns = 0 := by
  unfold askedOf
  rw [if_neg (by simpa using h), if_pos]
  exact List.all_eq_true.2 (fun s hs => idx_mem.2 (hn s hs))
structure Good (l : List S61) : Prop where
  ok : (checkOf l).1 = 0
  pos : 0 < l.length
section
variable {l : List S61} (h : Good l)
include h
theorem Good.small : l.length ≤ 24 := (checkOk h.ok).1
theorem Good.rank : ∃ rk : ByteArray → Nat, (∀ c p, p ∈ ups l c → rk p < rk c) ∧ ∀ c, rk c < l.length + 1 := rank_of_ring (checkOk h.ok).2.2.2
theorem Good.anc_iff {c a : ByteArray} : memS (anc l c) a = true ↔ ∃ m, reach (ups l) m c a := by
  obtain ⟨rk, hrk, hn⟩ := h.rank
  exact mem_vis hrk (hn c)
theorem Good.refl (c : ByteArray) : memS (anc l c) c = true := h.anc_iff.2 ⟨0, rfl⟩
theorem Good.trans {a b c : ByteArray} (h1 : memS (anc l a) b = true) (h2 : memS (anc l b) c = true) : memS (anc l a) c = true := by
  obtain ⟨n, hn⟩ := h.anc_iff.1 h1
  obtain ⟨m, hm⟩ := h.anc_iff.1 h2
  exact h.anc_iff.2 ⟨n + m, reach_trans hn hm⟩
theorem Good.below {c : ByteArray} (hc : c ∈ names l) : heir_Below.f l c = some ((names l).filter (fun d => memS (anc l d) c), 0) := by
  unfold heir_Below.f belowOf
  rw [if_pos (asked_ok h.ok (by simp [hc]))]
theorem Good.name (i : Int) (h0 : 0 ≤ i) (h1 : i < 256) : ∃ c ∈ names l, cosignerlaw03_name.f l i = some c := by
  have hp := h.pos
  unfold cosignerlaw03_name.f
  have hw : wrap64 i = i := wrap64_of_range i (by omega) (by omega)
  rw [hw]
  have e1 : Int.tmod i (l.length : Int) = i % (l.length : Int) := Int.tmod_eq_emod_of_nonneg h0
  have e2 : 0 ≤ i % (l.length : Int) := Int.emod_nonneg _ (by omega)
  have e3 : i % (l.length : Int) < l.length := Int.emod_lt_of_pos _ (by omega)
  rw [e1, if_neg (by omega), if_pos e2, if_pos e3]
  refine ⟨_, ?_, rfl⟩
  have e4 : (i % (l.length : Int)).toNat < l.length := by omega
  refine List.mem_map.2 ⟨rd_T61 l (i % (l.length : Int)), ?_, rfl⟩
  unfold rd_T61
  rw [List.getD_eq_getElem?_getD, List.getElem?_eq_getElem e4]
  exact List.getElem_mem _
end
end Go.Proofs.Ytdljclokenoogaa.Hw
end
section
namespace Go.Proofs.Ytdljclokenoogaa.Hw
open Go.RowKit Go.Proofs.Ytdljclokenoogaa.Hp
theorem nth_cons_zero (c : ByteArray) (r : List ByteArray) : nth (c :: r) 0 = c := rfl
theorem nth_cons_succ (c : ByteArray) (r : List ByteArray) (i : Nat) : nth (c :: r) (i + 1) = nth r i := by simp [nth]
theorem wk_nth {up : ByteArray → List ByteArray} : ∀ (n : Nat) (c a : ByteArray) (r : List ByteArray), Wk up n c a r ↔ r.length = n + 1 ∧ nth r 0 = c ∧ nth r n = a ∧ ∀ i, i < n → nth r (i + 1) ∈ up (nth r i)
  | 0, c, a, r => by
    constructor
    · rintro ⟨rfl, rfl⟩
      exact ⟨rfl, rfl, rfl, fun i hi => absurd hi (Nat.not_lt_zero i)⟩
    · rintro ⟨h1, h2, h3, _⟩
      match r, h1 with
      | [x], _ => exact ⟨h2.symm.trans h3, by rw [← h2]; rfl⟩
  | n + 1, c, a, r => by
    constructor
    · rintro ⟨p, r', hp, h, rfl⟩
      obtain ⟨h1, h2, h3, h4⟩ := (wk_nth n p a r').1 h
      refine ⟨by rw [List.length_cons, h1], rfl, by rw [nth_cons_succ]; exact h3, fun i hi => ?_⟩
      rw [nth_cons_succ]
      cases i with
      | zero => rw [nth_cons_zero, h2]; exact hp
      | succ i => rw [nth_cons_succ]; exact h4 i (by omega)
    · rintro ⟨h1, h2, h3, h4⟩
      match r, h1 with
      | x :: r', h1 =>
        rw [nth_cons_zero] at h2
        subst h2
        rw [nth_cons_succ] at h3
        refine ⟨nth r' 0, r', ?_, (wk_nth n _ _ _).2 ⟨by simpa using h1, rfl, h3, fun i hi => ?_⟩, rfl⟩
        · have := h4 0 (by omega)
          rw [nth_cons_succ, nth_cons_zero] at this
          exact this
        · have := h4 (i + 1) (by omega)
          rw [nth_cons_succ, nth_cons_succ] at this
          exact this
theorem nth_snoc (ns : List ByteArray) (c : ByteArray) (i : Nat) (hi : i ≤ ns.length) : nth (ns ++ [c]) i = if i = ns.length then c else nth ns i := by
  by_cases h : i = ns.length
  · rw [if_pos h, h]; simp [nth]
  · rw [if_neg h]
    have : i < ns.length := by omega
    simp [nth, List.getElem?_append_left this, List.getD_eq_getElem?_getD]
theorem ring_links {up : ByteArray → List ByteArray} (ns : List ByteArray) : RingS up ns ↔ 0 < ns.length ∧ ∀ i, i < ns.length → nth ns ((i + 1) % ns.length) ∈ up (nth ns i) := by
  constructor
  · rintro ⟨c, t, e, h⟩
    have hc : nth ns 0 = c := by rw [e]; rfl
    have hp : 0 < ns.length := by rw [e]; simp
    obtain ⟨_, _, _, h4⟩ := (wk_nth _ _ _ _).1 h
    refine ⟨hp, fun i hi => ?_⟩
    have h5 := h4 i hi
    rw [nth_snoc ns c i (by omega), if_neg (by omega), nth_snoc ns c (i + 1) (by omega)] at h5
    by_cases h6 : i + 1 = ns.length
    · rw [if_pos h6] at h5
      rw [h6, Nat.mod_self, hc]; exact h5
    · rw [if_neg h6] at h5
      rw [Nat.mod_eq_of_lt (by omega)]; exact h5
  · rintro ⟨hp, h⟩
    obtain ⟨c, t, e⟩ : ∃ c t, ns = c :: t := by
      cases ns with
      | nil => simp at hp
      | cons c t => exact ⟨c, t, rfl⟩
    have hc : nth ns 0 = c := by rw [e]; rfl
    refine ⟨c, t, e, (wk_nth _ _ _ _).2 ⟨by simp, ?_, ?_, fun i hi => ?_⟩⟩
    · rw [nth_snoc ns c 0 (by omega), if_neg (by omega)]; exact hc
    · rw [nth_snoc ns c _ (Nat.le_refl _), if_pos rfl]
    · have h5 := h i hi
      rw [nth_snoc ns c i (by omega), if_neg (by omega), nth_snoc ns c (i + 1) (by omega)]
      by_cases h6 : i + 1 = ns.length
      · rw [if_pos h6]
        rw [h6, Nat.mod_self, hc] at h5; exact h5
      · rw [if_neg h6]
        rw [Nat.mod_eq_of_lt (by omega)] at h5; exact h5
section
variable {l : List S61} (h : Good l) {c a : ByteArray} (hc : c ∈ names l) (ha : a ∈ names l)
include h hc ha
end
end Go.Proofs.Ytdljclokenoogaa.Hw
end
section
namespace Go.Proofs.Ytdljclokenoogaa.Hw
open Go.RowKit Go.Proofs.Ytdljclokenoogaa.Hp Go.Proofs.YtdljclokenoogaaW.PrintWords Go.Proofs.YtdljclokenoogaaW.PrintLast Go.Proofs.YtdljclokenoogaaW.PrintMore
theorem Ev.pos {α : Type} {p : Prop} [Decidable p] {f g : Nat → Option α} {r : α} (hp : p) (h : Ev f r) : Ev (fun k => if p then f k else g k) r := Ev.congr (fun _ => if_pos hp) h
theorem Ev.neg {α : Type} {p : Prop} [Decidable p] {f g : Nat → Option α} {r : α} (hp : ¬ p) (h : Ev g r) : Ev (fun k => if p then f k else g k) r := Ev.congr (fun _ => if_neg hp) h
theorem Ev.val {α : Type} {f : Nat → Option α} {r : α} {K : Nat} (h : ∀ k, K ≤ k → f k = some r) : Ev f r := ⟨K, h⟩
theorem Ev.know {α β : Type} {o : Option α} {f : Nat → α → Option β} {a : α} {r : β} (h : o = some a) (k : Ev (fun n => f n a) r) : Ev (fun n => o.bind (f n)) r := by subst h; exact k
theorem has_val (xs : List ByteArray) (s : ByteArray) (hl : xs.length < 4611686018427387904) (k : Nat) (hk : xs.length < k) : cosignerref03_Has.f k xs s = some (memS xs s) := by
  have key : ∀ (d i k : Nat), xs.length - i = d → i ≤ xs.length → d < k → cosignerref03_Has.l0 k xs s (i : Int) = some (memS (xs.drop i) s) := by
    intro d
    induction d with
    | zero =>
      intro i k hd hi hk
      obtain ⟨k, rfl⟩ : ∃ m, k = m + 1 := ⟨k - 1, by omega⟩
      have e : i = xs.length := by omega
      rw [cosignerref03_Has.l0, if_neg (by omega), e, List.drop_length]
      rfl
    | succ d ih =>
      intro i k hd hi hk
      obtain ⟨k, rfl⟩ : ∃ m, k = m + 1 := ⟨k - 1, by omega⟩
      have hil : i < xs.length := by omega
      rw [cosignerref03_Has.l0, if_pos (by omega), if_pos (by omega), rdOf_nat hil, List.drop_eq_getElem_cons hil]
      by_cases h : xs[i] = s
      · rw [if_pos (by rw [h])]; simp [memS, h]
      · rw [if_neg (fun e => h (toList_inj e)), wrap_nat i (by omega), ih (i + 1) k (by omega) hil (by omega)]
        have h' : ¬ s = xs[i] := fun e => h e.symm
        rw [show memS (xs[i] :: xs.drop (i + 1)) s = memS (xs.drop (i + 1)) s by unfold memS; rw [List.any_cons, decide_eq_false h', Bool.false_or]]
  have := key xs.length 0 k rfl (Nat.zero_le _) hk
  simpa [cosignerref03_Has.f] using this
theorem has_ev (xs : List ByteArray) (s : ByteArray) (hl : xs.length < 4611686018427387904) : Ev (fun k => cosignerref03_Has.f k xs s) (memS xs s) := Ev.val (K := xs.length + 1) (fun k hk => has_val xs s hl k (by omega))
theorem index_ev (l : List S61) (s : ByteArray) (hl : l.length < 4611686018427387904) : Ev (fun k => cosignerref03_index.f k l s) (idxI l s) := Ev.val (K := l.length + 1) (fun k hk => index_val l s hl k (by omega))
theorem named_ev (s : ByteArray) : Ev (fun k => cosignerref03_named.f k s) (isName s) := Ev.val (K := 30) (fun k hk => named_val s k hk)
def dupTail (ns : List ByteArray) : Nat → Nat → Bool
  | 0, _ => false
  | d + 1, m => memS (ns.take m) (nth ns m) || dupTail ns d (m + 1)
theorem dupTail_iff (ns : List ByteArray) : ∀ (d m : Nat), m + d = ns.length → (dupTail ns d m = false ↔ ∀ j, m ≤ j → j < ns.length → memS (ns.take j) (nth ns j) = false)
  | 0, m, h => ⟨fun _ j h1 h2 => by omega, fun _ => rfl⟩
  | d + 1, m, h => by
    rw [dupTail, Bool.or_eq_false_iff, dupTail_iff ns d (m + 1) (by omega)]
    refine ⟨fun ⟨h1, h2⟩ j h3 h4 => ?_, fun h1 => ⟨h1 m (Nat.le_refl _) (by omega), fun j h3 h4 => h1 j (by omega) h4⟩⟩
    rcases Nat.eq_or_lt_of_le h3 with rfl | h5
    · exact h1
    · exact h2 j h5 h4
theorem dupTail_eq (ns : List ByteArray) : dupTail ns ns.length 0 = dupB ns := by
  have h : dupTail ns ns.length 0 = false ↔ dupB ns = false := by
    rw [dupTail_iff ns ns.length 0 (by omega), dupB_iff, List.Nodup, List.pairwise_iff_getElem]
    constructor
    · intro h i j hi hj hij e
      have := h j (Nat.zero_le _) hj
      have h2 : memS (ns.take j) (nth ns j) = true := by
        rw [memS_iff, show nth ns j = ns[j] by simp [nth, hj], ← e]
        exact List.mem_iff_getElem.2 ⟨i, by rw [List.length_take]; omega, by simp⟩
      rw [h2] at this; cases this
    · intro h j _ hj
      cases hm : memS (ns.take j) (nth ns j) with
      | false => rfl
      | true =>
        rw [memS_iff, show nth ns j = ns[j] by simp [nth, hj]] at hm
        obtain ⟨i, hi, e⟩ := List.mem_iff_getElem.1 hm
        rw [List.length_take] at hi
        rw [List.getElem_take] at e
        exact absurd e (h i j (by omega) hj (by omega))
  cases h1 : dupTail ns ns.length 0 <;> cases h2 : dupB ns <;> simp_all
section
variable {l : List S61} {i : Nat} (hi : i < l.length) (hb : l[i].f3.length ≤ 1000000)
include hi hb
theorem alone_l1 {m : Nat} (hm : m < l[i].f3.length) {R : Int} (H : Ev (fun k => cosignerref03_alone.l0 k l (i : Int) ((m + 1 : Nat) : Int)) R) : ∀ (d j : Nat), m - j = d → j ≤ m →
    Ev (fun k => cosignerref03_alone.l1 k l (i : Int) (m : Int) (j : Int)) (if memS (((l[i].f3.map (·.f0)).take m).drop j) (nth (l[i].f3.map (·.f0)) m) then 6 else R) := by
  intro d
  induction d with
  | zero =>
    intro j hd hj
    have e : j = m := by omega
    refine Ev.step (fun k => by rw [cosignerref03_alone.l1, if_neg (by omega), wrap_nat m (by omega)]) ?_
    rw [List.drop_eq_nil_of_le (by rw [List.length_take]; omega)]
    exact H
  | succ d ih =>
    intro j hd hj
    have hjm : j < m := by omega
    have hjl : j < l[i].f3.length := by omega
    have hjn : j < ((l[i].f3.map (·.f0)).take m).length := by rw [List.length_take, List.length_map]; omega
    rw [List.drop_eq_getElem_cons hjn]
    have e1 : ((l[i].f3.map (·.f0)).take m)[j] = l[i].f3[j].f0 := by rw [List.getElem_take, List.getElem_map]
    have e2 : nth (l[i].f3.map (·.f0)) m = l[i].f3[m].f0 := by simp [nth, hm]
    rw [e1]
    refine Ev.step (fun k => by rw [cosignerref03_alone.l1, if_pos (by omega), if_pos (by omega), if_pos (by omega), if_pos (by omega), rd_class hi, if_pos (by omega), if_pos (by omega), if_pos (by omega), rd_parent hjl, rd_parent hm, wrap_nat j (by omega)]) ?_
    by_cases h : l[i].f3[j].f0 = l[i].f3[m].f0
    · refine Ev.pos (by rw [h]) ?_
      rw [show memS (l[i].f3[j].f0 :: ((l[i].f3.map (·.f0)).take m).drop (j + 1)) (nth (l[i].f3.map (·.f0)) m) = true by rw [memS_iff, e2, h]; exact List.mem_cons_self .., if_pos rfl]
      exact Ev.now _
    · refine Ev.neg (fun e => h (toList_inj e)) ?_
      have := ih (j + 1) (by omega) hjm
      have e3 : memS (l[i].f3[j].f0 :: ((l[i].f3.map (·.f0)).take m).drop (j + 1)) (nth (l[i].f3.map (·.f0)) m) = memS (((l[i].f3.map (·.f0)).take m).drop (j + 1)) (nth (l[i].f3.map (·.f0)) m) := by
        have : ¬ l[i].f3[m].f0 = l[i].f3[j].f0 := fun e => h e.symm
        rw [e2]; simp [memS, this]
      rw [e3]; exact this
theorem alone_l0 : ∀ (d m : Nat), m + d = l[i].f3.length → Ev (fun k => cosignerref03_alone.l0 k l (i : Int) (m : Int)) (if dupTail (l[i].f3.map (·.f0)) d m then 6 else 0) := by
  intro d
  induction d with
  | zero =>
    intro m hd
    refine Ev.step (fun k => by rw [cosignerref03_alone.l0, if_pos (by omega), if_pos (by omega), rd_class hi, if_neg (by omega)]) ?_
    exact Ev.now _
  | succ d ih =>
    intro m hd
    have hm : m < l[i].f3.length := by omega
    have h1 := alone_l1 hi hb hm (ih (m + 1) (by omega)) m 0 (by omega) (by omega)
    refine Ev.step (fun k => by rw [cosignerref03_alone.l0, if_pos (by omega), if_pos (by omega), rd_class hi, if_pos (by omega)]) ?_
    rw [List.drop_zero] at h1
    rw [dupTail]
    cases h2 : memS ((l[i].f3.map (·.f0)).take m) (nth (l[i].f3.map (·.f0)) m) with
    | true => rw [h2] at h1; exact h1
    | false => rw [h2] at h1; exact h1
end
theorem alone_ev {l : List S61} (hl : l.length < 1000000) {i : Nat} (hi : i < l.length) : Ev (fun k => cosignerref03_alone.f k l (i : Int)) (aloneOf l i) := by
  unfold aloneOf
  rw [rd_class hi]
  refine Ev.congr (f := fun k => if l[i].f3.length > 4 then some 3 else (cosignerref03_named.f k l[i].f0).bind fun t => if t = true then (cosignerref03_index.f k l l[i].f0).bind fun u => if u < (i : Int) then some 6 else cosignerref03_alone.l0 k l (i : Int) 0 else some 4) (fun k => by
    unfold cosignerref03_alone.f
    rw [if_pos (by omega), if_pos (by omega), rd_class hi]
    by_cases h : l[i].f3.length > 4
    · rw [if_pos h, if_pos (by omega)]
    · rw [if_neg h, if_neg (by omega)]) ?_
  by_cases h4 : 4 < l[i].f3.length
  · rw [if_pos h4]; exact Ev.pos h4 (Ev.now _)
  · rw [if_neg h4]
    refine Ev.neg h4 (Ev.bind (named_ev _) ?_)
    cases hn : isName l[i].f0 with
    | false => rw [if_pos rfl]; exact Ev.neg (by decide) (Ev.now _)
    | true =>
      rw [if_neg (by decide)]
      refine Ev.pos rfl (Ev.bind (index_ev l _ (by omega)) ?_)
      have hsome : (idx l l[i].f0).isSome = true := idx_mem.2 (List.mem_map.2 ⟨l[i], List.getElem_mem hi, rfl⟩)
      obtain ⟨j, hj⟩ := Option.isSome_iff_exists.1 hsome
      unfold idxI
      rw [hj]
      simp only [Option.getD_some]
      by_cases hji : j < i
      · rw [if_pos (.inl hji)]
        exact Ev.pos (by omega) (Ev.now _)
      · refine Ev.neg (by omega) ?_
        have h0 := alone_l0 hi (by omega) l[i].f3.length 0 (by omega)
        have hd := dupTail_eq (l[i].f3.map (·.f0))
        rw [List.length_map] at hd
        rw [hd] at h0
        cases hdb : dupB (l[i].f3.map (·.f0)) with
        | true => rw [hdb] at h0; rw [if_pos (.inr rfl)]; exact h0
        | false => rw [hdb] at h0; rw [if_neg (by rintro (e | e); exact hji e; cases e)]; exact h0
theorem IsBest.ins {b x : List ByteArray} {S : List ByteArray → Prop} (h : IsBest b S) (hx : x ≠ []) : IsBest (if b.isEmpty || lessR x b then x else b) (fun r => S r ∨ r = x) := by
  rcases h with ⟨rfl, h⟩ | ⟨h0, h1, h2⟩
  · refine .inr ⟨by simpa using hx, by simp, fun r hr => ?_⟩
    simp only [List.isEmpty_nil, Bool.true_or, if_true]
    rcases hr with hr | rfl
    · exact absurd hr (h r)
    · exact lessR_irrefl _
  · have hbe : b.isEmpty = false := by cases b <;> simp_all
    rw [hbe, Bool.false_or]
    cases hl : lessR x b with
    | true =>
      rw [if_pos rfl]
      refine .inr ⟨hx, .inr rfl, fun r hr => ?_⟩
      rcases hr with hr | rfl
      · cases e2 : lessR r x with
        | false => rfl
        | true => have := h2 r hr; rw [lessR_trans e2 hl] at this; cases this
      · exact lessR_irrefl _
    | false =>
      rw [if_neg (by simp)]
      exact .inr ⟨h0, .inl h1, fun r hr => by rcases hr with hr | rfl; exact h2 r hr; exact hl⟩
theorem ringR_best (l : List S61) : IsBest ((names l).foldl (ringStepR (ups l) l.length) []) (RingS (ups l)) := by
  have hup : ∀ c p, p ∈ ups l c → c ∈ names l := fun c p hp => (ups_mem hp).1
  have hspec := fun c => furtherOf_spec (up := ups l) hup c c
  rw [names_len] at hspec
  have key : ∀ (cs : List ByteArray) (b : List ByteArray) (S : List ByteArray → Prop), IsBest b S → IsBest (cs.foldl (ringStepR (ups l) l.length) b) (fun r => S r ∨ ∃ c ∈ cs, furtherOf (ups l) l.length c c ≠ [] ∧ r = (furtherOf (ups l) l.length c c).dropLast) := by
    intro cs
    induction cs with
    | nil => intro b S h; simpa using h
    | cons c cs ih =>
      intro b S h
      rw [List.foldl_cons]
      have hstep : IsBest (ringStepR (ups l) l.length b c) (fun r => S r ∨ (furtherOf (ups l) l.length c c ≠ [] ∧ r = (furtherOf (ups l) l.length c c).dropLast)) := by
        unfold ringStepR
        by_cases hs : furtherOf (ups l) l.length c c = []
        · rw [hs]; simpa using h
        · rw [if_neg (by simpa using hs)]
          have hne : (furtherOf (ups l) l.length c c).dropLast ≠ [] := by
            rcases hspec c with ⟨h1, _⟩ | ⟨n, h1, _⟩
            · exact absurd h1 hs
            · intro e
              have := congrArg List.length e
              rw [List.length_dropLast, h1.1.len] at this
              simp at this
          refine cast ?_ (h.ins hne)
          congr 1
          funext r
          simp [hs]
      refine cast ?_ (ih _ _ hstep)
      congr 1
      funext r
      simp [or_assoc]
  have h := key (names l) [] (fun _ => False) (.inl ⟨rfl, fun _ h => h⟩)
  refine IsBest.of h ?_ ?_
  · rintro r (h | ⟨c, hc, hs, rfl⟩)
    · exact h.elim
    · rcases hspec c with ⟨h1, _⟩ | ⟨n, h1, _⟩
      · exact absurd h1 hs
      · obtain ⟨t, ht⟩ := h1.1.last
        obtain ⟨u, hu⟩ := h1.1.head
        have hl := h1.1.len
        have hw := h1.1
        rw [ht] at hl hu hw ⊢
        rw [List.dropLast_concat]
        have htl : t.length = n + 1 := by simpa using hl
        cases t with
        | nil => simp at htl
        | cons x t =>
          simp only [List.cons_append, List.cons.injEq] at hu
          obtain ⟨rfl, _⟩ := hu
          exact ⟨x, t, rfl, by rw [htl]; exact hw⟩
  · rintro r ⟨c, t, rfl, hw⟩
    have hreach : Hw.reach (ups l) (t.length + 1) c c := by have := hw.reach; rwa [List.length_cons] at this
    obtain ⟨p, hp, _⟩ := hreach
    rcases hspec c with ⟨_, h1⟩ | ⟨n, h1, h2⟩
    · exact absurd (by have := hw.reach; rwa [List.length_cons] at this) (h1 t.length)
    · have hne : furtherOf (ups l) l.length c c ≠ [] := fun e => by have := h1.1.len; rw [e] at this; simp at this
      refine ⟨_, .inr ⟨c, hup c p hp, hne, rfl⟩, ?_⟩
      obtain ⟨s, hs⟩ := h1.1.last
      have hlen := h1.1.len
      rw [hs] at hlen
      have hlen' : s.length = n + 1 := by simpa using hlen
      have hle : n ≤ t.length := Nat.le_of_not_lt (fun hlt => h2 t.length hlt (by have := hw.reach; rwa [List.length_cons] at this))
      rw [hs, List.dropLast_concat]
      simp only [lessR, Bool.or_eq_false_iff, decide_eq_false_iff_not, Bool.and_eq_false_imp, decide_eq_true_iff, List.length_cons]
      refine ⟨by omega, fun he => ?_⟩
      have he' : t.length = n := by omega
      rw [← lexB_snoc (c :: t) s c (by rw [List.length_cons]; omega), ← hs]
      refine h1.2 _ ?_
      rw [← he']
      rwa [List.length_cons] at hw
theorem ringR_eq (l : List S61) : (names l).foldl (ringStepR (ups l) l.length) [] = ringOf l := IsBest.uniq (ringR_best l) (ringOf_best l)
def smallUps (l : List S61) : Prop := l.length ≤ 1000 ∧ ∀ x ∈ l, x.f3.length ≤ 1000
theorem smallUps.ring {l : List S61} (h : smallUps l) : cosignerref03_Ring.f l = some (ringOf l) := by
  unfold cosignerref03_Ring.f
  rw [if_pos ⟨h.1, List.all_eq_true.2 (fun x hx => decide_eq_true (h.2 x hx))⟩]
  exact congrArg some (ringR_eq l)
theorem check_l2 {l : List S61} (hl : l.length < 1000000) {i : Nat} (hi : i < l.length) (hb : l[i].f3.length < 1000000) {R : Int × ByteArray} (H : Ev (fun k => cosignerref03_Check.l1 k l ((i + 1 : Nat) : Int)) R) : ∀ (d m : Nat), m + d = l[i].f3.length →
    Ev (fun k => cosignerref03_Check.l2 k l (i : Int) (m : Int)) (if (l[i].f3.drop m).any (fun p => (idx l p.f0).isNone) then (5, l[i].f0) else R) := by
  intro d
  induction d with
  | zero =>
    intro m hd
    refine Ev.step (fun k => by rw [cosignerref03_Check.l2, if_pos (by omega), if_pos (by omega), rd_class hi, if_neg (by omega), wrap_nat i (by omega)]) ?_
    rw [List.drop_eq_nil_of_le (by omega)]
    exact H
  | succ d ih =>
    intro m hd
    have hm : m < l[i].f3.length := by omega
    refine Ev.step (fun k => by rw [cosignerref03_Check.l2, if_pos (by omega), if_pos (by omega), rd_class hi, if_pos (by omega), if_pos (by omega), rd_parent hm, wrap_nat m (by omega)]) ?_
    rw [List.drop_eq_getElem_cons hm, List.any_cons]
    refine Ev.bind (index_ev l _ (by omega)) ?_
    cases hx : idx l l[i].f3[m].f0 with
    | none => exact Ev.pos (idxI_neg.2 hx) (Ev.now _)
    | some j => exact Ev.neg (fun e => by rw [idxI_neg.1 e] at hx; cases hx) (ih (m + 1) (by omega))
theorem check_l1 {l : List S61} (h : smallUps l) : ∀ (d i : Nat), i + d = l.length → (∀ j, j < i → lonelyOf l j = false) →
    Ev (fun k => cosignerref03_Check.l1 k l (i : Int)) (match (List.range l.length).find? (lonelyOf l) with | some i => (5, (rd_T61 l (i : Int)).f0) | none => match ringOf l with | r :: _ => (7, r) | [] => (0, ⟨#[]⟩)) := by
  intro d
  induction d with
  | zero =>
    intro i hd hall
    refine Ev.step (fun k => by rw [cosignerref03_Check.l1, if_neg (by omega)]) ?_
    have hf : (List.range l.length).find? (lonelyOf l) = none := by
      rw [List.find?_eq_none]
      intro j hj
      have := hall j (by have h2 := List.mem_range.1 hj; omega)
      simp [this]
    rw [hf]
    refine Ev.know h.ring ?_
    cases hr : ringOf l with
    | nil => exact Ev.neg (by simp) (Ev.now _)
    | cons r t =>
      refine Ev.pos (by simp only [List.length_cons]; omega) (Ev.pos (by simp only [List.length_cons]; omega) ?_)
      have : rdOf ByteArray.empty (r :: t) 0 = r := rfl
      rw [this]
      exact Ev.now _
  | succ d ih =>
    intro i hd hall
    have hi : i < l.length := by omega
    have hl := h.1
    have hb := h.2 l[i] (List.getElem_mem hi)
    refine Ev.step (fun k => by rw [cosignerref03_Check.l1, if_pos (by omega)]) ?_
    have hlon : lonelyOf l i = l[i].f3.any (fun p => (idx l p.f0).isNone) := by unfold lonelyOf; rw [rd_class hi]
    cases hx : lonelyOf l i with
    | true =>
      have hf : (List.range l.length).find? (lonelyOf l) = some i := by
        rw [List.find?_range_eq_some]
        exact ⟨hx, by simpa using hi, fun j hj => by simp [hall j hj]⟩
      rw [hf]
      simp only [rd_class hi]
      have hx2 := hlon.symm.trans hx
      have key : ∀ (d m : Nat), m + d = l[i].f3.length → (l[i].f3.drop m).any (fun p => (idx l p.f0).isNone) = true → Ev (fun k => cosignerref03_Check.l2 k l (i : Int) (m : Int)) (5, l[i].f0) := by
        intro d
        induction d with
        | zero => intro m hd hany; rw [List.drop_eq_nil_of_le (by omega)] at hany; cases hany
        | succ d ih =>
          intro m hd hany
          have hm : m < l[i].f3.length := by omega
          refine Ev.step (fun k => by rw [cosignerref03_Check.l2, if_pos (by omega), if_pos (by omega), rd_class hi, if_pos (by omega), if_pos (by omega), rd_parent hm, wrap_nat m (by omega)]) ?_
          rw [List.drop_eq_getElem_cons hm, List.any_cons] at hany
          refine Ev.bind (index_ev l _ (by omega)) ?_
          cases hx : idx l l[i].f3[m].f0 with
          | none => exact Ev.pos (idxI_neg.2 hx) (Ev.now _)
          | some j =>
            rw [hx] at hany
            exact Ev.neg (fun e => by rw [idxI_neg.1 e] at hx; cases hx) (ih (m + 1) (by omega) (by simpa using hany))
      exact key l[i].f3.length 0 (by omega) (by rw [List.drop_zero]; exact hx2)
    | false =>
      have := check_l2 (by omega) hi (by omega) (ih (i + 1) (by omega) (fun j hj => by
        rcases Nat.lt_or_ge j i with h2 | h2
        · exact hall j h2
        · obtain rfl : j = i := by omega
          exact hx)) l[i].f3.length 0 (by omega)
      rw [List.drop_zero, ← hlon, hx] at this
      exact this
theorem check_l0 {l : List S61} (h : smallUps l) (h24 : l.length ≤ 24) : ∀ (d i : Nat), i + d = l.length → (∀ j, j < i → aloneOf l j = 0) →
    Ev (fun k => cosignerref03_Check.l0 k l (i : Int)) (checkOf l) := by
  intro d
  induction d with
  | zero =>
    intro i hd hall
    refine Ev.step (fun k => by rw [cosignerref03_Check.l0, if_neg (by omega)]) ?_
    unfold checkOf
    have hf : (List.range l.length).find? (fun i => decide (aloneOf l i ≠ 0)) = none := by
      rw [List.find?_eq_none]
      intro j hj
      have := hall j (by have h2 := List.mem_range.1 hj; omega)
      simp [this]
    rw [if_neg (by omega), hf]
    exact check_l1 h l.length 0 (by omega) (fun j hj => absurd hj (Nat.not_lt_zero j))
  | succ d ih =>
    intro i hd hall
    have hi : i < l.length := by omega
    refine Ev.step (fun k => by rw [cosignerref03_Check.l0, if_pos (by omega), wrap_nat i (by omega)]) ?_
    refine Ev.bind (alone_ev (by omega) hi) ?_
    by_cases h0 : aloneOf l i = 0
    · refine Ev.pos h0 (ih (i + 1) (by omega) (fun j hj => ?_))
      rcases Nat.lt_or_ge j i with h2 | h2
      · exact hall j h2
      · obtain rfl : j = i := by omega
        exact h0
    · refine Ev.neg h0 (Ev.pos (by omega) ?_)
      rw [checkOf_alone h24 hi hall h0]
      exact Ev.now _
theorem check_ev {l : List S61} (h : smallUps l) : Ev (fun k => cosignerref03_Check.f k l) (checkOf l) := by
  by_cases h24 : 24 < l.length
  · refine Ev.congr (f := fun _ => some (3, (⟨#[]⟩ : ByteArray))) (fun k => by unfold cosignerref03_Check.f; rw [if_pos (by omega)]) ?_
    unfold checkOf
    rw [if_pos h24]
    exact Ev.now _
  · exact Ev.congr (fun k => by unfold cosignerref03_Check.f; rw [if_neg (by omega)]; rfl) (check_l0 h (by omega) l.length 0 (by omega) (fun j hj => absurd hj (Nat.not_lt_zero j)))
end Go.Proofs.Ytdljclokenoogaa.Hw
end
section
namespace Go.Proofs.Ytdljclokenoogaa.Hw
open Go.RowKit Go.Proofs.Ytdljclokenoogaa.Hp Go.Proofs.YtdljclokenoogaaW.PrintWords Go.Proofs.YtdljclokenoogaaW.PrintLast Go.Proofs.YtdljclokenoogaaW.PrintMore
structure Few (l : List S61) : Prop where
  len : l.length ≤ 40
  ups : ∀ x ∈ l, x.f3.length ≤ 8
theorem Few.small {l : List S61} (h : Few l) : smallUps l := ⟨by have := h.len; omega, fun x hx => by have := h.ups x hx; omega⟩
theorem few_ev (l : List S61) (hl : l.length < 4611686018427387904) : ∃ b, Ev (fun k => cosignerlaw03_few.f k l) b ∧ (b = true → Few l) := by
  have key : ∀ (d i : Nat), i + d = l.length → (∀ j (h : j < l.length), j < i → l[j].f3.length ≤ 8) → ∃ b, Ev (fun k => cosignerlaw03_few.l0 k l (i : Int)) b ∧ (b = true → Few l) := by
    intro d
    induction d with
    | zero =>
      intro i hd hall
      have hU : ∀ x ∈ l, x.f3.length ≤ 8 := fun x hx => by obtain ⟨j, hj, rfl⟩ := List.mem_iff_getElem.1 hx; exact hall j hj (by omega)
      by_cases h1 : l.length ≤ 10
      · exact ⟨true, Ev.step (fun k => by rw [cosignerlaw03_few.l0, if_neg (by omega), if_pos (by omega)]) (Ev.now _), fun _ => ⟨by omega, hU⟩⟩
      · by_cases h2 : l.length > 24
        · refine ⟨decide ((l.length : Int) ≤ 40), Ev.step (fun k => by rw [cosignerlaw03_few.l0, if_neg (by omega), if_neg (by omega), if_pos (by omega)]) (Ev.now _), fun h => ⟨by have := of_decide_eq_true h; omega, hU⟩⟩
        · exact ⟨false, Ev.step (fun k => by rw [cosignerlaw03_few.l0, if_neg (by omega), if_neg (by omega), if_neg (by omega)]) (Ev.now _), fun h => by cases h⟩
    | succ d ih =>
      intro i hd hall
      have hi : i < l.length := by omega
      by_cases h8 : l[i].f3.length > 8
      · exact ⟨false, Ev.step (fun k => by rw [cosignerlaw03_few.l0, if_pos (by omega), if_pos (by omega), rd_class hi, if_pos (by omega)]) (Ev.now _), fun h => by cases h⟩
      · obtain ⟨b, h1, h2⟩ := ih (i + 1) (by omega) (fun j hj hji => by
          rcases Nat.lt_or_ge j i with h2 | h2
          · exact hall j hj h2
          · obtain rfl : j = i := by omega
            omega)
        exact ⟨b, Ev.step (fun k => by rw [cosignerlaw03_few.l0, if_pos (by omega), if_pos (by omega), rd_class hi, if_neg (by omega), wrap_nat i (by omega)]) h1, h2⟩
  obtain ⟨b, h1, h2⟩ := key l.length 0 (by omega) (fun j _ h => absurd h (Nat.not_lt_zero j))
  exact ⟨b, h1, h2⟩
theorem sameNames_ev (xs : List ByteArray) (hl : xs.length < 4611686018427387904) : Ev (fun k => cosignerref03_SameNames.f k xs xs) true := by
  have key : ∀ (d i : Nat), i + d = xs.length → Ev (fun k => cosignerref03_SameNames.l0 k xs xs (i : Int)) true := by
    intro d
    induction d with
    | zero => intro i hd; exact Ev.step (fun k => by rw [cosignerref03_SameNames.l0, if_neg (by omega)]) (Ev.now _)
    | succ d ih =>
      intro i hd
      exact Ev.step (fun k => by rw [cosignerref03_SameNames.l0, if_pos (by omega), if_pos (by omega), if_pos (by omega), if_pos rfl, wrap_nat i (by omega)]) (ih (i + 1) (by omega))
  exact Ev.congr (fun k => by unfold cosignerref03_SameNames.f; rw [if_pos rfl]; rfl) (key xs.length 0 (by omega))
end Go.Proofs.Ytdljclokenoogaa.Hw
end
section
namespace Go.Proofs.Ytdljclokenoogaa.Hw
open Go.RowKit Go.Proofs.Ytdljclokenoogaa.Hp Go.Proofs.YtdljclokenoogaaW.PrintWords Go.Proofs.YtdljclokenoogaaW.PrintLast Go.Proofs.YtdljclokenoogaaW.PrintMore
theorem parents_ev {l : List S61} (h : smallUps l) (c : ByteArray) : Ev (fun k => cosignerref03_parents.f k l c) (parN l c) := Ev.val (K := 1002) (fun k hk => parents_val l c (by have := h.1; omega) (B := 1000) (by omega) h.2 k (by have := h.1; omega) (by omega))
theorem mem_ups_parN {l : List S61} {c p : ByteArray} : p ∈ ups l c ↔ p ∈ parN l c ∧ (idx l p).isSome = true := by rw [ups_parN, List.mem_filter]
def goodB (l : List S61) (ns : List ByteArray) (i : Nat) : Bool := !memS (ns.take i) (nth ns i) && linkB l ns i
theorem checkRing_l0 {l : List S61} (h : smallUps l) (ns : List ByteArray) (hn : ns.length ≤ 1000) : ∀ (d i : Nat), i + d = ns.length →
    Ev (fun k => cosignerref03_CheckRing.l0 k l ns (i : Int)) (if (List.range d).all (fun j => goodB l ns (i + j)) then 0 else 11) := by
  intro d
  induction d with
  | zero =>
    intro i hd
    exact Ev.step (fun k => by rw [cosignerref03_CheckRing.l0, if_neg (by omega)]; rfl) (Ev.now _)
  | succ d ih =>
    intro i hd
    have hi : i < ns.length := by omega
    have hpos : 0 < ns.length := by omega
    have hsplit : (List.range (d + 1)).all (fun j => goodB l ns (i + j)) = (goodB l ns i && (List.range d).all (fun j => goodB l ns (i + 1 + j))) := by
      rw [List.range_succ_eq_map, List.all_cons, List.all_map, Nat.add_zero]
      congr 1
      refine congrArg (fun f => (List.range d).all f) (funext fun j => ?_)
      simp only [Function.comp, Nat.succ_eq_add_one]
      rw [show i + (j + 1) = i + 1 + j by omega]
    have hmod : Int.tmod (wrap64 ((i : Int) + 1)) (ns.length : Int) = (((i + 1) % ns.length : Nat) : Int) := by
      rw [wrap_nat i (by omega), Int.tmod_eq_emod_of_nonneg (by omega), Int.natCast_emod]
    have hlt : (i + 1) % ns.length < ns.length := Nat.mod_lt _ hpos
    have hrd : rdOf ByteArray.empty ns (i : Int) = nth ns i := by rw [rdOf_nat hi]; simp [nth, hi]
    have hrd2 : rdOf ByteArray.empty ns (((i + 1) % ns.length : Nat) : Int) = nth ns ((i + 1) % ns.length) := by rw [rdOf_nat hlt]; simp [nth, hlt]
    refine Ev.step (fun k => by rw [cosignerref03_CheckRing.l0, if_pos (by omega), if_pos (by omega), if_pos (by omega), hrd, Int.toNat_natCast, hmod, hrd2, wrap_nat i (by omega)]) ?_
    rw [hsplit]
    refine Ev.bind (has_ev _ _ (by rw [List.length_take]; omega)) (Ev.bind (parents_ev h _) (Ev.neg (by omega) (Ev.pos (by omega) (Ev.pos (by omega) ?_))))
    have hpl := parN_len (c := nth ns i) h.2
    refine Ev.bind (has_ev _ _ (by omega)) ?_
    have hgi : goodB l ns i = (!memS (ns.take i) (nth ns i) && memS (ups l (nth ns i)) (nth ns ((i + 1) % ns.length))) := rfl
    rw [hgi]
    cases h1 : memS (ns.take i) (nth ns i) with
    | true => exact Ev.pos rfl (Ev.now _)
    | false =>
      refine Ev.neg (by decide) ?_
      have hu : memS (ups l (nth ns i)) (nth ns ((i + 1) % ns.length)) = (memS (parN l (nth ns i)) (nth ns ((i + 1) % ns.length)) && (idx l (nth ns ((i + 1) % ns.length))).isSome) := by
        rw [Bool.eq_iff_iff, Bool.and_eq_true, memS_iff, memS_iff, mem_ups_parN]
      rw [hu]
      cases h2 : memS (parN l (nth ns i)) (nth ns ((i + 1) % ns.length)) with
      | false => exact Ev.neg (by decide) (Ev.now _)
      | true =>
        refine Ev.pos rfl (Ev.bind (index_ev l _ (by have := h.1; omega)) ?_)
        cases h3 : idx l (nth ns ((i + 1) % ns.length)) with
        | none => exact Ev.pos (idxI_neg.2 h3) (Ev.now _)
        | some j =>
          refine Ev.neg (fun e => by rw [idxI_neg.1 e] at h3; cases h3) ?_
          have := ih (i + 1) (by omega)
          simpa using this
theorem checkRing_ev {l : List S61} (h : smallUps l) (ns : List ByteArray) (hn : ns.length ≤ 1000) : Ev (fun k => cosignerref03_CheckRing.f k l ns) (checkRingOf l ns) := by
  have hj : Ev (fun k => cosignerref03_CheckRing.j0 k l ns true) 3 := Ev.step (fun k => by rw [cosignerref03_CheckRing.j0, if_pos rfl]) (Ev.now _)
  unfold checkRingOf
  by_cases h1 : 24 < l.length
  · rw [if_pos (.inl h1)]
    exact Ev.congr (fun k => by unfold cosignerref03_CheckRing.f; rw [if_pos (by omega)]) hj
  · refine Ev.congr (f := fun k => cosignerref03_CheckRing.j0 k l ns (decide ((ns.length : Int) > 24))) (fun k => by unfold cosignerref03_CheckRing.f; rw [if_neg (by omega)]) ?_
    by_cases h2 : 24 < ns.length
    · rw [if_pos (.inr h2), decide_eq_true (by omega)]
      exact hj
    · rw [if_neg (by omega), decide_eq_false (by omega)]
      refine Ev.step (fun k => by rw [cosignerref03_CheckRing.j0, if_neg (by decide)]) ?_
      by_cases h3 : ns.length = 0
      · rw [if_pos (.inl h3)]
        exact Ev.pos (by omega) (Ev.now _)
      · refine Ev.neg (by omega) ?_
        have h0 := checkRing_l0 h ns hn ns.length 0 (by omega)
        refine cast ?_ h0
        congr 1
        simp only [Nat.zero_add]
        have key : ((List.range ns.length).all (goodB l ns)) = (!dupB ns && (List.range ns.length).all (linkB l ns)) := by
          rw [Bool.eq_iff_iff, Bool.and_eq_true, Bool.not_eq_true', ← dupTail_eq, dupTail_iff ns ns.length 0 (by omega), List.all_eq_true, List.all_eq_true]
          simp only [List.mem_range, goodB, Bool.and_eq_true, Bool.not_eq_true']
          exact ⟨fun h => ⟨fun j _ hj => (h j hj).1, fun j hj => (h j hj).2⟩, fun h j hj => ⟨h.1 j (Nat.zero_le _) hj, h.2 j hj⟩⟩
        rw [show (fun j => goodB l ns j) = goodB l ns from rfl, key]
        cases dupB ns <;> simp [h3]
theorem ringOf_len (l : List S61) : (ringOf l).length ≤ l.length := by
  rcases ringOf_best l with ⟨h1, _⟩ | ⟨_, h1, _⟩
  · rw [h1]; simp
  · have h2 := length_le_of_subset (ringOf l) (names l) (ringOf_nodup l) (fun x hx => by
      obtain ⟨i, hi, rfl⟩ := List.mem_iff_getElem.1 hx
      have := ((ring_links _).1 h1).2 i hi
      have e : nth (ringOf l) i = (ringOf l)[i] := by simp [nth, hi]
      rw [e] at this
      exact (ups_mem this).1)
    rwa [names_len] at h2
theorem shortUps_of_few {l : List S61} (h : Few l) : ∀ x ∈ l, x.f3.length ≤ 1100000000000 := fun x hx => by have := h.ups x hx; omega
theorem pure_checks (l : List S61) (ns : List ByteArray) (hl : l.length < 4611686018427387904) : ∃ k, cosignerlaw03_HeirChecks.f k l ns = some true := by
  have hs : Ev (fun k => cosignerlaw03_HeirChecks.j0 k l ns true) true := Ev.step (fun k => by rw [cosignerlaw03_HeirChecks.j0, if_pos rfl]; rfl) (Ev.now _)
  obtain ⟨b, hb, hf⟩ := few_ev l hl
  refine Ev.rounds (g := fun k => cosignerlaw03_HeirChecks.f k l ns) (Ev.congr (fun k => by rw [cosignerlaw03_HeirChecks.f]) (Ev.bind hb ?_))
  cases b with
  | false => exact Ev.neg (by decide) hs
  | true =>
    refine Ev.pos rfl ?_
    by_cases hn : ns.length > 40
    · rw [decide_eq_true (by omega)]; exact hs
    · rw [decide_eq_false (by omega)]
      have h := hf rfl
      have hrf : heir_Ring.f l = some (ringOf l, !(ringOf l).isEmpty) := by
        unfold heir_Ring.f
        rw [if_pos ⟨by have := h.len; omega, List.all_eq_true.2 (fun x hx => decide_eq_true (shortUps_of_few h x hx))⟩]
      have hcf : heir_CheckRing.f l ns = some (checkRingOf l ns) := by
        unfold heir_CheckRing.f
        rw [if_pos (show shortUps l = true from List.all_eq_true.2 (fun x hx => decide_eq_true (shortUps_of_few h x hx)))]
      have hrl := ringOf_len l
      have hll := h.len
      have hbe : ((!(ringOf l).isEmpty) == decide (((ringOf l).length : Int) > 0)) = true := by
        cases ringOf l with
        | nil => rfl
        | cons r t => simp
      refine Ev.step (fun k => by rw [cosignerlaw03_HeirChecks.j0, if_neg (by decide)]) ?_
      refine Ev.know (show heir_Check.f l = some (checkOf l) from rfl) (Ev.bind (check_ev h.small) (Ev.know hrf (Ev.know h.small.ring (Ev.know rfl (Ev.pos rfl (Ev.pos rfl (Ev.pos rfl (Ev.bind (sameNames_ev (ringOf l) (by omega)) (Ev.pos rfl (Ev.pos hbe (Ev.know hcf (Ev.bind (checkRing_ev h.small ns (by omega)) ?_))))))))))))
      simp only [beq_self_eq_true]
      exact Ev.now _
end Go.Proofs.Ytdljclokenoogaa.Hw
end
