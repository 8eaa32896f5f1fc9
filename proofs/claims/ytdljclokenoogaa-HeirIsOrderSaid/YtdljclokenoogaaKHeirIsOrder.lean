/-
  HeirIsOrder: for every input the statement returns true, and each argument reads behind the call as it read before.
  Conditions: those of the given row alone. (The texts of this claim are merged by the session's program wip/pack.py; declarations that nothing names are left out.)
-/
import Derived.SizedLaws
import Derived.ChangeSlices
import Derived.Test.YtdljclokenoogaaRows
import Derived.WalkKit
import Derived.ProofKit
import Derived.OpenShut
import Derived.ShutString
import Derived.ChangeOld
import Derived.Below
import Derived.Test.YtdljclokenoogaaKTh3
set_option linter.unusedVariables false
set_option linter.unusedSimpArgs false
section
namespace Go.Proofs.Ytdljclokenoogaa.Hw
open Go.RowKit Go.Proofs.Ytdljclokenoogaa.Hp Go.Proofs.YtdljclokenoogaaW.PrintWords Go.Proofs.YtdljclokenoogaaW.PrintLast Go.Proofs.YtdljclokenoogaaW.PrintMore
theorem pure_isOrder (l : List S61) (i j m : Int) (hi : 0 ≤ i ∧ i < 256) (hj : 0 ≤ j ∧ j < 256) (hm : 0 ≤ m ∧ m < 256) : cosignerlaw03_HeirIsOrder.f 30 l i j m = some true := by
  unfold cosignerlaw03_HeirIsOrder.f
  rw [right_val]
  by_cases hr : (checkOf l).1 = 0 ∧ 0 < l.length
  · have h : Good l := ⟨hr.1, hr.2⟩
    obtain ⟨a, ha, ea⟩ := h.name i hi.1 hi.2
    obtain ⟨b, hb, eb⟩ := h.name j hj.1 hj.2
    obtain ⟨c, hc, ec⟩ := h.name m hm.1 hm.2
    have hlen : ((names l).filter (fun d => memS (anc l d) a)).length ≤ 24 := by
      have h1 := List.length_filter_le (fun d => memS (anc l d) a) (names l)
      have h2 := h.small
      rw [names_len] at h1; omega
    obtain ⟨v, ev, hv⟩ := at_val ((names l).filter (fun d => memS (anc l d) a)) b (by omega) 29 (by omega)
    have hmem : memS ((names l).filter (fun d => memS (anc l d) a)) b = memS (anc l b) a := by
      rw [Bool.eq_iff_iff, memS_iff, List.mem_filter]
      simp [hb]
    rw [hmem] at hv
    have hj0 : cosignerlaw03_HeirIsOrder.j0 30 l a b ((names l).filter (fun d => memS (anc l d) a)) false = some true := by
      simp only [cosignerlaw03_HeirIsOrder.j0, cosignerlaw03_sanity.f, ev, h.is hb ha, Option.bind_some, if_true, hv]
      simp
    simp only [hr, and_self, decide_true, Option.bind_some, if_true, ea, eb, ec, h.below ha, h.is ha ha, h.is ha hb, h.is hb hc, h.is ha hc, h.is hb ha, h.refl a]
    have ht : memS (anc l a) b = true → memS (anc l b) c = true → memS (anc l a) c = true := h.trans
    have hn : memS (anc l a) b = true → memS (anc l b) a = true → a = b := h.anti
    by_cases hab : a = b
    · subst hab
      cases h2 : memS (anc l a) c <;> simp [h2, h.refl a, hj0]
    · have hab2 : ¬ a.toList = b.toList := fun e => hab (toList_inj e)
      cases h1 : memS (anc l a) b
      · simp [hab2, hj0]
      · have h3 : memS (anc l b) a = false := by
          cases h4 : memS (anc l b) a with
          | false => rfl
          | true => exact absurd (hn h1 h4) hab
        cases h5 : memS (anc l b) c
        · simp [hab2, h3, hj0]
        · simp [hab2, h3, hj0, ht h1 h5]
  · simp [hr, cosignerlaw03_sanity.f]
end Go.Proofs.Ytdljclokenoogaa.Hw
end
section
namespace Go.Proofs.YtdljclokenoogaaW.PrintWords
open Go.ChangeShapes Go.WideShapes
theorem sized_ints {H : Type} {enc : TypeId × Value → H} {P : Program} {W : World} {base : Nat} {spare : Nat → Bool} {held : Bool} {t e : TypeId} {k : IntKind} {a : Option Addr} {len cap : Nat} {d : DataW H} {ps : List MemPlace} {ts : List TypeId} {ds : List (DataW H)} {j : Nat}
    (hsz : (DataW.weightsEach P ts ds).all (· ≤ reachBytes) = true) (ht : ts[j]? = some t) (hd : ds[j]? = some d) (hu : P.underlying t = some (.slice e)) (he : P.underlying e = some (.int k)) (hc : P.cellsOf e = 1) {B : Nat} (hB : P.bytesOf e = B)
    (h : DataW.Trod enc P W base spare held t (.slice a len cap) d ps) : len * B ≤ 140737488351232 := by
  obtain ⟨fuel, hf⟩ := h
  rcases open_ints hu he hc hf with ⟨hcs, _⟩ | ⟨x, l, c, zs, hcs, _, hl, _, hz, hx, _, _⟩
  · simp [Value.cells] at hcs
    obtain ⟨rfl, rfl, rfl⟩ := hcs
    simp
  · simp [Value.cells] at hcs
    obtain ⟨rfl, rfl, rfl⟩ := hcs
    obtain ⟨hx, _⟩ := Prod.mk.inj hx
    subst hx
    have z := sized_slice hsz ht hd hu
    rw [hB] at z
    have hl2 : len ≤ zs.length := by
      rw [hz]
      split
      · exact hl
      · exact Nat.le_refl _
    have h1 : (lits (H := H) k (zs.take len)).length + (lits (H := H) k (zs.drop len)).length = zs.length := by
      simp [lits]
      omega
    rw [h1] at z
    exact Nat.le_trans (Nat.mul_le_mul_right _ hl2) z
end Go.Proofs.YtdljclokenoogaaW.PrintWords
end
section
namespace Go.Proofs.Ytdljclokenoogaa.heirIsOrder
open Go.ChangeShapes Go.WideShapes Go.ChangeAt Go.RowKit Go.Proofs.Ytdljclokenoogaa.Hw
open Go.ChangeMaps (open_string shut_string)
set_option linter.unusedVariables false
theorem own : ownKnob Try.prog.godebug = none := by kernel_rfl
theorem laidOut : laidOutB Try.prog = true := by kernel_rfl
set_option maxRecDepth 100000 in
theorem lifted (os : Os) (started : os.Started) (H : Type) (enc : TypeId × Value → H) :
    ReturnsInHanded {} Try.checked os 11 .any (Rows.heirIsOrderSpec.pre6 enc Try.prog Try.f11 Rows.heirIsOrderRow.domain false) (Rows.heirIsOrderSpec.post enc Try.prog Try.f11 false true false false) := by
  refine returnsInHanded_of_change_sized (C := Try.checked) own started (by kernel_rfl) Try.func11
    (ChangeSpec.witness6 (enc := enc) (C := Try.checked) false ⟨#[], #[.slice none 0 0, .int .u8 0, .int .u8 0, .int .u8 0], []⟩ 8 (by kernel_rfl) (by kernel_rfl) (by kernel_rfl) (by kernel_rfl)) ?_
  intro W base args ds gs before hval0 hW hcnd hsz0 _
  have hsz : (DataW.weightsEach Try.prog (Try.f11.params.toList ++ Rows.heirIsOrderSpec.plain.varTypes Try.prog) (ds ++ gs)).all (· ≤ reachBytes) = true := hsz0
  have hval : ∀ (j : Nat) t v, Try.f11.params[j]? = some t → args[j]? = some v → Value.okWide Try.prog W .any base t v := hval0
  have hW' := hW
  obtain ⟨p, q, hA0, hV, rfl, hfz, hnd⟩ := hW
  have hA : DataW.TrodAll enc Try.prog W 0 (fun _ => true) true Try.f11.params.toList args.toList ds p := hA0
  rw [Try.params11] at hA hval hsz
  obtain ⟨v0, vs0, d0, ds0, p0, q0, hargs, rfl, rfl, h0, r0⟩ := trodAll_cons hA
  obtain ⟨v1, vs1, d1, ds1, p1, q1, rfl, rfl, rfl, h1, r1⟩ := trodAll_cons r0
  obtain ⟨v2, vs2, d2, ds2, p2, q2, rfl, rfl, rfl, h2, r2⟩ := trodAll_cons r1
  obtain ⟨v3, vs3, d3, ds3, p3, q3, rfl, rfl, rfl, h3, r3⟩ := trodAll_cons r2
  obtain ⟨rfl, rfl, rfl⟩ := trodAll_nil r3
  obtain rfl : args = #[v0, v1, v2, v3] := by cases args; simp_all
  obtain ⟨rfl, rfl⟩ := trodVars_none hV
  obtain ⟨b0, len0, cap0, rfl⟩ := okWide_slice Try.underlying22 (hval 0 22 v0 rfl rfl)
  have k0 := h0
  have lt0 : ∀ x ∈ p0, x.block < W.heap.size := by obtain ⟨m, hm⟩ := k0; exact DataW.trod_lt m _ _ _ hm
  obtain ⟨l0, rfl, hc0, hC0⟩ := trod_classes h0
  obtain ⟨a1, rfl, rfl, rfl, x1⟩ := open_int Try.underlying5 (hval 1 5 v1 rfl rfl) h1
  have z1 : 0 ≤ a1 ∧ a1 ≤ 255 := by simpa [Lit.wf, IntKind.min, IntKind.max, IntKind.bits, IntKind.signed] using x1
  have w1 : 0 ≤ a1 ∧ a1 < 256 := by omega
  obtain ⟨a2, rfl, rfl, rfl, x2⟩ := open_int Try.underlying5 (hval 2 5 v2 rfl rfl) h2
  have z2 : 0 ≤ a2 ∧ a2 ≤ 255 := by simpa [Lit.wf, IntKind.min, IntKind.max, IntKind.bits, IntKind.signed] using x2
  have w2 : 0 ≤ a2 ∧ a2 < 256 := by omega
  obtain ⟨a3, rfl, rfl, rfl, x3⟩ := open_int Try.underlying5 (hval 3 5 v3 rfl rfl) h3
  have z3 : 0 ≤ a3 ∧ a3 ≤ 255 := by simpa [Lit.wf, IntKind.min, IntKind.max, IntKind.bits, IntKind.signed] using x3
  have w3 : 0 ≤ a3 ∧ a3 < 256 := by omega
  clear hA0 hval0 hsz0 hsz
  refine (Hp.cosignerlaw03_HeirIsOrder.calls 30 b0 cap0 l0 a1 a2 a3 true W hC0 hc0 (pure_isOrder l0 a1 a2 a3 w1 w2 w3)).mono fun e W' ⟨he, bel⟩ => ?_
  subst he
  exact ⟨_, rfl, _, _, _, [], _, [], hW', trodAll_mk1 (shut_bool Try.underlying4 _), (trodAll_cons_mk (Below.trod laidOut (by kernel_rfl) (of_decide_eq_true (by kernel_rfl)) k0 bel lt0) (trodAll_cons_mk (shut_int Try.underlying5 x1) (trodAll_cons_mk (shut_int Try.underlying5 x2) (trodAll_cons_mk (shut_int Try.underlying5 x3) trodAll_mk0)))), rfl, bel.frame _, fun h => by cases h⟩
theorem over : Rows.heirIsOrderRow.holds Try.pinned (OpenSpec.ofChange Rows.heirIsOrderSpec) :=
  OpenClaim.holds_of_wide 11 Try.f11 rfl rfl rfl rfl rfl rfl rfl ⟨rfl, rfl, rfl, rfl, rfl⟩ rfl rfl rfl rfl rfl (by kernel_rfl) Try.func11 (by kernel_rfl)
    (of_decide_eq_true (by kernel_rfl)) (by unfold Func.isWrapper; first | (rw [if_pos (by decide +kernel)]; kernel_rfl) | (rw [if_neg (by decide +kernel)]; exact ⟨rfl, rfl⟩))
    (fun os started H enc _ => lifted os started H enc)
theorem proved : Rows.HeirIsOrderSaid := over
#print axioms proved
end Go.Proofs.Ytdljclokenoogaa.heirIsOrder
namespace Go.Proofs.Ytdljclokenoogaa
theorem heirIsOrder_holds : Rows.HeirIsOrderSaid := heirIsOrder.proved
end Go.Proofs.Ytdljclokenoogaa
end
