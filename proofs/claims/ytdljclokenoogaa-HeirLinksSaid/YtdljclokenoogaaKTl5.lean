/-
  Part 5 (Tl) of the proof: walks of functions and plain facts.
-/
import Derived.ChangeArms
import Derived.ChangeSlices
import Derived.SizedLaws
import Derived.Test.YtdljclokenoogaaRows
import Derived.WalkKit
import Derived.ProofKit
import Derived.OpenShut
import Derived.ShutString
import Derived.ChangeOld
import Derived.Below
import Derived.Test.YtdljclokenoogaaKTl4
set_option linter.unusedVariables false
set_option linter.unusedSimpArgs false
set_option linter.unusedSectionVars false
section
namespace Go.Proofs.Ytdljclokenoogaa.Hw
open Go.RowKit Go.Proofs.Ytdljclokenoogaa.Hp Go.Proofs.YtdljclokenoogaaW.PrintWords Go.Proofs.YtdljclokenoogaaW.PrintLast Go.Proofs.YtdljclokenoogaaW.PrintMore
theorem Ev.pos {α : Type} {p : Prop} [Decidable p] {f g : Nat → Option α} {r : α} (hp : p) (h : Ev f r) : Ev (fun k => if p then f k else g k) r := Ev.congr (fun _ => if_pos hp) h
theorem Ev.neg {α : Type} {p : Prop} [Decidable p] {f g : Nat → Option α} {r : α} (hp : ¬ p) (h : Ev g r) : Ev (fun k => if p then f k else g k) r := Ev.congr (fun _ => if_neg hp) h
theorem Ev.val {α : Type} {f : Nat → Option α} {r : α} {K : Nat} (h : ∀ k, K ≤ k → f k = some r) : Ev f r := ⟨K, h⟩
theorem Ev.know {α β : Type} {o : Option α} {f : Nat → α → Option β} {a : α} {r : β} (h : o = some a) (k : Ev (fun n => f n a) r) : Ev (fun n => o.bind (f n)) r := by subst h; exact k
theorem has_val (xs : List ByteArray) (s : ByteArray) (hl : xs.length < 4611686018427387904) (k : Nat) (hk : xs.length < k) : cosignerref03_Has.f k xs s = some (memS xs s) := by
  have key : ∀ (d i k : Nat), xs.length - i = d → i ≤ xs.length → d < k → cosignerref03_Has.l0 k xs s (i : Int) = some (memS (xs.drop i) s) := by
    intro d
    induction d with
    | zero =>
      intro i k hd hi hk
      obtain ⟨k, rfl⟩ : ∃ m, k = m + 1 := ⟨k - 1, by omega⟩
      have e : i = xs.length := by omega
      rw [cosignerref03_Has.l0, if_neg (by omega), e, List.drop_length]
      rfl
    | succ d ih =>
      intro i k hd hi hk
      obtain ⟨k, rfl⟩ : ∃ m, k = m + 1 := ⟨k - 1, by omega⟩
      have hil : i < xs.length := by omega
      rw [cosignerref03_Has.l0, if_pos (by omega), if_pos (by omega), rdOf_nat hil, List.drop_eq_getElem_cons hil]
      by_cases h : xs[i] = s
      · rw [if_pos (by rw [h])]; simp [memS, h]
      · rw [if_neg (fun e => h (toList_inj e)), wrap_nat i (by omega), ih (i + 1) k (by omega) hil (by omega)]
        have h' : ¬ s = xs[i] := fun e => h e.symm
        rw [show memS (xs[i] :: xs.drop (i + 1)) s = memS (xs.drop (i + 1)) s by unfold memS; rw [List.any_cons, decide_eq_false h', Bool.false_or]]
  have := key xs.length 0 k rfl (Nat.zero_le _) hk
  simpa [cosignerref03_Has.f] using this
theorem has_ev (xs : List ByteArray) (s : ByteArray) (hl : xs.length < 4611686018427387904) : Ev (fun k => cosignerref03_Has.f k xs s) (memS xs s) := Ev.val (K := xs.length + 1) (fun k hk => has_val xs s hl k (by omega))
theorem index_ev (l : List S61) (s : ByteArray) (hl : l.length < 4611686018427387904) : Ev (fun k => cosignerref03_index.f k l s) (idxI l s) := Ev.val (K := l.length + 1) (fun k hk => index_val l s hl k (by omega))
theorem named_ev (s : ByteArray) : Ev (fun k => cosignerref03_named.f k s) (isName s) := Ev.val (K := 30) (fun k hk => named_val s k hk)
def dupTail (ns : List ByteArray) : Nat → Nat → Bool
  | 0, _ => false
  | d + 1, m => memS (ns.take m) (nth ns m) || dupTail ns d (m + 1)
theorem dupTail_iff (ns : List ByteArray) : ∀ (d m : Nat), m + d = ns.length → (dupTail ns d m = false ↔ ∀ j, m ≤ j → j < ns.length → memS (ns.take j) (nth ns j) = false)
  | 0, m, h => ⟨fun _ j h1 h2 => by omega, fun _ => rfl⟩
  | d + 1, m, h => by
    rw [dupTail, Bool.or_eq_false_iff, dupTail_iff ns d (m + 1) (by omega)]
    refine ⟨fun ⟨h1, h2⟩ j h3 h4 => ?_, fun h1 => ⟨h1 m (Nat.le_refl _) (by omega), fun j h3 h4 => h1 j (by omega) h4⟩⟩
    rcases Nat.eq_or_lt_of_le h3 with rfl | h5
    · exact h1
    · exact h2 j h5 h4
theorem dupTail_eq (ns : List ByteArray) : dupTail ns ns.length 0 = dupB ns := by
  have h : dupTail ns ns.length 0 = false ↔ dupB ns = false := by
    rw [dupTail_iff ns ns.length 0 (by omega), dupB_iff, List.Nodup, List.pairwise_iff_getElem]
    constructor
    · intro h i j hi hj hij e
      have := h j (Nat.zero_le _) hj
      have h2 : memS (ns.take j) (nth ns j) = true := by
        rw [memS_iff, show nth ns j = ns[j] by simp [nth, hj], ← e]
        exact List.mem_iff_getElem.2 ⟨i, by rw [List.length_take]; omega, by simp⟩
      rw [h2] at this; cases this
    · intro h j _ hj
      cases hm : memS (ns.take j) (nth ns j) with
      | false => rfl
      | true =>
        rw [memS_iff, show nth ns j = ns[j] by simp [nth, hj]] at hm
        obtain ⟨i, hi, e⟩ := List.mem_iff_getElem.1 hm
        rw [List.length_take] at hi
        rw [List.getElem_take] at e
        exact absurd e (h i j (by omega) hj (by omega))
  cases h1 : dupTail ns ns.length 0 <;> cases h2 : dupB ns <;> simp_all
section
variable {l : List S61} {i : Nat} (hi : i < l.length) (hb : l[i].f3.length ≤ 1000000)
include hi hb
theorem alone_l1 {m : Nat} (hm : m < l[i].f3.length) {R : Int} (H : Ev (fun k => cosignerref03_alone.l0 k l (i : Int) ((m + 1 : Nat) : Int)) R) : ∀ (d j : Nat), m - j = d → j ≤ m →
    Ev (fun k => cosignerref03_alone.l1 k l (i : Int) (m : Int) (j : Int)) (if memS (((l[i].f3.map (·.f0)).take m).drop j) (nth (l[i].f3.map (·.f0)) m) then 6 else R) := by
  intro d
  induction d with
  | zero =>
    intro j hd hj
    have e : j = m := by omega
    refine Ev.step (fun k => by rw [cosignerref03_alone.l1, if_neg (by omega), wrap_nat m (by omega)]) ?_
    rw [List.drop_eq_nil_of_le (by rw [List.length_take]; omega)]
    exact H
  | succ d ih =>
    intro j hd hj
    have hjm : j < m := by omega
    have hjl : j < l[i].f3.length := by omega
    have hjn : j < ((l[i].f3.map (·.f0)).take m).length := by rw [List.length_take, List.length_map]; omega
    rw [List.drop_eq_getElem_cons hjn]
    have e1 : ((l[i].f3.map (·.f0)).take m)[j] = l[i].f3[j].f0 := by rw [List.getElem_take, List.getElem_map]
    have e2 : nth (l[i].f3.map (·.f0)) m = l[i].f3[m].f0 := by simp [nth, hm]
    rw [e1]
    refine Ev.step (fun k => by rw [cosignerref03_alone.l1, if_pos (by omega), if_pos (by omega), if_pos (by omega), if_pos (by omega), rd_class hi, if_pos (by omega), if_pos (by omega), if_pos (by omega), rd_parent hjl, rd_parent hm, wrap_nat j (by omega)]) ?_
    by_cases h : l[i].f3[j].f0 = l[i].f3[m].f0
    · refine Ev.pos (by rw [h]) ?_
      rw [show memS (l[i].f3[j].f0 :: ((l[i].f3.map (·.f0)).take m).drop (j + 1)) (nth (l[i].f3.map (·.f0)) m) = true by rw [memS_iff, e2, h]; exact List.mem_cons_self .., if_pos rfl]
      exact Ev.now _
    · refine Ev.neg (fun e => h (toList_inj e)) ?_
      have := ih (j + 1) (by omega) hjm
      have e3 : memS (l[i].f3[j].f0 :: ((l[i].f3.map (·.f0)).take m).drop (j + 1)) (nth (l[i].f3.map (·.f0)) m) = memS (((l[i].f3.map (·.f0)).take m).drop (j + 1)) (nth (l[i].f3.map (·.f0)) m) := by
        have : ¬ l[i].f3[m].f0 = l[i].f3[j].f0 := fun e => h e.symm
        rw [e2]; simp [memS, this]
      rw [e3]; exact this
theorem alone_l0 : ∀ (d m : Nat), m + d = l[i].f3.length → Ev (fun k => cosignerref03_alone.l0 k l (i : Int) (m : Int)) (if dupTail (l[i].f3.map (·.f0)) d m then 6 else 0) := by
  intro d
  induction d with
  | zero =>
    intro m hd
    refine Ev.step (fun k => by rw [cosignerref03_alone.l0, if_pos (by omega), if_pos (by omega), rd_class hi, if_neg (by omega)]) ?_
    exact Ev.now _
  | succ d ih =>
    intro m hd
    have hm : m < l[i].f3.length := by omega
    have h1 := alone_l1 hi hb hm (ih (m + 1) (by omega)) m 0 (by omega) (by omega)
    refine Ev.step (fun k => by rw [cosignerref03_alone.l0, if_pos (by omega), if_pos (by omega), rd_class hi, if_pos (by omega)]) ?_
    rw [List.drop_zero] at h1
    rw [dupTail]
    cases h2 : memS ((l[i].f3.map (·.f0)).take m) (nth (l[i].f3.map (·.f0)) m) with
    | true => rw [h2] at h1; exact h1
    | false => rw [h2] at h1; exact h1
end
theorem alone_ev {l : List S61} (hl : l.length < 1000000) {i : Nat} (hi : i < l.length) : Ev (fun k => cosignerref03_alone.f k l (i : Int)) (aloneOf l i) := by
  unfold aloneOf
  rw [rd_class hi]
  refine Ev.congr (f := fun k => if l[i].f3.length > 4 then some 3 else (cosignerref03_named.f k l[i].f0).bind fun t => if t = true then (cosignerref03_index.f k l l[i].f0).bind fun u => if u < (i : Int) then some 6 else cosignerref03_alone.l0 k l (i : Int) 0 else some 4) (fun k => by
    unfold cosignerref03_alone.f
    rw [if_pos (by omega), if_pos (by omega), rd_class hi]
    by_cases h : l[i].f3.length > 4
    · rw [if_pos h, if_pos (by omega)]
    · rw [if_neg h, if_neg (by omega)]) ?_
  by_cases h4 : 4 < l[i].f3.length
  · rw [if_pos h4]; exact Ev.pos h4 (Ev.now _)
  · rw [if_neg h4]
    refine Ev.neg h4 (Ev.bind (named_ev _) ?_)
    cases hn : isName l[i].f0 with
    | false => rw [if_pos rfl]; exact Ev.neg (by decide) (Ev.now _)
    | true =>
      rw [if_neg (by decide)]
      refine Ev.pos rfl (Ev.bind (index_ev l _ (by omega)) ?_)
      have hsome : (idx l l[i].f0).isSome = true := idx_mem.2 (List.mem_map.2 ⟨l[i], List.getElem_mem hi, rfl⟩)
      obtain ⟨j, hj⟩ := Option.isSome_iff_exists.1 hsome
      unfold idxI
      rw [hj]
      simp only [Option.getD_some]
      by_cases hji : j < i
      · rw [if_pos (.inl hji)]
        exact Ev.pos (by omega) (Ev.now _)
      · refine Ev.neg (by omega) ?_
        have h0 := alone_l0 hi (by omega) l[i].f3.length 0 (by omega)
        have hd := dupTail_eq (l[i].f3.map (·.f0))
        rw [List.length_map] at hd
        rw [hd] at h0
        cases hdb : dupB (l[i].f3.map (·.f0)) with
        | true => rw [hdb] at h0; rw [if_pos (.inr rfl)]; exact h0
        | false => rw [hdb] at h0; rw [if_neg (by rintro (e | e); exact hji e; cases e)]; exact h0
theorem IsBest.ins {b x : List ByteArray} {S : List ByteArray → Prop} (h : IsBest b S) (hx : x ≠ []) : IsBest (if b.isEmpty || lessR x b then x else b) (fun r => S r ∨ r = x) := by
  rcases h with ⟨rfl, h⟩ | ⟨h0, h1, h2⟩
  · refine .inr ⟨by simpa using hx, by simp, fun r hr => ?_⟩
    simp only [List.isEmpty_nil, Bool.true_or, if_true]
    rcases hr with hr | rfl
    · exact absurd hr (h r)
    · exact lessR_irrefl _
  · have hbe : b.isEmpty = false := by cases b <;> simp_all
    rw [hbe, Bool.false_or]
    cases hl : lessR x b with
    | true =>
      rw [if_pos rfl]
      refine .inr ⟨hx, .inr rfl, fun r hr => ?_⟩
      rcases hr with hr | rfl
      · cases e2 : lessR r x with
        | false => rfl
        | true => have := h2 r hr; rw [lessR_trans e2 hl] at this; cases this
      · exact lessR_irrefl _
    | false =>
      rw [if_neg (by simp)]
      exact .inr ⟨h0, .inl h1, fun r hr => by rcases hr with hr | rfl; exact h2 r hr; exact hl⟩
theorem ringR_best (l : List S61) : IsBest ((names l).foldl (ringStepR (ups l) l.length) []) (RingS (ups l)) := by
  have hup : ∀ c p, p ∈ ups l c → c ∈ names l := fun c p hp => (ups_mem hp).1
  have hspec := fun c => furtherOf_spec (up := ups l) hup c c
  rw [names_len] at hspec
  have key : ∀ (cs : List ByteArray) (b : List ByteArray) (S : List ByteArray → Prop), IsBest b S → IsBest (cs.foldl (ringStepR (ups l) l.length) b) (fun r => S r ∨ ∃ c ∈ cs, furtherOf (ups l) l.length c c ≠ [] ∧ r = (furtherOf (ups l) l.length c c).dropLast) := by
    intro cs
    induction cs with
    | nil => intro b S h; simpa using h
    | cons c cs ih =>
      intro b S h
      rw [List.foldl_cons]
      have hstep : IsBest (ringStepR (ups l) l.length b c) (fun r => S r ∨ (furtherOf (ups l) l.length c c ≠ [] ∧ r = (furtherOf (ups l) l.length c c).dropLast)) := by
        unfold ringStepR
        by_cases hs : furtherOf (ups l) l.length c c = []
        · rw [hs]; simpa using h
        · rw [if_neg (by simpa using hs)]
          have hne : (furtherOf (ups l) l.length c c).dropLast ≠ [] := by
            rcases hspec c with ⟨h1, _⟩ | ⟨n, h1, _⟩
            · exact absurd h1 hs
            · intro e
              have := congrArg List.length e
              rw [List.length_dropLast, h1.1.len] at this
              simp at this
          refine cast ?_ (h.ins hne)
          congr 1
          funext r
          simp [hs]
      refine cast ?_ (ih _ _ hstep)
      congr 1
      funext r
      simp [or_assoc]
  have h := key (names l) [] (fun _ => False) (.inl ⟨rfl, fun _ h => h⟩)
  refine IsBest.of h ?_ ?_
  · rintro r (h | ⟨c, hc, hs, rfl⟩)
    · exact h.elim
    · rcases hspec c with ⟨h1, _⟩ | ⟨n, h1, _⟩
      · exact absurd h1 hs
      · obtain ⟨t, ht⟩ := h1.1.last
        obtain ⟨u, hu⟩ := h1.1.head
        have hl := h1.1.len
        have hw := h1.1
        rw [ht] at hl hu hw ⊢
        rw [List.dropLast_concat]
        have htl : t.length = n + 1 := by simpa using hl
        cases t with
        | nil => simp at htl
        | cons x t =>
          simp only [List.cons_append, List.cons.injEq] at hu
          obtain ⟨rfl, _⟩ := hu
          exact ⟨x, t, rfl, by rw [htl]; exact hw⟩
  · rintro r ⟨c, t, rfl, hw⟩
    have hreach : Hw.reach (ups l) (t.length + 1) c c := by have := hw.reach; rwa [List.length_cons] at this
    obtain ⟨p, hp, _⟩ := hreach
    rcases hspec c with ⟨_, h1⟩ | ⟨n, h1, h2⟩
    · exact absurd (by have := hw.reach; rwa [List.length_cons] at this) (h1 t.length)
    · have hne : furtherOf (ups l) l.length c c ≠ [] := fun e => by have := h1.1.len; rw [e] at this; simp at this
      refine ⟨_, .inr ⟨c, hup c p hp, hne, rfl⟩, ?_⟩
      obtain ⟨s, hs⟩ := h1.1.last
      have hlen := h1.1.len
      rw [hs] at hlen
      have hlen' : s.length = n + 1 := by simpa using hlen
      have hle : n ≤ t.length := Nat.le_of_not_lt (fun hlt => h2 t.length hlt (by have := hw.reach; rwa [List.length_cons] at this))
      rw [hs, List.dropLast_concat]
      simp only [lessR, Bool.or_eq_false_iff, decide_eq_false_iff_not, Bool.and_eq_false_imp, decide_eq_true_iff, List.length_cons]
      refine ⟨by omega, fun he => ?_⟩
      have he' : t.length = n := by omega
      rw [← lexB_snoc (c :: t) s c (by rw [List.length_cons]; omega), ← hs]
      refine h1.2 _ ?_
      rw [← he']
      rwa [List.length_cons] at hw
theorem ringR_eq (l : List S61) : (names l).foldl (ringStepR (ups l) l.length) [] = ringOf l := IsBest.uniq (ringR_best l) (ringOf_best l)
def smallUps (l : List S61) : Prop := l.length ≤ 1000 ∧ ∀ x ∈ l, x.f3.length ≤ 1000
theorem smallUps.ring {l : List S61} (h : smallUps l) : cosignerref03_Ring.f l = some (ringOf l) := by
  unfold cosignerref03_Ring.f
  rw [if_pos ⟨h.1, List.all_eq_true.2 (fun x hx => decide_eq_true (h.2 x hx))⟩]
  exact congrArg some (ringR_eq l)
theorem check_l2 {l : List S61} (hl : l.length < 1000000) {i : Nat} (hi : i < l.length) (hb : l[i].f3.length < 1000000) {R : Int × ByteArray} (H : Ev (fun k => cosignerref03_Check.l1 k l ((i + 1 : Nat) : Int)) R) : ∀ (d m : Nat), m + d = l[i].f3.length →
    Ev (fun k => cosignerref03_Check.l2 k l (i : Int) (m : Int)) (if (l[i].f3.drop m).any (fun p => (idx l p.f0).isNone) then (5, l[i].f0) else R) := by
  intro d
  induction d with
  | zero =>
    intro m hd
    refine Ev.step (fun k => by rw [cosignerref03_Check.l2, if_pos (by omega), if_pos (by omega), rd_class hi, if_neg (by omega), wrap_nat i (by omega)]) ?_
    rw [List.drop_eq_nil_of_le (by omega)]
    exact H
  | succ d ih =>
    intro m hd
    have hm : m < l[i].f3.length := by omega
    refine Ev.step (fun k => by rw [cosignerref03_Check.l2, if_pos (by omega), if_pos (by omega), rd_class hi, if_pos (by omega), if_pos (by omega), rd_parent hm, wrap_nat m (by omega)]) ?_
    rw [List.drop_eq_getElem_cons hm, List.any_cons]
    refine Ev.bind (index_ev l _ (by omega)) ?_
    cases hx : idx l l[i].f3[m].f0 with
    | none => exact Ev.pos (idxI_neg.2 hx) (Ev.now _)
    | some j => exact Ev.neg (fun e => by rw [idxI_neg.1 e] at hx; cases hx) (ih (m + 1) (by omega))
theorem check_l1 {l : List S61} (h : smallUps l) : ∀ (d i : Nat), i + d = l.length → (∀ j, j < i → lonelyOf l j = false) →
    Ev (fun k => cosignerref03_Check.l1 k l (i : Int)) (match (List.range l.length).find? (lonelyOf l) with | some i => (5, (rd_T61 l (i : Int)).f0) | none => match ringOf l with | r :: _ => (7, r) | [] => (0, ⟨#[]⟩)) := by
  intro d
  induction d with
  | zero =>
    intro i hd hall
    refine Ev.step (fun k => by rw [cosignerref03_Check.l1, if_neg (by omega)]) ?_
    have hf : (List.range l.length).find? (lonelyOf l) = none := by
      rw [List.find?_eq_none]
      intro j hj
      have := hall j (by have h2 := List.mem_range.1 hj; omega)
      simp [this]
    rw [hf]
    refine Ev.know h.ring ?_
    cases hr : ringOf l with
    | nil => exact Ev.neg (by simp) (Ev.now _)
    | cons r t =>
      refine Ev.pos (by simp only [List.length_cons]; omega) (Ev.pos (by simp only [List.length_cons]; omega) ?_)
      have : rdOf ByteArray.empty (r :: t) 0 = r := rfl
      rw [this]
      exact Ev.now _
  | succ d ih =>
    intro i hd hall
    have hi : i < l.length := by omega
    have hl := h.1
    have hb := h.2 l[i] (List.getElem_mem hi)
    refine Ev.step (fun k => by rw [cosignerref03_Check.l1, if_pos (by omega)]) ?_
    have hlon : lonelyOf l i = l[i].f3.any (fun p => (idx l p.f0).isNone) := by unfold lonelyOf; rw [rd_class hi]
    cases hx : lonelyOf l i with
    | true =>
      have hf : (List.range l.length).find? (lonelyOf l) = some i := by
        rw [List.find?_range_eq_some]
        exact ⟨hx, by simpa using hi, fun j hj => by simp [hall j hj]⟩
      rw [hf]
      simp only [rd_class hi]
      have hx2 := hlon.symm.trans hx
      have key : ∀ (d m : Nat), m + d = l[i].f3.length → (l[i].f3.drop m).any (fun p => (idx l p.f0).isNone) = true → Ev (fun k => cosignerref03_Check.l2 k l (i : Int) (m : Int)) (5, l[i].f0) := by
        intro d
        induction d with
        | zero => intro m hd hany; rw [List.drop_eq_nil_of_le (by omega)] at hany; cases hany
        | succ d ih =>
          intro m hd hany
          have hm : m < l[i].f3.length := by omega
          refine Ev.step (fun k => by rw [cosignerref03_Check.l2, if_pos (by omega), if_pos (by omega), rd_class hi, if_pos (by omega), if_pos (by omega), rd_parent hm, wrap_nat m (by omega)]) ?_
          rw [List.drop_eq_getElem_cons hm, List.any_cons] at hany
          refine Ev.bind (index_ev l _ (by omega)) ?_
          cases hx : idx l l[i].f3[m].f0 with
          | none => exact Ev.pos (idxI_neg.2 hx) (Ev.now _)
          | some j =>
            rw [hx] at hany
            exact Ev.neg (fun e => by rw [idxI_neg.1 e] at hx; cases hx) (ih (m + 1) (by omega) (by simpa using hany))
      exact key l[i].f3.length 0 (by omega) (by rw [List.drop_zero]; exact hx2)
    | false =>
      have := check_l2 (by omega) hi (by omega) (ih (i + 1) (by omega) (fun j hj => by
        rcases Nat.lt_or_ge j i with h2 | h2
        · exact hall j h2
        · obtain rfl : j = i := by omega
          exact hx)) l[i].f3.length 0 (by omega)
      rw [List.drop_zero, ← hlon, hx] at this
      exact this
theorem check_l0 {l : List S61} (h : smallUps l) (h24 : l.length ≤ 24) : ∀ (d i : Nat), i + d = l.length → (∀ j, j < i → aloneOf l j = 0) →
    Ev (fun k => cosignerref03_Check.l0 k l (i : Int)) (checkOf l) := by
  intro d
  induction d with
  | zero =>
    intro i hd hall
    refine Ev.step (fun k => by rw [cosignerref03_Check.l0, if_neg (by omega)]) ?_
    unfold checkOf
    have hf : (List.range l.length).find? (fun i => decide (aloneOf l i ≠ 0)) = none := by
      rw [List.find?_eq_none]
      intro j hj
      have := hall j (by have h2 := List.mem_range.1 hj; omega)
      simp [this]
    rw [if_neg (by omega), hf]
    exact check_l1 h l.length 0 (by omega) (fun j hj => absurd hj (Nat.not_lt_zero j))
  | succ d ih =>
    intro i hd hall
    have hi : i < l.length := by omega
    refine Ev.step (fun k => by rw [cosignerref03_Check.l0, if_pos (by omega), wrap_nat i (by omega)]) ?_
    refine Ev.bind (alone_ev (by omega) hi) ?_
    by_cases h0 : aloneOf l i = 0
    · refine Ev.pos h0 (ih (i + 1) (by omega) (fun j hj => ?_))
      rcases Nat.lt_or_ge j i with h2 | h2
      · exact hall j h2
      · obtain rfl : j = i := by omega
        exact h0
    · refine Ev.neg h0 (Ev.pos (by omega) ?_)
      rw [checkOf_alone h24 hi hall h0]
      exact Ev.now _
theorem check_ev {l : List S61} (h : smallUps l) : Ev (fun k => cosignerref03_Check.f k l) (checkOf l) := by
  by_cases h24 : 24 < l.length
  · refine Ev.congr (f := fun _ => some (3, (⟨#[]⟩ : ByteArray))) (fun k => by unfold cosignerref03_Check.f; rw [if_pos (by omega)]) ?_
    unfold checkOf
    rw [if_pos h24]
    exact Ev.now _
  · exact Ev.congr (fun k => by unfold cosignerref03_Check.f; rw [if_neg (by omega)]; rfl) (check_l0 h (by omega) l.length 0 (by omega) (fun j hj => absurd hj (Nat.not_lt_zero j)))
end Go.Proofs.Ytdljclokenoogaa.Hw
end
section
namespace Go.Proofs.Ytdljclokenoogaa.Hw
open Go.RowKit Go.Proofs.Ytdljclokenoogaa.Hp Go.Proofs.YtdljclokenoogaaW.PrintWords Go.Proofs.YtdljclokenoogaaW.PrintLast Go.Proofs.YtdljclokenoogaaW.PrintMore
structure Few (l : List S61) : Prop where
  len : l.length ≤ 40
  ups : ∀ x ∈ l, x.f3.length ≤ 8
theorem Few.small {l : List S61} (h : Few l) : smallUps l := ⟨by have := h.len; omega, fun x hx => by have := h.ups x hx; omega⟩
theorem few_ev (l : List S61) (hl : l.length < 4611686018427387904) : ∃ b, Ev (fun k => cosignerlaw03_few.f k l) b ∧ (b = true → Few l) := by
  have key : ∀ (d i : Nat), i + d = l.length → (∀ j (h : j < l.length), j < i → l[j].f3.length ≤ 8) → ∃ b, Ev (fun k => cosignerlaw03_few.l0 k l (i : Int)) b ∧ (b = true → Few l) := by
    intro d
    induction d with
    | zero =>
      intro i hd hall
      have hU : ∀ x ∈ l, x.f3.length ≤ 8 := fun x hx => by obtain ⟨j, hj, rfl⟩ := List.mem_iff_getElem.1 hx; exact hall j hj (by omega)
      by_cases h1 : l.length ≤ 10
      · exact ⟨true, Ev.step (fun k => by rw [cosignerlaw03_few.l0, if_neg (by omega), if_pos (by omega)]) (Ev.now _), fun _ => ⟨by omega, hU⟩⟩
      · by_cases h2 : l.length > 24
        · refine ⟨decide ((l.length : Int) ≤ 40), Ev.step (fun k => by rw [cosignerlaw03_few.l0, if_neg (by omega), if_neg (by omega), if_pos (by omega)]) (Ev.now _), fun h => ⟨by have := of_decide_eq_true h; omega, hU⟩⟩
        · exact ⟨false, Ev.step (fun k => by rw [cosignerlaw03_few.l0, if_neg (by omega), if_neg (by omega), if_neg (by omega)]) (Ev.now _), fun h => by cases h⟩
    | succ d ih =>
      intro i hd hall
      have hi : i < l.length := by omega
      by_cases h8 : l[i].f3.length > 8
      · exact ⟨false, Ev.step (fun k => by rw [cosignerlaw03_few.l0, if_pos (by omega), if_pos (by omega), rd_class hi, if_pos (by omega)]) (Ev.now _), fun h => by cases h⟩
      · obtain ⟨b, h1, h2⟩ := ih (i + 1) (by omega) (fun j hj hji => by
          rcases Nat.lt_or_ge j i with h2 | h2
          · exact hall j hj h2
          · obtain rfl : j = i := by omega
            omega)
        exact ⟨b, Ev.step (fun k => by rw [cosignerlaw03_few.l0, if_pos (by omega), if_pos (by omega), rd_class hi, if_neg (by omega), wrap_nat i (by omega)]) h1, h2⟩
  obtain ⟨b, h1, h2⟩ := key l.length 0 (by omega) (fun j _ h => absurd h (Nat.not_lt_zero j))
  exact ⟨b, h1, h2⟩
theorem sameNames_ev (xs : List ByteArray) (hl : xs.length < 4611686018427387904) : Ev (fun k => cosignerref03_SameNames.f k xs xs) true := by
  have key : ∀ (d i : Nat), i + d = xs.length → Ev (fun k => cosignerref03_SameNames.l0 k xs xs (i : Int)) true := by
    intro d
    induction d with
    | zero => intro i hd; exact Ev.step (fun k => by rw [cosignerref03_SameNames.l0, if_neg (by omega)]) (Ev.now _)
    | succ d ih =>
      intro i hd
      exact Ev.step (fun k => by rw [cosignerref03_SameNames.l0, if_pos (by omega), if_pos (by omega), if_pos (by omega), if_pos rfl, wrap_nat i (by omega)]) (ih (i + 1) (by omega))
  exact Ev.congr (fun k => by unfold cosignerref03_SameNames.f; rw [if_pos rfl]; rfl) (key xs.length 0 (by omega))
theorem sameLinks_ev (xs : List S73) (hl : xs.length < 4611686018427387904) : Ev (fun k => cosignerref03_SameLinks.f k xs xs) true := by
  have key : ∀ (d i : Nat), i + d = xs.length → Ev (fun k => cosignerref03_SameLinks.l0 k xs xs (i : Int)) true := by
    intro d
    induction d with
    | zero => intro i hd; exact Ev.step (fun k => by rw [cosignerref03_SameLinks.l0, if_neg (by omega)]) (Ev.now _)
    | succ d ih =>
      intro i hd
      exact Ev.step (fun k => by rw [cosignerref03_SameLinks.l0, if_pos (by omega), if_pos (by omega), if_pos (by omega), if_neg (by simp), wrap_nat i (by omega)]) (ih (i + 1) (by omega))
  exact Ev.congr (fun k => by unfold cosignerref03_SameLinks.f; rw [if_pos rfl]; rfl) (key xs.length 0 (by omega))
end Go.Proofs.Ytdljclokenoogaa.Hw
end
section
namespace Go.Proofs.Ytdljclokenoogaa.Hw
open Go.RowKit Go.Proofs.Ytdljclokenoogaa.Hp Go.Proofs.YtdljclokenoogaaW.PrintWords Go.Proofs.YtdljclokenoogaaW.PrintLast Go.Proofs.YtdljclokenoogaaW.PrintMore
theorem parents_ev {l : List S61} (h : smallUps l) (c : ByteArray) : Ev (fun k => cosignerref03_parents.f k l c) (parN l c) := Ev.val (K := 1002) (fun k hk => parents_val l c (by have := h.1; omega) (B := 1000) (by omega) h.2 k (by have := h.1; omega) (by omega))
end Go.Proofs.Ytdljclokenoogaa.Hw
end
section
namespace Go.Proofs.Ytdljclokenoogaa.Hw
open Go.RowKit Go.Proofs.Ytdljclokenoogaa.Hp Go.Proofs.YtdljclokenoogaaW.PrintWords Go.Proofs.YtdljclokenoogaaW.PrintLast Go.Proofs.YtdljclokenoogaaW.PrintMore
theorem ups_right {l : List S61} (h : (checkOf l).1 = 0) (c : ByteArray) : ups l c = parN l c := by
  rw [ups_parN, List.filter_eq_self]
  intro p hp
  unfold parN at hp
  cases hi : idx l c with
  | none => rw [hi] at hp; cases hp
  | some i =>
    rw [hi] at hp
    obtain ⟨x, hx, rfl⟩ := List.mem_map.1 hp
    have h1 := (checkOk h).2.2.1 i (idx_lt hi)
    unfold lonelyOf at h1
    have h2 := List.any_eq_false.1 h1 x hx
    cases hj : idx l x.f0 with
    | none => rw [hj] at h2; simp at h2
    | some _ => rfl
end Go.Proofs.Ytdljclokenoogaa.Hw
end
section
namespace Go.Proofs.Ytdljclokenoogaa.Hw
open Go.RowKit Go.Proofs.Ytdljclokenoogaa.Hp Go.Proofs.YtdljclokenoogaaW.PrintWords Go.Proofs.YtdljclokenoogaaW.PrintLast Go.Proofs.YtdljclokenoogaaW.PrintMore
theorem asked_nil (l : List S61) : askedOf l [] = (checkOf l).1 := by
  unfold askedOf
  by_cases h : (checkOf l).1 = 0
  · rw [if_neg (by simpa using h), if_pos (by simp), h]
  · rw [if_pos h]
theorem reach_mem {up : ByteArray → List ByteArray} {nm : List ByteArray} (hup : ∀ c p, p ∈ up c → p ∈ nm) : ∀ (n : Nat) (c a : ByteArray), c ∈ nm → Hw.reach up n c a → a ∈ nm
  | 0, c, a, hc, h => by have e : c = a := h; exact e ▸ hc
  | n + 1, c, a, _, ⟨p, hp, h⟩ => reach_mem hup n p a (hup c p hp) h
theorem addS_nodup {out : List ByteArray} {a : ByteArray} (h : out.Nodup) : (addS out a).Nodup := by
  unfold addS
  split
  · exact h
  · rename_i hm
    rw [List.nodup_append]
    exact ⟨h, by simp, fun x hx y hy => by simp at hy; subst hy; exact fun e => hm (memS_iff.2 (e ▸ hx))⟩
def Sub (l : List S61) (out : List ByteArray) : Prop := out.Nodup ∧ ∀ x ∈ out, x ∈ names l
theorem Sub.len {l : List S61} {out : List ByteArray} (h : Sub l out) : out.length ≤ l.length := by
  have := length_le_of_subset out (names l) h.1 h.2
  rwa [names_len] at this
theorem Sub.nil (l : List S61) : Sub l [] := ⟨List.nodup_nil, by simp⟩
theorem Sub.addS {l : List S61} {out : List ByteArray} {a : ByteArray} (h : Sub l out) (ha : a ∈ names l) : Sub l (addS out a) :=
  ⟨addS_nodup h.1, fun x hx => by rcases (addS_mem out a x).1 hx with hx | rfl; exact h.2 x hx; exact ha⟩
theorem Sub.fold {l : List S61} : ∀ (L : List ByteArray) {out : List ByteArray}, Sub l out → (∀ x ∈ L, x ∈ names l) → Sub l (L.foldl Hw.addS out)
  | [], _, h, _ => h
  | a :: L, _, h, hL => Sub.fold L (h.addS (hL a (by simp))) (fun x hx => hL x (by simp [hx]))
section
variable {l : List S61} (h : smallUps l)
include h
theorem above_l1 {c p : ByteArray} {ps a : List ByteArray} {i : Nat} (hi : i < 1000000) (ha : ∀ x ∈ a, x ∈ names l) (hal : a.length ≤ 1000) {R : List ByteArray} : ∀ (d j : Nat) (out : List ByteArray), j + d = a.length → Sub l out →
    Ev (fun k => cosignerref03_above.l0 k l c ((a.drop j).foldl addS out) ps ((i + 1 : Nat) : Int)) R → Ev (fun k => cosignerref03_above.l1 k l c out ps (i : Int) a (j : Int)) R := by
  intro d
  induction d with
  | zero =>
    intro j out hd hs H
    refine Ev.step (fun k => by rw [cosignerref03_above.l1, if_neg (by omega), wrap_nat i (by omega)]) ?_
    rw [List.drop_eq_nil_of_le (by omega)] at H
    exact H
  | succ d ih =>
    intro j out hd hs H
    have hj : j < a.length := by omega
    have hl := hs.len
    have hl2 := h.1
    rw [List.drop_eq_getElem_cons hj, List.foldl_cons] at H
    refine Ev.step (fun k => by rw [cosignerref03_above.l1, if_pos (by omega), if_pos (by omega), rdOf_nat hj, wrap_nat j (by omega)]) ?_
    refine Ev.bind (has_ev out a[j] (by omega)) ?_
    have hs2 := hs.addS (ha a[j] (List.getElem_mem hj))
    have h1 := ih (j + 1) (addS out a[j]) (by omega) hs2 H
    cases hm : memS out a[j] with
    | true =>
      rw [addS, if_pos hm] at h1
      exact Ev.pos rfl h1
    | false =>
      rw [addS, if_neg (by rw [hm]; decide)] at h1
      exact Ev.neg (by decide) (Ev.pos (by omega) h1)
variable (hc0 : (checkOf l).1 = 0) {rk : ByteArray → Nat} (hrk : ∀ c p, p ∈ ups l c → rk p < rk c)
include hc0 hrk
omit h hc0 in
theorem abv_sub {n : Nat} {c : ByteArray} (hc : c ∈ names l) : ∀ x ∈ abv (ups l) n c, x ∈ names l := fun x hx => by
  obtain ⟨m, hm⟩ := mem_abv n c x hx
  exact reach_mem (fun c p hp => (ups_mem hp).2) m c x hc hm
theorem above_l0 {m : Nat} (hih : ∀ p ∈ names l, rk p < m → Ev (fun k => cosignerref03_above.f k l p) (abv (ups l) m p)) (hal : ∀ p ∈ names l, rk p < m → (abv (ups l) m p).length ≤ 1000) {c : ByteArray} {ps : List ByteArray} (hps : ∀ p ∈ ps, p ∈ names l ∧ rk p < m) (hpl : ps.length ≤ 1000) : ∀ (d i : Nat) (out : List ByteArray), i + d = ps.length → Sub l out →
    Ev (fun k => cosignerref03_above.l0 k l c out ps (i : Int)) ((ps.drop i).foldl (fun out p => (abv (ups l) m p).foldl addS out) out ++ [c]) := by
  intro d
  induction d with
  | zero =>
    intro i out hd hs
    have hl := hs.len
    have hl2 := h.1
    refine Ev.step (fun k => by rw [cosignerref03_above.l0, if_neg (by omega), if_pos (by omega)]) ?_
    rw [List.drop_eq_nil_of_le (by omega)]
    exact Ev.now _
  | succ d ih =>
    intro i out hd hs
    have hi : i < ps.length := by omega
    obtain ⟨hp1, hp2⟩ := hps ps[i] (List.getElem_mem hi)
    rw [List.drop_eq_getElem_cons hi, List.foldl_cons]
    refine Ev.step (fun k => by rw [cosignerref03_above.l0, if_pos (by omega), if_pos (by omega), rdOf_nat hi]) ?_
    refine Ev.bind (hih _ hp1 hp2) ?_
    refine above_l1 h (p := c) (by omega) (abv_sub hrk hp1) (hal _ hp1 hp2) (abv (ups l) m ps[i]).length 0 out (by omega) hs ?_
    rw [List.drop_zero]
    exact ih (i + 1) _ (by omega) (Sub.fold _ hs (abv_sub hrk hp1))
theorem abv_len {n : Nat} {c : ByteArray} (hc : c ∈ names l) (hn : rk c < n) : (abv (ups l) n c).length ≤ 1000 := by
  rw [abv_vis hrk n c hn]
  have h1 := vis_ok hrk n c [] hn Ordered.nil List.nodup_nil
  have h2 : Sub l (vis (ups l) n c []) := ⟨h1.2.1, fun x hx => by rw [← abv_vis hrk n c hn] at hx; exact abv_sub hrk hc x hx⟩
  have := h2.len
  have := h.1
  omega
theorem above_n : ∀ (n : Nat) (c : ByteArray), c ∈ names l → rk c < n → Ev (fun k => cosignerref03_above.f k l c) (abv (ups l) n c)
  | 0, c, _, hn => by omega
  | n + 1, c, hc, hn => by
    have hpl := parN_len (c := c) h.2
    have hup := ups_right hc0 c
    refine Ev.step (fun k => by rw [cosignerref03_above.f]) (Ev.bind (parents_ev h c) ?_)
    rw [← hup] at hpl ⊢
    have := above_l0 h hc0 hrk (m := n) (fun p hp hr => above_n n p hp hr) (fun p hp hr => abv_len h hc0 hrk hp hr) (c := c) (ps := ups l c) (fun p hp => ⟨(ups_mem hp).2, by have := hrk c p hp; omega⟩) hpl (ups l c).length 0 [] (by omega) (Sub.nil l)
    rw [List.drop_zero] at this
    exact this
omit hrk
theorem above_ev {c : ByteArray} (hc : c ∈ names l) : Ev (fun k => cosignerref03_above.f k l c) (anc l c) := by
  obtain ⟨rk, hrk, hrn⟩ := rank_of_ring (checkOk hc0).2.2.2
  have := above_n h hc0 hrk (l.length + 1) c hc (hrn c)
  rw [abv_vis hrk _ _ (hrn c)] at this
  exact this
theorem anc_small {c : ByteArray} (hc : c ∈ names l) : (anc l c).length ≤ 1000 := by
  obtain ⟨h1, h2⟩ := anc_names hc0 hc
  have h3 : Sub l (anc l c) := ⟨h2, h1⟩
  have := h3.len
  have := h.1
  omega
theorem under_l1 {ns out a : List ByteArray} {i : Nat} (hi : i < l.length) (hn : ns.length < 1000000) (ha : a.length ≤ 1000) (ho : out.length ≤ 1000) {R : List ByteArray} : ∀ (d j : Nat) (b : Bool), j + d = a.length →
    Ev (fun k => cosignerref03_under.l0 k l ns (if b || (a.drop j).any (memS ns) then out ++ [l[i].f0] else out) ((i + 1 : Nat) : Int)) R → Ev (fun k => cosignerref03_under.l1 k l ns out (i : Int) a b (j : Int)) R := by
  have hl2 := h.1
  intro d
  induction d with
  | zero =>
    intro j b hd H
    rw [List.drop_eq_nil_of_le (by omega), List.any_nil, Bool.or_false] at H
    refine Ev.step (fun k => by rw [cosignerref03_under.l1, if_neg (by omega), wrap_nat i (by omega)]) ?_
    cases b with
    | true => exact Ev.pos rfl (Ev.pos (by omega) (Ev.pos (by omega) (Ev.pos (by omega) (by rw [rd_class hi]; exact H))))
    | false => exact Ev.neg (by decide) H
  | succ d ih =>
    intro j b hd H
    have hj : j < a.length := by omega
    rw [List.drop_eq_getElem_cons hj, List.any_cons] at H
    refine Ev.step (fun k => by rw [cosignerref03_under.l1, if_pos (by omega), if_pos (by omega), rdOf_nat hj, wrap_nat j (by omega)]) ?_
    refine Ev.bind (has_ev ns a[j] (by omega)) ?_
    cases b with
    | true => exact Ev.pos rfl (ih (j + 1) true (by omega) (by simpa using H))
    | false =>
      refine Ev.neg (by decide) (ih (j + 1) _ (by omega) ?_)
      rw [Bool.false_or] at H
      exact H
theorem under_l0 (ns : List ByteArray) (hn : ns.length < 1000000) : ∀ (d i : Nat) (out : List ByteArray), i + d = l.length → out.length ≤ i →
    Ev (fun k => cosignerref03_under.l0 k l ns out (i : Int)) (out ++ ((names l).drop i).filter (fun c => (anc l c).any (memS ns))) := by
  have hl2 := h.1
  intro d
  induction d with
  | zero =>
    intro i out hd ho
    refine Ev.step (fun k => by rw [cosignerref03_under.l0, if_neg (by omega)]) ?_
    rw [List.drop_eq_nil_of_le (by rw [names_len]; omega), List.filter_nil, List.append_nil]
    exact Ev.now _
  | succ d ih =>
    intro i out hd ho
    have hi : i < l.length := by omega
    have hin : i < (names l).length := by rw [names_len]; exact hi
    have en : (names l)[i] = l[i].f0 := by simp [names]
    have hm : l[i].f0 ∈ names l := List.mem_map.2 ⟨l[i], List.getElem_mem hi, rfl⟩
    rw [List.drop_eq_getElem_cons hin, List.filter_cons, en]
    refine Ev.step (fun k => by rw [cosignerref03_under.l0, if_pos (by omega), if_pos (by omega), rd_class hi]) ?_
    refine Ev.bind (above_ev h hc0 hm) ?_
    refine under_l1 h hc0 hi hn (anc_small h hc0 hm) (by omega) (anc l l[i].f0).length 0 false (by omega) ?_
    rw [List.drop_zero, Bool.false_or]
    cases (anc l l[i].f0).any (memS ns) with
    | true =>
      rw [if_pos rfl]
      have := ih (i + 1) (out ++ [l[i].f0]) (by omega) (by simp; omega)
      simpa using this
    | false =>
      rw [if_neg (by decide)]
      have := ih (i + 1) out (by omega) (by omega)
      simpa using this
theorem under_ev (ns : List ByteArray) (hn : ns.length < 1000000) : Ev (fun k => cosignerref03_under.f k l ns) ((names l).filter (fun c => (anc l c).any (memS ns))) := by
  have := under_l0 h hc0 ns hn l.length 0 [] (by omega) (by simp)
  refine Ev.congr (f := fun k => cosignerref03_under.l0 k l ns [] 0) (fun k => rfl) ?_
  simpa using this
end
theorem touched_ev {l : List S61} (h : smallUps l) (ns : List ByteArray) (hn : ns.length < 1000000) : Ev (fun k => cosignerref03_Touched.f k l ns) (touchedOf l ns) := by
  unfold touchedOf
  by_cases h48 : 48 < ns.length
  · rw [if_pos h48]
    exact Ev.congr (f := fun _ => some ([], 3)) (fun k => by unfold cosignerref03_Touched.f; rw [if_pos (by omega)]) (Ev.now _)
  · rw [if_neg h48, asked_nil]
    refine Ev.congr (f := fun k => (cosignerref03_Check.f k l).bind fun b => if b.1 = 0 then (cosignerref03_under.f k l ns).bind fun t => some (t, 0) else some ([], b.1)) (fun k => by unfold cosignerref03_Touched.f; rw [if_neg (by omega)]) (Ev.bind (check_ev h) ?_)
    by_cases h0 : (checkOf l).1 = 0
    · rw [if_pos h0]
      exact Ev.pos h0 (Ev.bind (under_ev h h0 ns hn) (Ev.now _))
    · rw [if_neg h0]
      exact Ev.neg h0 (Ev.now _)
end Go.Proofs.Ytdljclokenoogaa.Hw
end
section
namespace Go.Proofs.Ytdljclokenoogaa.Hw
open Go.RowKit Go.Proofs.Ytdljclokenoogaa.Hp Go.Proofs.YtdljclokenoogaaW.PrintWords Go.Proofs.YtdljclokenoogaaW.PrintLast Go.Proofs.YtdljclokenoogaaW.PrintMore
theorem parN_at {l : List S61} (hc0 : (checkOf l).1 = 0) {i : Nat} (hi : i < l.length) : parN l l[i].f0 = l[i].f3.map (·.f0) := by
  have hp : 0 < l.length := by omega
  have h : Good l := ⟨hc0, hp⟩
  have := h.ups_at hi
  rw [rd_class hi] at this
  rw [← ups_right hc0]
  exact this
theorem parN_nodup {l : List S61} (hc0 : (checkOf l).1 = 0) {i : Nat} (hi : i < l.length) : (parN l l[i].f0).Nodup := by
  rw [parN_at hc0 hi]
  have h1 := (checkOk hc0).2.1 i hi
  unfold aloneOf at h1
  rw [rd_class hi] at h1
  split at h1
  · cases h1
  · split at h1
    · cases h1
    · split at h1
      · cases h1
      · rename_i h2
        refine (dupB_iff _).1 ?_
        cases hd : dupB (l[i].f3.map (·.f0)) with
        | false => rfl
        | true => exact absurd (.inr hd) h2
section
variable {l : List S61} (h : smallUps l) (hc0 : (checkOf l).1 = 0)
include h hc0
theorem needless_l2 {i : Nat} (hi : i < l.length) {ps : List ByteArray} (hpn : ∀ p ∈ ps, p ∈ names l) (hpl : ps.length ≤ 1000) {m : Nat} (hm : m < ps.length) {out : List S73} (ho : out.length < 3000000) {R : List S73 × Int} : ∀ (d j : Nat) (b : Bool), j + d = ps.length →
    Ev (fun k => cosignerref03_Needless.l1 k l (if b || (List.range d).any (fun t => !decide (j + t = m) && memS (anc l (nth ps (j + t))) (nth ps m)) then out ++ [⟨l[i].f0, nth ps m⟩] else out) (i : Int) ps ((m + 1 : Nat) : Int)) R →
    Ev (fun k => cosignerref03_Needless.l2 k l out (i : Int) ps (m : Int) b (j : Int)) R := by
  have hl2 := h.1
  have em : rdOf ByteArray.empty ps (m : Int) = nth ps m := by rw [rdOf_nat hm]; simp [nth, hm]
  intro d
  induction d with
  | zero =>
    intro j b hd H
    rw [show (List.range 0).any _ = false from rfl, Bool.or_false] at H
    refine Ev.step (fun k => by rw [cosignerref03_Needless.l2, if_neg (by omega), wrap_nat m (by omega)]) ?_
    cases b with
    | true => exact Ev.pos rfl (Ev.pos (by omega) (Ev.pos (by omega) (Ev.pos (by omega) (Ev.pos (by omega) (Ev.pos (by omega) (by rw [rd_class hi, em]; exact H))))))
    | false => exact Ev.neg (by decide) H
  | succ d ih =>
    intro j b hd H
    have hj : j < ps.length := by omega
    have ej : rdOf ByteArray.empty ps (j : Int) = nth ps j := by rw [rdOf_nat hj]; simp [nth, hj]
    have hjm : nth ps j ∈ names l := hpn _ (by simp [nth, hj])
    have hsplit : (List.range (d + 1)).any (fun t => !decide (j + t = m) && memS (anc l (nth ps (j + t))) (nth ps m)) = ((!decide (j = m) && memS (anc l (nth ps j)) (nth ps m)) || (List.range d).any (fun t => !decide (j + 1 + t = m) && memS (anc l (nth ps (j + 1 + t))) (nth ps m))) := by
      rw [List.range_succ_eq_map, List.any_cons, List.any_map, Nat.add_zero]
      congr 1
      refine congrArg (fun f => (List.range d).any f) (funext fun t => ?_)
      simp only [Function.comp, Nat.succ_eq_add_one]
      rw [show j + (t + 1) = j + 1 + t by omega]
    rw [hsplit, ← Bool.or_assoc] at H
    have hal := anc_small h hc0 hjm
    refine Ev.step (fun k => by rw [cosignerref03_Needless.l2, if_pos (by omega), if_pos (by omega), ej, wrap_nat j (by omega)]) ?_
    refine Ev.bind (above_ev h hc0 hjm) (Ev.pos (by omega) (Ev.pos (by omega) ?_))
    rw [em]
    refine Ev.bind (has_ev _ _ (by omega)) ?_
    by_cases hjk : j = m
    · refine Ev.pos (by omega) (ih (j + 1) b (by omega) ?_)
      rw [decide_eq_true hjk, Bool.not_true, Bool.false_and, Bool.or_false] at H
      exact H
    · refine Ev.neg (by omega) ?_
      rw [decide_eq_false hjk, Bool.not_false, Bool.true_and] at H
      cases hmm : memS (anc l (nth ps j)) (nth ps m) with
      | true =>
        rw [hmm, Bool.or_true] at H
        exact Ev.pos rfl (ih (j + 1) true (by omega) H)
      | false =>
        rw [hmm, Bool.or_false] at H
        exact Ev.neg (by decide) (ih (j + 1) b (by omega) H)
def spareI (l : List S61) (ps : List ByteArray) (m : Nat) : Bool := (List.range ps.length).any (fun t => !decide (t = m) && memS (anc l (nth ps t)) (nth ps m))
theorem needless_l1 {i : Nat} (hi : i < l.length) {ps : List ByteArray} (hpn : ∀ p ∈ ps, p ∈ names l) (hpl : ps.length ≤ 1000) {R : List S73 × Int} : ∀ (d m : Nat) (out : List S73), m + d = ps.length → out.length + d < 3000000 →
    Ev (fun k => cosignerref03_Needless.l0 k l (out ++ ((List.range d).filter (fun t => spareI l ps (m + t))).map (fun t => (⟨l[i].f0, nth ps (m + t)⟩ : S73))) ((i + 1 : Nat) : Int)) R →
    Ev (fun k => cosignerref03_Needless.l1 k l out (i : Int) ps (m : Int)) R := by
  have hl2 := h.1
  intro d
  induction d with
  | zero =>
    intro m out hd ho H
    refine Ev.step (fun k => by rw [cosignerref03_Needless.l1, if_neg (by omega), wrap_nat i (by omega)]) ?_
    simpa using H
  | succ d ih =>
    intro m out hd ho H
    have hm : m < ps.length := by omega
    refine Ev.step (fun k => by rw [cosignerref03_Needless.l1, if_pos (by omega)]) ?_
    refine needless_l2 h hc0 hi hpn hpl hm (by omega) ps.length 0 false (by omega) ?_
    have es : (List.range ps.length).any (fun t => !decide (0 + t = m) && memS (anc l (nth ps (0 + t))) (nth ps m)) = spareI l ps m := by simp only [Nat.zero_add]; rfl
    rw [es, Bool.false_or]
    have hsplit : ((List.range (d + 1)).filter (fun t => spareI l ps (m + t))).map (fun t => (⟨l[i].f0, nth ps (m + t)⟩ : S73)) = (if spareI l ps m = true then [(⟨l[i].f0, nth ps m⟩ : S73)] else []) ++ ((List.range d).filter (fun t => spareI l ps (m + 1 + t))).map (fun t => (⟨l[i].f0, nth ps (m + 1 + t)⟩ : S73)) := by
      have hX : (((List.range d).filter ((fun t => spareI l ps (m + t)) ∘ Nat.succ)).map Nat.succ).map (fun t => (⟨l[i].f0, nth ps (m + t)⟩ : S73)) = ((List.range d).filter (fun t => spareI l ps (m + 1 + t))).map (fun t => (⟨l[i].f0, nth ps (m + 1 + t)⟩ : S73)) := by
        rw [List.map_map]
        have e1 : (fun t => spareI l ps (m + 1 + t)) = ((fun t => spareI l ps (m + t)) ∘ Nat.succ) := funext fun t => by simp only [Function.comp, Nat.succ_eq_add_one]; rw [show m + 1 + t = m + (t + 1) by omega]
        have e2 : (fun t => (⟨l[i].f0, nth ps (m + 1 + t)⟩ : S73)) = ((fun t => (⟨l[i].f0, nth ps (m + t)⟩ : S73)) ∘ Nat.succ) := funext fun t => by simp only [Function.comp, Nat.succ_eq_add_one]; rw [show m + 1 + t = m + (t + 1) by omega]
        rw [e1, e2]
      rw [List.range_succ_eq_map, List.filter_cons, Nat.add_zero, List.filter_map]
      cases spareI l ps m with
      | true => rw [if_pos rfl, if_pos rfl, List.map_cons, hX]; rfl
      | false => rw [if_neg (by decide), if_neg (by decide), hX]; rfl
    rw [hsplit, ← List.append_assoc] at H
    cases hs : spareI l ps m with
    | true => rw [hs, if_pos rfl] at H; rw [if_pos rfl]; exact ih (m + 1) _ (by omega) (by simp; omega) H
    | false => rw [hs, if_neg (by decide), List.append_nil] at H; rw [if_neg (by decide)]; exact ih (m + 1) out (by omega) (by omega) H
omit h in
theorem spareI_eq {c : ByteArray} {ps : List ByteArray} (hu : ups l c = ps) (hnd : ps.Nodup) {m : Nat} (hm : m < ps.length) : spareI l ps m = spareB (ups l) (l.length + 1) c (nth ps m) := by
  unfold spareI spareB
  rw [hu, Bool.eq_iff_iff, List.any_eq_true, List.any_eq_true]
  constructor
  · rintro ⟨t, ht, e⟩
    have htl : t < ps.length := List.mem_range.1 ht
    rw [Bool.and_eq_true, Bool.not_eq_true', decide_eq_false_iff_not] at e
    refine ⟨nth ps t, by simp [nth, htl], ?_⟩
    rw [Bool.and_eq_true, Bool.not_eq_true', decide_eq_false_iff_not]
    refine ⟨fun e2 => e.1 ?_, e.2⟩
    have e3 : ps[t] = ps[m] := by simpa [nth, htl, hm] using e2
    exact (List.getElem_inj hnd).1 e3
  · rintro ⟨q, hq, e⟩
    obtain ⟨t, ht, rfl⟩ := List.mem_iff_getElem.1 hq
    rw [Bool.and_eq_true, Bool.not_eq_true', decide_eq_false_iff_not] at e
    refine ⟨t, List.mem_range.2 ht, ?_⟩
    have et : nth ps t = ps[t] := by simp [nth, ht]
    rw [Bool.and_eq_true, Bool.not_eq_true', decide_eq_false_iff_not, et]
    exact ⟨fun e2 => e.1 (by subst e2; exact et.symm), e.2⟩
omit h in
theorem spare_rows {c : ByteArray} {ps : List ByteArray} (hu : ups l c = ps) (hnd : ps.Nodup) : ((List.range ps.length).filter (fun t => spareI l ps t)).map (fun t => (⟨c, nth ps t⟩ : S73)) = spareOf l c ps := by
  unfold spareOf
  have e : ps = (List.range ps.length).map (nth ps) := by
    refine List.ext_getElem (by simp) (fun i h1 h2 => ?_)
    simp [nth, h1]
  conv => rhs; rw [e]
  rw [List.filter_map, List.map_map]
  congr 1
  refine List.filter_congr (fun t ht => ?_)
  exact spareI_eq hc0 hu hnd (List.mem_range.1 ht)
theorem needless_l0 : ∀ (d i : Nat) (out : List S73), i + d = l.length → out.length ≤ 1000 * i →
    Ev (fun k => cosignerref03_Needless.l0 k l out (i : Int)) (out ++ ((names l).drop i).flatMap (fun c => spareOf l c (ups l c)), 0) := by
  have hl2 := h.1
  intro d
  induction d with
  | zero =>
    intro i out hd ho
    refine Ev.step (fun k => by rw [cosignerref03_Needless.l0, if_neg (by omega)]) ?_
    rw [List.drop_eq_nil_of_le (by rw [names_len]; omega), List.flatMap_nil, List.append_nil]
    exact Ev.now _
  | succ d ih =>
    intro i out hd ho
    have hi : i < l.length := by omega
    have hin : i < (names l).length := by rw [names_len]; exact hi
    have en : (names l)[i] = l[i].f0 := by simp [names]
    have hu := ups_right hc0 l[i].f0
    have hpl := parN_len (c := l[i].f0) h.2
    have hnd := parN_nodup hc0 hi
    have hpn : ∀ p ∈ parN l l[i].f0, p ∈ names l := fun p hp => (ups_mem (by rw [hu]; exact hp)).2
    rw [List.drop_eq_getElem_cons hin, List.flatMap_cons, en, hu]
    refine Ev.step (fun k => by rw [cosignerref03_Needless.l0, if_pos (by omega), if_pos (by omega), rd_class hi]) ?_
    refine Ev.bind (parents_ev h _) ?_
    refine needless_l1 h hc0 hi hpn hpl (parN l l[i].f0).length 0 out (by omega) (by omega) ?_
    simp only [Nat.zero_add]
    rw [spare_rows hc0 hu hnd, ← List.append_assoc]
    refine ih (i + 1) _ (by omega) ?_
    have : (spareOf l l[i].f0 (parN l l[i].f0)).length ≤ 1000 := by unfold spareOf; rw [List.length_map]; exact Nat.le_trans (List.length_filter_le _ _) hpl
    rw [List.length_append]; omega
end
theorem needless_ev {l : List S61} (h : smallUps l) : Ev (fun k => cosignerref03_Needless.f k l) (needlessOf l) := by
  unfold needlessOf
  rw [asked_nil]
  refine Ev.congr (f := fun k => (cosignerref03_Check.f k l).bind fun b => if b.1 = 0 then cosignerref03_Needless.l0 k l [] 0 else some ([], b.1)) (fun k => rfl) (Ev.bind (check_ev h) ?_)
  by_cases h0 : (checkOf l).1 = 0
  · rw [if_pos h0]
    refine Ev.pos h0 ?_
    have := needless_l0 h h0 l.length 0 [] (by omega) (by simp)
    simpa using this
  · rw [if_neg h0]
    exact Ev.neg h0 (Ev.now _)
theorem needlessOf_len {l : List S61} (h : smallUps l) : (needlessOf l).1.length ≤ 1000000 := by
  unfold needlessOf
  split
  · rw [List.length_flatMap]
    have := sum_le (b := 1000) ((names l).map (fun c => (spareOf l c (ups l c)).length)) (fun x hx => by
      obtain ⟨c, _, rfl⟩ := List.mem_map.1 hx
      unfold spareOf
      rw [List.length_map]
      refine Nat.le_trans (List.length_filter_le _ _) (Nat.le_trans ?_ (parN_len (c := c) h.2))
      rw [ups_parN]
      exact List.length_filter_le _ _)
    rw [List.length_map, names_len] at this
    have := h.1
    omega
  · simp
theorem touchedOf_len (l : List S61) (ns : List ByteArray) : (touchedOf l ns).1.length ≤ l.length := by
  unfold touchedOf
  split
  · simp
  · split
    · refine Nat.le_trans (List.length_filter_le _ _) ?_
      rw [names_len]; exact Nat.le_refl _
    · simp
theorem pure_links (l : List S61) (ns : List ByteArray) (hl : l.length < 4611686018427387904) : ∃ k, cosignerlaw03_HeirLinks.f k l ns = some true := by
  have hs : Ev (fun k => cosignerlaw03_HeirLinks.j0 k l ns true) true := Ev.step (fun k => by rw [cosignerlaw03_HeirLinks.j0, if_pos rfl]; rfl) (Ev.now _)
  obtain ⟨b, hb, hf⟩ := few_ev l hl
  refine Ev.rounds (g := fun k => cosignerlaw03_HeirLinks.f k l ns) (Ev.congr (fun k => by rw [cosignerlaw03_HeirLinks.f]) (Ev.bind hb ?_))
  cases b with
  | false => exact Ev.neg (by decide) hs
  | true =>
    refine Ev.pos rfl ?_
    by_cases hn : ns.length > 60
    · rw [decide_eq_true (by omega)]; exact hs
    · rw [decide_eq_false (by omega)]
      have h := hf rfl
      have hll := h.len
      have h1 := needlessOf_len h.small
      have h2 := touchedOf_len l ns
      refine Ev.step (fun k => by rw [cosignerlaw03_HeirLinks.j0, if_neg (by decide)]) ?_
      refine Ev.know (show heir_Needless.f l = some (needlessOf l) from rfl) (Ev.bind (needless_ev h.small) (Ev.know (show heir_Touched.f l ns = some (touchedOf l ns) from rfl) (Ev.bind (touched_ev h.small ns (by omega)) (Ev.know rfl (Ev.pos rfl (Ev.bind (sameLinks_ev (needlessOf l).1 (by omega)) (Ev.pos rfl (Ev.pos rfl (Ev.bind (sameNames_ev (touchedOf l ns).1 (by omega)) (Ev.pos rfl ?_))))))))))
      simp only [beq_self_eq_true]
      exact Ev.now _
end Go.Proofs.Ytdljclokenoogaa.Hw
end
section
namespace Go.Proofs.Ytdljclokenoogaa.Hw
open Go.RowKit Go.Proofs.Ytdljclokenoogaa.Hp Go.Proofs.YtdljclokenoogaaW.PrintWords Go.Proofs.YtdljclokenoogaaW.PrintLast Go.Proofs.YtdljclokenoogaaW.PrintMore
section
variable {H : Type} (enc : TypeId × Value → H) (W : World)
def Rd {α : Type} (d : Kd α) (t : TypeId) (n : Nat) : Prop := ∀ cs x, DataW.trod enc Try.prog W 0 (fun _ => true) true n t cs = some x → ∃ a : α, d.K W a cs
variable {enc W} {cs : List Value} {n : Nat} {t : TypeId}
theorem rd_fields {fs : Array Field} {x : DataW H × List MemPlace} (ht : Try.prog.underlying t = some (.struct fs)) (h : DataW.trod enc Try.prog W 0 (fun _ => true) true n t cs = some x) :
    ∃ m, n = m + 1 ∧ cs.length = Try.prog.cellsOf t ∧ ∀ (i : Nat) (f : Field), fs[i]? = some f → ∃ y, DataW.trod enc Try.prog W 0 (fun _ => true) true m f.type ((cs.drop f.offset).take (Try.prog.cellsOf f.type)) = some y := by
  obtain ⟨xs, m, rfl, _, hl, hx, hf⟩ := DataW.trod_struct ht h
  refine ⟨m, rfl, hl, fun i f hi => ?_⟩
  have hlt := (Array.getElem?_eq_some_iff.1 hi).1
  exact ⟨_, (hf i f hi).trans (List.getElem?_eq_getElem (by omega))⟩
theorem rd_at {α : Type} {d : Kd α} {k o : Nat} (hc : Try.prog.cellsOf t = k) (hr : Rd enc W d t n) (h : ∃ y, DataW.trod enc Try.prog W 0 (fun _ => true) true n t ((cs.drop o).take (Try.prog.cellsOf t)) = some y) : ∃ a, d.K W a ((cs.drop o).take k) := by
  obtain ⟨y, hy⟩ := h
  rw [hc] at hy
  exact hr _ _ hy
theorem rd_string (ht : Try.prog.underlying t = some .string) : Rd enc W Kd.string t n := fun cs x h => by
  obtain ⟨s, rfl, _⟩ := DataW.trod_string ht h
  exact ⟨s, rfl⟩
theorem rd_bool (ht : Try.prog.underlying t = some .bool) : Rd enc W Kd.bool t n := fun cs x h => by
  obtain ⟨s, rfl, _⟩ := DataW.trod_bool ht h
  exact ⟨s, rfl⟩
theorem rd_int (ht : Try.prog.underlying t = some (.int .i64)) : Rd enc W (Kd.int .i64) t n := fun cs x h => by
  obtain ⟨s, rfl, _⟩ := DataW.trod_int ht h
  exact ⟨s, rfl⟩
theorem rd_pair {α β : Type} {a : Kd α} {b : Kd β} {i k m : Nat} (h1 : ∃ x, a.K W x ((cs.drop i).take k)) (h2 : ∃ x, b.K W x ((cs.drop (i + k)).take m)) : ∃ x, (Kd.pair a b).K W x ((cs.drop i).take (k + m)) := by
  obtain ⟨x, hx⟩ := h1
  obtain ⟨y, hy⟩ := h2
  refine ⟨(x, y), _, _, ?_, hx, hy⟩
  rw [List.take_add, List.drop_drop]
theorem rd_all {α : Type} {d : Kd α} {k : Nat} (hl : cs.length = k) (h : ∃ x, d.K W x ((cs.drop 0).take k)) : ∃ x, d.K W x cs := by
  rw [List.drop_zero, List.take_of_length_le (Nat.le_of_eq hl)] at h
  exact h
theorem rd_slice {α : Type} {d : Kd α} {e : TypeId} (ht : Try.prog.underlying t = some (.slice e)) (hc : Try.prog.cellsOf e = d.sz) (hd : ∀ j, j < n → Rd enc W d e j) : Rd enc W (Kd.slice e d) t n := fun cs x h => by
  rcases DataW.trod_slice ht h with ⟨rfl, _⟩ | ⟨a, len, cap, elems, rest, m, rfl, rfl, _, _, hl, hm, hlen, hel, _, _⟩
  · exact ⟨[], none, 0, rfl, Nat.le_refl _, Kd.C_nil _ _⟩
  · have each : ∀ i, i < len → ∃ (p : α) (c : List Value), d.K W p c ∧ W.cells? 0 (a.add (i * d.sz)) d.sz = some c := by
      intro i hi
      have h1 := hel i hi
      rw [List.getElem?_eq_getElem (by omega), hc, Option.bind_eq_some_iff] at h1
      obtain ⟨c, hc1, hc2⟩ := h1
      obtain ⟨p, hp⟩ := hd m (by omega) _ _ hc2
      exact ⟨p, c, hp, hc1⟩
    let xs : List α := List.ofFn (fun i : Fin len => (each i.1 i.2).choose)
    have hxs : xs.length = len := List.length_ofFn
    refine ⟨xs, some a, cap, by rw [hxs], by rw [hxs]; exact hl, rfl, by rw [hxs]; simp only [maxLen] at hm; omega, fun _ => ⟨a, rfl, fun j p hj => ?_⟩⟩
    have hjl : j < len := by have := (List.getElem?_eq_some_iff.1 hj).1; omega
    have hp : p = (each j hjl).choose := by
      have h2 := (List.getElem?_eq_some_iff.1 hj).2
      rw [← h2]
      show (List.ofFn _)[j] = _
      rw [List.getElem_ofFn]
    obtain ⟨c, hK, hcell⟩ := (each j hjl).choose_spec
    rw [← hp] at hK
    refine ⟨c, d.K_len hK, hK, fun i u hu => ?_⟩
    have hi : i < d.sz := by have := (List.getElem?_eq_some_iff.1 hu).1; have h3 := d.K_len hK; omega
    unfold World.cells? at hcell
    rw [if_pos (Nat.zero_le _)] at hcell
    have h4 := mapM_some_get hcell i i (by simp [hi])
    rw [Addr.add_add] at h4
    exact h4.trans hu
end
section
variable {H : Type} {enc : TypeId × Value → H} {W : World}
theorem rd185 : ∀ n, Rd enc W k185 185 n := by
  intro n
  intro cs x h
  obtain ⟨m, rfl, hl, hf⟩ := rd_fields Try.underlying185 h
  rw [show Try.prog.cellsOf 185 = 2 by kernel_rfl] at hl
  have g0 : ∃ a, Kd.string.K W a ((cs.drop 0).take 1) := rd_at (by kernel_rfl) (rd_string Try.underlying9) (hf 0 _ rfl)
  have g1 : ∃ a, Kd.string.K W a ((cs.drop 1).take 1) := rd_at (by kernel_rfl) (rd_string Try.underlying9) (hf 1 _ rfl)
  obtain ⟨c, hc⟩ := rd_all hl (rd_pair g0 g1)
  exact ⟨⟨c.1, c.2⟩, hc⟩
theorem fold188 {x : S188} {cs : List Value} (h : (F188 k188).K W x cs) : k188.K W x cs := by
  obtain ⟨_, _, rfl, rfl, ⟨_, _, rfl, rfl, ⟨_, _, rfl, ⟨A2, c2, rfl, l2, g2⟩, ⟨_, _, rfl, rfl, rfl⟩⟩⟩⟩ := h
  exact k188_mk W x l2 g2
theorem rd188 : ∀ n, Rd enc W k188 188 n := by
  intro n
  induction n using Nat.strongRecOn with
  | _ n ih =>
  intro cs x h
  obtain ⟨m, rfl, hl, hf⟩ := rd_fields Try.underlying188 h
  rw [show Try.prog.cellsOf 188 = 5 by kernel_rfl] at hl
  have g0 : ∃ a, (Kd.int .i64).K W a ((cs.drop 0).take 1) := rd_at (by kernel_rfl) (rd_int Try.underlying3) (hf 0 _ rfl)
  have g1 : ∃ a, Kd.string.K W a ((cs.drop 1).take 1) := rd_at (by kernel_rfl) (rd_string Try.underlying9) (hf 1 _ rfl)
  have g2 : ∃ a, (Kd.slice 188 k188).K W a ((cs.drop 2).take 1) := rd_at (by kernel_rfl) (rd_slice Try.underlying62 (by kernel_rfl) (fun j hj => ih j (by omega))) (hf 2 _ rfl)
  have g3 : ∃ a, Kd.bool.K W a ((cs.drop 3).take 1) := rd_at (by kernel_rfl) (rd_bool Try.underlying4) (hf 3 _ rfl)
  have g4 : ∃ a, Kd.bool.K W a ((cs.drop 4).take 1) := rd_at (by kernel_rfl) (rd_bool Try.underlying4) (hf 4 _ rfl)
  obtain ⟨c, hc⟩ := rd_all hl (rd_pair g0 (rd_pair g1 (rd_pair g2 (rd_pair g3 g4))))
  exact ⟨⟨c.1, c.2.1, c.2.2.1, c.2.2.2.1, c.2.2.2.2⟩, fold188 hc⟩
theorem rd198 : ∀ n, Rd enc W k198 198 n := by
  intro n
  intro cs x h
  obtain ⟨m, rfl, hl, hf⟩ := rd_fields Try.underlying198 h
  rw [show Try.prog.cellsOf 198 = 2 by kernel_rfl] at hl
  have g0 : ∃ a, Kd.string.K W a ((cs.drop 0).take 1) := rd_at (by kernel_rfl) (rd_string Try.underlying9) (hf 0 _ rfl)
  have g1 : ∃ a, Kd.string.K W a ((cs.drop 1).take 1) := rd_at (by kernel_rfl) (rd_string Try.underlying9) (hf 1 _ rfl)
  obtain ⟨c, hc⟩ := rd_all hl (rd_pair g0 g1)
  exact ⟨⟨c.1, c.2⟩, hc⟩
theorem rd65 : ∀ n, Rd enc W k65 65 n := by
  intro n
  intro cs x h
  obtain ⟨m, rfl, hl, hf⟩ := rd_fields Try.underlying65 h
  rw [show Try.prog.cellsOf 65 = 6 by kernel_rfl] at hl
  have g0 : ∃ a, Kd.string.K W a ((cs.drop 0).take 1) := rd_at (by kernel_rfl) (rd_string Try.underlying9) (hf 0 _ rfl)
  have g1 : ∃ a, (Kd.slice 188 k188).K W a ((cs.drop 1).take 1) := rd_at (by kernel_rfl) (rd_slice Try.underlying62 (by kernel_rfl) (fun j hj => rd188 j)) (hf 1 _ rfl)
  have g2 : ∃ a, (Kd.slice 198 k198).K W a ((cs.drop 2).take 1) := rd_at (by kernel_rfl) (rd_slice Try.underlying63 (by kernel_rfl) (fun j hj => rd198 j)) (hf 2 _ rfl)
  have g3 : ∃ a, (Kd.slice 9 Kd.string).K W a ((cs.drop 3).take 1) := rd_at (by kernel_rfl) (rd_slice Try.underlying25 (by kernel_rfl) (fun j hj => rd_string Try.underlying9)) (hf 3 _ rfl)
  have g4 : ∃ a, (Kd.slice 9 Kd.string).K W a ((cs.drop 4).take 1) := rd_at (by kernel_rfl) (rd_slice Try.underlying25 (by kernel_rfl) (fun j hj => rd_string Try.underlying9)) (hf 4 _ rfl)
  have g5 : ∃ a, (Kd.slice 9 Kd.string).K W a ((cs.drop 5).take 1) := rd_at (by kernel_rfl) (rd_slice Try.underlying25 (by kernel_rfl) (fun j hj => rd_string Try.underlying9)) (hf 5 _ rfl)
  obtain ⟨c, hc⟩ := rd_all hl (rd_pair g0 (rd_pair g1 (rd_pair g2 (rd_pair g3 (rd_pair g4 g5)))))
  exact ⟨⟨c.1, c.2.1, c.2.2.1, c.2.2.2.1, c.2.2.2.2.1, c.2.2.2.2.2⟩, hc⟩
theorem rd201 : ∀ n, Rd enc W k201 201 n := by
  intro n
  intro cs x h
  obtain ⟨m, rfl, hl, hf⟩ := rd_fields Try.underlying201 h
  rw [show Try.prog.cellsOf 201 = 6 by kernel_rfl] at hl
  have g0 : ∃ a, Kd.string.K W a ((cs.drop 0).take 1) := rd_at (by kernel_rfl) (rd_string Try.underlying9) (hf 0 _ rfl)
  have g1 : ∃ a, k188.K W a ((cs.drop 1).take 5) := rd_at (by kernel_rfl) (rd188 m) (hf 1 _ rfl)
  obtain ⟨c, hc⟩ := rd_all hl (rd_pair g0 g1)
  exact ⟨⟨c.1, c.2⟩, hc⟩
theorem fold194 {x : S194} {cs : List Value} (h : (F194 k194).K W x cs) : k194.K W x cs := by
  obtain ⟨_, _, rfl, rfl, ⟨_, _, rfl, rfl, ⟨_, _, rfl, rfl, ⟨A3, c3, rfl, l3, g3⟩⟩⟩⟩ := h
  exact k194_mk W x l3 g3
theorem rd194 : ∀ n, Rd enc W k194 194 n := by
  intro n
  induction n using Nat.strongRecOn with
  | _ n ih =>
  intro cs x h
  obtain ⟨m, rfl, hl, hf⟩ := rd_fields Try.underlying194 h
  rw [show Try.prog.cellsOf 194 = 4 by kernel_rfl] at hl
  have g0 : ∃ a, (Kd.int .i64).K W a ((cs.drop 0).take 1) := rd_at (by kernel_rfl) (rd_int Try.underlying3) (hf 0 _ rfl)
  have g1 : ∃ a, Kd.string.K W a ((cs.drop 1).take 1) := rd_at (by kernel_rfl) (rd_string Try.underlying9) (hf 1 _ rfl)
  have g2 : ∃ a, (Kd.int .i64).K W a ((cs.drop 2).take 1) := rd_at (by kernel_rfl) (rd_int Try.underlying3) (hf 2 _ rfl)
  have g3 : ∃ a, (Kd.slice 194 k194).K W a ((cs.drop 3).take 1) := rd_at (by kernel_rfl) (rd_slice Try.underlying192 (by kernel_rfl) (fun j hj => ih j (by omega))) (hf 3 _ rfl)
  obtain ⟨c, hc⟩ := rd_all hl (rd_pair g0 (rd_pair g1 (rd_pair g2 g3)))
  exact ⟨⟨c.1, c.2.1, c.2.2.1, c.2.2.2⟩, fold194 hc⟩
theorem rd196 : ∀ n, Rd enc W k196 196 n := by
  intro n
  intro cs x h
  obtain ⟨m, rfl, hl, hf⟩ := rd_fields Try.underlying196 h
  rw [show Try.prog.cellsOf 196 = 5 by kernel_rfl] at hl
  have g0 : ∃ a, Kd.string.K W a ((cs.drop 0).take 1) := rd_at (by kernel_rfl) (rd_string Try.underlying9) (hf 0 _ rfl)
  have g1 : ∃ a, k194.K W a ((cs.drop 1).take 4) := rd_at (by kernel_rfl) (rd194 m) (hf 1 _ rfl)
  obtain ⟨c, hc⟩ := rd_all hl (rd_pair g0 g1)
  exact ⟨⟨c.1, c.2⟩, hc⟩
theorem fold203 {x : S203} {cs : List Value} (h : (F203 k203).K W x cs) : k203.K W x cs := by
  obtain ⟨_, _, rfl, rfl, ⟨_, _, rfl, rfl, ⟨_, _, rfl, rfl, ⟨_, _, rfl, ⟨A3, c3, rfl, l3, g3⟩, ⟨_, _, rfl, ⟨A4, c4, rfl, l4, g4⟩, ⟨_, _, rfl, ⟨A5, c5, rfl, l5, g5⟩, ⟨_, _, rfl, ⟨A6, c6, rfl, l6, g6⟩, ⟨A7, c7, rfl, l7, g7⟩⟩⟩⟩⟩⟩⟩⟩ := h
  exact k203_mk W x l3 g3 l4 g4 l5 g5 l6 g6 l7 g7
theorem rd203 : ∀ n, Rd enc W k203 203 n := by
  intro n
  induction n using Nat.strongRecOn with
  | _ n ih =>
  intro cs x h
  obtain ⟨m, rfl, hl, hf⟩ := rd_fields Try.underlying203 h
  rw [show Try.prog.cellsOf 203 = 8 by kernel_rfl] at hl
  have g0 : ∃ a, (Kd.int .i64).K W a ((cs.drop 0).take 1) := rd_at (by kernel_rfl) (rd_int Try.underlying3) (hf 0 _ rfl)
  have g1 : ∃ a, Kd.string.K W a ((cs.drop 1).take 1) := rd_at (by kernel_rfl) (rd_string Try.underlying9) (hf 1 _ rfl)
  have g2 : ∃ a, (Kd.int .i64).K W a ((cs.drop 2).take 1) := rd_at (by kernel_rfl) (rd_int Try.underlying3) (hf 2 _ rfl)
  have g3 : ∃ a, (Kd.slice 194 k194).K W a ((cs.drop 3).take 1) := rd_at (by kernel_rfl) (rd_slice Try.underlying192 (by kernel_rfl) (fun j hj => rd194 j)) (hf 3 _ rfl)
  have g4 : ∃ a, (Kd.slice 196 k196).K W a ((cs.drop 4).take 1) := rd_at (by kernel_rfl) (rd_slice Try.underlying59 (by kernel_rfl) (fun j hj => rd196 j)) (hf 4 _ rfl)
  have g5 : ∃ a, (Kd.slice 203 k203).K W a ((cs.drop 5).take 1) := rd_at (by kernel_rfl) (rd_slice Try.underlying189 (by kernel_rfl) (fun j hj => ih j (by omega))) (hf 5 _ rfl)
  have g6 : ∃ a, (Kd.slice 203 k203).K W a ((cs.drop 6).take 1) := rd_at (by kernel_rfl) (rd_slice Try.underlying189 (by kernel_rfl) (fun j hj => ih j (by omega))) (hf 6 _ rfl)
  have g7 : ∃ a, (Kd.slice 203 k203).K W a ((cs.drop 7).take 1) := rd_at (by kernel_rfl) (rd_slice Try.underlying189 (by kernel_rfl) (fun j hj => ih j (by omega))) (hf 7 _ rfl)
  obtain ⟨c, hc⟩ := rd_all hl (rd_pair g0 (rd_pair g1 (rd_pair g2 (rd_pair g3 (rd_pair g4 (rd_pair g5 (rd_pair g6 g7)))))))
  exact ⟨⟨c.1, c.2.1, c.2.2.1, c.2.2.2.1, c.2.2.2.2.1, c.2.2.2.2.2.1, c.2.2.2.2.2.2.1, c.2.2.2.2.2.2.2⟩, fold203 hc⟩
theorem rd191 : ∀ n, Rd enc W k191 191 n := by
  intro n
  intro cs x h
  obtain ⟨m, rfl, hl, hf⟩ := rd_fields Try.underlying191 h
  rw [show Try.prog.cellsOf 191 = 15 by kernel_rfl] at hl
  have g0 : ∃ a, (Kd.int .i64).K W a ((cs.drop 0).take 1) := rd_at (by kernel_rfl) (rd_int Try.underlying3) (hf 0 _ rfl)
  have g1 : ∃ a, Kd.string.K W a ((cs.drop 1).take 1) := rd_at (by kernel_rfl) (rd_string Try.underlying9) (hf 1 _ rfl)
  have g2 : ∃ a, (Kd.slice 9 Kd.string).K W a ((cs.drop 2).take 1) := rd_at (by kernel_rfl) (rd_slice Try.underlying25 (by kernel_rfl) (fun j hj => rd_string Try.underlying9)) (hf 2 _ rfl)
  have g3 : ∃ a, (Kd.slice 201 k201).K W a ((cs.drop 3).take 1) := rd_at (by kernel_rfl) (rd_slice Try.underlying186 (by kernel_rfl) (fun j hj => rd201 j)) (hf 3 _ rfl)
  have g4 : ∃ a, k188.K W a ((cs.drop 4).take 5) := rd_at (by kernel_rfl) (rd188 m) (hf 4 _ rfl)
  have g5 : ∃ a, (Kd.slice 201 k201).K W a ((cs.drop 9).take 1) := rd_at (by kernel_rfl) (rd_slice Try.underlying186 (by kernel_rfl) (fun j hj => rd201 j)) (hf 5 _ rfl)
  have g6 : ∃ a, (Kd.slice 196 k196).K W a ((cs.drop 10).take 1) := rd_at (by kernel_rfl) (rd_slice Try.underlying59 (by kernel_rfl) (fun j hj => rd196 j)) (hf 6 _ rfl)
  have g7 : ∃ a, (Kd.slice 196 k196).K W a ((cs.drop 11).take 1) := rd_at (by kernel_rfl) (rd_slice Try.underlying59 (by kernel_rfl) (fun j hj => rd196 j)) (hf 7 _ rfl)
  have g8 : ∃ a, (Kd.slice 203 k203).K W a ((cs.drop 12).take 1) := rd_at (by kernel_rfl) (rd_slice Try.underlying189 (by kernel_rfl) (fun j hj => rd203 j)) (hf 8 _ rfl)
  have g9 : ∃ a, (Kd.slice 203 k203).K W a ((cs.drop 13).take 1) := rd_at (by kernel_rfl) (rd_slice Try.underlying189 (by kernel_rfl) (fun j hj => rd203 j)) (hf 9 _ rfl)
  have g10 : ∃ a, Kd.bool.K W a ((cs.drop 14).take 1) := rd_at (by kernel_rfl) (rd_bool Try.underlying4) (hf 10 _ rfl)
  obtain ⟨c, hc⟩ := rd_all hl (rd_pair g0 (rd_pair g1 (rd_pair g2 (rd_pair g3 (rd_pair g4 (rd_pair g5 (rd_pair g6 (rd_pair g7 (rd_pair g8 (rd_pair g9 g10))))))))))
  exact ⟨⟨c.1, c.2.1, c.2.2.1, c.2.2.2.1, c.2.2.2.2.1, c.2.2.2.2.2.1, c.2.2.2.2.2.2.1, c.2.2.2.2.2.2.2.1, c.2.2.2.2.2.2.2.2.1, c.2.2.2.2.2.2.2.2.2.1, c.2.2.2.2.2.2.2.2.2.2⟩, hc⟩
theorem rd61 : ∀ n, Rd enc W k61 61 n := by
  intro n
  intro cs x h
  obtain ⟨m, rfl, hl, hf⟩ := rd_fields Try.underlying61 h
  rw [show Try.prog.cellsOf 61 = 7 by kernel_rfl] at hl
  have g0 : ∃ a, Kd.string.K W a ((cs.drop 0).take 1) := rd_at (by kernel_rfl) (rd_string Try.underlying9) (hf 0 _ rfl)
  have g1 : ∃ a, Kd.bool.K W a ((cs.drop 1).take 1) := rd_at (by kernel_rfl) (rd_bool Try.underlying4) (hf 1 _ rfl)
  have g2 : ∃ a, (Kd.slice 185 k185).K W a ((cs.drop 2).take 1) := rd_at (by kernel_rfl) (rd_slice Try.underlying56 (by kernel_rfl) (fun j hj => rd185 j)) (hf 2 _ rfl)
  have g3 : ∃ a, (Kd.slice 65 k65).K W a ((cs.drop 3).take 1) := rd_at (by kernel_rfl) (rd_slice Try.underlying57 (by kernel_rfl) (fun j hj => rd65 j)) (hf 3 _ rfl)
  have g4 : ∃ a, (Kd.slice 9 Kd.string).K W a ((cs.drop 4).take 1) := rd_at (by kernel_rfl) (rd_slice Try.underlying25 (by kernel_rfl) (fun j hj => rd_string Try.underlying9)) (hf 4 _ rfl)
  have g5 : ∃ a, (Kd.slice 191 k191).K W a ((cs.drop 5).take 1) := rd_at (by kernel_rfl) (rd_slice Try.underlying58 (by kernel_rfl) (fun j hj => rd191 j)) (hf 5 _ rfl)
  have g6 : ∃ a, (Kd.slice 196 k196).K W a ((cs.drop 6).take 1) := rd_at (by kernel_rfl) (rd_slice Try.underlying59 (by kernel_rfl) (fun j hj => rd196 j)) (hf 6 _ rfl)
  obtain ⟨c, hc⟩ := rd_all hl (rd_pair g0 (rd_pair g1 (rd_pair g2 (rd_pair g3 (rd_pair g4 (rd_pair g5 g6))))))
  exact ⟨⟨c.1, c.2.1, c.2.2.1, c.2.2.2.1, c.2.2.2.2.1, c.2.2.2.2.2.1, c.2.2.2.2.2.2⟩, hc⟩
theorem trod_classes {d : DataW H} {p : List MemPlace} {A : Option Addr} {len cap : Nat} (h : DataW.Trod enc Try.prog W 0 (fun _ => true) true 22 (.slice A len cap) d p) : ∃ l : List S61, len = l.length ∧ len ≤ cap ∧ k61.C W A l.length l := by
  obtain ⟨n, hn⟩ := h
  obtain ⟨l, A', c, he, hl, hC⟩ := rd_slice (n := n) Try.underlying22 (by kernel_rfl) (fun j _ => rd61 (enc := enc) (W := W) j) _ _ hn
  injection he with he _
  injection he with h1 h2 h3
  subst h1; subst h2; subst h3
  exact ⟨l, rfl, hl, hC⟩
theorem trod_strings {d : DataW H} {p : List MemPlace} {A : Option Addr} {len cap : Nat} {t : TypeId} (ht : Try.prog.underlying t = some (.slice 9)) (h : DataW.Trod enc Try.prog W 0 (fun _ => true) true t (.slice A len cap) d p) : ∃ l : List ByteArray, len = l.length ∧ len ≤ cap ∧ Kd.string.C W A l.length l := by
  obtain ⟨n, hn⟩ := h
  obtain ⟨l, A', c, he, hl, hC⟩ := rd_slice (n := n) ht (by kernel_rfl) (fun j _ => rd_string Try.underlying9) _ _ hn
  injection he with he _
  injection he with h1 h2 h3
  subst h1; subst h2; subst h3
  exact ⟨l, rfl, hl, hC⟩
end
end Go.Proofs.Ytdljclokenoogaa.Hw
end
section
namespace Go.Proofs.Ytdljclokenoogaa.Hw
open Go.RowKit Go.Proofs.Ytdljclokenoogaa.Hp Go.Proofs.YtdljclokenoogaaW.PrintWords Go.Proofs.YtdljclokenoogaaW.PrintLast Go.Proofs.YtdljclokenoogaaW.PrintMore
section
variable {H : Type} {enc : TypeId × Value → H} {W : World}
theorem weights_slice {P : Program} {t e : TypeId} (ht : P.underlying t = some (.slice e)) (xs ys : List (DataW H)) : (DataW.slice xs ys).weights P t = (xs.length + ys.length) * P.bytesOf e :: (DataW.weightsAll P e xs ++ DataW.weightsAll P e ys) := by
  rw [DataW.weights, ht]
theorem slice_weight {P : Program} {t e : TypeId} {cs : List Value} {n : Nat} {x : DataW H × List MemPlace} {A : Option Addr} {len cap : Nat} (ht : P.underlying t = some (.slice e)) (hcs : cs = [.slice A len cap]) (h : DataW.trod enc P W 0 (fun _ => true) true n t cs = some x)
    (hw : ∀ m ∈ x.1.weights P t, m ≤ reachBytes) : len * P.bytesOf e ≤ reachBytes := by
  subst hcs
  rcases DataW.trod_slice ht h with ⟨h1, _⟩ | ⟨a, len', cap', elems, rest, m, rfl, h1, rfl, _, _, _, hlen, _, _, _⟩
  · injection h1 with h1 _
    injection h1 with _ h2 _
    subst h2; simp
  · injection h1 with h1 _
    injection h1 with _ h2 _
    subst h2
    rw [weights_slice ht] at hw
    have hw' := hw _ (List.mem_cons_self ..)
    rw [List.length_map, List.length_map] at hw'
    exact Nat.le_trans (Nat.mul_le_mul_right _ (by omega)) hw'
theorem trod_len {ts : List TypeId} {ds : List (DataW H)} {j : Nat} {d : DataW H} {p : List MemPlace} {A : Option Addr} {len cap : Nat} (hsz : (DataW.weightsEach Try.prog ts ds).all (· ≤ reachBytes) = true) (ht : ts[j]? = some 22) (hd : ds[j]? = some d)
    (h : DataW.Trod enc Try.prog W 0 (fun _ => true) true 22 (.slice A len cap) d p) : len ≤ 1100000000000 := by
  obtain ⟨n, hn⟩ := h
  have h4 := slice_weight (enc := enc) (W := W) (e := 61) Try.underlying22 rfl hn (fun m hm => by
    have := List.all_eq_true.1 hsz m (DataW.weights_mem_each ht hd m hm)
    simpa using this)
  rw [show Try.prog.bytesOf 61 = 144 by kernel_rfl] at h4
  unfold reachBytes at h4
  omega
end
end Go.Proofs.Ytdljclokenoogaa.Hw
end
section
namespace Go.Proofs.Ytdljclokenoogaa.heirLinks
open Go.ChangeShapes Go.WideShapes Go.ChangeAt Go.RowKit Go.Proofs.Ytdljclokenoogaa.Hw
open Go.ChangeMaps (open_string shut_string)
set_option linter.unusedVariables false
theorem own : ownKnob Try.prog.godebug = none := by kernel_rfl
theorem laidOut : laidOutB Try.prog = true := by kernel_rfl
set_option maxRecDepth 100000 in
theorem lifted (os : Os) (started : os.Started) (H : Type) (enc : TypeId × Value → H) :
    ReturnsInHanded {} Try.checked os 4 .any (Rows.heirLinksSpec.pre6 enc Try.prog Try.f4 Rows.heirLinksRow.domain false) (Rows.heirLinksSpec.post enc Try.prog Try.f4 false true false false) := by
  refine returnsInHanded_of_change_sized (C := Try.checked) own started (by kernel_rfl) Try.func4
    (ChangeSpec.witness6 (enc := enc) (C := Try.checked) false ⟨#[], #[.slice none 0 0, .slice none 0 0], []⟩ 8 (by kernel_rfl) (by kernel_rfl) (by kernel_rfl) (by kernel_rfl)) ?_
  intro W base args ds gs before hval0 hW hcnd hsz0 _
  have hsz : (DataW.weightsEach Try.prog (Try.f4.params.toList ++ Rows.heirLinksSpec.plain.varTypes Try.prog) (ds ++ gs)).all (· ≤ reachBytes) = true := hsz0
  have hval : ∀ (j : Nat) t v, Try.f4.params[j]? = some t → args[j]? = some v → Value.okWide Try.prog W .any base t v := hval0
  have hW' := hW
  obtain ⟨p, q, hA0, hV, rfl, hfz, hnd⟩ := hW
  have hA : DataW.TrodAll enc Try.prog W 0 (fun _ => true) true Try.f4.params.toList args.toList ds p := hA0
  rw [Try.params4] at hA hval hsz
  obtain ⟨v0, vs0, d0, ds0, p0, q0, hargs, rfl, rfl, h0, r0⟩ := trodAll_cons hA
  obtain ⟨v1, vs1, d1, ds1, p1, q1, rfl, rfl, rfl, h1, r1⟩ := trodAll_cons r0
  obtain ⟨rfl, rfl, rfl⟩ := trodAll_nil r1
  obtain rfl : args = #[v0, v1] := by cases args; simp_all
  obtain ⟨rfl, rfl⟩ := trodVars_none hV
  obtain ⟨b0, len0, cap0, rfl⟩ := okWide_slice Try.underlying22 (hval 0 22 v0 rfl rfl)
  have k0 := h0
  have lt0 : ∀ x ∈ p0, x.block < W.heap.size := by obtain ⟨m, hm⟩ := k0; exact DataW.trod_lt m _ _ _ hm
  have ln0 := trod_len hsz (j := 0) rfl rfl h0
  obtain ⟨l0, rfl, hc0, hC0⟩ := trod_classes h0
  obtain ⟨b1, len1, cap1, rfl⟩ := okWide_slice Try.underlying25 (hval 1 25 v1 rfl rfl)
  have k1 := h1
  have lt1 : ∀ x ∈ p1, x.block < W.heap.size := by obtain ⟨m, hm⟩ := k1; exact DataW.trod_lt m _ _ _ hm
  obtain ⟨l1, rfl, hc1, hC1⟩ := trod_strings Try.underlying25 h1
  obtain ⟨kf, hkf⟩ := pure_links l0 l1 (by omega)
  clear hA0 hval0 hsz0 hsz
  refine (Hp.cosignerlaw03_HeirLinks.calls kf b0 cap0 l0 b1 cap1 l1 true rfl W hC0 hc0 hC1 hc1 (hkf)).mono fun e W' ⟨he, bel⟩ => ?_
  subst he
  exact ⟨_, rfl, _, _, _, [], _, [], hW', trodAll_mk1 (shut_bool Try.underlying4 _), (trodAll_cons_mk (Below.trod laidOut (by kernel_rfl) (of_decide_eq_true (by kernel_rfl)) k0 bel lt0) (trodAll_cons_mk (Below.trod laidOut (by kernel_rfl) (of_decide_eq_true (by kernel_rfl)) k1 bel lt1) trodAll_mk0)), rfl, bel.frame _, fun h => by cases h⟩
theorem over : Rows.heirLinksRow.holds Try.pinned (OpenSpec.ofChange Rows.heirLinksSpec) :=
  OpenClaim.holds_of_wide 4 Try.f4 rfl rfl rfl rfl rfl rfl rfl ⟨rfl, rfl, rfl, rfl, rfl⟩ rfl rfl rfl rfl rfl (by kernel_rfl) Try.func4 (by kernel_rfl)
    (of_decide_eq_true (by kernel_rfl)) (by unfold Func.isWrapper; first | (rw [if_pos (by decide +kernel)]; kernel_rfl) | (rw [if_neg (by decide +kernel)]; exact ⟨rfl, rfl⟩))
    (fun os started H enc _ => lifted os started H enc)
theorem proved : Rows.HeirLinksSaid := over
#print axioms proved
end Go.Proofs.Ytdljclokenoogaa.heirLinks
namespace Go.Proofs.Ytdljclokenoogaa
theorem heirLinks_holds : Rows.HeirLinksSaid := heirLinks.proved
end Go.Proofs.Ytdljclokenoogaa
end
