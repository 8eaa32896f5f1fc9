/-
  Part 2 (Ta) of the proof: walks of functions and plain facts.
-/
import Derived.Laws.EntriesVeiled
import Derived.Deep.RegionHeld3
import Derived.OrdersHeld
import Derived.Deep.RegionHeld
import Derived.WalkMore
import Derived.Test.YtdljclokenoogaaKTa1
set_option linter.unusedVariables false
set_option linter.unusedSimpArgs false
set_option linter.unusedSectionVars false
section
namespace Go.Proofs.Ytdljclokenoogaa.Hw
theorem bl_trans : ∀ (x y z : List UInt8), Op.bytesLess x y = true → Op.bytesLess y z = true → Op.bytesLess x z = true
  | _, [], _, h, _ => by simp [Op.bytesLess] at h
  | _, _ :: _, [], _, h => by simp [Op.bytesLess] at h
  | [], _ :: _, _ :: _, _, _ => by simp [Op.bytesLess]
  | a :: x, b :: y, c :: z, h, k => by
    simp only [Op.bytesLess, Bool.or_eq_true, decide_eq_true_iff, Bool.and_eq_true, beq_iff_eq] at h k ⊢
    rcases h with h | ⟨rfl, h⟩
    · rcases k with k | ⟨rfl, k⟩
      · exact .inl (UInt8.lt_trans h k)
      · exact .inl h
    · rcases k with k | ⟨rfl, k⟩
      · exact .inl k
      · exact .inr ⟨rfl, bl_trans x y z h k⟩
theorem bl_tri : ∀ (x y : List UInt8), Op.bytesLess x y = false → Op.bytesLess y x = false → x = y
  | [], [], _, _ => rfl
  | _ :: _, [], _, h => by simp [Op.bytesLess] at h
  | [], _ :: _, h, _ => by simp [Op.bytesLess] at h
  | a :: x, b :: y, h, k => by
    simp only [Op.bytesLess, Bool.or_eq_false_iff, decide_eq_false_iff_not, Bool.and_eq_false_imp, beq_iff_eq] at h k
    have e : a = b := by
      have h1 := h.1; have h2 := k.1
      exact UInt8.le_antisymm (UInt8.not_lt.1 h2) (UInt8.not_lt.1 h1)
    subst e
    rw [bl_tri x y (h.2 rfl) (k.2 rfl)]
theorem bytes_of_toList {a b : ByteArray} (h : a.toList = b.toList) : a = b := by
  rw [Lib.toList_data, Lib.toList_data] at h
  exact ByteArray.ext (Array.toList_inj.1 h)
theorem lessS_irrefl (a : ByteArray) : lessS a a = false := bytesLess_irrefl _
theorem lessS_trans {a b c : ByteArray} (h : lessS a b = true) (k : lessS b c = true) : lessS a c = true := bl_trans _ _ _ h k
theorem lessS_tri {a b : ByteArray} (h : lessS a b = false) (k : lessS b a = false) : a = b := bytes_of_toList (bl_tri _ _ h k)
theorem lessS_asymm {a b : ByteArray} (h : lessS a b = true) : lessS b a = false := by
  cases k : lessS b a with
  | false => rfl
  | true => have := lessS_trans h k; rw [lessS_irrefl] at this; cases this
theorem lessS_ne {a b : ByteArray} (h : lessS a b = true) : a ≠ b := fun e => by rw [e, lessS_irrefl] at h; cases h
theorem lessS_le_trans {a b c : ByteArray} (h : lessS b a = false) (k : lessS c b = false) : lessS c a = false := by
  cases e : lessS c a with
  | false => rfl
  | true =>
    cases e2 : lessS a b with
    | true => rw [lessS_trans e e2] at k; cases k
    | false => have := lessS_tri e2 h; subst this; rw [e] at k; cases k
theorem bl_lt : ∀ (x y : List UInt8), Op.bytesLess x y = true ↔ x < y
  | [], [] => by simp [Op.bytesLess]
  | _ :: _, [] => by simp [Op.bytesLess]
  | [], _ :: _ => by simp [Op.bytesLess]
  | a :: x, b :: y => by simp [Op.bytesLess, List.cons_lt_cons_iff, bl_lt x y]
theorem minS_eq (x y : ByteArray) : Lib.minS x y = if lessS y x = true then y else x := by
  unfold Lib.minS lessS
  rw [Lib.toList_data, Lib.toList_data]
  cases h : Op.bytesLess y.data.toList x.data.toList with
  | true =>
    have h1 := bl_trans x.data.toList y.data.toList x.data.toList
    simp only [if_true]
    rw [if_neg]
    rintro (k | k)
    · have := h1 ((bl_lt _ _).2 k) h; rw [bytesLess_irrefl] at this; cases this
    · rw [k, bytesLess_irrefl] at h; cases h
  | false =>
    simp only [Bool.false_eq_true, if_false]
    rw [if_pos]
    cases k : Op.bytesLess x.data.toList y.data.toList with
    | true => exact .inl ((bl_lt _ _).1 k)
    | false => exact .inr (bl_tri _ _ k h)
theorem minS_le (x y : ByteArray) : lessS x (Lib.minS x y) = false ∧ lessS y (Lib.minS x y) = false := by
  rw [minS_eq]
  cases h : lessS y x with
  | true => rw [if_pos rfl]; exact ⟨lessS_asymm h, lessS_irrefl _⟩
  | false => rw [if_neg (by simp)]; exact ⟨lessS_irrefl _, h⟩
theorem minOfS_le : ∀ (l : List ByteArray) (x : ByteArray), x ∈ l → lessS x (Lib.minOfS l) = false := by
  have key : ∀ (l : List ByteArray) (z : ByteArray), lessS z (l.foldl Lib.minS z) = false ∧ ∀ x, x ∈ l → lessS x (l.foldl Lib.minS z) = false := by
    intro l
    induction l with
    | nil => intro z; exact ⟨lessS_irrefl _, fun x h => by cases h⟩
    | cons y l ih =>
      intro z
      simp only [List.foldl_cons]
      obtain ⟨h1, h2⟩ := ih (Lib.minS z y)
      obtain ⟨h3, h4⟩ := minS_le z y
      refine ⟨lessS_le_trans h1 h3, fun x hx => ?_⟩
      rcases List.mem_cons.1 hx with rfl | hx
      · exact lessS_le_trans h1 h4
      · exact h2 x hx
  intro l x hx
  exact (key l _).2 x hx
def lexB : List ByteArray → List ByteArray → Bool
  | _, [] => false
  | [], _ :: _ => true
  | x :: xs, y :: ys => if x = y then lexB xs ys else lessS x y
theorem lexB_irrefl : ∀ (x : List ByteArray), lexB x x = false
  | [] => rfl
  | x :: xs => by simp [lexB, lexB_irrefl xs]
theorem lexB_trans : ∀ (x y z : List ByteArray), lexB x y = true → lexB y z = true → lexB x z = true
  | _, [], _, h, _ => by simp [lexB] at h
  | _, _ :: _, [], _, h => by simp [lexB] at h
  | [], _ :: _, _ :: _, _, _ => by simp [lexB]
  | a :: x, b :: y, c :: z, h, k => by
    simp only [lexB] at h k ⊢
    by_cases e1 : a = b
    · subst e1
      rw [if_pos rfl] at h
      by_cases e2 : a = c
      · rw [if_pos e2] at k ⊢; exact lexB_trans x y z h k
      · rw [if_neg e2] at k ⊢; exact k
    · rw [if_neg e1] at h
      by_cases e2 : b = c
      · subst e2
        rw [if_neg e1]; exact h
      · rw [if_neg e2] at k
        have := lessS_trans h k
        rw [if_neg (lessS_ne this)]; exact this
theorem lexB_tri : ∀ (x y : List ByteArray), lexB x y = false → lexB y x = false → x = y
  | [], [], _, _ => rfl
  | _ :: _, [], _, h => by simp [lexB] at h
  | [], _ :: _, h, _ => by simp [lexB] at h
  | a :: x, b :: y, h, k => by
    simp only [lexB] at h k
    by_cases e : a = b
    · subst e
      rw [if_pos rfl] at h k
      rw [lexB_tri x y h k]
    · rw [if_neg e] at h
      rw [if_neg (fun e' => e e'.symm)] at k
      exact absurd (lessS_tri h k) e
theorem lexB_asymm {x y : List ByteArray} (h : lexB x y = true) : lexB y x = false := by
  cases k : lexB y x with
  | false => rfl
  | true => have := lexB_trans _ _ _ h k; rw [lexB_irrefl] at this; cases this
theorem lexB_snoc : ∀ (x y : List ByteArray) (a : ByteArray), x.length = y.length → lexB (x ++ [a]) (y ++ [a]) = lexB x y
  | [], [], a, _ => by simp [lexB]
  | x :: xs, y :: ys, a, h => by
    simp only [List.cons_append, lexB]
    rw [lexB_snoc xs ys a (by simpa using h)]
  | [], _ :: _, _, h => by simp at h
  | _ :: _, [], _, h => by simp at h
theorem cmpS_lt (a b : ByteArray) : cmpS a b < 0 ↔ lessS a b = true := by
  unfold cmpS
  split
  · rename_i h; simp [h]
  · rename_i h
    split <;> simp [h]
theorem cmpS_zero (a b : ByteArray) : cmpS a b = 0 ↔ a = b := by
  unfold cmpS
  split
  · rename_i h; simp [lessS_ne h]
  · split <;> simp [*]
theorem cmpL_lt : ∀ (x y : List ByteArray), cmpL x y < 0 ↔ lexB x y = true
  | [], [] => by simp [cmpL, lexB]
  | [], _ :: _ => by simp [cmpL, lexB]
  | _ :: _, [] => by simp [cmpL, lexB]
  | a :: x, b :: y => by
    simp only [cmpL, lexB]
    by_cases e : a = b
    · rw [if_pos ((cmpS_zero a b).2 e), if_pos e]; exact cmpL_lt x y
    · rw [if_neg (fun h => e ((cmpS_zero a b).1 h)), if_neg e]; exact cmpS_lt a b
def lessR (a b : List ByteArray) : Bool := decide (a.length < b.length) || (decide (a.length = b.length) && lexB a b)
theorem lessR_irrefl (a : List ByteArray) : lessR a a = false := by simp [lessR, lexB_irrefl]
theorem lessR_trans {a b c : List ByteArray} (h : lessR a b = true) (k : lessR b c = true) : lessR a c = true := by
  simp only [lessR, Bool.or_eq_true, decide_eq_true_iff, Bool.and_eq_true] at h k ⊢
  rcases h with h | ⟨h, h'⟩
  · rcases k with k | ⟨k, k'⟩ <;> exact .inl (by omega)
  · rcases k with k | ⟨k, k'⟩
    · exact .inl (by omega)
    · exact .inr ⟨by omega, lexB_trans _ _ _ h' k'⟩
theorem lessR_tri {a b : List ByteArray} (h : lessR a b = false) (k : lessR b a = false) : a = b := by
  simp only [lessR, Bool.or_eq_false_iff, decide_eq_false_iff_not, Bool.and_eq_false_imp, decide_eq_true_iff] at h k
  have e : a.length = b.length := by omega
  exact lexB_tri a b (h.2 e) (k.2 e.symm)
theorem ringLess_eq (best r : List ByteArray) : ringLess best r = (best.isEmpty || lessR r best) := by
  unfold ringLess lessR
  congr 1
  rw [Bool.eq_iff_iff]
  simp only [decide_eq_true_iff, Bool.or_eq_true, Bool.and_eq_true]
  unfold orI cmpI
  rcases Nat.lt_trichotomy r.length best.length with h | h | h
  · rw [if_pos (by omega : (r.length : Int) < best.length)]
    simp [h]
  · rw [if_neg (by omega : ¬ (r.length : Int) < best.length), if_neg (by omega : ¬ (best.length : Int) < r.length)]
    simp only [↓reduceIte]
    rw [cmpL_lt]
    simp [h]
  · rw [if_neg (by omega : ¬ (r.length : Int) < best.length), if_pos (by omega : (best.length : Int) < r.length)]
    simp
    omega
def IsBest (best : List ByteArray) (S : List ByteArray → Prop) : Prop := (best = [] ∧ ∀ r, ¬ S r) ∨ (best ≠ [] ∧ S best ∧ ∀ r, S r → lessR r best = false)
theorem IsBest.uniq {a b : List ByteArray} {S : List ByteArray → Prop} (h : IsBest a S) (k : IsBest b S) : a = b := by
  rcases h with ⟨rfl, h⟩ | ⟨h0, h1, h2⟩
  · rcases k with ⟨rfl, _⟩ | ⟨_, k1, _⟩
    · rfl
    · exact absurd k1 (h _)
  · rcases k with ⟨rfl, k⟩ | ⟨_, k1, k2⟩
    · exact absurd h1 (k _)
    · exact lessR_tri (k2 a h1) (h2 b k1)
theorem IsBest.of {a : List ByteArray} {S T : List ByteArray → Prop} (h : IsBest a S) (hS : ∀ r, S r → T r) (hT : ∀ r, T r → ∃ s, S s ∧ lessR r s = false) : IsBest a T := by
  rcases h with ⟨rfl, h⟩ | ⟨h0, h1, h2⟩
  · exact .inl ⟨rfl, fun r hr => by obtain ⟨s, hs, _⟩ := hT r hr; exact h s hs⟩
  · refine .inr ⟨h0, hS a h1, fun r hr => ?_⟩
    obtain ⟨s, hs, hrs⟩ := hT r hr
    have h3 := h2 s hs
    cases e : lessR r a with
    | false => rfl
    | true =>
      cases e2 : lessR a s with
      | true => rw [lessR_trans e e2] at hrs; cases hrs
      | false => have := lessR_tri e2 h3; subst this; rw [e] at hrs; cases hrs
end Go.Proofs.Ytdljclokenoogaa.Hw
end
section
namespace Go.Proofs.Ytdljclokenoogaa.Hw
open Go.Proofs.Ytdljclokenoogaa.Hp
def Wk (up : ByteArray → List ByteArray) : Nat → ByteArray → ByteArray → List ByteArray → Prop
  | 0, c, a, r => c = a ∧ r = [c]
  | n + 1, c, a, r => ∃ p r', p ∈ up c ∧ Wk up n p a r' ∧ r = c :: r'
section
variable {up : ByteArray → List ByteArray}
theorem Wk.len : ∀ {n : Nat} {c a : ByteArray} {r : List ByteArray}, Wk up n c a r → r.length = n + 1
  | 0, _, _, _, ⟨_, h⟩ => by rw [h]; rfl
  | n + 1, _, _, _, ⟨p, r', _, h, e⟩ => by rw [e, List.length_cons, Wk.len h]
theorem Wk.head : ∀ {n : Nat} {c a : ByteArray} {r : List ByteArray}, Wk up n c a r → ∃ t, r = c :: t
  | 0, _, _, _, ⟨_, h⟩ => ⟨[], h⟩
  | _ + 1, _, _, _, ⟨_, r', _, _, e⟩ => ⟨r', e⟩
theorem Wk.last : ∀ {n : Nat} {c a : ByteArray} {r : List ByteArray}, Wk up n c a r → ∃ t, r = t ++ [a]
  | 0, _, _, _, ⟨h1, h⟩ => ⟨[], by rw [h, h1]; rfl⟩
  | _ + 1, c, _, _, ⟨_, r', _, h, e⟩ => by obtain ⟨t, ht⟩ := Wk.last h; exact ⟨c :: t, by rw [e, ht]; rfl⟩
theorem Wk.reach : ∀ {n : Nat} {c a : ByteArray} {r : List ByteArray}, Wk up n c a r → reach up n c a
  | 0, _, _, _, ⟨h, _⟩ => h
  | _ + 1, _, _, _, ⟨p, _, hp, h, _⟩ => ⟨p, hp, h.reach⟩
theorem reach.wk : ∀ {n : Nat} {c a : ByteArray}, reach up n c a → ∃ r, Wk up n c a r
  | 0, c, _, h => ⟨[c], h, rfl⟩
  | _ + 1, c, _, ⟨p, hp, h⟩ => by obtain ⟨r, hr⟩ := reach.wk h; exact ⟨c :: r, p, r, hp, hr, rfl⟩
theorem Wk.snoc : ∀ {n : Nat} {c p a : ByteArray} {r : List ByteArray}, Wk up n c p r → a ∈ up p → Wk up (n + 1) c a (r ++ [a])
  | 0, c, _, a, _, ⟨h1, h⟩, ha => ⟨a, [a], h1 ▸ ha, ⟨rfl, rfl⟩, by rw [h]; rfl⟩
  | _ + 1, c, _, a, _, ⟨q, r', hq, h, e⟩, ha => ⟨q, r' ++ [a], hq, h.snoc ha, by rw [e]; rfl⟩
theorem Wk.unsnoc : ∀ {n : Nat} {c a : ByteArray} {r : List ByteArray}, Wk up (n + 1) c a r → ∃ p q, Wk up n c p q ∧ a ∈ up p ∧ r = q ++ [a]
  | 0, c, a, r, ⟨p, r', hp, ⟨h1, h2⟩, e⟩ => ⟨c, [c], ⟨rfl, rfl⟩, h1 ▸ hp, by rw [e, h2, h1]; rfl⟩
  | n + 1, c, a, r, ⟨p, r', hp, h, e⟩ => by
    obtain ⟨p', q, h1, h2, h3⟩ := Wk.unsnoc h
    exact ⟨p', c :: q, ⟨p, q, hp, h1, rfl⟩, h2, by rw [e, h3]; rfl⟩
theorem Wk.drop : ∀ (x : List ByteArray) {n : Nat} {c a b : ByteArray} {y : List ByteArray}, Wk up n c a (x ++ b :: y) → Wk up y.length b a (b :: y)
  | [], n, c, a, b, y, h => by
    have hl := h.len
    obtain ⟨t, ht⟩ := h.head
    simp only [List.nil_append, List.cons.injEq] at ht
    have e : y.length = n := by simpa using hl
    rw [e]
    have h' := h
    simp only [List.nil_append] at h'
    rw [ht.1] at h' ⊢
    exact h'
  | z :: x, 0, c, a, b, y, h => by have := h.len; simp at this
  | z :: x, n + 1, c, a, b, y, ⟨p, r', _, h, e⟩ => by
    simp only [List.cons_append, List.cons.injEq] at e
    rw [← e.2] at h
    exact Wk.drop x h
theorem Wk.take : ∀ (x : List ByteArray) {n : Nat} {c a b : ByteArray} {y : List ByteArray}, Wk up n c a (x ++ b :: y) → Wk up x.length c b (x ++ [b])
  | [], n, c, a, b, y, h => by
    obtain ⟨t, ht⟩ := h.head
    simp only [List.nil_append, List.cons.injEq] at ht
    exact ⟨ht.1.symm, by rw [ht.1]; rfl⟩
  | z :: x, 0, c, a, b, y, h => by have := h.len; simp at this
  | z :: x, n + 1, c, a, b, y, ⟨p, r', hp, h, e⟩ => by
    simp only [List.cons_append, List.cons.injEq] at e
    rw [← e.2] at h
    exact ⟨p, x ++ [b], hp, Wk.take x h, by rw [e.1]; rfl⟩
theorem Wk.app : ∀ {n m : Nat} {c b a : ByteArray} {r s : List ByteArray}, Wk up n c b r → Wk up m b a (b :: s) → Wk up (n + m) c a (r ++ s)
  | 0, m, c, b, a, r, s, ⟨h1, h2⟩, k => by subst h1; rw [h2, Nat.zero_add]; exact k
  | n + 1, m, c, b, a, r, s, ⟨p, r', hp, h, e⟩, k => by
    have : n + 1 + m = (n + m) + 1 := by omega
    rw [this]
    exact ⟨p, r' ++ s, hp, Wk.app h k, by rw [e]; rfl⟩
def LeastW (up : ByteArray → List ByteArray) (n : Nat) (c a : ByteArray) (r : List ByteArray) : Prop := Wk up n c a r ∧ ∀ r', Wk up n c a r' → lexB r' r = false
theorem LeastW.uniq {n : Nat} {c a : ByteArray} {r s : List ByteArray} (h : LeastW up n c a r) (k : LeastW up n c a s) : r = s := lexB_tri _ _ (k.2 r h.1) (h.2 s k.1)
theorem distF_step {N n : Nat} {c a p : ByteArray} (h : distF up N c a = some (n + 1)) (hp : p ∈ up c) (hr : Hw.reach up n p a) : distF up N p a = some n := by
  obtain ⟨h1, h2, h3⟩ := distF_some.1 h
  refine distF_some.2 ⟨by omega, hr, fun j hj hrj => ?_⟩
  exact h3 (j + 1) (by omega) ⟨p, hp, hrj⟩
theorem wayF_least {N : Nat} {a : ByteArray} : ∀ (n : Nat) (c : ByteArray), distF up N c a = some n → LeastW up n c a (wayF up N a n c)
  | 0, c, h => by
    obtain ⟨_, h2, _⟩ := distF_some.1 h
    have h2' : c = a := h2
    exact ⟨⟨h2', rfl⟩, fun r' hr' => by rw [hr'.2]; exact lexB_irrefl _⟩
  | n + 1, c, h => by
    obtain ⟨_, ⟨p0, hp0, hr0⟩, _⟩ := distF_some.1 h
    have hne : (up c).filter (fun p => decide (distF up N p a = some n)) ≠ [] := List.ne_nil_of_mem (List.mem_filter.2 ⟨hp0, by simpa using distF_step h hp0 hr0⟩)
    have hm := minOfS_mem _ hne
    have hmin := minOfS_le ((up c).filter (fun p => decide (distF up N p a = some n)))
    simp only [wayF]
    obtain ⟨m, em⟩ : ∃ m, Lib.minOfS ((up c).filter (fun p => decide (distF up N p a = some n))) = m := ⟨_, rfl⟩
    rw [em] at hm hmin ⊢
    have hm' := List.mem_filter.1 hm
    have hd : distF up N m a = some n := by simpa using hm'.2
    obtain ⟨i1, i2⟩ := wayF_least n m hd
    refine ⟨⟨m, _, hm'.1, i1, rfl⟩, ?_⟩
    rintro r' ⟨p, r2, hp, hr2, rfl⟩
    simp only [lexB, if_pos]
    have hpd : distF up N p a = some n := distF_step h hp hr2.reach
    have hle := hmin p (List.mem_filter.2 ⟨hp, by simpa using hpd⟩)
    obtain ⟨t, ht⟩ := i1.head
    obtain ⟨t2, ht2⟩ := hr2.head
    by_cases e : p = m
    · subst e; exact i2 _ hr2
    · rw [ht, ht2]
      simp only [lexB, if_neg e]
      exact hle
theorem shortF_some {N n : Nat} {a c : ByteArray} (h : distF up N c a = some n) : shortF up N a c = wayF up N a n c := by unfold shortF; rw [h]
theorem shortF_least {N : Nat} {a c : ByteArray} (h : shortF up N a c ≠ []) : ∃ n, distF up N c a = some n ∧ LeastW up n c a (shortF up N a c) := by
  cases hd : distF up N c a with
  | none => exfalso; apply h; unfold shortF; rw [hd]
  | some n => exact ⟨n, rfl, by rw [shortF_some hd]; exact wayF_least n c hd⟩
def RingS (up : ByteArray → List ByteArray) (r : List ByteArray) : Prop := ∃ c t, r = c :: t ∧ Wk up r.length c c (r ++ [c])
theorem IsBest.fold {N : Nat} {c : ByteArray} : ∀ (ps : List ByteArray) (b : List ByteArray) (S : List ByteArray → Prop), IsBest b S → IsBest (ps.foldl (ringStep up N c) b) (fun r => S r ∨ ∃ p ∈ ps, shortF up N c p ≠ [] ∧ r = c :: (shortF up N c p).dropLast)
  | [], b, S, h => by simpa using h
  | p :: ps, b, S, h => by
    rw [List.foldl_cons]
    have hstep : IsBest (ringStep up N c b p) (fun r => S r ∨ (shortF up N c p ≠ [] ∧ r = c :: (shortF up N c p).dropLast)) := by
      unfold ringStep
      by_cases hs : shortF up N c p = []
      · rw [hs]
        simpa using h
      · rw [if_neg (by simpa using hs)]
        obtain ⟨x, hx⟩ : ∃ x, c :: (shortF up N c p).dropLast = x := ⟨_, rfl⟩
        rw [hx, ringLess_eq]
        have hxn : x ≠ [] := by rw [← hx]; simp
        have e : (fun r => S r ∨ (shortF up N c p ≠ [] ∧ r = x)) = (fun r => S r ∨ r = x) := by funext r; simp [hs]
        rw [e]
        rcases h with ⟨rfl, h⟩ | ⟨h0, h1, h2⟩
        · refine .inr ⟨by simpa using hxn, ?_, ?_⟩
          · simp
          · intro r hr
            simp only [List.isEmpty_nil, Bool.true_or, if_true]
            rcases hr with hr | rfl
            · exact absurd hr (h r)
            · exact lessR_irrefl _
        · have hbe : b.isEmpty = false := by cases b <;> simp_all
          rw [hbe, Bool.false_or]
          cases hl : lessR x b with
          | true =>
            rw [if_pos rfl]
            refine .inr ⟨hxn, .inr rfl, fun r hr => ?_⟩
            rcases hr with hr | rfl
            · cases e2 : lessR r x with
              | false => rfl
              | true => have := h2 r hr; rw [lessR_trans e2 hl] at this; cases this
            · exact lessR_irrefl _
          | false =>
            rw [if_neg (by simp)]
            exact .inr ⟨h0, .inl h1, fun r hr => by rcases hr with hr | rfl; exact h2 r hr; exact hl⟩
    have := IsBest.fold (N := N) (c := c) ps _ _ hstep
    refine cast ?_ this
    congr 1
    funext r
    simp [or_assoc]
theorem names_length (l : List S61) : (names l).length = l.length := by simp [names]
theorem ringOf_best (l : List S61) : IsBest (ringOf l) (RingS (ups l)) := by
  have key : ∀ (cs : List ByteArray) (b : List ByteArray) (S : List ByteArray → Prop), IsBest b S → IsBest (cs.foldl (fun b c => (ups l c).foldl (ringStep (ups l) l.length c) b) b) (fun r => S r ∨ ∃ c ∈ cs, ∃ p ∈ ups l c, shortF (ups l) l.length c p ≠ [] ∧ r = c :: (shortF (ups l) l.length c p).dropLast) := by
    intro cs
    induction cs with
    | nil => intro b S h; simpa using h
    | cons c cs ih =>
      intro b S h
      rw [List.foldl_cons]
      refine cast ?_ (ih _ _ (IsBest.fold (up := ups l) (N := l.length) (c := c) (ups l c) b S h))
      congr 1
      funext r
      simp [or_assoc]
  have h := key (names l) [] (fun _ => False) (.inl ⟨rfl, fun _ h => h⟩)
  refine IsBest.of h ?_ ?_
  · rintro r (h | ⟨c, hc, p, hp, hs, rfl⟩)
    · exact h.elim
    · obtain ⟨n, hd, hw, _⟩ := shortF_least hs
      obtain ⟨t, ht⟩ := hw.last
      have hl := hw.len
      refine ⟨c, _, rfl, ?_⟩
      rw [ht] at hw hl ⊢
      rw [List.dropLast_concat, List.length_cons]
      have e : t.length = n := by simpa using hl
      rw [e]
      exact ⟨p, t ++ [c], hp, hw, rfl⟩
  · rintro r ⟨c, t, rfl, hw⟩
    obtain ⟨p, r', hp, hw', e⟩ := hw
    simp only [List.cons_append, List.cons.injEq, true_and] at e
    obtain ⟨n', hn', hd⟩ := dist_of_reach (names := names l) (fun c p hp => (ups_mem hp).1) hw'.reach
    rw [names_length] at hd
    have hls := wayF_least n' p hd
    have hsh := shortF_some hd
    refine ⟨c :: (shortF (ups l) l.length c p).dropLast, .inr ⟨c, (ups_mem hp).1, p, hp, ?_, rfl⟩, ?_⟩
    · rw [hsh]; intro e2; have := hls.1.len; rw [e2] at this; simp at this
    · rw [hsh]
      obtain ⟨s, hs⟩ := hls.1.last
      have hlen := hls.1.len
      rw [hs] at hlen
      rw [hs, List.dropLast_concat]
      have hlen' : s.length = n' := by simpa using hlen
      simp only [lessR, Bool.or_eq_false_iff, decide_eq_false_iff_not, Bool.and_eq_false_imp, decide_eq_true_iff, List.length_cons]
      refine ⟨by omega, fun he => ?_⟩
      simp only [lexB, if_true]
      have he' : t.length = n' := by omega
      rw [← lexB_snoc t s c (by omega), e, ← hs]
      refine hls.2 r' ?_
      rw [← he']; exact hw'
end
end Go.Proofs.Ytdljclokenoogaa.Hw
end
section
namespace Go.Proofs.Ytdljclokenoogaa.Hw
section
variable {up : ByteArray → List ByteArray}
def Closed (up : ByteArray → List ByteArray) (O : List ByteArray) : Prop := ∀ k, k ∈ O → ∀ p, p ∈ up k → p ∈ O
def Ordered (up : ByteArray → List ByteArray) (O : List ByteArray) : Prop := ∀ x k y, O = x ++ k :: y → ∀ p, p ∈ up k → p ∈ x
theorem Closed.reach {O : List ByteArray} (h : Closed up O) : ∀ (n : Nat) (k a : ByteArray), k ∈ O → Hw.reach up n k a → a ∈ O
  | 0, _, _, hk, e => e ▸ hk
  | n + 1, k, _, hk, ⟨p, hp, hr⟩ => h.reach n p _ (h k hk p hp) hr
theorem Closed.nil : Closed up [] := fun _ h => by cases h
theorem Ordered.nil : Ordered up [] := fun x k y h => by simp at h
theorem Ordered.closed {O : List ByteArray} (h : Ordered up O) : Closed up O := fun k hk p hp => by
  obtain ⟨x, y, e⟩ := List.append_of_mem hk
  rw [e]; exact List.mem_append_left _ (h x k y e p hp)
theorem Ordered.snoc {O : List ByteArray} {c : ByteArray} (h : Ordered up O) (hc : ∀ p, p ∈ up c → p ∈ O) : Ordered up (O ++ [c]) := by
  intro x k y e p hp
  rcases List.eq_nil_or_concat y with rfl | ⟨y', z, rfl⟩
  · have := List.append_inj' e (by simp)
    obtain ⟨rfl, h2⟩ := this
    simp at h2; subst h2
    exact hc p hp
  · rw [List.concat_eq_append] at e
    have e' : O ++ [c] = (x ++ k :: y') ++ [z] := by rw [e]; simp
    obtain ⟨h1, _⟩ := List.append_inj' e' (by simp)
    exact h x k y' h1 p hp
theorem Ordered.left {x y : List ByteArray} (h : Ordered up (x ++ y)) : Ordered up x := fun u k v e p hp => h u k (v ++ y) (by rw [e]; simp) p hp
theorem rank_reach {rk : ByteArray → Nat} (hrk : ∀ c p, p ∈ up c → rk p < rk c) : ∀ (n : Nat) (c a : ByteArray), reach up n c a → rk a + n ≤ rk c
  | 0, _, _, e => by have e' : _ = _ := e; subst e'; exact Nat.le_refl _
  | n + 1, c, a, ⟨p, hp, hr⟩ => by have := rank_reach hrk n p a hr; have := hrk c p hp; omega
theorem vis_ok {rk : ByteArray → Nat} (hrk : ∀ c p, p ∈ up c → rk p < rk c) : ∀ (n : Nat) (c : ByteArray) (O : List ByteArray), rk c < n → Ordered up O → O.Nodup →
    Ordered up (vis up n c O) ∧ (vis up n c O).Nodup ∧ (∀ a, a ∈ vis up n c O ↔ a ∈ O ∨ ∃ m, reach up m c a) := by
  intro n
  induction n with
  | zero => intro c O h; omega
  | succ n ih =>
    intro c O hn hO hN
    simp only [vis]
    by_cases hc : memS O c = true
    · rw [if_pos hc]
      refine ⟨hO, hN, fun a => ⟨.inl, ?_⟩⟩
      rintro (h | ⟨m, h⟩)
      · exact h
      · exact hO.closed.reach m c a (memS_iff.1 hc) h
    · rw [if_neg hc]
      have hcO : ¬ c ∈ O := fun h => hc (memS_iff.2 h)
      have key : ∀ (ps : List ByteArray) (O : List ByteArray), (∀ p ∈ ps, p ∈ up c) → Ordered up O → O.Nodup →
          Ordered up (ps.foldl (fun O p => vis up n p O) O) ∧ (ps.foldl (fun O p => vis up n p O) O).Nodup ∧ ∀ a, a ∈ ps.foldl (fun O p => vis up n p O) O ↔ a ∈ O ∨ ∃ p ∈ ps, ∃ m, reach up m p a := by
        intro ps
        induction ps with
        | nil => intro O _ h k; exact ⟨h, k, by simp⟩
        | cons p ps ihp =>
          intro O hps h k
          obtain ⟨i1, i2, i3⟩ := ih p O (by have := hrk c p (hps p (by simp)); omega) h k
          obtain ⟨j1, j2, j3⟩ := ihp (vis up n p O) (fun q hq => hps q (by simp [hq])) i1 i2
          refine ⟨j1, j2, fun a => ?_⟩
          simp only [List.foldl_cons, j3, i3, List.mem_cons, exists_eq_or_imp, or_assoc]
      obtain ⟨k1, k2, k3⟩ := key (up c) O (fun _ h => h) hO hN
      have hcF : ¬ c ∈ (up c).foldl (fun O p => vis up n p O) O := by
        rw [k3]
        rintro (h | ⟨p, hp, m, h⟩)
        · exact hcO h
        · have := rank_reach hrk m p c h; have := hrk c p hp; omega
      refine ⟨k1.snoc (fun p hp => (k3 p).2 (.inr ⟨p, hp, 0, rfl⟩)), ?_, fun a => ?_⟩
      · rw [List.nodup_append]
        exact ⟨k2, by simp, fun a ha b hb e => by rw [List.mem_singleton.1 hb] at e; exact hcF (e ▸ ha)⟩
      · rw [List.mem_append, k3, List.mem_singleton]
        constructor
        · rintro ((h | ⟨p, hp, m, h⟩) | rfl)
          · exact .inl h
          · exact .inr ⟨m + 1, p, hp, h⟩
          · exact .inr ⟨0, rfl⟩
        · rintro (h | ⟨m, h⟩)
          · exact .inl (.inl h)
          · cases m with
            | zero => exact .inr (h : c = a).symm
            | succ m => obtain ⟨p, hp, h⟩ := h; exact .inl (.inr ⟨p, hp, m, h⟩)
theorem vis_last {n : Nat} {c : ByteArray} : ∃ t, vis up (n + 1) c [] = t ++ [c] := ⟨_, by simp only [vis]; rw [if_neg (by simp [memS])]⟩
def addS (out : List ByteArray) (a : ByteArray) : List ByteArray := if memS out a = true then out else out ++ [a]
def abv (up : ByteArray → List ByteArray) : Nat → ByteArray → List ByteArray
  | 0, _ => []
  | n + 1, c => (up c).foldl (fun out p => (abv up n p).foldl addS out) [] ++ [c]
theorem addS_mem (out : List ByteArray) (a x : ByteArray) : x ∈ addS out a ↔ x ∈ out ∨ x = a := by
  unfold addS
  split
  · rename_i h
    have := memS_iff.1 h
    exact ⟨.inl, fun h => h.elim id (fun e => e ▸ this)⟩
  · simp
theorem addS_fold_mem : ∀ (L out : List ByteArray) (x : ByteArray), x ∈ L.foldl addS out ↔ x ∈ out ∨ x ∈ L
  | [], out, x => by simp
  | a :: L, out, x => by rw [List.foldl_cons, addS_fold_mem L, addS_mem, List.mem_cons, or_assoc]
theorem addS_noop {O : List ByteArray} {a : ByteArray} (h : a ∈ O) : addS O a = O := by unfold addS; rw [if_pos (memS_iff.2 h)]
theorem addS_new {O : List ByteArray} {a : ByteArray} (h : ¬ a ∈ O) : addS O a = O ++ [a] := by unfold addS; rw [if_neg (fun e => h (memS_iff.1 e))]
theorem addS_fold_noop : ∀ (L O : List ByteArray), (∀ x ∈ L, x ∈ O) → L.foldl addS O = O
  | [], _, _ => rfl
  | a :: L, O, h => by rw [List.foldl_cons, addS_noop (h a (by simp))]; exact addS_fold_noop L O (fun x hx => h x (by simp [hx]))
theorem addS_fold_fold : ∀ (L X O : List ByteArray), (L.foldl addS X).foldl addS O = L.foldl addS (X.foldl addS O)
  | [], _, _ => rfl
  | y :: L, X, O => by
    rw [List.foldl_cons, addS_fold_fold L, List.foldl_cons]
    congr 1
    by_cases h : y ∈ X
    · rw [addS_noop h, addS_noop ((addS_fold_mem X O y).2 (.inr h))]
    · rw [addS_new h, List.foldl_append]; rfl
theorem fold_flat {α β γ : Type} (f : γ → β → γ) (g : α → List β) : ∀ (ps : List α) (b : γ), ps.foldl (fun out p => (g p).foldl f out) b = (ps.flatMap g).foldl f b
  | [], _ => rfl
  | p :: ps, b => by rw [List.foldl_cons, fold_flat f g ps, List.flatMap_cons, List.foldl_append]
theorem mem_abv : ∀ (n : Nat) (c a : ByteArray), a ∈ abv up n c → ∃ m, reach up m c a
  | 0, _, _, h => by cases h
  | n + 1, c, a, h => by
    simp only [abv] at h
    rw [fold_flat, List.mem_append, addS_fold_mem, List.mem_singleton] at h
    rcases h with (h | h) | h
    · cases h
    · obtain ⟨p, hp, h⟩ := List.mem_flatMap.1 h
      obtain ⟨m, hm⟩ := mem_abv n p a h
      exact ⟨m + 1, p, hp, hm⟩
    · exact ⟨0, h.symm⟩
theorem vis_abv {rk : ByteArray → Nat} (hrk : ∀ c p, p ∈ up c → rk p < rk c) : ∀ (n : Nat) (c : ByteArray) (O : List ByteArray), rk c < n → Ordered up O → O.Nodup → vis up n c O = (abv up n c).foldl addS O := by
  intro n
  induction n with
  | zero => intro c O h; omega
  | succ n ih =>
    intro c O hn hO hN
    simp only [vis]
    by_cases hc : memS O c = true
    · rw [if_pos hc, addS_fold_noop]
      intro x hx
      obtain ⟨m, hm⟩ := mem_abv _ _ _ hx
      exact hO.closed.reach m c x (memS_iff.1 hc) hm
    · rw [if_neg hc]
      have hcO : ¬ c ∈ O := fun h => hc (memS_iff.2 h)
      have key : ∀ (ps : List ByteArray) (O : List ByteArray), (∀ p ∈ ps, p ∈ up c) → Ordered up O → O.Nodup → ps.foldl (fun O p => vis up n p O) O = ps.foldl (fun O p => (abv up n p).foldl addS O) O := by
        intro ps
        induction ps with
        | nil => intro O _ _ _; rfl
        | cons p ps ihp =>
          intro O hps h k
          have hr : rk p < n := by have := hrk c p (hps p (by simp)); omega
          obtain ⟨i1, i2, _⟩ := vis_ok hrk n p O hr h k
          rw [List.foldl_cons, List.foldl_cons, ihp _ (fun q hq => hps q (by simp [hq])) i1 i2, ih p O hr h k]
      rw [key (up c) O (fun _ h => h) hO hN]
      simp only [abv]
      rw [fold_flat, fold_flat, List.foldl_append, addS_fold_fold]
      rw [List.foldl_cons, List.foldl_nil, List.foldl_nil, addS_new]
      rw [addS_fold_mem]
      rintro (h | h)
      · exact hcO h
      · obtain ⟨p, hp, h⟩ := List.mem_flatMap.1 h
        obtain ⟨m, hm⟩ := mem_abv n p c h
        have := rank_reach hrk m p c hm; have := hrk c p hp; omega
theorem abv_vis {rk : ByteArray → Nat} (hrk : ∀ c p, p ∈ up c → rk p < rk c) (n : Nat) (c : ByteArray) (hn : rk c < n) : abv up n c = vis up n c [] := by
  rw [vis_abv hrk n c [] hn Ordered.nil List.nodup_nil]
  cases n with
  | zero => omega
  | succ n =>
    simp only [abv]
    rw [fold_flat, List.foldl_append, addS_fold_fold, List.foldl_nil, List.foldl_cons, List.foldl_nil, addS_new]
    rw [addS_fold_mem]
    rintro (h | h)
    · cases h
    · obtain ⟨p, hp, h⟩ := List.mem_flatMap.1 h
      obtain ⟨m, hm⟩ := mem_abv n p c h
      have := rank_reach hrk m p c hm; have := hrk c p hp; omega
def waysN (up : ByteArray → List ByteArray) : Nat → ByteArray → ByteArray → Nat
  | 0, _, _ => 0
  | n + 1, c, a => (if c = a then 1 else 0) + ((up c).map (fun p => waysN up n p a)).sum
theorem waysN_fuel {rk : ByteArray → Nat} (hrk : ∀ c p, p ∈ up c → rk p < rk c) : ∀ (n n' : Nat) (c a : ByteArray), rk c < n → rk c < n' → waysN up n c a = waysN up n' c a := by
  intro n
  induction n with
  | zero => intro n' c a h; omega
  | succ n ih =>
    intro n' c a h h'
    cases n' with
    | zero => omega
    | succ n' =>
      simp only [waysN]
      congr 2
      exact List.map_congr_left (fun p hp => ih n' p a (by have := hrk c p hp; omega) (by have := hrk c p hp; omega))
theorem sum_le {b : Nat} : ∀ (l : List Nat), (∀ x ∈ l, x ≤ b) → l.sum ≤ l.length * b
  | [], _ => by simp
  | x :: l, h => by
    have h1 := h x (by simp)
    have h2 := sum_le l (fun y hy => h y (by simp [hy]))
    rw [List.sum_cons, List.length_cons, Nat.succ_mul]; omega
theorem waysN_le (h : ∀ c, (up c).length ≤ 4) : ∀ (n : Nat) (c a : ByteArray), waysN up n c a ≤ 5 ^ n
  | 0, _, _ => by simp [waysN]
  | n + 1, c, a => by
    simp only [waysN]
    have h1 : ((up c).map (fun p => waysN up n p a)).sum ≤ ((up c).map (fun p => waysN up n p a)).length * 5 ^ n := sum_le _ (fun x hx => by
      obtain ⟨p, _, rfl⟩ := List.mem_map.1 hx
      exact waysN_le h n p a)
    rw [List.length_map] at h1
    have h2 : (up c).length * 5 ^ n ≤ 4 * 5 ^ n := Nat.mul_le_mul_right _ (h c)
    have h3 : 0 < 5 ^ n := Nat.pow_pos (by omega)
    rw [Nat.pow_succ]
    split <;> omega
def lvlN (up : ByteArray → List ByteArray) : Nat → ByteArray → Nat
  | 0, _ => 0
  | n + 1, c => (up c).foldl (fun m p => max m (lvlN up n p + 1)) 0
theorem lvlN_fuel {rk : ByteArray → Nat} (hrk : ∀ c p, p ∈ up c → rk p < rk c) : ∀ (n n' : Nat) (c : ByteArray), rk c < n → rk c < n' → lvlN up n c = lvlN up n' c := by
  intro n
  induction n with
  | zero => intro n' c h; omega
  | succ n ih =>
    intro n' c h h'
    cases n' with
    | zero => omega
    | succ n' =>
      simp only [lvlN]
      exact foldl_congr_mem (up c) 0 (fun m p hp => by rw [ih n' p (by have := hrk c p hp; omega) (by have := hrk c p hp; omega)])
end
end Go.Proofs.Ytdljclokenoogaa.Hw
end
section
namespace Go.Proofs.Ytdljclokenoogaa.Hw
section
variable {up : ByteArray → List ByteArray} {nm : List ByteArray}
def openS (up : ByteArray → List ByteArray) (out : List ByteArray) (c : ByteArray) : Bool := !memS out c && (up c).all (memS out)
def orderN (up : ByteArray → List ByteArray) (nm : List ByteArray) : Nat → List ByteArray
  | 0 => []
  | n + 1 => orderN up nm n ++ [Lib.minOfS (nm.filter (openS up (orderN up nm n)))]
theorem openS_iff {out : List ByteArray} {c : ByteArray} : openS up out c = true ↔ ¬ c ∈ out ∧ ∀ p, p ∈ up c → p ∈ out := by
  unfold openS
  rw [Bool.and_eq_true, List.all_eq_true, Bool.not_eq_true']
  constructor
  · rintro ⟨h1, h2⟩
    exact ⟨fun h => (by rw [memS_iff.2 h] at h1; cases h1), fun p hp => memS_iff.1 (h2 p hp)⟩
  · rintro ⟨h1, h2⟩
    refine ⟨?_, fun p hp => memS_iff.2 (h2 p hp)⟩
    cases h : memS out c with
    | false => rfl
    | true => exact absurd (memS_iff.1 h) h1
theorem open_ne {rk : ByteArray → Nat} (hrk : ∀ c p, p ∈ up c → rk p < rk c) (hup : ∀ c p, p ∈ up c → p ∈ nm) (hN : nm.Nodup) {out : List ByteArray} (hl : out.length < nm.length) : nm.filter (openS up out) ≠ [] := by
  have h1 : ∃ c, c ∈ nm ∧ ¬ c ∈ out := by
    refine Classical.byContradiction (fun hn => ?_)
    have := length_le_of_subset nm out hN (fun x hx => Classical.byContradiction (fun h => hn ⟨x, hx, h⟩))
    omega
  have key : ∀ (r : Nat) (c : ByteArray), rk c = r → c ∈ nm → ¬ c ∈ out → ∃ d, d ∈ nm ∧ openS up out d = true := by
    intro r
    induction r using Nat.strongRecOn with
    | ind r ih =>
      intro c hr hc hco
      by_cases h : ∀ p, p ∈ up c → p ∈ out
      · exact ⟨c, hc, openS_iff.2 ⟨hco, h⟩⟩
      · have : ∃ p, p ∈ up c ∧ ¬ p ∈ out := Classical.byContradiction (fun hn => h (fun p hp => Classical.byContradiction (fun hpo => hn ⟨p, hp, hpo⟩)))
        obtain ⟨p, hp, hpo⟩ := this
        exact ih (rk p) (by have := hrk c p hp; omega) p rfl (hup c p hp) hpo
  obtain ⟨c, hc, hco⟩ := h1
  obtain ⟨d, hd, ho⟩ := key _ c rfl hc hco
  exact List.ne_nil_of_mem (List.mem_filter.2 ⟨hd, ho⟩)
theorem orderN_len : ∀ n, (orderN up nm n).length = n
  | 0 => rfl
  | n + 1 => by simp [orderN, orderN_len n]
theorem orderN_next {rk : ByteArray → Nat} (hrk : ∀ c p, p ∈ up c → rk p < rk c) (hup : ∀ c p, p ∈ up c → p ∈ nm) (hN : nm.Nodup) {n : Nat} (hn : n < nm.length) :
    Lib.minOfS (nm.filter (openS up (orderN up nm n))) ∈ nm ∧ openS up (orderN up nm n) (Lib.minOfS (nm.filter (openS up (orderN up nm n)))) = true := by
  have := minOfS_mem _ (open_ne hrk hup hN (out := orderN up nm n) (by rw [orderN_len]; exact hn))
  exact List.mem_filter.1 this
theorem orderN_ok {rk : ByteArray → Nat} (hrk : ∀ c p, p ∈ up c → rk p < rk c) (hup : ∀ c p, p ∈ up c → p ∈ nm) (hN : nm.Nodup) : ∀ n, n ≤ nm.length → (orderN up nm n).Nodup ∧ (∀ x ∈ orderN up nm n, x ∈ nm) ∧ Ordered up (orderN up nm n)
  | 0, _ => ⟨List.nodup_nil, fun x h => (by cases h), Ordered.nil⟩
  | n + 1, h => by
    obtain ⟨h1, h2, h3⟩ := orderN_ok hrk hup hN n (by omega)
    obtain ⟨h4, h5⟩ := orderN_next hrk hup hN (n := n) (by omega)
    obtain ⟨h6, h7⟩ := openS_iff.1 h5
    simp only [orderN]
    refine ⟨?_, ?_, h3.snoc h7⟩
    · rw [List.nodup_append]
      exact ⟨h1, by simp, fun a ha b hb e => by rw [List.mem_singleton.1 hb] at e; exact h6 (e ▸ ha)⟩
    · intro x hx
      rcases List.mem_append.1 hx with hx | hx
      · exact h2 x hx
      · rw [List.mem_singleton.1 hx]; exact h4
def Incr (l : List ByteArray) : Prop := l.Pairwise (fun a b => lessS a b = true)
theorem Incr.uniq : ∀ {a b : List ByteArray}, Incr a → Incr b → (∀ x, x ∈ a ↔ x ∈ b) → a = b
  | [], [], _, _, _ => rfl
  | [], y :: b, _, _, h => by have := (h y).2 (by simp); cases this
  | x :: a, [], _, _, h => by have := (h x).1 (by simp); cases this
  | x :: a, y :: b, ha, hb, h => by
    obtain ⟨a1, a2⟩ := List.pairwise_cons.1 ha
    obtain ⟨b1, b2⟩ := List.pairwise_cons.1 hb
    have e : x = y := by
      rcases List.mem_cons.1 ((h x).1 (by simp)) with e | hx
      · exact e
      · rcases List.mem_cons.1 ((h y).2 (by simp)) with e | hy
        · exact e.symm
        · have h1 := b1 x hx
          have h2 := a1 y hy
          rw [lessS_asymm h1] at h2; cases h2
    subst e
    congr 1
    refine Incr.uniq a2 b2 (fun z => ⟨fun hz => ?_, fun hz => ?_⟩)
    · rcases List.mem_cons.1 ((h z).1 (by simp [hz])) with e | h'
      · subst e; have := a1 z hz; rw [lessS_irrefl] at this; cases this
      · exact h'
    · rcases List.mem_cons.1 ((h z).2 (by simp [hz])) with e | h'
      · subst e; have := b1 z hz; rw [lessS_irrefl] at this; cases this
      · exact h'
def sortS (xs : List ByteArray) : List ByteArray := ((xs.map (fun s => s.data.toList)).mergeSort (fun x y => decide (x ≤ y))).map (fun l => ⟨l.toArray⟩)
theorem back_data (s : ByteArray) : (⟨s.data.toList.toArray⟩ : ByteArray) = s := by simp
theorem sortS_mem (xs : List ByteArray) (x : ByteArray) : x ∈ sortS xs ↔ x ∈ xs := by
  unfold sortS
  rw [List.mem_map]
  constructor
  · rintro ⟨l, hl, rfl⟩
    have := (List.mergeSort_perm (xs.map (fun s => s.data.toList)) (fun x y => decide (x ≤ y))).mem_iff.1 hl
    obtain ⟨s, hs, rfl⟩ := List.mem_map.1 this
    rw [back_data]; exact hs
  · intro hx
    exact ⟨x.data.toList, (List.mergeSort_perm _ _).mem_iff.2 (List.mem_map.2 ⟨x, hx, rfl⟩), back_data x⟩
theorem sortS_len (xs : List ByteArray) : (sortS xs).length = xs.length := by simp [sortS]
theorem le_lessS {a b : ByteArray} (h : a.data.toList ≤ b.data.toList) (hne : a ≠ b) : lessS a b = true := by
  cases k : lessS a b with
  | true => rfl
  | false =>
    exfalso
    cases k2 : lessS b a with
    | false => exact hne (lessS_tri k k2)
    | true =>
      unfold lessS at k2
      rw [Lib.toList_data, Lib.toList_data, bl_lt] at k2
      exact h k2
theorem sortS_incr {xs : List ByteArray} (h : xs.Nodup) : Incr (sortS xs) := by
  have h1 : ((xs.map (fun s => s.data.toList)).mergeSort (fun x y => decide (x ≤ y))).Pairwise (fun a b => (decide (a ≤ b)) = true) :=
    List.pairwise_mergeSort (fun a b c h k => by simp at h k ⊢; exact List.le_trans h k) (fun a b => by simp; exact List.le_total a b) _
  have h2 : ((xs.map (fun s => s.data.toList)).mergeSort (fun x y => decide (x ≤ y))).Nodup := by
    refine (List.mergeSort_perm _ _).nodup_iff.2 ?_
    rw [List.Nodup, List.pairwise_map]
    exact h.imp (fun hne e => hne (ByteArray.ext (Array.toList_inj.1 e)))
  unfold Incr sortS
  rw [List.pairwise_map]
  refine (h1.and h2).imp ?_
  rintro a b ⟨h3, h4⟩
  refine le_lessS ?_ (fun e => h4 ?_)
  · simpa using h3
  · have := congrArg (fun s : ByteArray => s.data.toList) e
    simpa using this
end
end Go.Proofs.Ytdljclokenoogaa.Hw
end
section
namespace Go.Proofs.Ytdljclokenoogaa.Hw
open Go.RowKit Go.Sort Go.Proofs.Ytdljclokenoogaa.Hp Go.Proofs.YtdljclokenoogaaW.PrintWords Go.Proofs.YtdljclokenoogaaW.PrintLast Go.Proofs.YtdljclokenoogaaW.PrintMore
theorem cell_of_heap {W : World} {g j : Nat} {cur : Array Value} {e : TypeId} (h : W.heap[g]? = some (.cells cur e (0, 0))) : W.cell? ⟨g, j, none⟩ = cur[j]? := by
  simp only [World.cell?, h]; rfl
theorem frozen_of_heap {W : World} {g j : Nat} {cur : Array Value} {e : TypeId} (h : W.heap[g]? = some (.cells cur e (0, 0))) : W.frozen? ⟨g, j, none⟩ = false := by
  simp only [World.frozen?, h]; simp
theorem sorted_row {W : World} {g n : Nat} {cur : Array Value} {e : TypeId} (h : W.heap[g]? = some (.cells cur e (0, 0))) (os : Array Obj) (d : Array (List UInt8)) :
    (grow (putRow encStr (Sort.ahead W n) g 0 d) os).heap[g]? = some (.cells (putCells encStr 0 d cur) e (0, 0)) ∧ W.grownBy (grow (putRow encStr (Sort.ahead W n) g 0 d) os) (some g) := by
  have hlt := (Array.getElem?_eq_some_iff.1 h).1
  have hsz : (putRow encStr (Sort.ahead W n) g 0 d).heap.size = W.heap.size := by simp [putRow, mapBlock, Sort.ahead]
  have hb : ∀ k, (putRow encStr (Sort.ahead W n) g 0 d).heap[k]? = if g = k then (W.heap[k]?).map (onCells (putCells encStr 0 d)) else W.heap[k]? := by
    intro k
    simp only [putRow, mapBlock, Sort.ahead, Array.getElem?_modify]
  refine ⟨?_, ⟨rfl, rfl, rfl, by rw [size_grow, hsz]; omega, fun k hk hne => ?_⟩⟩
  · rw [heap_grow_old _ _ (by rw [hsz]; exact hlt), hb, if_pos rfl, h]; rfl
  · rw [heap_grow_old _ _ (by rw [hsz]; exact hk), hb, if_neg (fun e => hne (by rw [e]))]
theorem sortRow_calls {W : World} {base : Nat} {ok : Nat → Prop} {v : Value} {xs : List ByteArray} (h : Row W base ok v xs) (hl : xs.length ≤ 1100000000000) :
    Calls Try.prog 64 #[v] W fun e W' => e = .returned (.tuple #[]) ∧ Row W' base ok v (sortS xs) ∧ W.grownBy W' v.ownBlock := by
  obtain ⟨hR, hnil⟩ := h
  have hown := Kd.own_of_R hR
  obtain ⟨hlen, ⟨rfl, hn⟩ | ⟨g, cap, cur, rfl, hg, hh, hcap, hmax, hsz, htk⟩⟩ := hown
  · have hx : xs = [] := List.length_eq_zero_iff.1 hn
    subst hx
    refine (Try.slices_Sort_string_none none 0 W).mono ?_
    rintro e W' ⟨rfl, rfl⟩
    exact ⟨rfl, by rw [show sortS [] = [] by simp [sortS]]; exact ⟨hR, hnil⟩, ⟨rfl, rfl, rfl, Nat.le_refl _, fun _ _ _ => rfl⟩⟩
  · have hsl : (xs.map (fun s => s.data.toList)).length = xs.length := by simp
    have hnn : xs ≠ [] := fun e => by have := hnil e; cases this
    have hcell : ∀ j, j < xs.length → cur[j]? = xs[j]?.map Value.string := by
      intro j hj
      have h1 : (cur.toList.take (xs.length * 1))[j]? = cur.toList[j]? := by rw [List.getElem?_take, if_pos (by omega)]
      rw [htk] at h1
      rw [← Array.getElem?_toList, ← h1]
      simp [encs]
    have hH : Holds encStr W g 0 (xs.map (fun s => s.data.toList)).toArray := by
      intro j hj
      have hj' : j < xs.length := by simpa using hj
      rw [Nat.zero_add]
      refine ⟨?_, frozen_of_heap hh⟩
      rw [cell_of_heap hh, hcell j hj', List.getElem?_eq_getElem hj']
      rw [getElem!_pos _ j hj]
      simp
    have hcall := Try.slices_Sort_string g 0 cap (xs.map (fun s => s.data.toList)) W hH (Array.getElem?_eq_some_iff.1 hh).1 (by rw [hsl]; omega)
    rw [hsl] at hcall
    refine hcall.mono ?_
    rintro e W' ⟨rfl, n, os, rfl⟩
    obtain ⟨h1, h2⟩ := sorted_row (n := n) hh os ((xs.map (fun s => s.data.toList)).mergeSort fun x y => decide (x ≤ y)).toArray
    obtain ⟨ss, hss⟩ : ∃ ss, (xs.map (fun s => s.data.toList)).mergeSort (fun x y => decide (x ≤ y)) = ss := ⟨_, rfl⟩
    have hssl : ss.length = xs.length := by rw [← hss]; simp
    have hso : sortS xs = ss.map (fun l => ⟨l.toArray⟩) := by unfold sortS; rw [hss]
    rw [hss] at h1 h2 ⊢
    refine ⟨rfl, ⟨Kd.R_of_own (enc := Value.string) (h1 := fun _ => rfl) ?_ hR.1, fun e => absurd (by have := congrArg List.length e; rw [sortS_len] at this; exact List.length_eq_zero_iff.1 this) hnn⟩, h2⟩
    rw [sortS_len]
    refine ⟨by simp [encs, sortS_len], .inr ⟨g, cap, _, rfl, hg, h1, hcap, hmax, by simp [putCells]; simpa using hsz, ?_⟩⟩
    apply List.ext_getElem?
    intro j
    rw [List.getElem?_take]
    by_cases hj : j < xs.length
    · rw [if_pos (by omega), hso]
      have hjs : j < ss.length := by omega
      have hjc : j < cur.size := by omega
      simp only [Array.getElem?_toList, putCells, Array.getElem?_mapIdx, Array.getElem?_eq_getElem hjc, Option.map_some]
      rw [if_pos (by simp; omega)]
      simp [encs, hjs]
    · rw [if_neg (by omega)]
      rw [List.getElem?_eq_none (by simp [encs, sortS_len]; omega)]
end Go.Proofs.Ytdljclokenoogaa.Hw
end
section
namespace Go.Proofs.Ytdljclokenoogaa.Hw
open Go.RowKit Go.Proofs.Ytdljclokenoogaa.Hp Go.Proofs.YtdljclokenoogaaW.PrintWords Go.Proofs.YtdljclokenoogaaW.PrintLast Go.Proofs.YtdljclokenoogaaW.PrintMore
abbrev Sl := Option Addr × Nat × Nat
def encSl (x : Sl) : Value := .slice x.1 x.2.1 x.2.2
def kSl : Kd Sl := Kd.scalar encSl (fun _ => rfl)
def nilSl : Sl := (none, 0, 0)
theorem flatSl : FlatK kSl := ⟨rfl, fun _ _ _ _ _ _ _ _ h => h⟩
structure Rws (W : World) (base : Nat) (v : Value) (vs : List Sl) (xss : List (List ByteArray)) : Prop where
  own : RowK kSl 25 W base v vs
  len : vs.length = xss.length
  row : ∀ i, i < xss.length → Row W base (fun _ => True) (encSl (vs.getD i nilSl)) (xss.getD i [])
  ne : ∀ i j, i < j → j < vs.length → (encSl (vs.getD i nilSl)).ownBlock = none ∨ (encSl (vs.getD i nilSl)).ownBlock ≠ (encSl (vs.getD j nilSl)).ownBlock
section
variable {W W' : World} {base : Nat} {v : Value} {vs : List Sl} {xss : List (List ByteArray)}
theorem Rws.nil (W : World) (base : Nat) : Rws W base (.slice none 0 0) [] [] := ⟨RowK.nil _ _ _ _, rfl, fun i h => by simp at h, fun i j _ h => by simp at h⟩
theorem Row.step1 {ok : Nat → Prop} {u : Value} {xs : List ByteArray} (h : Row W base ok u xs) (hm : ∀ k, u.ownBlock = some k → W'.heap[k]? = W.heap[k]?) : Row W' base ok u xs := ⟨Kd.R_of_own (own_move (Kd.own_of_R h.1) hm) h.1.1, h.2⟩
theorem Rws.step (h : Rws W base v vs xss) (h0 : ∀ k, v.ownBlock = some k → W'.heap[k]? = W.heap[k]?) (h1 : ∀ i, i < xss.length → ∀ k, (encSl (vs.getD i nilSl)).ownBlock = some k → W'.heap[k]? = W.heap[k]?) : Rws W' base v vs xss :=
  ⟨h.own.step flatSl h0, h.len, fun i hi => (h.row i hi).step1 (h1 i hi), h.ne⟩
theorem Rws.later (h : Rws W base v vs xss) (hb : Below W.heap.size W W') : Rws W' base v vs xss :=
  h.step (fun k hk => hb.block k (h.own.blocks k hk).2.1) (fun i hi k hk => hb.block k ((h.row i hi).blocks k hk).2.2.1)
theorem Rws.alloc (h : Rws W base v vs xss) (o : Obj) : Rws (W.alloc o) base v vs xss := h.later ((Below.refl _ _).alloc (Nat.le_refl _) _)
theorem Rws.oth {H : Nat} (h : Rws W base v vs xss) (hb : Oth H W W') : Rws W' base v vs xss :=
  h.step (fun k hk => by obtain ⟨_, _, cells, hc⟩ := h.own.blocks k hk; exact hb.block k (.inr ⟨_, hc, rfl⟩)) (fun i hi k hk => by obtain ⟨_, _, _, cells, hc⟩ := (h.row i hi).blocks k hk; exact hb.block k (.inr ⟨_, hc, rfl⟩))
theorem Rws.left {H : Nat} (h : Rws W base v vs xss) (hb : Left H W W') : Rws W' base v vs xss :=
  h.step (fun k hk => by obtain ⟨_, _, cells, hc⟩ := h.own.blocks k hk; exact hb.block k (.inr ⟨_, hc, rfl⟩)) (fun i hi k hk => by obtain ⟨_, _, _, cells, hc⟩ := (h.row i hi).blocks k hk; exact hb.block k (.inr ⟨_, hc, rfl⟩))
theorem Rws.kept (h : Rws W base v vs xss) {r : Nat} (hg : W.grownBy W' (some r)) (hr : r < base) : Rws W' base v vs xss :=
  h.step (fun k hk => hg.block k (h.own.blocks k hk).2.1 (fun e => by have := (h.own.blocks k hk).1; injection e with e; omega)) (fun i hi k hk => hg.block k ((h.row i hi).blocks k hk).2.2.1 (fun e => by have := ((h.row i hi).blocks k hk).1; injection e with e; omega))
theorem Rws.apart (h : Rws W base v vs xss) {i : Nat} (hi : i < xss.length) {k : Nat} (hk : (encSl (vs.getD i nilSl)).ownBlock = some k) : v.ownBlock ≠ some k := fun e => by
  obtain ⟨_, _, cells, hc⟩ := h.own.blocks k e
  obtain ⟨_, _, _, cells', hc'⟩ := (h.row i hi).blocks k hk
  rw [hc] at hc'
  injection hc' with hc'
  injection hc' with _ hc'
  exact absurd hc' (by decide)
theorem Rws.push (h : Rws W base v vs xss) {v' : Value} (hg : W.grownBy W' v.ownBlock) (hr : RowK kSl 25 W' base v' (vs ++ [nilSl])) : Rws W' base v' (vs ++ [nilSl]) (xss ++ [[]]) := by
  have hl := h.len
  refine ⟨hr, by simp [hl], fun i hi => ?_, fun i j hij hj => ?_⟩
  · by_cases e : i < xss.length
    · have e1 : (vs ++ [nilSl]).getD i nilSl = vs.getD i nilSl := by simp [List.getD_eq_getElem?_getD, List.getElem?_append_left (show i < vs.length by omega)]
      have e2 : (xss ++ [[]]).getD i [] = xss.getD i [] := by simp [List.getD_eq_getElem?_getD, List.getElem?_append_left e]
      rw [e1, e2]
      exact (h.row i e).step1 (fun k hk => hg.block k ((h.row i e).blocks k hk).2.2.1 (fun e' => h.apart e hk e'.symm))
    · have e3 : i = xss.length := by simp at hi; omega
      subst e3
      have e1 : (vs ++ [nilSl]).getD xss.length nilSl = nilSl := by rw [← hl]; simp [List.getD_eq_getElem?_getD]
      have e2 : (xss ++ [([] : List ByteArray)]).getD xss.length [] = [] := by simp [List.getD_eq_getElem?_getD]
      rw [e1, e2]
      exact Row.nil _ _ _
  · have hi : i < vs.length := by simp at hj; omega
    have e1 : (vs ++ [nilSl]).getD i nilSl = vs.getD i nilSl := by simp [List.getD_eq_getElem?_getD, List.getElem?_append_left hi]
    by_cases e : j < vs.length
    · have e2 : (vs ++ [nilSl]).getD j nilSl = vs.getD j nilSl := by simp [List.getD_eq_getElem?_getD, List.getElem?_append_left e]
      rw [e1, e2]; exact h.ne i j hij e
    · have e3 : j = vs.length := by simp at hj; omega
      subst e3
      have e2 : (vs ++ [nilSl]).getD vs.length nilSl = nilSl := by simp [List.getD_eq_getElem?_getD]
      rw [e1, e2]
      cases hk : (encSl (vs.getD i nilSl)).ownBlock with
      | none => exact .inl rfl
      | some k => exact .inr (by simp [encSl, nilSl, Value.ownBlock])
theorem getD_set {α : Type} (l : List α) (d i : Nat) (x z : α) (hd : d < l.length) : (l.set d x).getD i z = if d = i then x else l.getD i z := by
  simp only [List.getD_eq_getElem?_getD, List.getElem?_set]
  by_cases h : d = i
  · subst h; simp [hd]
  · simp [h]
theorem Rws.put (h : Rws W base v vs xss) {d : Nat} (hd : d < xss.length) {gO n cO : Nat} (hv : v = .slice (some ⟨gO, 0, none⟩) n cO) {w1 : World} {u : Sl} {ys : List ByteArray} (hR : Row w1 base (fun _ => True) (encSl u) ys) (hG : W.grownBy w1 (encSl (vs.getD d nilSl)).ownBlock)
    (hat : (encSl u).ownBlock = (encSl (vs.getD d nilSl)).ownBlock ∨ ∃ b, (encSl u).ownBlock = some b ∧ W.heap.size ≤ b) : Rws (w1.setCell ⟨gO, d, none⟩ (encSl u)) base v (vs.set d u) (xss.set d ys) := by
  have hl := h.len
  have hdv : d < vs.length := by omega
  have hnO : ∀ k, (encSl (vs.getD d nilSl)).ownBlock = some k → k ≠ gO := fun k hk e => h.apart hd hk (by rw [hv, e]; rfl)
  have hvO : v.ownBlock = some gO := by rw [hv]; rfl
  have hOlt := (h.own.blocks gO hvO).2.1
  have hown1 : RowK kSl 25 w1 base v vs := h.own.step flatSl (fun k hk => by
    rw [hvO] at hk; cases hk
    exact hG.block gO hOlt (fun e => hnO gO e.symm rfl))
  have hn : n = vs.length := by
    obtain ⟨A, c, e, _⟩ := h.own.reads
    rw [hv] at e; cases e; rfl
  have hneu : ∀ i, i < xss.length → i ≠ d → ∀ k, (encSl (vs.getD i nilSl)).ownBlock = some k → (encSl u).ownBlock ≠ some k := by
    intro i hi hid k hk e
    rcases hat with hat | ⟨b, hb, hle⟩
    · rw [hat] at e
      rcases Nat.lt_or_gt_of_ne hid with h1 | h1
      · rcases h.ne i d h1 hdv with h2 | h2
        · rw [h2] at hk; cases hk
        · exact h2 (hk.trans e.symm)
      · rcases h.ne d i h1 (by omega) with h2 | h2
        · rw [h2] at e; cases e
        · exact h2 (e.trans hk.symm)
    · rw [hb] at e; cases e
      have := ((h.row i hi).blocks _ hk).2.2.1
      omega
  have huO : (encSl u).ownBlock ≠ some gO := fun e => by
    obtain ⟨_, _, _, cells, hc⟩ := hR.blocks gO e
    obtain ⟨_, _, cells', hc'⟩ := hown1.blocks gO hvO
    rw [hc] at hc'
    injection hc' with hc'
    injection hc' with _ hc'
    exact absurd hc' (by decide)
  refine ⟨⟨?_, fun e => ?_⟩, by simp [hl], fun i hi => ?_, fun i j hij hj => ?_⟩
  · have hp := hown1.1
    rw [hv, hn] at hp ⊢
    have := Kd.R_put hp (d : Int) u
    rw [Int.toNat_natCast] at this
    exact this.1
  · have : vs = [] := by have := congrArg List.length e; simp at this; exact List.length_eq_zero_iff.1 (by simpa using this)
    rw [this] at hdv; simp at hdv
  · rw [getD_set _ _ _ _ _ hdv, getD_set _ _ _ _ _ hd]
    by_cases e : d = i
    · rw [if_pos e, if_pos e]
      exact hR.step1 (fun k hk => Below.heap_setCell _ _ _ _ (fun e' => huO (by rw [hk]; exact congrArg some e')))
    · rw [if_neg e, if_neg e]
      have hi' : i < xss.length := by simpa using hi
      exact (h.row i hi').step1 (fun k hk => (Below.heap_setCell _ _ _ _ (fun e' => h.apart hi' hk (by rw [hvO]; exact congrArg some e'.symm))).trans (hG.block k ((h.row i hi').blocks k hk).2.2.1 (fun e' => by
        rcases Nat.lt_or_gt_of_ne e with h1 | h1
        · rcases h.ne d i h1 (by omega) with h2 | h2
          · rw [h2] at e'; cases e'
          · exact h2 (e'.symm.trans hk.symm)
        · rcases h.ne i d h1 hdv with h2 | h2
          · rw [h2] at hk; cases hk
          · exact h2 (hk.trans e'))))
  · have hj' : j < vs.length := by simpa using hj
    rw [getD_set _ _ _ _ _ hdv, getD_set _ _ _ _ _ hdv]
    by_cases e1 : d = i
    · subst e1
      rw [if_pos rfl, if_neg (by omega)]
      cases hk : (encSl (vs.getD j nilSl)).ownBlock with
      | none =>
        cases hu : (encSl u).ownBlock with
        | none => exact .inl rfl
        | some k => exact .inr (by simp)
      | some k => exact .inr (hneu j (by omega) (by omega) k hk)
    · rw [if_neg e1]
      by_cases e2 : d = j
      · subst e2
        rw [if_pos rfl]
        cases hk : (encSl (vs.getD i nilSl)).ownBlock with
        | none => exact .inl rfl
        | some k => exact .inr (fun e => hneu i (by omega) (by omega) k hk e.symm)
      · rw [if_neg e2]; exact h.ne i j hij hj'
theorem Rws.cellAt {gO nn cO : Nat} (h : Rws W base (.slice (some ⟨gO, 0, none⟩) nn cO) vs xss) {d : Nat} (hd : d < xss.length) : nn = vs.length ∧ W.cell? ⟨gO, d, none⟩ = some (encSl (vs.getD d nilSl)) ∧ W.frozen? ⟨gO, d, none⟩ = false := by
  have hl := h.len
  have hn : nn = vs.length := by
    obtain ⟨A, c, e, _⟩ := h.own.reads
    cases e; rfl
  subst hn
  have ho := Kd.own_of_R h.own.1
  refine ⟨rfl, ?_, ho.frozenAt d⟩
  rw [ho.cellAt d (by omega)]
  have hdv : d < vs.length := by omega
  simp [encs, List.getD_eq_getElem?_getD, hdv]
theorem Rws.turn (h : Rws W base v vs xss) {d : Nat} (hd : d < xss.length) {w1 : World} {ys : List ByteArray} (hR : Row w1 base (fun _ => True) (encSl (vs.getD d nilSl)) ys) (hG : W.grownBy w1 (encSl (vs.getD d nilSl)).ownBlock) : Rws w1 base v vs (xss.set d ys) := by
  have hl := h.len
  have hdv : d < vs.length := by omega
  refine ⟨h.own.step flatSl (fun k hk => hG.block k (h.own.blocks k hk).2.1 (fun e => h.apart hd e.symm hk)), by simp [hl], fun i hi => ?_, h.ne⟩
  rw [getD_set _ _ _ _ _ hd]
  by_cases e : d = i
  · subst e; rw [if_pos rfl]; exact hR
  · rw [if_neg e]
    have hi' : i < xss.length := by simpa using hi
    exact (h.row i hi').step1 (fun k hk => hG.block k ((h.row i hi').blocks k hk).2.2.1 (fun e' => by
      rcases Nat.lt_or_gt_of_ne e with h1 | h1
      · rcases h.ne d i h1 (by omega) with h2 | h2
        · rw [h2] at e'; cases e'
        · exact h2 (e'.symm.trans hk.symm)
      · rcases h.ne i d h1 hdv with h2 | h2
        · rw [h2] at hk; cases hk
        · exact h2 (hk.trans e')))
theorem Rws.made (h : Rws W base v vs xss) : (Kd.slice 9 Kd.string).R 25 W base (fun _ => True) v xss := by
  obtain ⟨_, inner, hown, hr⟩ := h.own.1
  have hl := h.len
  have hsz : kSl.sz = (Kd.slice 9 Kd.string).sz := rfl
  refine ⟨fun _ _ => trivial, inner, by rw [← hl]; exact hown, ⟨by rw [← hl]; exact hr.1, fun j p hj => ?_⟩⟩
  obtain ⟨hjl, hp⟩ := List.getElem?_eq_some_iff.1 hj
  have hjv : j < vs.length := by omega
  have h1 := hr.2 j _ (List.getElem?_eq_getElem hjv)
  have h2 : (inner.drop (j * 1)).take 1 = [encSl vs[j]] := h1
  have h3 := h.row j hjl
  have e1 : vs.getD j nilSl = vs[j] := by simp [List.getD_eq_getElem?_getD, hjv]
  have e2 : xss.getD j [] = p := by simp [List.getD_eq_getElem?_getD, hjl, hp]
  rw [e1, e2] at h3
  refine ⟨encSl vs[j], h2, ?_⟩
  refine Kd.R_flat (fun hm => hm) h3.1 (fun k hk _ => ⟨trivial, fun e => ?_⟩)
  exact h.apart hjl (by rw [e1]; exact hk) e.symm
end
end Go.Proofs.Ytdljclokenoogaa.Hw
end
section
namespace Go.Proofs.Ytdljclokenoogaa.Hw
open Go.RowKit Go.Proofs.Ytdljclokenoogaa.Hp Go.Proofs.YtdljclokenoogaaW.PrintWords Go.Proofs.YtdljclokenoogaaW.PrintLast Go.Proofs.YtdljclokenoogaaW.PrintMore
attribute [local go_sem] Oper.semAt_some
structure GrOk (w : World) (A0 : Option Addr) (c0 B : Nat) (l : List S61) (m : List (ByteArray × Value)) : Prop where
  r : k61.C w A0 l.length l
  cap : l.length ≤ c0
  M : IsMap w B m
  K : IsKinds m l
  ok : (checkOf l).1 = 0
theorem GrOk.later {w W : World} {A0 : Option Addr} {c0 B : Nat} {l : List S61} {m : List (ByteArray × Value)} (h : GrOk w A0 c0 B l m) (hb : Below w.heap.size w W) : GrOk W A0 c0 B l m :=
  ⟨Kd.C_below h.r hb, h.cap, h.M.below hb h.M.lt, h.K, h.ok⟩
theorem GrOk.above {w : World} {A0 : Option Addr} {c0 B : Nat} {l : List S61} {m : List (ByteArray × Value)} (h : GrOk w A0 c0 B l m) {c : ByteArray} (hc : c ∈ names l) :
    Calls Try.prog 68 #[.agg #[.slice A0 l.length c0, .map (some B)], .string c] w fun e w' => ∃ v, e = .returned v ∧ Row w' w.heap.size (fun _ => True) v (anc l c) ∧ Below w.heap.size w w' := by
  obtain ⟨hl, hal, _, hrg⟩ := checkOk h.ok
  obtain ⟨rk, hrk, hrn⟩ := rank_of_ring hrg
  exact above_calls A0 c0 B l m c w h.r h.cap (by omega) (checkOk_up hal) h.M h.K rk hrk (l.length + 1) (hrn c) hc
theorem GrOk.has {w : World} {A0 : Option Addr} {c0 B : Nat} {l : List S61} {m : List (ByteArray × Value)} (h : GrOk w A0 c0 B l m) {c a : ByteArray} (hc : c ∈ names l) :
    Calls Try.prog 70 #[.agg #[.slice A0 l.length c0, .map (some B)], .string c, .string a] w fun e w' => e = .returned (.bool (memS (anc l c) a)) ∧ Below w.heap.size w w' := by
  obtain ⟨hl, hal, _, hrg⟩ := checkOk h.ok
  obtain ⟨rk, hrk, hrn⟩ := rank_of_ring hrg
  exact has_calls A0 c0 B l m c a w h.r h.cap (by omega) (checkOk_up hal) h.M h.K rk hrk (l.length + 1) (hrn c) hc
set_option maxRecDepth 100000 in
set_option maxHeartbeats 4000000 in
theorem below1_calls {w : World} {A0 : Option Addr} {c0 B : Nat} {l : List S61} {m : List (ByteArray × Value)} (h : GrOk w A0 c0 B l m) (bg bc : Nat) (d c : ByteArray) (hd : d ∈ names l)
    (h0 : w.cell? ⟨bg, 0, none⟩ = some (.slice A0 l.length c0)) (h1 : w.cell? ⟨bg, 1, none⟩ = some (.map (some B))) (hc : w.cell? ⟨bc, 0, none⟩ = some (.string c)) :
    Calls Try.prog 81 #[.string d, .pointer (some ⟨bg, 0, none⟩), .pointer (some ⟨bc, 0, none⟩)] w fun e w' => e = .returned (.bool (memS (anc l d) c)) ∧ Below w.heap.size w w' := by
  refine (callsIn_wide (n := 20)).1 ?_
  refine callsIn_of_wp Try.func81 rfl trivial ?_
  simp only [Try.ntmps81, List.size_toArray, List.length_cons, List.length_nil, Nat.reduceAdd, Nat.reduceSub, Array.replicate_succ, Array.replicate_zero, List.push_toArray, List.append_toArray, List.nil_append, List.cons_append]
  have HC := Lib.hid (h.has (a := c) hd)
  clear h
  gi_wp2_with (gi_at_call 70; refine (callsIn_wide.2 HC.out).mono ?_; rintro e w2 ⟨rfl, hb2⟩)
  go_ret
  exact ⟨rfl, hb2⟩
def belowOf (l : List S61) (c : ByteArray) : List ByteArray × Int := if askedOf l [c] = 0 then ((names l).filter (fun d => memS (anc l d) c), 0) else ([], askedOf l [c])
set_option maxRecDepth 100000 in
set_option maxHeartbeats 4000000 in
theorem below_calls (A0 : Option Addr) (c0 : Nat) (l : List S61) (c : ByteArray) (w : World) (hr : k61.C w A0 l.length l) (hc : l.length ≤ c0) :
    Calls Try.prog 38 #[.slice A0 l.length c0, .string c] w fun e w' => ∃ v, e = .returned (.tuple #[v, .int .i64 (belowOf l c).2]) ∧ Row w' w.heap.size (fun _ => True) v (belowOf l c).1 ∧ Below w.heap.size w w' := by
  refine (callsIn_wide (n := 20)).1 ?_
  refine callsIn_of_wp Try.func38 rfl trivial ?_
  simp only [Try.ntmps38, List.size_toArray, List.length_cons, List.length_nil, Nat.reduceAdd, Nat.reduceSub, Array.replicate_succ, Array.replicate_zero, List.push_toArray, List.append_toArray, List.nil_append, List.cons_append]
  have HR := Lib.hid hr
  clear hr
  obtain ⟨W0, hW0⟩ : ∃ W0, w.alloc (.cells #[.string c] 9) = W0 := ⟨_, rfl⟩
  have hB0 : Below w.heap.size w W0 := by rw [← hW0]; exact (Below.refl _ _).alloc (Nat.le_refl _) _
  have hs0 : W0.heap.size = w.heap.size + 1 := by rw [← hW0]; simp
  have hcc : W0.cell? ⟨w.heap.size, 0, none⟩ = some (.string c) := by rw [← hW0]; exact cell_new _ _ _ _
  have hb1 : Below w.heap.size w (W0.alloc (.cells #[.string c] 9)) := hB0.alloc hB0.size _
  have hl1 := lit1 W0 c
  rw [hs0] at hl1
  have HL := Lib.hid hl1
  clear hl1
  gi_wp2_with fail
  refine (callsIn_wide.2 (right_calls A0 (some ⟨w.heap.size + 1, 0, none⟩) c0 1 l [c] _ (Kd.C_below HR.out hb1) hc HL.out)).mono ?_
  rintro e w1 ⟨hb2, ⟨he, rfl⟩ | ⟨he, B, m, rfl, hBB, hM, hK⟩⟩
  · have hB1 := hb1.trans (hb2.mono (by simp; omega))
    obtain ⟨er, her⟩ : ∃ er, askedOf l [c] = er := ⟨_, rfl⟩
    have hio : belowOf l c = ([], er) := by unfold belowOf; rw [if_neg he, her]
    rw [her] at he ⊢
    have heb : (er != 0) = true := by simpa using he
    have HIO := Lib.hid hio
    clear her hio he
    gi_wp2_with fail
    go_ret2
    exact ⟨.slice none 0 0, by rw [HIO.out]; rfl, by rw [HIO.out]; exact Row.nil _ _ _, by first | exact hB1 | exact hB1.alloc hB1.size _⟩
  · have hB1 := hb1.trans (hb2.mono (by simp; omega))
    have hio : belowOf l c = ((names l).filter (fun d => memS (anc l d) c), 0) := by unfold belowOf; rw [if_pos he]
    have hck := (askedOk he).1
    obtain ⟨WL, hWL⟩ : ∃ WL, w1.alloc (.cells #[.slice A0 l.length c0, .map (some B)] 99) = WL := ⟨_, rfl⟩
    have hbL : Below w1.heap.size w1 WL := by rw [← hWL]; exact (Below.refl _ _).alloc (Nat.le_refl _) _
    have hBL := hB1.trans (hbL.mono hB1.size)
    have hg0 : WL.cell? ⟨w1.heap.size, 0, none⟩ = some (.slice A0 l.length c0) := by rw [← hWL]; exact cell_new _ _ _ _
    have hg1 : WL.cell? ⟨w1.heap.size, 1, none⟩ = some (.map (some B)) := by rw [← hWL]; exact cell_new _ _ _ _
    have hcc1 : w1.cell? ⟨w.heap.size, 0, none⟩ = some (.string c) := (hb2.cell (p := ⟨w.heap.size, 0, none⟩) (by simp; omega)).trans (cell_alloc hcc _)
    have hccL : WL.cell? ⟨w.heap.size, 0, none⟩ = some (.string c) := by rw [← hWL]; exact cell_alloc hcc1 _
    have hG : GrOk WL A0 c0 B l m := ⟨Kd.C_below HR.out hBL, hc, hM.below hbL hM.lt, hK, hck⟩
    have hP : Pred WL 81 #[.pointer (some ⟨w1.heap.size, 0, none⟩), .pointer (some ⟨w.heap.size, 0, none⟩)] (names l) (fun d => memS (anc l d) c) := by
      refine ⟨enters_of Try.func81 (by kernel_rfl) rfl, fun x hx W hW => ?_⟩
      simp only [List.append_toArray, List.cons_append, List.nil_append]
      exact below1_calls (hG.later hW) w1.heap.size w.heap.size x c hx ((hW.cell (p := ⟨w1.heap.size, 0, none⟩) (World.block_lt_of_cell? _ _ hg0)).trans hg0) ((hW.cell (p := ⟨w1.heap.size, 1, none⟩) (World.block_lt_of_cell? _ _ hg1)).trans hg1) ((hW.cell (p := ⟨w.heap.size, 0, none⟩) (World.block_lt_of_cell? _ _ hccL)).trans hccL)
    have hcall := names_calls A0 c0 (.map (some B)) l _ _ _ WL hG.r hc (by have := (checkOk hck).1; omega) hP
    have HC := Lib.hid hcall
    have HIO := Lib.hid hio
    clear hcall hio he hM hK hP hG hck
    gi_wp2_with (gi_at_call 59; refine (callsIn_wide.2 HC.out).mono ?_; rintro e w2 ⟨v, rfl, hR2, hb3⟩)
    go_ret2
    exact ⟨v, by rw [HIO.out]; rfl, by rw [HIO.out]; exact ⟨Kd.R_lower hR2.1 hBL.size, hR2.2⟩, hBL.trans (hb3.mono hBL.size)⟩
end Go.Proofs.Ytdljclokenoogaa.Hw
end
section
namespace Go.Proofs.Ytdljclokenoogaa.Hw
open Go.RowKit Go.Proofs.Ytdljclokenoogaa.Hp Go.Proofs.YtdljclokenoogaaW.PrintWords Go.Proofs.YtdljclokenoogaaW.PrintLast Go.Proofs.YtdljclokenoogaaW.PrintMore
attribute [local go_sem] Oper.semAt_some
def val (D : List (ByteArray × Nat)) (k : ByteArray) : Nat := (mget D k).getD 0
theorem val_nums (D : List (ByteArray × Nat)) (k : ByteArray) : (mget (nums D) k).getD (.int .i64 0) = .int .i64 (val D k : Int) := by
  rw [mget_nums]; unfold val; cases mget D k <;> rfl
theorem val_mput (D : List (ByteArray × Nat)) (k k' : ByteArray) (v : Nat) : val (mput D k v) k' = if k' = k then v else val D k' := by
  unfold val; rw [mget_mput]; split <;> rfl
structure WySt (w : World) (A0 : Option Addr) (n c0 B bg bm : Nat) (m : List (ByteArray × Value)) (D : List (ByteArray × Nat)) (v : Value) (os : List ByteArray) (W : World) : Prop where
  hB : Below w.heap.size w W
  g0 : W.cell? ⟨bg, 0, none⟩ = some (.slice A0 n c0)
  g1 : W.cell? ⟨bg, 1, none⟩ = some (.map (some B))
  mp : W.cell? ⟨bm, 0, none⟩ = some (.map (some (bg + 1)))
  M : IsMap W (bg + 1) (nums D)
  G : IsMap W B m
  row : Row W (bm + 1) (fun _ => True) v os
  l1 : w.heap.size ≤ B
  l2 : B < bg
  l3 : bg + 1 < bm
section
variable {w : World} {A0 : Option Addr} {n c0 B bg bm : Nat} {m : List (ByteArray × Value)} {D : List (ByteArray × Nat)} {v : Value} {os : List ByteArray}
theorem WySt.lt {W : World} (h : WySt w A0 n c0 B bg bm m D v os W) : bm < W.heap.size := World.block_lt_of_cell? _ _ h.mp
theorem WySt.same {W W' : World} (h : WySt w A0 n c0 B bg bm m D v os W) (hb : Below (bm + 1) W W') (hr : ∀ k, v.ownBlock = some k → W'.heap[k]? = W.heap[k]?) : WySt w A0 n c0 B bg bm m D v os W' := by
  have h1 := h.l1; have h2 := h.l2; have h3 := h.l3
  exact ⟨h.hB.trans (hb.mono (by omega)), (hb.cell (p := ⟨bg, 0, none⟩) (by dsimp only; omega)).trans h.g0, (hb.cell (p := ⟨bg, 1, none⟩) (by dsimp only; omega)).trans h.g1, (hb.cell (p := ⟨bm, 0, none⟩) (by dsimp only; omega)).trans h.mp,
    h.M.below hb (by omega), h.G.below hb (by omega), ⟨Kd.R_of_own (own_move (Kd.own_of_R h.row.1) hr) (fun _ _ => trivial), h.row.2⟩, h1, h2, h3⟩
theorem WySt.later {W W' : World} (h : WySt w A0 n c0 B bg bm m D v os W) (hb : Below W.heap.size W W') : WySt w A0 n c0 B bg bm m D v os W' :=
  h.same (hb.mono (by have := h.lt; omega)) (fun k hk => hb.block k (h.row.blocks k hk).2.2.1)
theorem WySt.alloc {W : World} (h : WySt w A0 n c0 B bg bm m D v os W) (o : Obj) : WySt w A0 n c0 B bg bm m D v os (W.alloc o) := h.later ((Below.refl _ _).alloc (Nat.le_refl _) _)
theorem WySt.oth {W W' : World} {H : Nat} (h : WySt w A0 n c0 B bg bm m D v os W) (hb : Oth H W W') (hH : bm + 1 ≤ H) : WySt w A0 n c0 B bg bm m D v os W' :=
  h.same (hb.below.mono hH) (fun k hk => by obtain ⟨_, _, _, cells, hc⟩ := h.row.blocks k hk; exact hb.block k (.inr ⟨_, hc, rfl⟩))
theorem WySt.stored {W W' : World} (h : WySt w A0 n c0 B bg bm m D v os W) {D' : List (ByteArray × Nat)} (hm : IsMap W' (bg + 1) (nums D')) (hg : W.grownBy W' (some (bg + 1))) : WySt w A0 n c0 B bg bm m D' v os W' := by
  have hl := h.lt
  have h1 := h.l1; have h2 := h.l2; have h3 := h.l3
  have hne : ∀ k, k ≠ bg + 1 → some k ≠ some (bg + 1) := fun k hk e => hk (by injection e)
  exact ⟨h.hB.grown hg (by omega) (fun k e => by cases e; omega), hg.cell h.g0 (hne _ (by dsimp only; omega)), hg.cell h.g1 (hne _ (by dsimp only; omega)), hg.cell h.mp (hne _ (by dsimp only; omega)), hm, h.G.kept hg (hne _ (by omega)), h.row.grown hg (fun k e _ => by cases e; omega), h1, h2, h3⟩
end
def waysOf (l : List S61) (c a : ByteArray) : Nat × Int := if askedOf l [c, a] = 0 then (waysN (ups l) (l.length + 1) c a, 0) else (0, askedOf l [c, a])
def WyDone (l : List S61) (a : ByteArray) (os : List ByteArray) (j : Nat) (D : List (ByteArray × Nat)) : Prop :=
  ∀ k, val D k = if memS (os.take j) k = true then waysN (ups l) (l.length + 1) k a else if k = a then 1 else 0
def WyMid (l : List S61) (a : ByteArray) (os : List ByteArray) (j : Nat) (x : ByteArray) (ps : List ByteArray) (D : List (ByteArray × Nat)) : Prop :=
  val D x = (if x = a then 1 else 0) + (ps.map (fun p => waysN (ups l) (l.length + 1) p a)).sum ∧ ∀ k, k ≠ x → val D k = if memS (os.take j) k = true then waysN (ups l) (l.length + 1) k a else if k = a then 1 else 0
theorem mem_take_split {os : List ByteArray} {j : Nat} (hj : j < os.length) : os = os.take j ++ nth os j :: os.drop (j + 1) := by
  conv => lhs; rw [← List.take_append_drop j os, List.drop_eq_getElem_cons hj]
  simp [nth, hj]
theorem nodup_take {os : List ByteArray} (h : os.Nodup) {j : Nat} (hj : j < os.length) : ¬ nth os j ∈ os.take j := by
  intro hm
  have e := mem_take_split hj
  rw [e, List.nodup_append] at h
  exact h.2.2 _ hm _ (by simp) rfl
section
variable {l : List S61} {a x : ByteArray} {os ps : List ByteArray} {j : Nat} {D : List (ByteArray × Nat)}
theorem WyDone.mid (h : WyDone l a os j D) (hn : os.Nodup) (hj : j < os.length) (hx : nth os j = x) : WyMid l a os j x [] D := by
  refine ⟨?_, fun k _ => h k⟩
  rw [h x, if_neg (fun hm => nodup_take hn hj (by rw [hx]; exact memS_iff.1 hm))]
  simp
theorem WyMid.par (h : WyMid l a os j x ps D) (ho : Ordered (ups l) os) (hj : j < os.length) (hx : nth os j = x) {p : ByteArray} (hp : p ∈ ups l x) (hpx : p ≠ x) : val D p = waysN (ups l) (l.length + 1) p a := by
  rw [h.2 p hpx, if_pos]
  refine memS_iff.2 (ho (os.take j) x (os.drop (j + 1)) ?_ p hp)
  rw [← hx]; exact mem_take_split hj
theorem WyMid.put (h : WyMid l a os j x ps D) {p : ByteArray} (hv : val D p = waysN (ups l) (l.length + 1) p a) : WyMid l a os j x (ps ++ [p]) (mput D x (val D x + val D p)) := by
  refine ⟨?_, fun k hk => ?_⟩
  · rw [val_mput, if_pos rfl, h.1, hv]; simp [Nat.add_assoc]
  · rw [val_mput, if_neg hk, h.2 k hk]
theorem WyMid.done {rk : ByteArray → Nat} (hrk : ∀ c p, p ∈ ups l c → rk p < rk c) (hrn : ∀ c, rk c < l.length + 1) (h : WyMid l a os j x (ups l x) D) (hj : j < os.length) (hx : nth os j = x) : WyDone l a os (j + 1) D := by
  intro k
  rw [take_nth os j hj, hx]
  by_cases hk : k = x
  · subst hk
    rw [if_pos (memS_iff.2 (by simp)), h.1]
    simp only [waysN]
    congr 2
    exact List.map_congr_left (fun p hp => by
      have h1 := hrk k p hp; have h2 := hrn k
      exact (waysN_fuel hrk (l.length + 1) l.length p a (hrn p) (by omega)))
  · rw [h.2 k hk]
    by_cases hm : memS (os.take j) k = true
    · rw [if_pos hm, if_pos (memS_iff.2 (List.mem_append_left _ (memS_iff.1 hm)))]
    · have hm2 : ¬ memS (os.take j ++ [x]) k = true := fun h' => by
        rcases List.mem_append.1 (memS_iff.1 h') with h' | h'
        · exact hm (memS_iff.2 h')
        · exact hk (List.mem_singleton.1 h')
      rw [if_neg hm, if_neg hm2]
theorem WyMid.le (h4 : ∀ c, (ups l c).length ≤ 4) (hl : l.length ≤ 24) (h : WyMid l a os j x ps D) (hps : ps.length ≤ 4) : val D x ≤ 2000000000000000000 := by
  rw [h.1]
  have h1 : ((ps.map (fun p => waysN (ups l) (l.length + 1) p a))).sum ≤ (ps.map (fun p => waysN (ups l) (l.length + 1) p a)).length * 5 ^ 25 := sum_le _ (fun y hy => by
    obtain ⟨p, _, rfl⟩ := List.mem_map.1 hy
    exact Nat.le_trans (waysN_le h4 _ _ _) (Nat.pow_le_pow_right (by omega) (by omega)))
  rw [List.length_map] at h1
  have h2 : ps.length * 5 ^ 25 ≤ 4 * 5 ^ 25 := Nat.mul_le_mul_right _ hps
  have h3 : (4 * 5 ^ 25 : Nat) = 1192092895507812500 := by decide
  rw [h3] at h2
  split <;> omega
theorem waysN_small (h4 : ∀ c, (ups l c).length ≤ 4) (hl : l.length ≤ 24) (k : ByteArray) : waysN (ups l) (l.length + 1) k a ≤ 2000000000000000000 := by
  have h1 := Nat.le_trans (waysN_le h4 (l.length + 1) k a) (Nat.pow_le_pow_right (n := 5) (by omega) (show l.length + 1 ≤ 25 by omega))
  have h3 : (5 ^ 25 : Nat) = 298023223876953125 := by decide
  rw [h3] at h1
  omega
end
theorem checkOk_four {l : List S61} (h : ∀ j, j < l.length → aloneOf l j = 0) : ∀ c, (ups l c).length ≤ 4 := by
  refine ups_len (fun x hx => ?_)
  obtain ⟨j, hj, e⟩ := List.mem_iff_getElem.1 hx
  have h1 := h j hj
  have e2 : rd_T61 l (j : Int) = x := by simp [rd_T61, hj, e]
  unfold aloneOf at h1
  rw [e2] at h1
  split at h1
  · cases h1
  · omega
set_option maxRecDepth 100000 in
set_option maxHeartbeats 8000000 in
theorem ways_calls (A0 : Option Addr) (c0 : Nat) (l : List S61) (c a : ByteArray) (w : World) (hr : k61.C w A0 l.length l) (hc : l.length ≤ c0) :
    Calls Try.prog 32 #[.slice A0 l.length c0, .string c, .string a] w fun e w' => e = .returned (.tuple #[.int .i64 ((waysOf l c a).1 : Int), .int .i64 (waysOf l c a).2]) ∧ Below w.heap.size w w' := by
  refine (callsIn_wide (n := 20)).1 ?_
  refine callsIn_of_wp_marks Try.func32 rfl trivial ?_
  simp only [Try.ntmps32, List.size_toArray, List.length_cons, List.length_nil, Nat.reduceAdd, Nat.reduceSub, Array.replicate_succ, Array.replicate_zero, List.push_toArray, List.append_toArray, List.nil_append, List.cons_append]
  have hmm := @run_makeMap Try.prog
  have HR := Lib.hid hr
  clear hr
  have hb0 : Below w.heap.size w (w.alloc (.cells #[.string c, .string a] 9)) := (Below.refl _ _).alloc (Nat.le_refl _) _
  have HL := Lib.hid (lit2 w c a)
  gi_wp2_with fail
  refine (callsIn_wide.2 (right_calls A0 (some ⟨w.heap.size, 0, none⟩) c0 2 l [c, a] _ (Kd.C_below HR.out hb0) hc HL.out)).mono ?_
  rintro e w1 ⟨hb1, ⟨he, rfl⟩ | ⟨he, B, m, rfl, hBB, hM, hK⟩⟩
  · have hB1 := hb0.trans (hb1.mono (by simp))
    obtain ⟨er, her⟩ : ∃ er, askedOf l [c, a] = er := ⟨_, rfl⟩
    have hio : waysOf l c a = (0, er) := by unfold waysOf; rw [if_neg he, her]
    rw [her] at he ⊢
    have heb : (er != 0) = true := by simpa using he
    have HIO := Lib.hid hio
    clear her hio he
    gi_wp2_with fail
    refine leave_marks (Marks.nil w.heap.size _) (fun W' hL => ⟨.tuple #[.int .i64 0, .int .i64 er], by simp [results, Try.results32, go_sem], ?_⟩)
    exact ⟨by rw [HIO.out]; rfl, (by first | exact hB1 | exact hB1.alloc hB1.size _ : Below w.heap.size w _).trans (hL.below (Nat.le_refl _))⟩
  · have hB1 := hb0.trans (hb1.mono (by simp))
    have hio : waysOf l c a = (waysN (ups l) (l.length + 1) c a, 0) := by unfold waysOf; rw [if_pos he]
    obtain ⟨hck, hns⟩ := askedOk he
    obtain ⟨hl24, hal, _, hrg⟩ := checkOk hck
    obtain ⟨rk, hrk, hrn⟩ := rank_of_ring hrg
    have hszB := hBB
    simp only [World.size_alloc] at hszB
    have hBlt := hM.lt
    have hBL : Below w.heap.size w (w1.alloc (.cells #[.slice A0 l.length c0, .map (some B)] 99)) := hB1.alloc hB1.size _
    have hM0 := IsMap.made (w1.alloc (.cells #[.slice A0 l.length c0, .map (some B)] 99))
    obtain ⟨w2, hrun2, hM2, hG2⟩ := hM0.store (P := Try.prog) Try.underlying69 Try.underlying9 a (.int .i64 1)
    rw [World.size_alloc] at hrun2 hM2 hG2
    have hs2 := hG2.size
    simp only [World.size_alloc] at hs2
    have hb12 : Below w1.heap.size w1 w2 := (((Below.refl _ w1).alloc (Nat.le_refl _) _).alloc (by simp) _).grown hG2 (by simp; omega) (fun k e => by cases e; omega)
    have hB2 := hB1.trans (hb12.mono hB1.size)
    have hg0 : w2.cell? ⟨w1.heap.size, 0, none⟩ = some (.slice A0 l.length c0) := hG2.cell (by go_simp) (by simp)
    have hg1 : w2.cell? ⟨w1.heap.size, 1, none⟩ = some (.map (some B)) := hG2.cell (by go_simp) (by simp)
    replace hM2 : IsMap w2 (w1.heap.size + 1) (nums [(a, 1)]) := hM2
    have hMB2 : IsMap w2 B m := hM.below hb12 hBlt
    obtain ⟨W3, hW3⟩ : ∃ W3, w2.alloc (.cells #[.map (some (w1.heap.size + 1))] 69) = W3 := ⟨_, rfl⟩
    have hb23 : Below w2.heap.size w2 W3 := by rw [← hW3]; exact (Below.refl _ _).alloc (Nat.le_refl _) _
    have hs3 : W3.heap.size = w2.heap.size + 1 := by rw [← hW3]; simp
    have hB3 := hB2.trans (hb23.mono hB2.size)
    have hmp3 : W3.cell? ⟨w2.heap.size, 0, none⟩ = some (.map (some (w1.heap.size + 1))) := by rw [← hW3]; exact cell_new _ _ _ _
    have hg03 := (hb23.cell (p := ⟨w1.heap.size, 0, none⟩) (by dsimp only; omega)).trans hg0
    have hg13 := (hb23.cell (p := ⟨w1.heap.size, 1, none⟩) (by dsimp only; omega)).trans hg1
    have hM3 := hM2.below hb23 (by omega)
    have hMB3 := hMB2.below hb23 hMB2.lt
    have hG : GrOk W3 A0 c0 B l m := ⟨Kd.C_below HR.out hB3, hc, hMB3, hK, hck⟩
    have HC := Lib.hid (hG.above (hns c (by simp)))
    obtain ⟨os, hos⟩ : ∃ os, anc l c = os := ⟨_, rfl⟩
    obtain ⟨hO1, hO2, _⟩ := vis_ok hrk (l.length + 1) c [] (hrn c) Ordered.nil List.nodup_nil
    obtain ⟨tl, htl⟩ := vis_last (up := ups l) (n := l.length) (c := c)
    have hO1' : Ordered (ups l) os := hos ▸ hO1
    have hO2' : os.Nodup := hos ▸ hO2
    have htl' : os = tl ++ [c] := hos ▸ htl
    rw [hos] at HC
    have HK := Lib.hid hK
    have HO1 := Lib.hid hO1'
    have HO2 := Lib.hid hO2'
    have HTL := Lib.hid htl'
    have HIO := Lib.hid hio
    have HRK := Lib.hid hrk
    have HRN := Lib.hid hrn
    have HUP := Lib.hid (checkOk_up hal)
    have HFOUR := Lib.hid (checkOk_four hal)
    have HMB3 := Lib.hid hMB3
    have HM3 := Lib.hid hM3
    clear hos hO1 hO2 hO1' hO2' htl htl' hK hio hrk hrn hal hrg hck hns he hM0 hM hG hMB2 hMB3 hM2 hM3 hB1 hBL hb0 hBB hG2
    gi_wp2_with fail
    refine (callsIn_wide.2 HC.out).mono ?_
    rintro e w4 ⟨v, rfl, hR4, hb4⟩
    have hS4 : WySt w A0 l.length c0 B w1.heap.size w2.heap.size m [(a, 1)] v os w4 :=
      ⟨hB3.trans (hb4.mono hB3.size), (hb4.cell (p := ⟨w1.heap.size, 0, none⟩) (by dsimp only; omega)).trans hg03, (hb4.cell (p := ⟨w1.heap.size, 1, none⟩) (by dsimp only; omega)).trans hg13, (hb4.cell (p := ⟨w2.heap.size, 0, none⟩) (by dsimp only; omega)).trans hmp3,
        HM3.out.below hb4 (by omega), HMB3.out.below hb4 HMB3.out.lt, ⟨Kd.R_lower hR4.1 (by omega), hR4.2⟩, by omega, hBlt, by omega⟩
    have HS4 := Lib.hid hS4
    obtain ⟨A4, c4, rfl, hcap4, hC4⟩ := hS4.row.reads
    have hmax4 := Kd.C_max hC4
    clear hW3 hS4 hR4 hb4 hC4 hrun2 hmm hg0 hg1 hg03 hg13 hmp3 hb12 hb23 hB2 hB3 hb1
    gi_wp2_with fail
    refine wpIn_loop_ghost_k (fun gj a' W => ∃ (u0 u3 u4 u5 u6 u7 u9 u11 u12 u13 u14 u15 u16 u17 u18 u19 u20 u21 u22 u23 u24 u25 u26 u27 u28 u29 u33 u34 u35 u36 u37 u38 u39 u40 u41 u42 u43 u44 u45 u46 u47 u48 u49 u50 : Value) (ds : List Deferred) (D : List (ByteArray × Nat)) (j : Nat), Aside0 (WySt w A0 l.length c0 B w1.heap.size w2.heap.size m D (.slice A4 os.length c4) os W ∧ Marks w.heap.size ds W ∧ WyDone l a os j D) ∧ j ≤ os.length ∧ Aside0 (gj = os.length - j) ∧
      a' = { tmps := #[u0, .string c, .string a, u3, u4, u5, u6, u7, .pointer (some ⟨w1.heap.size, 0, none⟩), u9, .pointer (some ⟨w2.heap.size, 0, none⟩), u11, u12, u13, u14, u15, u16, u17, u18, u19, u20, u21, u22, u23, u24, u25, u26, u27, u28, u29, .slice A4 os.length c4, .int .i64 os.length, .int .i64 j, u33, u34, u35, u36, u37, u38, u39, u40, u41, u42, u43, u44, u45, u46, u47, u48, u49, u50], defers := ds }) os.length ?_ ?_
    · repeat apply Exists.intro
      exact ⟨⟨HS4.out, Marks.nil _ _, fun k => by simp [val, mget, memS]; split <;> rfl⟩, Nat.zero_le _, ⟨rfl⟩, rfl⟩
    · rintro gj a' W ⟨u0, u3, u4, u5, u6, u7, u9, u11, u12, u13, u14, u15, u16, u17, u18, u19, u20, u21, u22, u23, u24, u25, u26, u27, u28, u29, u33, u34, u35, u36, u37, u38, u39, u40, u41, u42, u43, u44, u45, u46, u47, u48, u49, u50, ds, D, j, hrel, hj, hgj, rfl⟩ J K hJ hK
      have HJ := Lib.hid hJ
      clear hJ
      have hS := hrel.out.1
      by_cases hlt : j < os.length
      · obtain ⟨A5, c5, e5, _, hC5⟩ := hS.row.reads
        cases e5
        obtain ⟨ad, ea, hx⟩ := at_s hC5 j hlt
        subst ea
        have hg0 := hS.g0
        have hg1 := hS.g1
        have hl1 := hS.l1
        have hl2 := hS.l2
        have hl3 := hS.lt
        have hl4 := hS.l3
        have hl0 : w1.heap.size < W.heap.size := by omega
        obtain ⟨x, hxn⟩ : ∃ x, nth os j = x := ⟨_, rfl⟩
        rw [hxn] at hx
        have HX := Lib.hid hxn
        clear hxn hC5
        gi_wp2_with (gi_at_call 57; refine (callsIn_wide.2 (parents_calls _ _ _ _)).mono ?_; rintro e w5 ⟨rfl, rfl⟩)
        clear hg0 hg1 hx
        have hBW := hS.hB
        have hsz := hBW.size
        have hS3 := ((hS.alloc (.cells #[.string x] 9)).alloc (.cells #[.slice A0 l.length c0, .map (some B)] 99)).alloc (.cells #[.string x] 9)
        have hAt := AtRange.new (W := W.alloc (.cells #[.string x] 9)) x HR.out hc HK.out (hBW.alloc hsz _) (hS.G.alloc _)
        rw [World.size_alloc] at hAt
        obtain ⟨WL, hWL⟩ : ∃ WL, (((W.alloc (.cells #[.string x] 9)).alloc (.cells #[.slice A0 l.length c0, .map (some B)] 99)).alloc (.cells #[.string x] 9)) = WL := ⟨_, rfl⟩
        have hWs : WL.heap.size = W.heap.size + 1 + 1 + 1 := by rw [← hWL]; simp
        have hWc : WL.cell? ⟨W.heap.size, 0, none⟩ = some (.string x) := by rw [← hWL]; exact cell_alloc (cell_alloc (cell_new _ _ _ _) _) _
        have hMkL : Marks w.heap.size ds WL := by rw [← hWL]; exact ((hrel.out.2.1.alloc _).alloc _).alloc _
        have HMID := Lib.hid (hrel.out.2.2.mid HO2.out hlt HX.out)
        rw [hWL] at hAt hS3 ⊢
        clear hWL hS
        refine rangeP hAt (by omega) rfl rfl
          (fun pre Wb => ∃ (D2 : List (ByteArray × Nat)), Aside0 (WySt w A0 l.length c0 B w1.heap.size w2.heap.size m D2 (.slice (some ad) os.length c4) os Wb ∧ Wb.cell? ⟨W.heap.size, 0, none⟩ = some (.string x) ∧ DefKeep WL.heap.size WL Wb ∧ WyMid l a os j x (pre.map (·.1)) D2))
          (fun _ _ _ => False) ?_ (fun _ _ _ _ h _ => h) ?_
          (fun p => { tmps := #[u0, .string c, .string a, u3, u4, u5, u6, u7, .pointer (some ⟨w1.heap.size, 0, none⟩), u9, .pointer (some ⟨w2.heap.size, 0, none⟩), u11, .pointer (some ⟨W.heap.size, 0, none⟩), .string p.1, u14, u15, u16, u17, u18, u19, u20, u21, u22, u23, u24, u25, u26, u27, u28, u29, .slice (some ad) os.length c4, .int .i64 os.length, .int .i64 j, .bool true, .pointer (some (ad.add j)), .string x, .agg #[.slice A0 l.length c0, .map (some B)], .string x, .func (.func 98) #[] #[.pointer (some ⟨W.heap.size + 1, 0, none⟩), .pointer (some ⟨W.heap.size + 1 + 1, 0, none⟩)], .string p.1, u40, u41, u42, u43, u44, u45, u46, u47, u48, u49, u50], defers := [] }) ?_ ?_ ?_ ?_
        · rintro pre Wb Wc ⟨D2, ⟨h1, h2, h3, h4⟩⟩ hb
          exact ⟨D2, ⟨h1.oth hb (by omega), hb.cell h2, h3.below hb.below, h4⟩⟩
        · exact ⟨_, ⟨hS3, hWc, DefKeep.refl _ _, HMID.out⟩⟩
        · intro L p Wb K' hK'
          gi_wp2_with fail
          exact hK'
        · rintro L pre p Wb hszb hpl ⟨D2, hI⟩
          have hSb := hI.out.1
          have hmp := hSb.mp
          have hcl := hI.out.2.1
          have hltb := hSb.lt
          have hlk1 := hSb.M.look (P := Try.prog) Try.underlying69 Try.underlying9 (zero3 _) x false
          have hlk2 := hSb.M.look (P := Try.prog) Try.underlying69 Try.underlying9 (zero3 _) p.1 false
          simp only [Bool.false_eq_true, ↓reduceIte, val_nums] at hlk1 hlk2
          have hpx : p.1 ≠ x := fun e => by have := HRK.out x p.1 p.2; rw [e] at this; omega
          have hvp := hI.out.2.2.2.par HO1.out hlt HX.out p.2 hpx
          have h4 := HFOUR.out x
          have hb1 : val D2 x ≤ 2000000000000000000 := hI.out.2.2.2.le HFOUR.out hl24 (by rw [List.length_map]; omega)
          have hb2 : val D2 p.1 ≤ 2000000000000000000 := by rw [hvp]; exact waysN_small HFOUR.out hl24 _
          have hput := hI.out.2.2.2.put hvp
          have HPUT := Lib.hid hput
          obtain ⟨vx, hvx⟩ : ∃ vx, val D2 x = vx := ⟨_, rfl⟩
          obtain ⟨vp, hvp'⟩ : ∃ vp, val D2 p.1 = vp := ⟨_, rfl⟩
          rw [hvx] at hlk1 hb1 HPUT
          rw [hvp'] at hlk2 hb2 HPUT
          clear hvx hvp hvp' hput hpx h4
          gi_wp2_with (gi_at_mapUpdate; refine wpListIn_store _ rfl _ _ _ 69 rfl 9 3 Try.underlying69 Try.underlying9 (w1.heap.size + 1) (nums D2) rfl hSb.M _ _ rfl rfl ?_; intro w6 hM6 hG6)
          have e6 : ((vx : Int) + (vp : Int)) = ((vx + vp : Nat) : Int) := by omega
          replace hM6 : IsMap w6 (w1.heap.size + 1) (mput (nums D2) x (.int .i64 ((vx : Int) + (vp : Int)))) := hM6
          rw [e6, mput_nums] at hM6
          refine ⟨KeepsFrom.grown (KeepsFrom.refl _ _) hG6 (fun k e => by cases e; omega), (Keeps.refl _ _).grown hG6 (fun k hk => by have := hAt.klt k hk; omega) (fun k e hk => by cases e; omega), _, ⟨hSb.stored hM6 hG6, hG6.cell hcl (fun e => by have e' := Option.some.inj e; dsimp only at e'; omega), hI.out.2.2.1.grown hG6 (fun k e => by cases e; exact hSb.M.noDef), ?_⟩⟩
          rw [List.map_append]
          exact HPUT.out
        · intro D1 xs Wb hD1 hxs ⟨D2, hI⟩ hdef
          gi_wp2_with fail
          refine Handed.intro (os.length - (j + 1)) (by have := hgj.out; omega) (HJ.out _ _ _ ⟨_, _, _, _, _, _, _, _, _, _, _, _, _, _, _, _, _, _, _, _, _, _, _, _, _, _, _, _, _, _, _, _, _, _, _, _, _, _, _, _, _, _, _, _, _, D2, j + 1, ⟨hI.out.1, Marks.cons hMkL hD1 (by omega) hdef (hMkL.defk hI.out.2.2.1), ?_⟩, by omega, ⟨rfl⟩, rfl⟩)
          have h5 := hI.out.2.2.2
          rw [hxs] at h5
          exact h5.done HRK.out HRN.out hlt HX.out
        · intro D1 cd pre Wb _ _ h _
          exact h.elim
      · obtain rfl : j = os.length := by omega
        have hmp := hS.mp
        have hlk := hS.M.look (P := Try.prog) Try.underlying69 Try.underlying9 (zero3 _) c false
        simp only [Bool.false_eq_true, ↓reduceIte, val_nums] at hlk
        have hv : val D c = waysN (ups l) (l.length + 1) c a := by
          rw [hrel.out.2.2 c, if_pos]
          rw [List.take_length]
          exact memS_iff.2 (by rw [HTL.out]; simp)
        rw [hv] at hlk
        clear hv
        gi_wp2_with fail
        refine leave_marks hrel.out.2.1 (fun W' hL => ⟨.tuple #[.int .i64 ((waysN (ups l) (l.length + 1) c a : Nat) : Int), .int .i64 0], by simp [results, Try.results32, go_sem], ?_⟩)
        exact ⟨by rw [HIO.out], hS.hB.trans (hL.below (Nat.le_refl _))⟩
end Go.Proofs.Ytdljclokenoogaa.Hw
end
section
namespace Go.Proofs.Ytdljclokenoogaa.Hw
open Go.RowKit Go.Proofs.Ytdljclokenoogaa.Hp Go.Proofs.YtdljclokenoogaaW.PrintWords Go.Proofs.YtdljclokenoogaaW.PrintLast Go.Proofs.YtdljclokenoogaaW.PrintMore
attribute [local go_sem] Oper.semAt_some
theorem zero4 (w : World) : (zeroValue 4).run Try.prog w = .ok (.bool false) w := by kernel_rfl
theorem keysOf_true (xs : List ByteArray) (k : ByteArray) : mget (keysOf xs) k = if memS xs k = true then some (.bool true) else none := by
  have key : ∀ (xs : List ByteArray) (m : List (ByteArray × Value)), mget (xs.foldl (fun m k => mput m k (.bool true)) m) k = if memS xs k = true then some (.bool true) else mget m k := by
    intro xs
    induction xs with
    | nil => intro m; simp [memS]
    | cons x xs ih =>
      intro m
      simp only [List.foldl_cons, ih, mget_mput, memS, List.any_cons]
      by_cases h : k = x
      · simp [h]
      · simp only [h, decide_false, Bool.false_or, if_false]
  exact key xs []
theorem keysOf_bool (xs : List ByteArray) (k : ByteArray) : (mget (keysOf xs) k).getD (.bool false) = .bool (memS xs k) := by
  rw [keysOf_true]; cases memS xs k <;> rfl
set_option maxRecDepth 100000 in
set_option maxHeartbeats 8000000 in
theorem open1_calls {w : World} {A0 : Option Addr} {c0 B : Nat} {l : List S61} {m : List (ByteArray × Value)} (h : GrOk w A0 c0 B l m) (bg bd Bd : Nat) (d : ByteArray) (out : List ByteArray)
    (h0 : w.cell? ⟨bg, 0, none⟩ = some (.slice A0 l.length c0)) (h1 : w.cell? ⟨bg, 1, none⟩ = some (.map (some B))) (hd : w.cell? ⟨bd, 0, none⟩ = some (.map (some Bd))) (hD : IsMap w Bd (keysOf out)) :
    Calls Try.prog 56 #[.string d, .pointer (some ⟨bd, 0, none⟩), .pointer (some ⟨bg, 0, none⟩)] w fun e w' => e = .returned (.bool (openS (ups l) out d)) ∧ Below w.heap.size w w' := by
  refine (callsIn_wide (n := 20)).1 ?_
  refine callsIn_of_wp_marks Try.func56 rfl trivial ?_
  simp only [Try.ntmps56, List.size_toArray, List.length_cons, List.length_nil, Nat.reduceAdd, Nat.reduceSub, Array.replicate_succ, Array.replicate_zero, List.push_toArray, List.append_toArray, List.nil_append, List.cons_append]
  have hlk := fun (o : Obj) (k : ByteArray) => (hD.alloc o).look (P := Try.prog) Try.underlying102 Try.underlying9 (zero4 _) k false
  simp only [keysOf_bool, Bool.false_eq_true, ↓reduceIte] at hlk
  have hlk1 := hlk (.cells #[.bool false] 4) d
  have hbd := World.block_lt_of_cell? _ _ hd
  have hbg := World.block_lt_of_cell? _ _ h0
  have HG := Lib.hid h
  have HD := Lib.hid hD
  clear hlk hD h
  cases hm : memS out d with
  | true =>
    have HIO : Hid (openS (ups l) out d = false) := by show _ = _; unfold openS; rw [hm]; rfl
    rw [hm] at hlk1
    clear hm
    gi_wp2_with fail
    have hcw : (w.alloc (.cells #[.bool false] 4)).cell? ⟨w.heap.size, 0, none⟩ = some (.bool false) := cell_new _ _ _ _
    refine leave_marks (Marks.nil (w.heap.size + 1) _) (fun W' hL => ⟨.bool false, ?_, by rw [HIO.out], ((Below.refl _ _).alloc (Nat.le_refl _) _).trans (hL.below (by omega))⟩)
    have hc' := hL.cell hcw
    simp [results, Try.results56, go_sem, hc']
  | false =>
    have HIO0 : Hid (openS (ups l) out d = (ups l d).all (memS out)) := by show _ = _; unfold openS; rw [hm]; rfl
    rw [hm] at hlk1
    clear hm
    gi_wp2_with (gi_at_call 57; refine (callsIn_wide.2 (parents_calls _ _ _ _)).mono ?_; rintro e w2 ⟨rfl, rfl⟩)
    have hBn : Below w.heap.size w (w.alloc (.cells #[.bool false] 4)) := (Below.refl _ _).alloc (Nat.le_refl _) _
    have hAt := AtRange.new (W := w.alloc (.cells #[.bool false] 4)) d HG.out.r HG.out.cap HG.out.K hBn (HG.out.M.alloc _)
    rw [World.size_alloc] at hAt
    obtain ⟨WL, hWL⟩ : ∃ WL, (((w.alloc (.cells #[.bool false] 4)).alloc (.cells #[.slice A0 l.length c0, .map (some B)] 99)).alloc (.cells #[.string d] 9)) = WL := ⟨_, rfl⟩
    have hWs : WL.heap.size = w.heap.size + 1 + 1 + 1 := by rw [← hWL]; simp
    have hBL : Below w.heap.size w WL := by rw [← hWL]; exact (hBn.alloc (by simp) _).alloc (by simp; omega) _
    have hcL : WL.cell? ⟨w.heap.size, 0, none⟩ = some (.bool false) := by rw [← hWL]; exact cell_alloc (cell_alloc (cell_new _ _ _ _) _) _
    have hc0 : (w.alloc (.cells #[.bool false] 4)).cell? ⟨w.heap.size, 0, none⟩ = some (.bool false) := cell_new _ _ _ _
    have hfL : WL.frozen? ⟨w.heap.size, 0, none⟩ = false := by
      rw [← hWL]
      exact (frozen_alloc (cell_alloc hc0 _) _).trans ((frozen_alloc hc0 _).trans (frozen_new _ _ _ _))
    clear hc0
    rw [hWL] at hAt ⊢
    clear hWL hlk1
    refine rangeP hAt (by omega) rfl rfl
      (fun pre Wb => Aside0 (Below w.heap.size w Wb ∧ Wb.cell? ⟨w.heap.size, 0, none⟩ = some (.bool false) ∧ Wb.frozen? ⟨w.heap.size, 0, none⟩ = false ∧ ∀ p ∈ pre.map (·.1), memS out p = true))
      (fun cd pre Wb => cd = .ret ∧ Aside0 (Below w.heap.size w Wb ∧ Wb.cell? ⟨w.heap.size, 0, none⟩ = some (.bool false) ∧ ∃ p ∈ ups l d, memS out p = false)) ?_ ?_ ?_
      (fun p => { tmps := #[.string d, .pointer (some ⟨bd, 0, none⟩), .pointer (some ⟨bg, 0, none⟩), undef, .pointer (some ⟨w.heap.size, 0, none⟩), .string p.1, .map (some Bd), .string d, .bool false, .agg #[.slice A0 l.length c0, .map (some B)], .string d, .func (.func 98) #[] #[.pointer (some ⟨w.heap.size + 1, 0, none⟩), .pointer (some ⟨w.heap.size + 1 + 1, 0, none⟩)], .string p.1, undef, undef, undef, undef], defers := [] }) ?_ ?_ ?_ ?_
    · rintro pre Wb Wc ⟨⟨h1, h2, h3, h4⟩⟩ hb
      exact ⟨⟨h1.trans (hb.below.mono (by omega)), hb.cell h2, (hb.frozen h2).trans h3, h4⟩⟩
    · rintro cd pre Wb Wc ⟨hcd, ⟨h1, h2, h3⟩⟩ hb
      exact ⟨hcd, ⟨h1.trans (hb.below.mono (by omega)), hb.cell h2, h3⟩⟩
    · exact ⟨⟨hBL, hcL, hfL, by simp⟩⟩
    · intro L p Wb K' hK'
      gi_wp2_with fail
      exact hK'
    · rintro L pre p Wb hszb hpl ⟨hI⟩
      have hdb := (hI.1.cell (p := ⟨bd, 0, none⟩) hbd).trans hd
      have hlk := (HD.out.below hI.1 HD.out.lt).look (P := Try.prog) Try.underlying102 Try.underlying9 (zero4 _) p.1 false
      simp only [keysOf_bool, Bool.false_eq_true, ↓reduceIte] at hlk
      have hcb := hI.2.1
      have hfb := hI.2.2.1
      cases hm : memS out p.1 with
      | true =>
        rw [hm] at hlk
        have HM := Lib.hid hm
        clear hm
        gi_wp2_with fail
        refine ⟨KeepsFrom.refl _ _, Keeps.refl _ _, ⟨hI.1, hcb, hfb, fun q hq => ?_⟩⟩
        rw [List.map_append] at hq
        rcases List.mem_append.1 hq with hq | hq
        · exact hI.2.2.2 q hq
        · simp at hq; subst hq; exact HM.out
      | false =>
        rw [hm] at hlk
        have HM := Lib.hid hm
        clear hm
        gi_wp2_with fail
        exact ⟨KeepsFrom.setCell (KeepsFrom.refl _ _) _ _, rfl, ⟨hI.1.setCell (p := ⟨w.heap.size, 0, none⟩) (Nat.le_refl _) _, cell_set hcb, p.1, p.2, HM.out⟩⟩
    · intro D1 xs Wb hD1 hxs ⟨hI⟩ hdef
      have hcb := hI.2.1
      have hfb := hI.2.2.1
      have hDL : D1 < Wb.heap.size := (Array.getElem?_eq_some_iff.1 hdef).1
      have HIO : Hid (openS (ups l) out d = true) := by
        show _ = _
        rw [HIO0.out, List.all_eq_true]
        intro p hp
        exact hI.2.2.2 p (by rw [hxs]; exact hp)
      gi_wp2_with fail
      have hcs : (Wb.setCell ⟨w.heap.size, 0, none⟩ (.bool true)).cell? ⟨w.heap.size, 0, none⟩ = some (.bool true) := cell_set hcb
      have hdef2 : (Wb.setCell ⟨w.heap.size, 0, none⟩ (.bool true)).heap[D1]? = some (.deferred (some [])) := (Below.heap_setCell _ _ _ _ (by dsimp only; omega)).trans hdef
      refine leave_marks (Marks.cons (Marks.nil (w.heap.size + 1) WL) hD1 (by omega) hdef2 (Marks.nil _ _)) (fun W' hL => ⟨.bool true, ?_, by rw [HIO.out], (hI.1.setCell (p := ⟨w.heap.size, 0, none⟩) (Nat.le_refl _) _).trans (hL.below (by omega))⟩)
      have hc' := hL.cell hcs
      simp [results, Try.results56, go_sem, hc']
    · rintro D1 cd pre Wb hD1 - ⟨rfl, ⟨h1, h2, p, hp, hpo⟩⟩ hdef
      have HIO : Hid (openS (ups l) out d = false) := by
        show _ = _
        rw [HIO0.out]
        cases ha : (ups l d).all (memS out) with
        | false => rfl
        | true => have := List.all_eq_true.1 ha p hp; rw [hpo] at this; cases this
      gi_wp2_with fail
      refine leave_marks (Marks.cons (Marks.nil (w.heap.size + 1) WL) hD1 (by omega) hdef (Marks.nil _ _)) (fun W' hL => ⟨.bool false, ?_, by rw [HIO.out], h1.trans (hL.below (by omega))⟩)
      have hc' := hL.cell h2
      simp [results, Try.results56, go_sem, hc']
end Go.Proofs.Ytdljclokenoogaa.Hw
end
section
namespace Go.Proofs.Ytdljclokenoogaa.Hw
open Go.RowKit Go.Proofs.Ytdljclokenoogaa.Hp Go.Proofs.YtdljclokenoogaaW.PrintWords Go.Proofs.YtdljclokenoogaaW.PrintLast Go.Proofs.YtdljclokenoogaaW.PrintMore
attribute [local go_sem] Oper.semAt_some
set_option maxRecDepth 100000 in
theorem touched2_calls {w : World} (bn : Nat) (A1 : Option Addr) (c1 : Nat) (ns : List ByteArray) (a : ByteArray) (hn : Kd.string.C w A1 ns.length ns) (hb : w.cell? ⟨bn, 0, none⟩ = some (.slice A1 ns.length c1)) :
    Calls Try.prog 78 #[.string a, .pointer (some ⟨bn, 0, none⟩)] w fun e w' => e = .returned (.bool (memS ns a)) ∧ Below w.heap.size w w' := by
  refine (callsIn_wide (n := 20)).1 ?_
  refine callsIn_of_wp Try.func78 rfl trivial ?_
  simp only [Try.ntmps78, List.size_toArray, List.length_cons, List.length_nil, Nat.reduceAdd, Nat.reduceSub, Array.replicate_succ, Array.replicate_zero, List.push_toArray, List.append_toArray, List.nil_append, List.cons_append]
  have HN := Lib.hid hn
  clear hn
  gi_wp2_with (gi_at_call 79; refine (callsIn_wide.2 (contains_calls _ _ _ a _ HN.out)).mono ?_; rintro e w2 ⟨rfl, rfl⟩)
  go_ret
  exact ⟨rfl, Below.refl _ _⟩
set_option maxRecDepth 100000 in
set_option maxHeartbeats 4000000 in
theorem touched1_calls {w : World} {A0 : Option Addr} {c0 B : Nat} {l : List S61} {m : List (ByteArray × Value)} (h : GrOk w A0 c0 B l m) (bg bn : Nat) (A1 : Option Addr) (c1 : Nat) (ns : List ByteArray) (d : ByteArray) (hd : d ∈ names l)
    (h0 : w.cell? ⟨bg, 0, none⟩ = some (.slice A0 l.length c0)) (h1 : w.cell? ⟨bg, 1, none⟩ = some (.map (some B))) (hn : Kd.string.C w A1 ns.length ns) (hb : w.cell? ⟨bn, 0, none⟩ = some (.slice A1 ns.length c1)) :
    Calls Try.prog 77 #[.string d, .pointer (some ⟨bg, 0, none⟩), .pointer (some ⟨bn, 0, none⟩)] w fun e w' => e = .returned (.bool ((anc l d).any (memS ns))) ∧ Below w.heap.size w w' := by
  refine (callsIn_wide (n := 20)).1 ?_
  refine callsIn_of_wp Try.func77 rfl trivial ?_
  simp only [Try.ntmps77, List.size_toArray, List.length_cons, List.length_nil, Nat.reduceAdd, Nat.reduceSub, Array.replicate_succ, Array.replicate_zero, List.push_toArray, List.append_toArray, List.nil_append, List.cons_append]
  have HC := Lib.hid (h.above hd)
  have HN := Lib.hid hn
  have hbl := World.block_lt_of_cell? _ _ hb
  have HB := Lib.hid hb
  clear h hn hb
  have hP : ∀ W, Below w.heap.size w W → Pred W 78 #[.pointer (some ⟨bn, 0, none⟩)] (anc l d) (memS ns) := by
    intro W hW
    refine ⟨enters_of Try.func78 (by kernel_rfl) rfl, fun x hx W2 hW2 => ?_⟩
    have hW3 := hW.trans (hW2.mono hW.size)
    simp only [List.append_toArray, List.cons_append, List.nil_append]
    exact touched2_calls bn A1 c1 ns x (Kd.C_below HN.out hW3) ((hW3.cell (p := ⟨bn, 0, none⟩) hbl).trans HB.out)
  have HP := Lib.hid hP
  clear hP
  gi_wp2_with (first | (gi_at_call 68; refine (callsIn_wide.2 HC.out).mono ?_; rintro e w2 ⟨v, rfl, hR2, hb2⟩; obtain ⟨A2, c2, rfl, hcap2, hC2⟩ := hR2.reads) | (gi_at_call 72; refine (callsIn_wide.2 (containsFunc_calls _ _ _ _ _ _ _ hC2 (HP.out _ hb2))).mono ?_; rintro e w3 ⟨rfl, hb3⟩))
  go_ret
  exact ⟨rfl, hb2.trans (hb3.mono hb2.size)⟩
def touchedOf (l : List S61) (ns : List ByteArray) : List ByteArray × Int := if 48 < ns.length then ([], 3) else if askedOf l [] = 0 then ((names l).filter (fun d => (anc l d).any (memS ns)), 0) else ([], askedOf l [])
theorem lit0 (W : World) : Kd.string.C W none ([] : List ByteArray).length [] := by
  obtain ⟨A, c, e, _, hC⟩ := (Row.nil W W.heap.size (fun _ => True)).reads
  cases e
  exact hC
set_option maxRecDepth 100000 in
set_option maxHeartbeats 4000000 in
theorem touched_calls (A0 A1 : Option Addr) (c0 c1 : Nat) (l : List S61) (ns : List ByteArray) (w : World) (hr : k61.C w A0 l.length l) (hc : l.length ≤ c0) (hn : Kd.string.C w A1 ns.length ns) :
    Calls Try.prog 27 #[.slice A0 l.length c0, .slice A1 ns.length c1] w fun e w' => ∃ v, e = .returned (.tuple #[v, .int .i64 (touchedOf l ns).2]) ∧ Row w' w.heap.size (fun _ => True) v (touchedOf l ns).1 ∧ Below w.heap.size w w' := by
  refine (callsIn_wide (n := 20)).1 ?_
  refine callsIn_of_wp Try.func27 rfl trivial ?_
  simp only [Try.ntmps27, List.size_toArray, List.length_cons, List.length_nil, Nat.reduceAdd, Nat.reduceSub, Array.replicate_succ, Array.replicate_zero, List.push_toArray, List.append_toArray, List.nil_append, List.cons_append]
  have hmaxn := Kd.C_max hn
  have HR := Lib.hid hr
  have HN := Lib.hid hn
  clear hr hn
  by_cases hl : 48 < ns.length
  · have HIO : Hid (touchedOf l ns = ([], 3)) := by show _ = _; unfold touchedOf; rw [if_pos hl]
    gi_wp2_with fail
    go_ret2
    exact ⟨.slice none 0 0, by rw [HIO.out]; rfl, by rw [HIO.out]; exact Row.nil _ _ _, (Below.refl _ _).alloc (Nat.le_refl _) _⟩
  · have HIO0 : Hid (touchedOf l ns = if askedOf l [] = 0 then ((names l).filter (fun d => (anc l d).any (memS ns)), 0) else ([], askedOf l [])) := by show _ = _; unfold touchedOf; rw [if_neg hl]
    obtain ⟨W0, hW0⟩ : ∃ W0, w.alloc (.cells #[.slice A1 ns.length c1] 25) = W0 := ⟨_, rfl⟩
    have hB0 : Below w.heap.size w W0 := by rw [← hW0]; exact (Below.refl _ _).alloc (Nat.le_refl _) _
    have hcc : W0.cell? ⟨w.heap.size, 0, none⟩ = some (.slice A1 ns.length c1) := by rw [← hW0]; exact cell_new _ _ _ _
    have hs0 : w.heap.size < W0.heap.size := by rw [← hW0]; simp
    gi_wp2_with fail
    refine (callsIn_wide.2 (right_calls A0 none c0 0 l [] _ (Kd.C_below HR.out hB0) hc (lit0 _))).mono ?_
    rintro e w1 ⟨hb2, ⟨he, rfl⟩ | ⟨he, B, m, rfl, hBB, hM, hK⟩⟩
    · have hB1 := hB0.trans (hb2.mono hB0.size)
      obtain ⟨er, her⟩ : ∃ er, askedOf l [] = er := ⟨_, rfl⟩
      have hio : touchedOf l ns = ([], er) := by rw [HIO0.out, if_neg he, her]
      rw [her] at he ⊢
      have heb : (er != 0) = true := by simpa using he
      have HIO := Lib.hid hio
      clear her hio he hcc hW0
      gi_wp2_with fail
      go_ret2
      exact ⟨.slice none 0 0, by rw [HIO.out]; rfl, by rw [HIO.out]; exact Row.nil _ _ _, by first | exact hB1 | exact hB1.alloc hB1.size _⟩
    · have hB1 := hB0.trans (hb2.mono hB0.size)
      have hio : touchedOf l ns = ((names l).filter (fun d => (anc l d).any (memS ns)), 0) := by rw [HIO0.out, if_pos he]
      have hck := (askedOk he).1
      obtain ⟨WL, hWL⟩ : ∃ WL, w1.alloc (.cells #[.slice A0 l.length c0, .map (some B)] 99) = WL := ⟨_, rfl⟩
      have hbL : Below w1.heap.size w1 WL := by rw [← hWL]; exact (Below.refl _ _).alloc (Nat.le_refl _) _
      have hBL := hB1.trans (hbL.mono hB1.size)
      have hg0 : WL.cell? ⟨w1.heap.size, 0, none⟩ = some (.slice A0 l.length c0) := by rw [← hWL]; exact cell_new _ _ _ _
      have hg1 : WL.cell? ⟨w1.heap.size, 1, none⟩ = some (.map (some B)) := by rw [← hWL]; exact cell_new _ _ _ _
      have hcc1 : w1.cell? ⟨w.heap.size, 0, none⟩ = some (.slice A1 ns.length c1) := (hb2.cell (p := ⟨w.heap.size, 0, none⟩) hs0).trans hcc
      have hccL : WL.cell? ⟨w.heap.size, 0, none⟩ = some (.slice A1 ns.length c1) := by rw [← hWL]; exact cell_alloc hcc1 _
      have hG : GrOk WL A0 c0 B l m := ⟨Kd.C_below HR.out hBL, hc, hM.below hbL hM.lt, hK, hck⟩
      have hP : Pred WL 77 #[.pointer (some ⟨w1.heap.size, 0, none⟩), .pointer (some ⟨w.heap.size, 0, none⟩)] (names l) (fun d => (anc l d).any (memS ns)) := by
        refine ⟨enters_of Try.func77 (by kernel_rfl) rfl, fun x hx W hW => ?_⟩
        simp only [List.append_toArray, List.cons_append, List.nil_append]
        exact touched1_calls (hG.later hW) w1.heap.size w.heap.size A1 c1 ns x hx ((hW.cell (p := ⟨w1.heap.size, 0, none⟩) (World.block_lt_of_cell? _ _ hg0)).trans hg0) ((hW.cell (p := ⟨w1.heap.size, 1, none⟩) (World.block_lt_of_cell? _ _ hg1)).trans hg1) (Kd.C_below HN.out (hBL.trans (hW.mono hBL.size))) ((hW.cell (p := ⟨w.heap.size, 0, none⟩) (World.block_lt_of_cell? _ _ hccL)).trans hccL)
      have hcall := names_calls A0 c0 (.map (some B)) l _ _ _ WL hG.r hc (by have := (checkOk hck).1; omega) hP
      have HC := Lib.hid hcall
      have HIO := Lib.hid hio
      clear hcall hio he hM hK hP hG hck hcc hcc1 hW0 hccL
      gi_wp2_with (gi_at_call 59; refine (callsIn_wide.2 HC.out).mono ?_; rintro e w2 ⟨v, rfl, hR2, hb3⟩)
      go_ret2
      exact ⟨v, by rw [HIO.out]; rfl, by rw [HIO.out]; exact ⟨Kd.R_lower hR2.1 hBL.size, hR2.2⟩, hBL.trans (hb3.mono hBL.size)⟩
end Go.Proofs.Ytdljclokenoogaa.Hw
end
section
namespace Go.Proofs.Ytdljclokenoogaa.Hw
open Go.RowKit Go.Proofs.Ytdljclokenoogaa.Hp Go.Proofs.YtdljclokenoogaaW.PrintWords Go.Proofs.YtdljclokenoogaaW.PrintLast Go.Proofs.YtdljclokenoogaaW.PrintMore
attribute [local go_sem] Oper.semAt_some
theorem idx_first {l : List S61} {k : ByteArray} : ∀ {i j : Nat}, idx l k = some i → j < l.length → (rd_T61 l (j : Int)).f0 = k → i ≤ j := by
  induction l with
  | nil => intro i j h hj; simp at hj
  | cons a l ih =>
    intro i j h hj hn
    simp only [idx] at h
    split at h
    · cases h; omega
    · rename_i hne
      cases hi : idx l k with
      | none => rw [hi] at h; cases h
      | some i' =>
        rw [hi] at h
        cases h
        cases j with
        | zero => exact absurd (by simpa [rd_T61] using hn.symm) hne
        | succ j =>
          have := ih hi (j := j) (by simpa using hj) (by simpa [rd_T61] using hn)
          show i' + 1 ≤ j + 1
          omega
theorem checkOk_nodup {l : List S61} (h : ∀ j, j < l.length → aloneOf l j = 0) : (names l).Nodup := by
  rw [List.Nodup, List.pairwise_iff_getElem]
  intro i j hi hj hij e
  have hj' : j < l.length := by simpa [names] using hj
  have hi' : i < l.length := by simpa [names] using hi
  have h1 := h j hj'
  have e1 : (rd_T61 l (j : Int)).f0 = (names l)[j] := by simp [names, rd_T61, hj']
  have e2 : (rd_T61 l (i : Int)).f0 = (names l)[i] := by simp [names, rd_T61, hi']
  have h2 : ¬ ((idx l (rd_T61 l (j : Int)).f0).getD 0 < j) := by
    intro hlt
    unfold aloneOf at h1
    split at h1
    · cases h1
    · split at h1
      · cases h1
      · rw [if_pos (.inl hlt)] at h1; cases h1
  have h3 : (idx l (rd_T61 l (j : Int)).f0).isSome = true := idx_mem.2 (by rw [e1]; exact List.getElem_mem _)
  cases hx : idx l (rd_T61 l (j : Int)).f0 with
  | none => rw [hx] at h3; cases h3
  | some q =>
    rw [hx] at h2
    have h4 := idx_first hx hi' (by rw [e2, e1, e])
    simp at h2
    omega
structure OrSt (w : World) (A0 : Option Addr) (n c0 B bg : Nat) (m : List (ByteArray × Value)) (v : Value) (out : List ByteArray) (W : World) : Prop where
  hB : Below w.heap.size w W
  g0 : W.cell? ⟨bg, 0, none⟩ = some (.slice A0 n c0)
  g1 : W.cell? ⟨bg, 1, none⟩ = some (.map (some B))
  dn : W.cell? ⟨bg + 2, 0, none⟩ = some (.map (some (bg + 1)))
  D : IsMap W (bg + 1) (keysOf out)
  M : IsMap W B m
  row : Row W (bg + 3) (fun _ => True) v out
  l1 : w.heap.size ≤ B
  l2 : B < bg
section
variable {w : World} {A0 : Option Addr} {n c0 B bg : Nat} {m : List (ByteArray × Value)} {v : Value} {out : List ByteArray}
theorem OrSt.lt {W : World} (h : OrSt w A0 n c0 B bg m v out W) : bg + 2 < W.heap.size := World.block_lt_of_cell? _ _ h.dn
theorem OrSt.later {W W' : World} (h : OrSt w A0 n c0 B bg m v out W) (hb : Below W.heap.size W W') : OrSt w A0 n c0 B bg m v out W' := by
  have h1 := h.l1; have h2 := h.l2; have h3 := h.lt
  exact ⟨h.hB.trans (hb.mono h.hB.size), (hb.cell (p := ⟨bg, 0, none⟩) (by dsimp only; omega)).trans h.g0, (hb.cell (p := ⟨bg, 1, none⟩) (by dsimp only; omega)).trans h.g1, (hb.cell (p := ⟨bg + 2, 0, none⟩) (by dsimp only; omega)).trans h.dn, h.D.below hb h.D.lt, h.M.below hb h.M.lt, h.row.later hb, h1, h2⟩
theorem OrSt.next {W W1 W2 : World} (h : OrSt w A0 n c0 B bg m v out W) {v' : Value} {c : ByteArray} (hm : IsMap W1 (bg + 1) (keysOf (out ++ [c]))) (hg1 : W.grownBy W1 (some (bg + 1))) (hr : Row W2 (bg + 3) (fun _ => True) v' (out ++ [c])) (hg : W1.grownBy W2 v.ownBlock) : OrSt w A0 n c0 B bg m v' (out ++ [c]) W2 := by
  have h1 := h.l1; have h2 := h.l2; have h3 := h.lt
  have hsz := hg1.size
  have hv : ∀ k, k < bg + 3 → some k ≠ v.ownBlock := fun k hk e => by have := (h.row.blocks k e.symm).1; omega
  have hn : ∀ k, k ≠ bg + 1 → some k ≠ some (bg + 1) := fun k hk e => hk (by injection e)
  have hc : ∀ {b o : Nat} {u : Value}, b < bg + 3 → b ≠ bg + 1 → W.cell? ⟨b, o, none⟩ = some u → W2.cell? ⟨b, o, none⟩ = some u := fun hb hne hc => hg.cell (hg1.cell hc (hn _ hne)) (hv _ hb)
  exact ⟨(h.hB.grown hg1 (by omega) (fun k e => by cases e; omega)).grown hg (by omega) (fun k e => by have := (h.row.blocks k e).1; omega), hc (by omega) (by omega) h.g0, hc (by omega) (by omega) h.g1, hc (by omega) (by omega) h.dn, hm.kept hg (hv _ (by omega)), (h.M.kept hg1 (hn _ (by omega))).kept hg (hv _ (by omega)), hr, h1, h2⟩
end
def orderOf (l : List S61) : List ByteArray × Int := if askedOf l [] = 0 then (orderN (ups l) (names l) l.length, 0) else ([], askedOf l [])
set_option maxRecDepth 100000 in
set_option maxHeartbeats 8000000 in
theorem order_calls (A0 : Option Addr) (c0 : Nat) (l : List S61) (w : World) (hr : k61.C w A0 l.length l) (hc : l.length ≤ c0) :
    Calls Try.prog 17 #[.slice A0 l.length c0] w fun e w' => ∃ v, e = .returned (.tuple #[v, .int .i64 (orderOf l).2]) ∧ Row w' w.heap.size (fun _ => True) v (orderOf l).1 ∧ Below w.heap.size w w' := by
  refine (callsIn_wide (n := 20)).1 ?_
  refine callsIn_of_wp Try.func17 rfl trivial ?_
  simp only [Try.ntmps17, List.size_toArray, List.length_cons, List.length_nil, Nat.reduceAdd, Nat.reduceSub, Array.replicate_succ, Array.replicate_zero, List.push_toArray, List.append_toArray, List.nil_append, List.cons_append]
  have hmm := @run_makeMap Try.prog
  have HR := Lib.hid hr
  clear hr
  gi_wp2_with fail
  refine (callsIn_wide.2 (right_calls A0 none c0 0 l [] _ HR.out hc (lit0 _))).mono ?_
  rintro e w1 ⟨hb1, ⟨he, rfl⟩ | ⟨he, B, m, rfl, hBB, hM, hK⟩⟩
  · obtain ⟨er, her⟩ : ∃ er, askedOf l [] = er := ⟨_, rfl⟩
    have hio : orderOf l = ([], er) := by unfold orderOf; rw [if_neg he, her]
    rw [her] at he ⊢
    have heb : (er != 0) = true := by simpa using he
    have HIO := Lib.hid hio
    clear her hio he
    gi_wp2_with fail
    go_ret2
    exact ⟨.slice none 0 0, by rw [HIO.out]; rfl, by rw [HIO.out]; exact Row.nil _ _ _, by first | exact hb1 | exact hb1.alloc hb1.size _⟩
  · have hio : orderOf l = (orderN (ups l) (names l) l.length, 0) := by unfold orderOf; rw [if_pos he]
    have hck := (askedOk he).1
    obtain ⟨hl24, hal, _, hrg⟩ := checkOk hck
    obtain ⟨rk, hrk, _⟩ := rank_of_ring hrg
    have hBlt := hM.lt
    have hsz1 := hb1.size
    have HRK := Lib.hid hrk
    have HND := Lib.hid (checkOk_nodup hal)
    have HIO := Lib.hid hio
    have HK := Lib.hid hK
    have HCK := Lib.hid hck
    have hS : OrSt w A0 l.length c0 B w1.heap.size m (.slice none 0 0) [] (((w1.alloc (.cells #[.slice A0 l.length c0, .map (some B)] 99)).alloc (.map #[] 0)).alloc (.cells #[.map (some (w1.heap.size + 1))] 102)) := by
      have h1 := cell_new ((w1.alloc (.cells #[.slice A0 l.length c0, .map (some B)] 99)).alloc (.map #[] 0)) #[.map (some (w1.heap.size + 1))] 102 0
      have h2 := IsMap.made (w1.alloc (.cells #[.slice A0 l.length c0, .map (some B)] 99))
      simp only [World.size_alloc] at h1 h2
      exact ⟨((hb1.alloc hsz1 _).alloc (by simp; omega) _).alloc (by simp; omega) _, cell_alloc (cell_alloc (cell_new _ _ _ _) _) _, cell_alloc (cell_alloc (cell_new _ _ _ _) _) _, h1, h2.alloc _, ((hM.alloc _).alloc _).alloc _, Row.nil _ _ _, hBB, hBlt⟩
    have HS := Lib.hid hS
    clear hS hM hK hck hal hrg hrk hio he
    gi_wp2_with fail
    obtain ⟨WL, hWL⟩ : ∃ WL, (((w1.alloc (.cells #[.slice A0 l.length c0, .map (some B)] 99)).alloc (.map #[] 0)).alloc (.cells #[.map (some (w1.heap.size + 1))] 102)) = WL := ⟨_, rfl⟩
    rw [hWL] at HS ⊢
    clear hWL hmm
    gi_loopw [6, 22] (fun v i wr => ∃ (k : Nat), k ≤ l.length ∧ i = .int .i64 k ∧ Aside0 (OrSt w A0 l.length c0 B w1.heap.size m v (orderN (ups l) (names l) k) wr)) (fun _ i _ => l.length - (intOf i).toNat)
    case atStart => exact ⟨0, Nat.zero_le _, rfl, ⟨HS.out⟩⟩
    case round =>
      obtain ⟨k, hk, rfl, hrel⟩ := hrel
      have hS := hrel.out
      by_cases hlt : k < l.length
      · have hg0 := hS.g0
        have hg1 := hS.g1
        have hlt0 := hS.lt
        have hdn := hS.dn
        obtain ⟨out, hout⟩ : ∃ out, orderN (ups l) (names l) k = out := ⟨_, rfl⟩
        have hne : (names l).filter (openS (ups l) out) ≠ [] := by
          rw [← hout]
          refine open_ne HRK.out (fun c p hp => (ups_mem hp).2) HND.out ?_
          rw [orderN_len, names_len]; exact hlt
        have hnext : orderN (ups l) (names l) (k + 1) = out ++ [Lib.minOfS ((names l).filter (openS (ups l) out))] := by rw [← hout]; rfl
        have hlen : out.length ≤ 1100000000000 := by rw [← hout, orderN_len]; omega
        rw [hout] at hS
        obtain ⟨bg, hbg⟩ : ∃ bg, w1.heap.size = bg := ⟨_, rfl⟩
        have hG : GrOk wr A0 c0 B l m := ⟨Kd.C_below HR.out hS.hB, hc, hS.M, HK.out, HCK.out⟩
        have hP : Pred wr 56 #[.pointer (some ⟨w1.heap.size + 2, 0, none⟩), .pointer (some ⟨w1.heap.size, 0, none⟩)] (names l) (openS (ups l) out) := by
          refine ⟨enters_of Try.func56 (by kernel_rfl) rfl, fun x hx W hW => ?_⟩
          simp only [List.append_toArray, List.cons_append, List.nil_append]
          have hSW := hS.later hW
          exact open1_calls (hG.later hW) _ _ _ x out hSW.g0 hSW.g1 hSW.dn hSW.D
        have hcall := names_calls A0 c0 (.map (some B)) l _ _ _ wr hG.r hc (by omega) hP
        have HC := Lib.hid hcall
        have hpos : 0 < ((names l).filter (openS (ups l) out)).length := List.length_pos_iff.2 hne
        obtain ⟨c, hcm⟩ : ∃ c, Lib.minOfS ((names l).filter (openS (ups l) out)) = c := ⟨_, rfl⟩
        rw [hcm] at hnext
        have HCM := Lib.hid hcm
        have HNEXT := Lib.hid hnext
        have HLEN := Lib.hid hlen
        clear hcall hP hG hne hnext hlen hcm hbg hout hrel
        gi_wp2_with (first
          | (gi_at_call 59; refine (callsIn_wide.2 HC.out).mono ?_; rintro e w2 ⟨v2, rfl, hR2, hb2⟩; obtain ⟨A2, c2, rfl, hcap2, hC2⟩ := hR2.reads; have hS2 := hS.later hb2; have hdn2 := hS2.dn; clear hdn hg0 hg1)
          | (gi_at_call 58; refine (callsIn_wide.2 (min_calls _ _ _ _ hC2 hpos)).mono ?_; rintro e w3 ⟨he3, rfl⟩; rw [HCM.out] at he3; subst he3)
          | (gi_at_mapUpdate; refine wpListIn_store _ rfl _ _ _ 102 rfl 9 4 Try.underlying102 Try.underlying9 (w1.heap.size + 1) (keysOf out) rfl hS2.D _ _ rfl rfl ?_; intro w4 hM4 hG4; have hsz4 := hG4.size; have hlt2 := hS2.lt; have hr4 := hS2.row.grown hG4 (fun k e _ => by cases e; omega); have HM4 := Lib.hid hM4; clear hM4)
          | (gi_at_builtin; refine Row_push (w1.heap.size + 3) rfl _ _ rfl u6 out c (fun _ => True) rfl rfl (fun _ _ => trivial) hr4 (by omega) HLEN.out ?_; intro g cp w5 hR5 hG5 hat; have HR5 := Lib.hid hR5; clear hR5))
        go_roundw
        case rel => exact ⟨k + 1, by omega, by go_num, ⟨by rw [HNEXT.out]; exact hS2.next (by rw [keysOf_snoc]; exact HM4.out) hG4 HR5.out hG5⟩⟩
        case measure => simp [intOf]; omega
      · obtain rfl : k = l.length := by omega
        have hrow := hS.row
        obtain ⟨A2, c2, rfl, hcap2, hC2⟩ := hrow.reads
        have HROW := Lib.hid hrow
        clear hrow hC2 hcap2
        gi_wp2_with fail
        go_ret2
        exact ⟨_, by rw [HIO.out]; rfl, by rw [HIO.out]; exact ⟨Kd.R_lower HROW.out.1 (by omega), HROW.out.2⟩, hS.hB⟩
end Go.Proofs.Ytdljclokenoogaa.Hw
end
section
namespace Go.Proofs.Ytdljclokenoogaa.Hw
open Go.RowKit Go.Proofs.Ytdljclokenoogaa.Hp Go.Proofs.YtdljclokenoogaaW.PrintWords Go.Proofs.YtdljclokenoogaaW.PrintLast Go.Proofs.YtdljclokenoogaaW.PrintMore
attribute [local go_sem] Oper.semAt_some
def lvl (l : List S61) (c : ByteArray) : Nat := lvlN (ups l) (l.length + 1) c
def rowStep (lv : ByteArray → Nat) (R : List (List ByteArray)) (c : ByteArray) : List (List ByteArray) := (if lv c = R.length then R ++ [[]] else R).modify (lv c) (· ++ [c])
def rowsF (lv : ByteArray → Nat) (xs : List ByteArray) : List (List ByteArray) := xs.foldl (rowStep lv) []
def levelsOf (l : List S61) : List (List ByteArray) × Int := if (orderOf l).2 = 0 then ((rowsF (lvl l) (orderOf l).1).map sortS, 0) else ([], (orderOf l).2)
theorem rowStep_len (lv : ByteArray → Nat) (R : List (List ByteArray)) (c : ByteArray) : (rowStep lv R c).length = if lv c = R.length then R.length + 1 else R.length := by
  unfold rowStep; rw [List.length_modify]; split <;> simp
theorem rowsF_snoc (lv : ByteArray → Nat) (xs : List ByteArray) (x : ByteArray) : rowsF lv (xs ++ [x]) = rowStep lv (rowsF lv xs) x := by simp [rowsF]
theorem rowsF_le (lv : ByteArray → Nat) : ∀ (xs : List ByteArray), (rowsF lv xs).length ≤ xs.length ∧ ∀ r ∈ rowsF lv xs, r.length ≤ xs.length := by
  have key : ∀ (xs : List ByteArray) (R : List (List ByteArray)) (n : Nat), R.length ≤ n → (∀ r ∈ R, r.length ≤ n) → (xs.foldl (rowStep lv) R).length ≤ n + xs.length ∧ ∀ r ∈ xs.foldl (rowStep lv) R, r.length ≤ n + xs.length := by
    intro xs
    induction xs with
    | nil => intro R n h1 h2; exact ⟨h1, h2⟩
    | cons x xs ih =>
      intro R n h1 h2
      have := ih (rowStep lv R x) (n + 1) (by rw [rowStep_len]; split <;> omega) (fun r hr => by
        unfold rowStep at hr
        obtain ⟨i, hi, e⟩ := List.mem_iff_getElem.1 hr
        rw [List.getElem_modify] at e
        have h3 : ∀ r ∈ (if lv x = R.length then R ++ [[]] else R), r.length ≤ n := by
          intro r hr
          split at hr
          · rcases List.mem_append.1 hr with hr | hr
            · exact h2 r hr
            · rw [List.mem_singleton.1 hr]; simp
          · exact h2 r hr
        have h4 := h3 _ (List.getElem_mem (l := if lv x = R.length then R ++ [[]] else R) (n := i) (by simpa using hi))
        rw [← e]
        split
        · simp; omega
        · omega)
      simp only [List.foldl_cons, List.length_cons]
      exact ⟨by omega, fun r hr => by have := this.2 r hr; omega⟩
  intro xs
  have := key xs [] 0 (by simp) (by simp)
  simpa [rowsF] using this
theorem foldl_max_le {α : Type} (f : α → Nat) : ∀ (l : List α) (a N : Nat), l.foldl (fun m p => max m (f p)) a ≤ N ↔ a ≤ N ∧ ∀ p ∈ l, f p ≤ N
  | [], a, N => by simp
  | x :: l, a, N => by
    rw [List.foldl_cons, foldl_max_le f l]
    simp only [List.mem_cons, forall_eq_or_imp, Nat.max_le, and_assoc]
theorem lvlN_le {up : ByteArray → List ByteArray} : ∀ (n : Nat) (c : ByteArray), lvlN up n c ≤ n
  | 0, _ => Nat.le_refl _
  | n + 1, c => by simp only [lvlN]; rw [foldl_max_le]; exact ⟨by omega, fun p _ => by have := lvlN_le (up := up) n p; omega⟩
section
variable {l : List S61} {x : ByteArray} {os ps : List ByteArray} {j : Nat} {D : List (ByteArray × Nat)}
theorem lvl_small (c : ByteArray) : lvl l c ≤ l.length + 1 := lvlN_le _ _
theorem lvl_fold {rk : ByteArray → Nat} (hrk : ∀ c p, p ∈ ups l c → rk p < rk c) (hrn : ∀ c, rk c < l.length + 1) (c : ByteArray) : lvl l c = (ups l c).foldl (fun m p => max m (lvl l p + 1)) 0 := by
  show lvlN (ups l) (l.length + 1) c = _
  simp only [lvlN]
  exact foldl_congr_mem (ups l c) 0 (fun m p hp => by
    have h1 := hrk c p hp; have h2 := hrn c
    show _ = max m (lvlN (ups l) (l.length + 1) p + 1)
    rw [lvlN_fuel hrk l.length (l.length + 1) p (by omega) (hrn p)])
def LvDone (l : List S61) (os : List ByteArray) (j : Nat) (D : List (ByteArray × Nat)) : Prop := ∀ k, val D k = if memS (os.take j) k = true then lvl l k else 0
def LvMid (l : List S61) (os : List ByteArray) (j : Nat) (x : ByteArray) (ps : List ByteArray) (D : List (ByteArray × Nat)) : Prop :=
  val D x = ps.foldl (fun m p => max m (lvl l p + 1)) 0 ∧ ∀ k, k ≠ x → val D k = if memS (os.take j) k = true then lvl l k else 0
theorem LvDone.mid (h : LvDone l os j D) (hn : os.Nodup) (hj : j < os.length) (hx : nth os j = x) : LvMid l os j x [] D := by
  refine ⟨?_, fun k _ => h k⟩
  rw [h x, if_neg (fun hm => nodup_take hn hj (by rw [hx]; exact memS_iff.1 hm))]
  rfl
theorem LvMid.par (h : LvMid l os j x ps D) (ho : Ordered (ups l) os) (hj : j < os.length) (hx : nth os j = x) {p : ByteArray} (hp : p ∈ ups l x) (hpx : p ≠ x) : val D p = lvl l p := by
  rw [h.2 p hpx, if_pos]
  refine memS_iff.2 (ho (os.take j) x (os.drop (j + 1)) ?_ p hp)
  rw [← hx]; exact mem_take_split hj
theorem LvMid.put (h : LvMid l os j x ps D) {p : ByteArray} (hv : val D p = lvl l p) : LvMid l os j x (ps ++ [p]) (mput D x (max (val D x) (val D p + 1))) := by
  refine ⟨?_, fun k hk => ?_⟩
  · rw [val_mput, if_pos rfl, h.1, hv, List.foldl_append]; rfl
  · rw [val_mput, if_neg hk, h.2 k hk]
theorem LvMid.at {rk : ByteArray → Nat} (hrk : ∀ c p, p ∈ ups l c → rk p < rk c) (hrn : ∀ c, rk c < l.length + 1) (h : LvMid l os j x (ups l x) D) : val D x = lvl l x := by rw [h.1, lvl_fold hrk hrn]
theorem LvMid.done {rk : ByteArray → Nat} (hrk : ∀ c p, p ∈ ups l c → rk p < rk c) (hrn : ∀ c, rk c < l.length + 1) (h : LvMid l os j x (ups l x) D) (hj : j < os.length) (hx : nth os j = x) : LvDone l os (j + 1) D := by
  intro k
  rw [take_nth os j hj, hx]
  by_cases hk : k = x
  · subst hk
    rw [if_pos (memS_iff.2 (by simp)), h.at hrk hrn]
  · rw [h.2 k hk]
    by_cases hm : memS (os.take j) k = true
    · rw [if_pos hm, if_pos (memS_iff.2 (List.mem_append_left _ (memS_iff.1 hm)))]
    · have hm2 : ¬ memS (os.take j ++ [x]) k = true := fun h' => by
        rcases List.mem_append.1 (memS_iff.1 h') with h' | h'
        · exact hm (memS_iff.2 h')
        · exact hk (List.mem_singleton.1 h')
      rw [if_neg hm, if_neg hm2]
theorem LvMid.le (h : LvMid l os j x ps D) : val D x ≤ l.length + 2 := by
  rw [h.1, foldl_max_le]
  exact ⟨by omega, fun p _ => by have := lvl_small (l := l) p; omega⟩
def RwLen (l : List S61) (os : List ByteArray) (j : Nat) : Prop := ∀ k ∈ os.take j, lvl l k < (rowsF (lvl l) (os.take j)).length
theorem RwLen.at {rk : ByteArray → Nat} (hrk : ∀ c p, p ∈ ups l c → rk p < rk c) (hrn : ∀ c, rk c < l.length + 1) (h : RwLen l os j) (ho : Ordered (ups l) os) (hj : j < os.length) (hx : nth os j = x) : lvl l x ≤ (rowsF (lvl l) (os.take j)).length := by
  rw [lvl_fold hrk hrn, foldl_max_le]
  refine ⟨Nat.zero_le _, fun p hp => h p (ho (os.take j) x (os.drop (j + 1)) ?_ p hp)⟩
  rw [← hx]; exact mem_take_split hj
theorem RwLen.next (h : RwLen l os j) (hj : j < os.length) (hx : nth os j = x) (hle : lvl l x ≤ (rowsF (lvl l) (os.take j)).length) : RwLen l os (j + 1) := by
  intro k hk
  rw [take_nth os j hj, hx] at hk ⊢
  rw [rowsF_snoc, rowStep_len]
  rcases List.mem_append.1 hk with hk | hk
  · have := h k hk; split <;> omega
  · rw [List.mem_singleton.1 hk]; split <;> omega
end
theorem rowStep_new {lv : ByteArray → Nat} {R : List (List ByteArray)} {c : ByteArray} (h : lv c = R.length) : rowStep lv R c = (R ++ [[]]).set (lv c) ((R ++ [[]]).getD (lv c) [] ++ [c]) := by
  unfold rowStep; rw [if_pos h, List.modify_eq_set]
  simp [List.getD_eq_getElem?_getD, h]
theorem rowStep_old {lv : ByteArray → Nat} {R : List (List ByteArray)} {c : ByteArray} (h : lv c < R.length) : rowStep lv R c = R.set (lv c) (R.getD (lv c) [] ++ [c]) := by
  unfold rowStep; rw [if_neg (by omega), List.modify_eq_set]
  simp [List.getD_eq_getElem?_getD, h]
theorem sorted_next {R : List (List ByteArray)} {k : Nat} (hk : k < R.length) : ((R.take k).map sortS ++ R.drop k).set k (sortS (R.getD k [])) = (R.take (k + 1)).map sortS ++ R.drop (k + 1) := by
  have hl : ((R.take k).map sortS).length = k := by rw [List.length_map, List.length_take]; omega
  rw [List.set_append_right _ _ (by omega), hl, Nat.sub_self, List.drop_eq_getElem_cons hk, List.set_cons_zero, List.take_succ_eq_append_getElem hk, List.map_append, List.append_assoc]
  simp [List.getD_eq_getElem?_getD, hk]
theorem sorted_at {R : List (List ByteArray)} {k : Nat} (hk : k < R.length) : ((R.take k).map sortS ++ R.drop k).getD k [] = R.getD k [] := by
  have hl : ((R.take k).map sortS).length = k := by rw [List.length_map, List.length_take]; omega
  simp only [List.getD_eq_getElem?_getD]
  rw [List.getElem?_append_right (by omega), hl, Nat.sub_self]
  simp [hk]
structure LvSt (w2 : World) (A0 : Option Addr) (n c0 B bg : Nat) (m : List (ByteArray × Value)) (D : List (ByteArray × Nat)) (v : Value) (vs : List Sl) (xss : List (List ByteArray)) (W : World) : Prop where
  hB : Below bg w2 W
  g0 : W.cell? ⟨bg, 0, none⟩ = some (.slice A0 n c0)
  g1 : W.cell? ⟨bg, 1, none⟩ = some (.map (some B))
  mp : W.cell? ⟨bg + 2, 0, none⟩ = some (.map (some (bg + 1)))
  M : IsMap W (bg + 1) (nums D)
  G : IsMap W B m
  rw : Rws W (bg + 3) v vs xss
  l2 : B < bg
section
variable {w2 : World} {A0 : Option Addr} {n c0 B bg : Nat} {m : List (ByteArray × Value)} {D : List (ByteArray × Nat)} {v : Value} {vs : List Sl} {xss : List (List ByteArray)}
theorem LvSt.lt {W : World} (h : LvSt w2 A0 n c0 B bg m D v vs xss W) : bg + 2 < W.heap.size := World.block_lt_of_cell? _ _ h.mp
theorem LvSt.same {W W' : World} (h : LvSt w2 A0 n c0 B bg m D v vs xss W) (hb : Below (bg + 3) W W') (hr : Rws W' (bg + 3) v vs xss) : LvSt w2 A0 n c0 B bg m D v vs xss W' := by
  have h2 := h.l2
  exact ⟨h.hB.trans (hb.mono (by omega)), (hb.cell (p := ⟨bg, 0, none⟩) (by dsimp only; omega)).trans h.g0, (hb.cell (p := ⟨bg, 1, none⟩) (by dsimp only; omega)).trans h.g1, (hb.cell (p := ⟨bg + 2, 0, none⟩) (by dsimp only; omega)).trans h.mp, h.M.below hb (by omega), h.G.below hb (by omega), hr, h2⟩
theorem LvSt.later {W W' : World} (h : LvSt w2 A0 n c0 B bg m D v vs xss W) (hb : Below W.heap.size W W') : LvSt w2 A0 n c0 B bg m D v vs xss W' := h.same (hb.mono (by have := h.lt; omega)) (h.rw.later hb)
theorem LvSt.alloc {W : World} (h : LvSt w2 A0 n c0 B bg m D v vs xss W) (o : Obj) : LvSt w2 A0 n c0 B bg m D v vs xss (W.alloc o) := h.later ((Below.refl _ _).alloc (Nat.le_refl _) _)
theorem LvSt.oth {W W' : World} {H : Nat} (h : LvSt w2 A0 n c0 B bg m D v vs xss W) (hb : Oth H W W') (hH : bg + 3 ≤ H) : LvSt w2 A0 n c0 B bg m D v vs xss W' := h.same (hb.below.mono hH) (h.rw.oth hb)
theorem LvSt.stored {W W' : World} (h : LvSt w2 A0 n c0 B bg m D v vs xss W) {D' : List (ByteArray × Nat)} (hm : IsMap W' (bg + 1) (nums D')) (hg : W.grownBy W' (some (bg + 1))) : LvSt w2 A0 n c0 B bg m D' v vs xss W' := by
  have hl := h.lt
  have h2 := h.l2
  have hne : ∀ k, k ≠ bg + 1 → some k ≠ some (bg + 1) := fun k hk e => hk (by injection e)
  exact ⟨h.hB.grown hg (by omega) (fun k e => by cases e; omega), hg.cell h.g0 (hne _ (by dsimp only; omega)), hg.cell h.g1 (hne _ (by dsimp only; omega)), hg.cell h.mp (hne _ (by dsimp only; omega)), hm, h.G.kept hg (hne _ (by omega)), h.rw.kept hg (by omega), h2⟩
theorem LvSt.push {W W' : World} (h : LvSt w2 A0 n c0 B bg m D v vs xss W) {v' : Value} (hg : W.grownBy W' v.ownBlock) (hr : RowK kSl 25 W' (bg + 3) v' (vs ++ [nilSl])) : LvSt w2 A0 n c0 B bg m D v' (vs ++ [nilSl]) (xss ++ [[]]) W' := by
  have hl := h.lt
  have h2 := h.l2
  have hv : ∀ k, k < bg + 3 → some k ≠ v.ownBlock := fun k hk e => by have := (h.rw.own.blocks k e.symm).1; omega
  exact ⟨h.hB.grown hg (by omega) (fun k e => by have := (h.rw.own.blocks k e).1; omega), hg.cell h.g0 (hv _ (by dsimp only; omega)), hg.cell h.g1 (hv _ (by dsimp only; omega)), hg.cell h.mp (hv _ (by dsimp only; omega)), h.M.kept hg (hv _ (by omega)), h.G.kept hg (hv _ (by omega)), h.rw.push hg hr, h2⟩
theorem LvSt.put {W : World} (h : LvSt w2 A0 n c0 B bg m D v vs xss W) {d : Nat} (hd : d < xss.length) {gO q cO : Nat} (hv : v = .slice (some ⟨gO, 0, none⟩) q cO) {w1 : World} {u : Sl} {ys : List ByteArray} (hR : Row w1 (bg + 3) (fun _ => True) (encSl u) ys) (hG : W.grownBy w1 (encSl (vs.getD d nilSl)).ownBlock)
    (hat : (encSl u).ownBlock = (encSl (vs.getD d nilSl)).ownBlock ∨ ∃ b, (encSl u).ownBlock = some b ∧ W.heap.size ≤ b) : LvSt w2 A0 n c0 B bg m D v (vs.set d u) (xss.set d ys) (w1.setCell ⟨gO, d, none⟩ (encSl u)) := by
  have hl := h.lt
  have h2 := h.l2
  have hrow := h.rw.row d hd
  have hv' : ∀ k, k < bg + 3 → some k ≠ (encSl (vs.getD d nilSl)).ownBlock := fun k hk e => by have := (hrow.blocks k e.symm).1; omega
  have hgO : bg + 3 ≤ gO := (h.rw.own.blocks gO (by rw [hv]; rfl)).1
  have hc : ∀ {b o : Nat} {x : Value}, b < bg + 3 → W.cell? ⟨b, o, none⟩ = some x → (w1.setCell ⟨gO, d, none⟩ (encSl u)).cell? ⟨b, o, none⟩ = some x := fun hb hc => (cell_set_ne _ (by dsimp only; omega)).trans (hG.cell hc (hv' _ (by dsimp only; omega)))
  exact ⟨(h.hB.grown hG (by omega) (fun k e => by have := (hrow.blocks k e).1; omega)).setCell (p := ⟨gO, d, none⟩) (by dsimp only; omega) _, hc (by omega) h.g0, hc (by omega) h.g1, hc (by omega) h.mp, (h.M.kept hG (hv' _ (by omega))).setCell _ _, (h.G.kept hG (hv' _ (by omega))).setCell _ _, h.rw.put hd hv hR hG hat, h2⟩
theorem LvSt.turn {W : World} (h : LvSt w2 A0 n c0 B bg m D v vs xss W) {d : Nat} (hd : d < xss.length) {w1 : World} {ys : List ByteArray} (hR : Row w1 (bg + 3) (fun _ => True) (encSl (vs.getD d nilSl)) ys) (hG : W.grownBy w1 (encSl (vs.getD d nilSl)).ownBlock) : LvSt w2 A0 n c0 B bg m D v vs (xss.set d ys) w1 := by
  have hl := h.lt
  have h2 := h.l2
  have hrow := h.rw.row d hd
  have hv' : ∀ k, k < bg + 3 → some k ≠ (encSl (vs.getD d nilSl)).ownBlock := fun k hk e => by have := (hrow.blocks k e.symm).1; omega
  have hc : ∀ {b o : Nat} {x : Value}, b < bg + 3 → W.cell? ⟨b, o, none⟩ = some x → w1.cell? ⟨b, o, none⟩ = some x := fun hb hc => hG.cell hc (hv' _ (by dsimp only; omega))
  exact ⟨h.hB.grown hG (by omega) (fun k e => by have := (hrow.blocks k e).1; omega), hc (by omega) h.g0, hc (by omega) h.g1, hc (by omega) h.mp, h.M.kept hG (hv' _ (by omega)), h.G.kept hG (hv' _ (by omega)), h.rw.turn hd hR hG, h2⟩
end
end Go.Proofs.Ytdljclokenoogaa.Hw
end
section
namespace Go.Proofs.Ytdljclokenoogaa.Hw
open Go
section
variable {P : Program} {ops : Array Oper} {Q : Exit → Act → World → Prop} {md : Region.Mode} {S : World → Prop} {L : Nat}
def wpAnyL (P : Program) (md : Region.Mode) (ops : Array Oper) (Q : Exit → Act → World → Prop) (S : World → Prop) (L : Nat) : Nat → Array Bool → Act → World → Prop
  | 0, listed, a, w => Region.ready md ops listed = [] ∧ Q .normal a w
  | fuel + 1, listed, a, w =>
    (Region.ready md ops listed = [] → Q .normal a w) ∧
    ∀ i ∈ Region.ready md ops listed, wpOp P ops Q i (fun a' w' => (i ≠ L → S w') ∧ wpAnyL P md ops Q S L fuel (listed.setIfInBounds i true) a' w') a w
theorem wpAny_of_last : ∀ (fuel : Nat) (listed : Array Bool) (a : Act) (w : World), wpAnyL P md ops Q S L fuel listed a w → wpAny P md ops Q fuel listed a w
  | 0, _, _, _, h => h
  | fuel + 1, _, _, _, h => ⟨h.1, fun i hi => wpOp_mono (fun a' w' h' => wpAny_of_last fuel _ a' w' h'.2) (h.2 i hi)⟩
def Waits (md : Region.Mode) (ops : Array Oper) (L i : Nat) : Bool := match ops[L]? with | some o => o.after.toList.any (fun e => Region.binds md e && decide (e.on = i)) | none => true
theorem Waits.of {i : Nat} (h : Waits md ops L i = true) {o : Oper} (ho : ops[L]? = some o) : ∃ e ∈ o.after, Region.binds md e = true ∧ e.on = i := by
  unfold Waits at h
  rw [ho] at h
  obtain ⟨e, he, h2⟩ := List.any_eq_true.1 h
  rw [Bool.and_eq_true, decide_eq_true_iff] at h2
  exact ⟨e, by simpa using he, h2⟩
theorem wpAnyL_first {i : Nat} {oi : Oper} {v : Value} (hi : ops[i]? = some oi) (hL : Waits md ops L i = true) (hsel : ∀ (j : Nat) (o : Oper) cs b, ops[j]? = some o → o.op ≠ .select cs b)
    (hQ : ∀ c a w, Q (.panic c) (a.put oi.dst v) w → Q (.panic c) a w) :
    ∀ (fuel : Nat) (listed : Array Bool) (a : Act) (w : World),
      (∀ j oj, ops[j]? = some oj → j ≠ i → listed.getD j true = false → (∀ e ∈ oj.after, Region.binds md e = true → e.on ≠ i) → oi.apart ops oj = true) →
      i ∈ Region.ready md ops listed → YieldsIf P ops S oi v a → S w →
      wpAnyL P md ops Q S L fuel (listed.setIfInBounds i true) (a.put oi.dst v) w → wpAnyL P md ops Q S L (fuel + 1) listed a w := by
  intro fuel
  induction fuel with
  | zero =>
    intro listed a w _ hr hy hS H
    refine ⟨fun h => (by rw [h] at hr; cases hr), fun j hj => ?_⟩
    by_cases hji : j = i
    · subst hji; exact hy.wpOp hi hS ⟨fun _ => hS, H⟩
    · have := ready_mono hj hji
      rw [H.1] at this
      cases this
  | succ fuel ih =>
    intro listed a w hfree hr hy hS H
    refine ⟨fun h => (by rw [h] at hr; cases hr), fun j hj => ?_⟩
    by_cases hji : j = i
    · subst hji; exact hy.wpOp hi hS ⟨fun _ => hS, H⟩
    · have h1 := H.2 j (ready_mono hj hji)
      obtain ⟨hjun, oj, hoj, hall⟩ := mem_ready.1 hj
      have hnot : ∀ e ∈ oj.after, Region.binds md e = true → e.on ≠ i := fun e he hb heq => by
        have h1 := hall e he hb
        have h0 := (mem_ready.1 hr).1
        rw [heq] at h1
        rcases Nat.lt_or_ge i listed.size with h' | h'
        · simp [h'] at h0 h1; rw [h0] at h1; cases h1
        · simp [Array.getElem?_eq_none h'] at h1
      have hjL : j ≠ L := fun e => by
        subst e
        obtain ⟨e, he, hb, hon⟩ := Waits.of hL hoj
        exact hnot e he hb hon
      have h2 := wpOp_putIf hoj (hfree j oj hoj hji hjun hnot) (fun cs b => hsel i oi cs b hi) (fun cs b => hsel j oj cs b hoj) hQ hy h1
      have hfree' : ∀ k ok, ops[k]? = some ok → k ≠ i → (listed.setIfInBounds j true).getD k true = false →
          (∀ e ∈ ok.after, Region.binds md e = true → e.on ≠ i) → oi.apart ops ok = true := fun k ok hk hki hun hno => by
        refine hfree k ok hk hki ?_ hno
        by_cases hjk : j = k
        · subst hjk; exact hjun
        · rw [getD_set_ne true hjk] at hun; exact hun
      refine wpOp_mono (fun a' w' h3 => ⟨h3.2.1, ih (listed.setIfInBounds j true) a' w' hfree' (ready_mono hr (Ne.symm hji)) h3.1 (h3.2.1 hjL) ?_⟩) h2
      rw [Array.setIfInBounds_comm _ _ hji]
      exact h3.2.2
theorem wpAnyL_take {i : Nat} {oi : Oper} {v : Value} {fuel : Nat} {listed : Array Bool} {a : Act} {w : World} (hi : ops[i]? = some oi) (hL : Waits md ops L i = true)
    (hs : Region.noSelect ops = true) (hf : Region.free md ops listed i = true) (hr : (Region.ready md ops listed).contains i = true)
    (hQ : ∀ c a w, Q (.panic c) (a.put oi.dst v) w → Q (.panic c) a w) (hy : YieldsIf P ops S oi v a) (hS : S w)
    (h : wpAnyL P md ops Q S L fuel (listed.setIfInBounds i true) (a.put oi.dst v) w) : wpAnyL P md ops Q S L (fuel + 1) listed a w :=
  wpAnyL_first hi hL (Region.noSelect_spec hs) hQ fuel listed a w (Region.free_spec hi hf) (by simpa using hr) hy hS h
theorem wpAnyL_one {i : Nat} {o : Oper} {fuel : Nat} {listed : Array Bool} {a : Act} {w : World} (hr : Region.ready md ops listed = [i]) (ho : ops[i]? = some o)
    (h : ∀ K' : Act → World → Prop, Shut (∀ a w, (i ≠ L → S w) → wpAnyL P md ops Q S L fuel (listed.setIfInBounds i true) a w → K' a w) → if Region.wanted o (yielded ops a.tmps) = true then Oper.wp P o a w K' Q else K' (a.put o.dst undef) w) :
    wpAnyL P md ops Q S L (fuel + 1) listed a w := by
  refine ⟨fun h0 => (by rw [hr] at h0; cases h0), fun j hj => ?_⟩
  rw [hr] at hj
  obtain rfl := List.mem_singleton.1 hj
  exact wpOp_step ho (fun K' hK => h K' (fun a w hS hW => hK a w ⟨hS, hW⟩))
theorem wpAnyL_done {listed : Array Bool} {a : Act} {w : World} (hr : Region.ready md ops listed = []) (h : Q .normal a w) : ∀ fuel, wpAnyL P md ops Q S L fuel listed a w
  | 0 => ⟨hr, h⟩
  | _ + 1 => ⟨fun _ => h, by rw [hr]; simp⟩
theorem wp_region_last {id : Nat} {a : Act} {w : World} (S : World → Prop) (L : Nat) (hm : P.follows .mixedOrders = true)
    (h : wpAnyL P .any ops Q S L ops.size (Array.replicate ops.size false) a w.drew) : (Code.region id ops true).wp P Q a w :=
  wp_region_any hm (wpAny_of_last _ _ _ _ h)
end
end Go.Proofs.Ytdljclokenoogaa.Hw
end
section
namespace Go.Proofs.Ytdljclokenoogaa.Hw
open Go.RowKit Go.Proofs.Ytdljclokenoogaa.Hp Go.Proofs.YtdljclokenoogaaW.PrintWords Go.Proofs.YtdljclokenoogaaW.PrintLast Go.Proofs.YtdljclokenoogaaW.PrintMore
attribute [local go_sem] Oper.semAt_some
theorem info_r : (Try.prog.info? 25).map (fun i => (i.zero, i.size, i.bytes)) = some (some (.slice none 0 0), 1, 24) := by kernel_rfl
theorem max3_nat (w : World) (ts : Array TypeId) (t : TypeId) (x y : Nat) : (Builtin.max_ ts t #[.int .i64 (x : Int), .int .i64 ((y : Int) + 1)]).run Try.prog w = .ok (.int .i64 ((max x (y + 1) : Nat) : Int)) w := by
  rw [max_two, max2_int]
  simp only [pure_bind, Sem.run_pure]
  congr 2
  split <;> omega
section
variable {F : Fence} {nF : Nat} {ops : Array Oper} {rest : List Oper} {o : Oper} {a : Act} {Q : Exit → Act → World → Prop}
theorem RowN_push {W : World} (base : Nat) (hgd : o.guard = none) (s x : Operand) (ho : o.op = .call { callee := .builtin .append, args := #[s, x], argTypes := #[32, 32] })
    (v : Value) (vs : List Sl) (hs : a.eval s = v) (hx : a.eval x = .slice (some ⟨W.heap.size, 0, none⟩) 1 1)
    (HO : RowK kSl 25 W base v vs) (hbase : base ≤ W.heap.size) (hl : vs.length ≤ 1100000000000)
    (h : ∀ g c w1, RowK kSl 25 w1 base (.slice (some ⟨g, 0, none⟩) (vs.length + 1) c) (vs ++ [nilSl]) → W.grownBy w1 v.ownBlock → wpListIn F nF Try.prog ops Q rest (a.put o.dst (.slice (some ⟨g, 0, none⟩) (vs.length + 1) c)) w1) :
    wpListIn F nF Try.prog ops Q (o :: rest) a (W.alloc (.cells #[.slice none 0 0] 25)) := by
  refine R_push kSl base hgd s x 32 25 (.slice none 0 0) 24 ho Try.underlying32 info_r rfl (by decide) (by decide) v vs nilSl [.slice none 0 0] (fun _ => True) (fun _ => False) hs hx rfl (fun _ h => h.elim) (fun _ _ => trivial) HO.1 hbase (by omega) ?_
  intro v1 w1 hR hg hat
  obtain ⟨g, c, rfl, _⟩ := Kd.R_form hR (by simp)
  rw [List.length_append, List.length_singleton] at *
  exact h g c w1 ⟨hR, by simp⟩ hg
end
set_option maxRecDepth 100000 in
set_option maxHeartbeats 16000000 in
theorem levels_calls (A0 : Option Addr) (c0 : Nat) (l : List S61) (w : World) (hr : k61.C w A0 l.length l) (hc : l.length ≤ c0) :
    Calls Try.prog 19 #[.slice A0 l.length c0] w fun e w' => ∃ v, e = .returned (.tuple #[v, .int .i64 (levelsOf l).2]) ∧ (Kd.slice 9 Kd.string).R 25 w' w.heap.size (fun _ => True) v (levelsOf l).1 ∧ Below w.heap.size w w' := by
  refine (callsIn_wide (n := 20)).1 ?_
  refine callsIn_of_wp_marks Try.func19 rfl trivial ?_
  simp only [Try.ntmps19, List.size_toArray, List.length_cons, List.length_nil, Nat.reduceAdd, Nat.reduceSub, Array.replicate_succ, Array.replicate_zero, List.push_toArray, List.append_toArray, List.nil_append, List.cons_append]
  have hmm := @run_makeMap Try.prog
  have HR := Lib.hid hr
  clear hr
  gi_wp2_with fail
  refine (callsIn_wide.2 (order_calls A0 c0 l _ HR.out hc)).mono ?_
  rintro e w1 ⟨vO, rfl, hRO, hb1⟩
  obtain ⟨er, her⟩ : ∃ er, (orderOf l).2 = er := ⟨_, rfl⟩
  by_cases he : er = 0
  · subst he
    have hio : levelsOf l = ((rowsF (lvl l) (orderOf l).1).map sortS, 0) := by unfold levelsOf; rw [if_pos her]
    have hask : askedOf l [] = 0 := by
      unfold orderOf at her
      split at her
      · assumption
      · exact her
    have hord : (orderOf l).1 = orderN (ups l) (names l) l.length := by unfold orderOf; rw [if_pos hask]
    obtain ⟨hck, _⟩ := askedOk hask
    obtain ⟨hl24, hal, _, hrg⟩ := checkOk hck
    obtain ⟨rk, hrk, hrn⟩ := rank_of_ring hrg
    obtain ⟨hO2, _, hO1⟩ := orderN_ok (nm := names l) hrk (fun c p hp => (ups_mem hp).2) (checkOk_nodup hal) l.length (by rw [names_len]; exact Nat.le_refl _)
    have hol : (orderN (ups l) (names l) l.length).length = l.length := orderN_len _
    rw [her]
    obtain ⟨os, hos⟩ : ∃ os, (orderOf l).1 = os := ⟨_, rfl⟩
    rw [hord] at hos
    rw [hord, hos] at hRO hio
    rw [hos] at hO1 hO2 hol
    have hlen24 : os.length ≤ 24 := by omega
    obtain ⟨A4, c4, rfl, hcap4, hC4⟩ := hRO.reads
    have hmax4 := Kd.C_max hC4
    have HC4 := Lib.hid hC4
    have HIO := Lib.hid hio
    have HO1 := Lib.hid hO1
    have HO2 := Lib.hid hO2
    have HRK := Lib.hid hrk
    have HRN := Lib.hid hrn
    have HFOUR := Lib.hid (checkOk_four hal)
    clear hio hO1 hO2 hrk hrn hal hrg hck hask hord hos hRO her hC4 hol
    gi_wp2_with (gi_at_call 63; refine (callsIn_wide.2 (of_calls _ _ _ _ (Kd.C_below HR.out hb1) hc)).mono ?_; rintro e w2 ⟨B, m, rfl, hB, hM, hK, hb2⟩; have HK := Lib.hid hK; have hBlt := hM.lt; have HM := Lib.hid hM; clear hK hM)
    have hS : LvSt w2 A0 l.length c0 B w2.heap.size m [] (.slice none 0 0) [] [] (((w2.alloc (.cells #[.slice A0 l.length c0, .map (some B)] 99)).alloc (.map #[] 0)).alloc (.cells #[.map (some (w2.heap.size + 1))] 69)) := by
      have h1 := cell_new ((w2.alloc (.cells #[.slice A0 l.length c0, .map (some B)] 99)).alloc (.map #[] 0)) #[.map (some (w2.heap.size + 1))] 69 0
      have h2 := IsMap.made (w2.alloc (.cells #[.slice A0 l.length c0, .map (some B)] 99))
      simp only [World.size_alloc] at h1 h2
      exact ⟨(((Below.refl _ _).alloc (Nat.le_refl _) _).alloc (by simp) _).alloc (by simp; omega) _, cell_alloc (cell_alloc (cell_new _ _ _ _) _) _, cell_alloc (cell_alloc (cell_new _ _ _ _) _) _, h1, h2.alloc _, ((HM.out.alloc _).alloc _).alloc _, Rws.nil _ _, hBlt⟩
    have HS := Lib.hid hS
    obtain ⟨WL, hWL⟩ : ∃ WL, (((w2.alloc (.cells #[.slice A0 l.length c0, .map (some B)] 99)).alloc (.map #[] 0)).alloc (.cells #[.map (some (w2.heap.size + 1))] 69)) = WL := ⟨_, rfl⟩
    rw [hWL] at HS ⊢
    have hB12 := hb1.trans (hb2.mono hb1.size)
    have hsz1 := hb1.size
    have hsz2 := hb2.size
    have HC5 := Lib.hid (Kd.C_below HC4.out hb2)
    clear hWL hS hmm hb1 hb2
    refine wpIn_loop_ghost_k (fun gj a' W => ∃ (u0 u1 u2 u3 u4 u5 u9 u10 u11 u12 u13 u14 u15 u16 u17 u18 u19 u20 u21 u22 u23 u24 u28 u29 u30 u31 u32 u33 u34 u35 u36 u37 u38 u39 u40 u41 u42 u43 u44 u45 u46 u47 u48 u49 u50 u51 u52 u53 u54 u55 u56 u57 u58 u59 u60 u61 u62 u63 u64 u65 u66 u67 u68 u69 u70 u71 u72 u73 u74 u75 u76 u77 u78 : Value) (ds : List Deferred) (D : List (ByteArray × Nat)) (v : Value) (vs : List Sl) (j : Nat), Aside0 (LvSt w2 A0 l.length c0 B w2.heap.size m D v vs (rowsF (lvl l) (os.take j)) W ∧ Marks w.heap.size ds W ∧ LvDone l os j D ∧ RwLen l os j) ∧ j ≤ os.length ∧ Aside0 (gj = os.length - j) ∧
      a' = { tmps := #[u0, u1, u2, u3, u4, u5, .pointer (some ⟨w2.heap.size, 0, none⟩), .pointer (some ⟨w2.heap.size + 1 + 1, 0, none⟩), v, u9, u10, u11, u12, u13, u14, u15, u16, u17, u18, u19, u20, u21, u22, u23, u24, .slice A4 os.length c4, .int .i64 os.length, .int .i64 j, u28, u29, u30, u31, u32, u33, u34, u35, u36, u37, u38, u39, u40, u41, u42, u43, u44, u45, u46, u47, u48, u49, u50, u51, u52, u53, u54, u55, u56, u57, u58, u59, u60, u61, u62, u63, u64, u65, u66, u67, u68, u69, u70, u71, u72, u73, u74, u75, u76, u77, u78], defers := ds }) os.length ?_ ?_
    · repeat apply Exists.intro
      exact ⟨⟨HS.out, Marks.nil _ _, fun k => by simp [val, mget, memS], fun k hk => by simp at hk⟩, Nat.zero_le _, ⟨rfl⟩, rfl⟩
    · rintro gj a' W ⟨u0, u1, u2, u3, u4, u5, u9, u10, u11, u12, u13, u14, u15, u16, u17, u18, u19, u20, u21, u22, u23, u24, u28, u29, u30, u31, u32, u33, u34, u35, u36, u37, u38, u39, u40, u41, u42, u43, u44, u45, u46, u47, u48, u49, u50, u51, u52, u53, u54, u55, u56, u57, u58, u59, u60, u61, u62, u63, u64, u65, u66, u67, u68, u69, u70, u71, u72, u73, u74, u75, u76, u77, u78, ds, D, v, vs, j, hrel, hj, hgj, rfl⟩ J K hJ hK
      have HJ := Lib.hid hJ
      clear hJ
      have hS := hrel.out.1
      by_cases hlt : j < os.length
      · have hbg : Below w2.heap.size w2 W := hS.hB
        obtain ⟨A8, c8, rfl, hcap8, hC8⟩ := hS.rw.own.reads
        have hmax8 := Kd.C_max hC8
        clear hC8
        obtain ⟨ad, ea, hx⟩ := at_s (Kd.C_below HC5.out hbg) j hlt
        subst ea
        have hg0 := hS.g0
        have hg1 := hS.g1
        have hl2 := hS.l2
        have hl3 := hS.lt
        have hl0 : w2.heap.size < W.heap.size := by omega
        obtain ⟨x, hxn⟩ : ∃ x, nth os j = x := ⟨_, rfl⟩
        rw [hxn] at hx
        have HX := Lib.hid hxn
        clear hxn
        gi_wp2_with (gi_at_call 57; refine (callsIn_wide.2 (parents_calls _ _ _ _)).mono ?_; rintro e w5 ⟨rfl, rfl⟩)
        clear hg0 hg1 hx
        have hBW := hB12.trans (hbg.mono (by omega))
        have hsz := hBW.size
        have hS3 := ((hS.alloc (.cells #[.string x] 9)).alloc (.cells #[.slice A0 l.length c0, .map (some B)] 99)).alloc (.cells #[.string x] 9)
        have hAt := AtRange.new (W := W.alloc (.cells #[.string x] 9)) x HR.out hc HK.out (hBW.alloc hsz _) (hS.G.alloc _)
        rw [World.size_alloc] at hAt
        obtain ⟨WL, hWL⟩ : ∃ WL, (((W.alloc (.cells #[.string x] 9)).alloc (.cells #[.slice A0 l.length c0, .map (some B)] 99)).alloc (.cells #[.string x] 9)) = WL := ⟨_, rfl⟩
        have hWs : WL.heap.size = W.heap.size + 1 + 1 + 1 := by rw [← hWL]; simp
        have hWc : WL.cell? ⟨W.heap.size, 0, none⟩ = some (.string x) := by rw [← hWL]; exact cell_alloc (cell_alloc (cell_new _ _ _ _) _) _
        have hposO : Hid (∀ k, (Value.slice A8 vs.length c8).ownBlock = some k → k < W.heap.size) := fun k e => (hS.rw.own.blocks k e).2.1
        have hposV : Hid (∀ i k, (encSl (vs.getD i nilSl)).ownBlock = some k → k < W.heap.size) := by
          show ∀ i k, _
          intro i k e
          by_cases hi : i < vs.length
          · exact ((hS.rw.row i (by rw [← hS.rw.len]; exact hi)).blocks k e).2.2.1
          · rw [List.getD_eq_getElem?_getD, List.getElem?_eq_none (by omega)] at e; cases e
        have hMkL : Marks w.heap.size ds WL := by rw [← hWL]; exact ((hrel.out.2.1.alloc _).alloc _).alloc _
        have HMID := Lib.hid (hrel.out.2.2.1.mid HO2.out hlt HX.out)
        have hWge : W.heap.size + 1 + 1 + 1 ≤ WL.heap.size := Nat.le_of_eq hWs.symm
        rw [hWL] at hAt hS3 ⊢
        clear hWL hS hWs
        obtain ⟨R, hRd⟩ : ∃ R, rowsF (lvl l) (os.take j) = R := ⟨_, rfl⟩
        have hRl : R.length ≤ 24 := by rw [← hRd]; have := (rowsF_le (lvl l) (os.take j)).1; rw [List.length_take] at this; omega
        have hRr : Hid (∀ r ∈ R, r.length ≤ 24) := by
          show ∀ r ∈ R, _
          rw [← hRd]; intro r hr
          have := (rowsF_le (lvl l) (os.take j)).2 r hr; rw [List.length_take] at this; omega
        have HNX : Hid (rowsF (lvl l) (os.take (j + 1)) = rowStep (lvl l) R x) := by show _ = _; rw [take_nth os j hlt, rowsF_snoc, hRd, HX.out]
        have HLE : Hid (lvl l x ≤ R.length) := by show _ ≤ _; rw [← hRd]; exact hrel.out.2.2.2.at HRK.out HRN.out HO1.out hlt HX.out
        have HLN : Hid (RwLen l os (j + 1)) := hrel.out.2.2.2.next hlt HX.out (by rw [hRd]; exact HLE.out)
        rw [hRd] at hS3
        have hvl := hS3.rw.len
        have HVL := Lib.hid hvl
        have hvl2 : vs.length ≤ 24 := by omega
        clear hRd hrel hvl
        refine rangeP hAt (by omega) rfl rfl
          (fun pre Wb => ∃ (D2 : List (ByteArray × Nat)), Aside0 (LvSt w2 A0 l.length c0 B w2.heap.size m D2 (.slice A8 vs.length c8) vs R Wb ∧ Wb.cell? ⟨W.heap.size, 0, none⟩ = some (.string x) ∧ DefKeep WL.heap.size WL Wb ∧ LvMid l os j x (pre.map (·.1)) D2))
          (fun _ _ _ => False) ?_ (fun _ _ _ _ h _ => h) ?_
          (fun p => { tmps := #[u0, u1, u2, u3, u4, u5, .pointer (some ⟨w2.heap.size, 0, none⟩), .pointer (some ⟨w2.heap.size + 1 + 1, 0, none⟩), .slice A8 vs.length c8, u9, .pointer (some ⟨W.heap.size, 0, none⟩), .string p.1, u12, u13, u14, u15, u16, u17, u18, u19, u20, u21, u22, u23, u24, .slice (some ad) os.length c4, .int .i64 os.length, .int .i64 j, .bool true, .pointer (some (ad.add j)), .string x, .agg #[.slice A0 l.length c0, .map (some B)], .string x, .func (.func 98) #[] #[.pointer (some ⟨W.heap.size + 1, 0, none⟩), .pointer (some ⟨W.heap.size + 1 + 1, 0, none⟩)], .string p.1, u35, u36, u37, u38, u39, u40, u41, u42, u43, u44, u45, u46, u47, u48, u49, u50, u51, u52, u53, u54, u55, u56, u57, u58, u59, u60, u61, u62, u63, u64, u65, u66, u67, u68, u69, u70, u71, u72, u73, u74, u75, u76, u77, u78], defers := [] }) ?_ ?_ ?_ ?_
        · rintro pre Wb Wc ⟨D2, ⟨h1, h2, h3, h4⟩⟩ hb
          exact ⟨D2, ⟨h1.oth hb (by omega), hb.cell h2, h3.below hb.below, h4⟩⟩
        · exact ⟨_, ⟨hS3, hWc, DefKeep.refl _ _, HMID.out⟩⟩
        · intro L p Wb K' hK'
          gi_wp2_with fail
          exact hK'
        · rintro L pre p Wb hszb hpl ⟨D2, hI⟩
          have hSb := hI.out.1
          have hmp : Wb.cell? ⟨w2.heap.size + 1 + 1, 0, none⟩ = some (.map (some (w2.heap.size + 1))) := hSb.mp
          have hcl := hI.out.2.1
          have hltb := hSb.lt
          have hlk1 := hSb.M.look (P := Try.prog) Try.underlying69 Try.underlying9 (zero3 _) x false
          have hlk2 := hSb.M.look (P := Try.prog) Try.underlying69 Try.underlying9 (zero3 _) p.1 false
          simp only [Bool.false_eq_true, ↓reduceIte, val_nums] at hlk1 hlk2
          have hpx : p.1 ≠ x := fun e => by have := HRK.out x p.1 p.2; rw [e] at this; omega
          have hvp := hI.out.2.2.2.par HO1.out hlt HX.out p.2 hpx
          have hb1 : val D2 x ≤ 26 := by have := hI.out.2.2.2.le; omega
          have hb2 : val D2 p.1 ≤ 25 := by rw [hvp]; have := lvl_small (l := l) p.1; omega
          have hput := hI.out.2.2.2.put hvp
          have HPUT := Lib.hid hput
          obtain ⟨vx, hvx⟩ : ∃ vx, val D2 x = vx := ⟨_, rfl⟩
          obtain ⟨vp, hvp'⟩ : ∃ vp, val D2 p.1 = vp := ⟨_, rfl⟩
          rw [hvx] at hlk1 hb1 HPUT
          rw [hvp'] at hlk2 hb2 HPUT
          have hmx := fun ts t => max3_nat Wb ts t vx vp
          clear hvx hvp hvp' hput hpx
          gi_wp2_with (gi_at_mapUpdate; refine wpListIn_store _ rfl _ _ _ 69 rfl 9 3 Try.underlying69 Try.underlying9 (w2.heap.size + 1) (nums D2) rfl hSb.M _ _ rfl rfl ?_; intro w6 hM6 hG6)
          replace hM6 : IsMap w6 (w2.heap.size + 1) (mput (nums D2) x (.int .i64 ((max vx (vp + 1) : Nat) : Int))) := hM6
          rw [mput_nums] at hM6
          refine ⟨KeepsFrom.grown (KeepsFrom.refl _ _) hG6 (fun k e => by cases e; omega), (Keeps.refl _ _).grown hG6 (fun k hk => by have := hAt.klt k hk; omega) (fun k e hk => by cases e; omega), _, ⟨hSb.stored hM6 hG6, hG6.cell hcl (fun e => by have e' := Option.some.inj e; dsimp only at e'; omega), hI.out.2.2.1.grown hG6 (fun k e => by cases e; exact hSb.M.noDef), ?_⟩⟩
          rw [List.map_append]
          exact HPUT.out
        · intro D1 xs Wb hD1 hxs ⟨D2, hI⟩ hdef
          have hSb := hI.out.1
          have hmid := hI.out.2.2.2
          rw [hxs] at hmid
          have hmp : Wb.cell? ⟨w2.heap.size + 1 + 1, 0, none⟩ = some (.map (some (w2.heap.size + 1))) := hSb.mp
          have hcl := hI.out.2.1
          have hltb := hSb.lt
          have hlk1 := hSb.M.look (P := Try.prog) Try.underlying69 Try.underlying9 (zero3 _) x false
          simp only [Bool.false_eq_true, ↓reduceIte, val_nums] at hlk1
          rw [hmid.at HRK.out HRN.out] at hlk1
          have HDN := Lib.hid (hmid.done HRK.out HRN.out hlt HX.out)
          have hMk1 : Marks w.heap.size ({ target := .collected D1, args := #[] } :: ds) Wb := Marks.cons hMkL hD1 (by omega) hdef (hMkL.defk hI.out.2.2.1)
          obtain ⟨d, hd⟩ : ∃ d, lvl l x = d := ⟨_, rfl⟩
          have HVD : Hid (val D2 x = d) := by show _ = _; rw [hmid.at HRK.out HRN.out, hd]
          rw [hd] at hlk1 HLE
          have HD := Lib.hid hd
          clear hd hmid hI
          have hlx := HVL.out
          by_cases hde : d = R.length
          · have hq1 : ((d : Int) == (vs.length : Int)) = true := by rw [hlx, hde]; simp
            have hq2 : (d == vs.length) = true := by rw [hlx, hde]; simp
            have hq3 : d = vs.length := by rw [hlx, hde]
            have HDE := Lib.hid hde
            have hvl3 : vs.length ≤ 1100000000000 := by omega
            have HVL3 := Lib.hid hvl3
            clear hde hlx hvl3
            have HQ3 := Lib.hid hq3
            clear hq3
            have hsn : rowStep (lvl l) R x = (R ++ [[]]).set d ((R ++ [[]]).getD d [] ++ [x]) := by rw [← HD.out]; exact rowStep_new (by rw [HD.out]; exact HDE.out)
            gi_wp2_with (gi_at_builtin; refine RowN_push (w2.heap.size + 3) rfl _ _ rfl (.slice A8 vs.length c8) vs rfl rfl hSb.rw.own (by omega) HVL3.out ?_; intro gO cO w6 hR6 hG6; have HR6 := Lib.hid hR6; clear hR6)
            have hS6 := hSb.push hG6 HR6.out
            have hdl : d < (R ++ [[]]).length := by have := HDE.out; simp; omega
            have hv6 : ∀ k, (Value.slice A8 vs.length c8).ownBlock = some k → ∃ cells, Wb.heap[k]? = some (.cells cells 25 (0, 0)) := fun k e => (hSb.rw.own.blocks k e).2.2
            have hcl6 : w6.cell? ⟨W.heap.size, 0, none⟩ = some (.string x) := hG6.cell hcl (fun e => by have h8 := hposO.out _ e.symm; dsimp only at h8; omega)
            have hMk6 := hMk1.grown hG6 (fun k e => by obtain ⟨cells, hc⟩ := hv6 k e; exact ⟨_, hc, rfl⟩)
            have hRr6 : Hid (∀ r ∈ R ++ [[]], r.length ≤ 24) := by
              show ∀ r ∈ R ++ [[]], _
              intro r hr
              rcases List.mem_append.1 hr with hr | hr
              · exact hRr.out r hr
              · rw [List.mem_singleton.1 hr]; simp
            obtain ⟨vs', hvs'⟩ : ∃ vs', vs ++ [nilSl] = vs' := ⟨_, rfl⟩
            obtain ⟨R', hR'⟩ : ∃ R', R ++ [[]] = R' := ⟨_, rfl⟩
            obtain ⟨nn, hnn⟩ : ∃ nn, vs.length + 1 = nn := ⟨_, rfl⟩
            rw [hvs', hR', hnn] at hS6
            rw [hR'] at hdl hsn hRr6
            rw [hnn]
            have hpos6 : Hid (∀ k, (encSl (vs'.getD d nilSl)).ownBlock = some k → k < W.heap.size) := by
              show ∀ k, _
              intro k e
              rw [← hvs', HQ3.out] at e
              have : (vs ++ [nilSl]).getD vs.length nilSl = nilSl := by simp [List.getD_eq_getElem?_getD]
              rw [this] at e; cases e
            have HSN := Lib.hid hsn
            have HS6 := Lib.hid hS6
            have HMK6 := Lib.hid hMk6
            clear hmp hcl hlk1 hSb hltb hMk1 hG6 HR6 hv6 hvs' hR' hnn hsn hS6 hMk6 hq1 hq2 HVL3 HQ3 HDE hdef hvl2 HVL hposO hposV hcap8 hmax8 hS3
            have hmp6 : w6.cell? ⟨w2.heap.size + 1 + 1, 0, none⟩ = some (.map (some (w2.heap.size + 1))) := HS6.out.mp
            have hlt6 := HS6.out.lt
            have hrow := HS6.out.rw.row d hdl
            obtain ⟨hnn, hO9, hF9⟩ := HS6.out.rw.cellAt hdl
            have hvl6 := HS6.out.rw.len
            obtain ⟨sl, hsl⟩ : ∃ sl, vs'.getD d nilSl = sl := ⟨_, rfl⟩
            obtain ⟨A9, n9, c9⟩ := sl
            obtain ⟨y9, hy9⟩ : ∃ y, R'.getD d [] = y := ⟨_, rfl⟩
            rw [hsl, hy9] at hrow
            rw [hsl] at hO9 hpos6
            rw [hy9] at HSN
            have hrowd : Row w6.drew (w2.heap.size + 3) (fun _ => True) (.slice A9 n9 c9) y9 := hrow.later (Below.refl _ _).drew
            have hrb := fun k (e : (Value.slice A9 n9 c9).ownBlock = some k) => hrow.blocks k e
            have hy24 : y9.length ≤ 24 := by
              rw [← hy9, List.getD_eq_getElem?_getD, List.getElem?_eq_getElem hdl]
              exact hRr6.out _ (List.getElem_mem _)
            have hd0 : (0 : Int) ≤ (d : Int) := by omega
            have hd1 : (d : Int) < (nn : Int) := by omega
            have hdn : d < nn := by omega
            have hclt := World.block_lt_of_cell? _ _ hcl6
            have hOlt := World.block_lt_of_cell? _ _ hO9
            have hgO := HS6.out.rw.own.blocks gO rfl
            have hneO : (Value.slice A9 n9 c9).ownBlock ≠ some gO := fun e => HS6.out.rw.apart hdl (by rw [hsl]; exact e) rfl
            have HALL : Hid (∀ Y : World, (∀ k, (k = w2.heap.size + 1 ∨ k = w2.heap.size + 1 + 1 ∨ k = W.heap.size ∨ k = gO) → Y.heap[k]? = w6.heap[k]?) → (Y.cell? ⟨w2.heap.size + 1 + 1, 0, none⟩ = some (.map (some (w2.heap.size + 1))) ∧ Y.cell? ⟨W.heap.size, 0, none⟩ = some (.string x) ∧ Y.cell? ⟨gO, d, none⟩ = some (.slice A9 n9 c9) ∧ (Instr.lookup 69 (.map (some (w2.heap.size + 1))) (.string x) false).run Try.prog Y = .ok (.int .i64 (d : Int)) Y)) := by
              show ∀ Y : World, _
              intro Y hY
              refine ⟨(World.cell?_of_block (hY _ (.inr (.inl rfl)))).trans hmp6, (World.cell?_of_block (hY _ (.inr (.inr (.inl rfl))))).trans hcl6, (World.cell?_of_block (hY _ (.inr (.inr (.inr rfl))))).trans hO9, ?_⟩
              have h5 := (HS6.out.M.block (hY _ (.inl rfl))).look (P := Try.prog) Try.underlying69 Try.underlying9 (zero3 _) x false
              simp only [Bool.false_eq_true, ↓reduceIte, val_nums] at h5
              rw [HVD.out] at h5
              exact h5
            have HSL := Lib.hid hsl
            have HROW := Lib.hid hrowd
            have HRB := Lib.hid hrb
            have hlkr := (HALL.out w6.drew (fun _ _ => rfl)).2.2.2
            clear hsl hy9 hrow hrowd hrb hvl6 hnn
            refine wpIn_wide.2 ?_
            refine wp_region_noPanic ?_
            refine wp_region_last (fun Y => Y.cell? ⟨w2.heap.size + 1 + 1, 0, none⟩ = some (.map (some (w2.heap.size + 1))) ∧ Y.cell? ⟨W.heap.size, 0, none⟩ = some (.string x) ∧ Y.cell? ⟨gO, d, none⟩ = some (.slice A9 n9 c9) ∧ (Instr.lookup 69 (.map (some (w2.heap.size + 1))) (.string x) false).run Try.prog Y = .ok (.int .i64 (d : Int)) Y) 14 (by kernel_rfl) ?_
            have hSd := HALL.out w6.drew (fun _ _ => rfl)
            refine wpAnyL_take (i := 0) (v := ?_) rfl (by kernel_rfl) (by kernel_rfl) (by kernel_rfl) (by kernel_rfl) (fun _ _ _ h => h.elim) (Or.inl ⟨by rfl, ?_⟩) hSd ?_
            rotate_left 1
            · intro Y hY; obtain ⟨y1, y2, y3, y4⟩ := hY; go_simp <;> (with_reducible rfl)
            refine wpAnyL_take (i := 1) (v := ?_) rfl (by kernel_rfl) (by kernel_rfl) (by kernel_rfl) (by kernel_rfl) (fun _ _ _ h => h.elim) (Or.inl ⟨by rfl, ?_⟩) hSd ?_
            rotate_left 1
            · intro Y hY; obtain ⟨y1, y2, y3, y4⟩ := hY; go_simp <;> (with_reducible rfl)
            refine wpAnyL_take (i := 2) (v := ?_) rfl (by kernel_rfl) (by kernel_rfl) (by kernel_rfl) (by kernel_rfl) (fun _ _ _ h => h.elim) (Or.inl ⟨by rfl, ?_⟩) hSd ?_
            rotate_left 1
            · intro Y hY; obtain ⟨y1, y2, y3, y4⟩ := hY; go_simp <;> (with_reducible rfl)
            refine wpAnyL_take (i := 3) (v := ?_) rfl (by kernel_rfl) (by kernel_rfl) (by kernel_rfl) (by kernel_rfl) (fun _ _ _ h => h.elim) (Or.inl ⟨by rfl, ?_⟩) hSd ?_
            rotate_left 1
            · intro Y hY; obtain ⟨y1, y2, y3, y4⟩ := hY; go_simp <;> (with_reducible rfl)
            refine wpAnyL_take (i := 4) (v := ?_) rfl (by kernel_rfl) (by kernel_rfl) (by kernel_rfl) (by kernel_rfl) (fun _ _ _ h => h.elim) (Or.inl ⟨by rfl, ?_⟩) hSd ?_
            rotate_left 1
            · intro Y hY; obtain ⟨y1, y2, y3, y4⟩ := hY; go_simp <;> (with_reducible rfl)
            refine wpAnyL_take (i := 5) (v := ?_) rfl (by kernel_rfl) (by kernel_rfl) (by kernel_rfl) (by kernel_rfl) (fun _ _ _ h => h.elim) (Or.inl ⟨by rfl, ?_⟩) hSd ?_
            rotate_left 1
            · intro Y hY; obtain ⟨y1, y2, y3, y4⟩ := hY; go_simp <;> (with_reducible rfl)
            refine wpAnyL_take (i := 6) (v := ?_) rfl (by kernel_rfl) (by kernel_rfl) (by kernel_rfl) (by kernel_rfl) (fun _ _ _ h => h.elim) (Or.inl ⟨by rfl, ?_⟩) hSd ?_
            rotate_left 1
            · intro Y hY; obtain ⟨y1, y2, y3, y4⟩ := hY; go_simp <;> (with_reducible rfl)
            refine wpAnyL_take (i := 7) (v := ?_) rfl (by kernel_rfl) (by kernel_rfl) (by kernel_rfl) (by kernel_rfl) (fun _ _ _ h => h.elim) (Or.inl ⟨by rfl, ?_⟩) hSd ?_
            rotate_left 1
            · intro Y hY; obtain ⟨y1, y2, y3, y4⟩ := hY; go_simp <;> (with_reducible rfl)
            refine wpAnyL_take (i := 8) (v := ?_) rfl (by kernel_rfl) (by kernel_rfl) (by kernel_rfl) (by kernel_rfl) (fun _ _ _ h => h.elim) (Or.inl ⟨by rfl, ?_⟩) hSd ?_
            rotate_left 1
            · intro Y hY; obtain ⟨y1, y2, y3, y4⟩ := hY; go_simp <;> (with_reducible rfl)
            refine wpAnyL_take (i := 9) (v := ?_) rfl (by kernel_rfl) (by kernel_rfl) (by kernel_rfl) (by kernel_rfl) (fun _ _ _ h => h.elim) (Or.inl ⟨by rfl, ?_⟩) hSd ?_
            rotate_left 1
            · intro Y hY; obtain ⟨y1, y2, y3, y4⟩ := hY; go_simp <;> (with_reducible rfl)
            refine wpAnyL_take (i := 10) (v := ?_) rfl (by kernel_rfl) (by kernel_rfl) (by kernel_rfl) (by kernel_rfl) (fun _ _ _ h => h.elim) (Or.inl ⟨by rfl, ?_⟩) hSd ?_
            rotate_left 1
            · intro Y hY; obtain ⟨y1, y2, y3, y4⟩ := hY; go_simp <;> (with_reducible rfl)
            refine wpAnyL_one (i := 11) (by kernel_rfl) rfl (fun K1 hK1 => ?_)
            go_simp
            refine hK1.out _ _ (fun _ => ?_) ?_
            · exact HALL.out _ (fun k hk => Below.heap_alloc _ _ k (by show k < w6.heap.size; rcases hk with rfl | rfl | rfl | rfl <;> omega))
            clear hK1
            refine wpAnyL_one (i := 12) (by kernel_rfl) rfl (fun K2 hK2 => ?_)
            refine Kd.R_append_step Kd.string (w0 := w6.drew) (w2.heap.size + 3) (by rfl) _ _ 25 9 (.string ⟨#[]⟩) 16 (by rfl) Try.underlying25 info_s rfl (by decide) (by decide) (.slice A9 n9 c9) y9 x [.string x] (fun _ => True) (fun _ => False) (by rfl) (by rfl) rfl (fun _ h => h.elim) (fun _ _ => trivial) HROW.out.1 (Below.refl _ _) (by simp; omega) (by omega) ?_
            intro v10 w10 hR10 hb10 hG10 hat10
            obtain ⟨g10, c10, rfl, _⟩ := Kd.R_form hR10 (by simp)
            have hblk10 := hG10.block gO (by simp; omega) (fun e => hneO e.symm)
            have hO10 : w10.cell? ⟨gO, d, none⟩ = some (.slice A9 n9 c9) := (World.cell?_of_block (a := ⟨gO, d, none⟩) hblk10).trans hO9
            have hF10 : w10.frozen? ⟨gO, d, none⟩ = false := (World.frozen?_of_block (a := ⟨gO, d, none⟩) hblk10).trans hF9
            have HR10 := Lib.hid hR10
            have hS10 := HALL.out w10 (fun k hk => hG10.block k (by show k < w6.heap.size; rcases hk with rfl | rfl | rfl | rfl <;> omega) (fun e => by
              have h7 := HRB.out k e.symm
              have h8 := hpos6.out k e.symm
              rcases hk with rfl | rfl | rfl | rfl
              · omega
              · omega
              · omega
              · exact hneO e.symm))
            refine hK2.out _ _ (fun _ => hS10) ?_
            clear hK2 hblk10 hR10
            refine wpAnyL_one (i := 13) (by kernel_rfl) rfl (fun K3 hK3 => ?_)
            go_simp
            refine hK3.out _ _ (fun _ => hS10) ?_
            clear hK3
            refine wpAnyL_one (i := 14) (by kernel_rfl) rfl (fun K4 hK4 => ?_)
            go_simp
            refine hK4.out _ _ (fun h => absurd rfl h) ?_
            clear hK4
            refine wpAnyL_done (by kernel_rfl) ?_ _
            refine NoPanic.normal ?_
            gi_wp2_with fail
            have HR11 : Row w10 (w2.heap.size + 3) (fun _ => True) (encSl (some ⟨g10, 0, none⟩, y9.length + 1, c10)) (y9 ++ [x]) := ⟨by have := HR10.out; rw [List.length_append, List.length_singleton] at this; exact this, fun e => by simp at e⟩
            have hMd : Marks w.heap.size ({ target := .collected D1, args := #[] } :: ds) w6.drew := HMK6.out
            have hblk9 : ∀ k, (Value.slice A9 n9 c9).ownBlock = some k → ∃ o, w6.drew.heap[k]? = some o ∧ isDef o = false := fun k e => by obtain ⟨_, _, _, cells, hc⟩ := HRB.out k e; exact ⟨_, hc, rfl⟩
            refine Handed.intro (os.length - (j + 1)) (by have := hgj.out; omega) (HJ.out _ _ _ ⟨_, _, _, _, _, _, _, _, _, _, _, _, _, _, _, _, _, _, _, _, _, _, _, _, _, _, _, _, _, _, _, _, _, _, _, _, _, _, _, _, _, _, _, _, _, _, _, _, _, _, _, _, _, _, _, _, _, _, _, _, _, _, _, _, _, _, _, _, _, _, _, _, _, { target := .collected D1, args := #[] } :: ds, D2, .slice (some ⟨gO, 0, none⟩) nn cO, vs'.set d (some ⟨g10, 0, none⟩, y9.length + 1, c10), j + 1, ⟨?_, (hMd.grown hG10 hblk9).setCell _ _, HDN.out, HLN.out⟩, by omega, ⟨rfl⟩, rfl⟩)
            rw [HNX.out, HSN.out]
            refine LvSt.put (W := w6.drew) (HS6.out.later (Below.refl _ _).drew) hdl rfl HR11 (by rw [HSL.out]; exact hG10) ?_
            rw [HSL.out]
            exact hat10
          · have hq1 : ((d : Int) == (vs.length : Int)) = false := beq_eq_false_iff_ne.2 (by omega)
            have hq2 : (d == vs.length) = false := beq_eq_false_iff_ne.2 (by omega)
            have hdl : d < R.length := by have := HLE.out; omega
            have hsn : rowStep (lvl l) R x = R.set d (R.getD d [] ++ [x]) := by rw [← HD.out]; exact rowStep_old (by rw [HD.out]; exact hdl)
            have hvne : vs ≠ [] := fun e => by rw [e] at hlx; simp at hlx; omega
            obtain ⟨gO, cO, e8⟩ := hSb.rw.own.form hvne
            cases e8
            obtain ⟨cO, hcO⟩ : ∃ c, c = c8 := ⟨_, rfl⟩
            subst hcO
            clear hde hlx hvne
            gi_wp2_with fail
            have hpos6 : Hid (∀ k, (encSl (vs.getD d nilSl)).ownBlock = some k → k < W.heap.size) := hposV.out d
            have HSN := Lib.hid hsn
            have HS6 := Lib.hid hSb
            have HMK6 := Lib.hid hMk1
            have hRr6 : Hid (∀ r ∈ R, r.length ≤ 24) := hRr.out
            have hcl6 := hcl
            obtain ⟨vs', hvs'⟩ : ∃ vs', vs' = vs := ⟨_, rfl⟩
            obtain ⟨R', hR'⟩ : ∃ R', R' = R := ⟨_, rfl⟩
            obtain ⟨nn, hnn⟩ : ∃ nn, vs.length = nn := ⟨_, rfl⟩
            obtain ⟨w6, hw6⟩ : ∃ w6, w6 = Wb := ⟨_, rfl⟩
            rw [hnn] at HS6
            rw [← hvs', ← hR', ← hw6] at HS6
            rw [← hvs'] at hpos6
            rw [← hR'] at hRr6 hdl
            replace HSN : Hid (rowStep (lvl l) R x = R'.set d (R'.getD d [] ++ [x])) := by rw [hR']; exact HSN
            rw [← hw6] at HMK6 hcl6 ⊢
            rw [hnn]
            clear hmp hcl hlk1 hSb hltb hMk1 hsn hq1 hq2 hdef hvl2 HVL hposO hposV hcap8 hmax8 hw6 hvs' hR' hnn hS3
            have hmp6 : w6.cell? ⟨w2.heap.size + 1 + 1, 0, none⟩ = some (.map (some (w2.heap.size + 1))) := HS6.out.mp
            have hlt6 := HS6.out.lt
            have hrow := HS6.out.rw.row d hdl
            obtain ⟨hnn, hO9, hF9⟩ := HS6.out.rw.cellAt hdl
            have hvl6 := HS6.out.rw.len
            obtain ⟨sl, hsl⟩ : ∃ sl, vs'.getD d nilSl = sl := ⟨_, rfl⟩
            obtain ⟨A9, n9, c9⟩ := sl
            obtain ⟨y9, hy9⟩ : ∃ y, R'.getD d [] = y := ⟨_, rfl⟩
            rw [hsl, hy9] at hrow
            rw [hsl] at hO9 hpos6
            rw [hy9] at HSN
            have hrowd : Row w6.drew (w2.heap.size + 3) (fun _ => True) (.slice A9 n9 c9) y9 := hrow.later (Below.refl _ _).drew
            have hrb := fun k (e : (Value.slice A9 n9 c9).ownBlock = some k) => hrow.blocks k e
            have hy24 : y9.length ≤ 24 := by
              rw [← hy9, List.getD_eq_getElem?_getD, List.getElem?_eq_getElem hdl]
              exact hRr6.out _ (List.getElem_mem _)
            have hd0 : (0 : Int) ≤ (d : Int) := by omega
            have hd1 : (d : Int) < (nn : Int) := by omega
            have hdn : d < nn := by omega
            have hclt := World.block_lt_of_cell? _ _ hcl6
            have hOlt := World.block_lt_of_cell? _ _ hO9
            have hgO := HS6.out.rw.own.blocks gO rfl
            have hneO : (Value.slice A9 n9 c9).ownBlock ≠ some gO := fun e => HS6.out.rw.apart hdl (by rw [hsl]; exact e) rfl
            have HALL : Hid (∀ Y : World, (∀ k, (k = w2.heap.size + 1 ∨ k = w2.heap.size + 1 + 1 ∨ k = W.heap.size ∨ k = gO) → Y.heap[k]? = w6.heap[k]?) → (Y.cell? ⟨w2.heap.size + 1 + 1, 0, none⟩ = some (.map (some (w2.heap.size + 1))) ∧ Y.cell? ⟨W.heap.size, 0, none⟩ = some (.string x) ∧ Y.cell? ⟨gO, d, none⟩ = some (.slice A9 n9 c9) ∧ (Instr.lookup 69 (.map (some (w2.heap.size + 1))) (.string x) false).run Try.prog Y = .ok (.int .i64 (d : Int)) Y)) := by
              show ∀ Y : World, _
              intro Y hY
              refine ⟨(World.cell?_of_block (hY _ (.inr (.inl rfl)))).trans hmp6, (World.cell?_of_block (hY _ (.inr (.inr (.inl rfl))))).trans hcl6, (World.cell?_of_block (hY _ (.inr (.inr (.inr rfl))))).trans hO9, ?_⟩
              have h5 := (HS6.out.M.block (hY _ (.inl rfl))).look (P := Try.prog) Try.underlying69 Try.underlying9 (zero3 _) x false
              simp only [Bool.false_eq_true, ↓reduceIte, val_nums] at h5
              rw [HVD.out] at h5
              exact h5
            have HSL := Lib.hid hsl
            have HROW := Lib.hid hrowd
            have HRB := Lib.hid hrb
            have hlkr := (HALL.out w6.drew (fun _ _ => rfl)).2.2.2
            clear hsl hy9 hrow hrowd hrb hvl6 hnn
            refine wpIn_wide.2 ?_
            refine wp_region_noPanic ?_
            refine wp_region_last (fun Y => Y.cell? ⟨w2.heap.size + 1 + 1, 0, none⟩ = some (.map (some (w2.heap.size + 1))) ∧ Y.cell? ⟨W.heap.size, 0, none⟩ = some (.string x) ∧ Y.cell? ⟨gO, d, none⟩ = some (.slice A9 n9 c9) ∧ (Instr.lookup 69 (.map (some (w2.heap.size + 1))) (.string x) false).run Try.prog Y = .ok (.int .i64 (d : Int)) Y) 14 (by kernel_rfl) ?_
            have hSd := HALL.out w6.drew (fun _ _ => rfl)
            refine wpAnyL_take (i := 0) (v := ?_) rfl (by kernel_rfl) (by kernel_rfl) (by kernel_rfl) (by kernel_rfl) (fun _ _ _ h => h.elim) (Or.inl ⟨by rfl, ?_⟩) hSd ?_
            rotate_left 1
            · intro Y hY; obtain ⟨y1, y2, y3, y4⟩ := hY; go_simp <;> (with_reducible rfl)
            refine wpAnyL_take (i := 1) (v := ?_) rfl (by kernel_rfl) (by kernel_rfl) (by kernel_rfl) (by kernel_rfl) (fun _ _ _ h => h.elim) (Or.inl ⟨by rfl, ?_⟩) hSd ?_
            rotate_left 1
            · intro Y hY; obtain ⟨y1, y2, y3, y4⟩ := hY; go_simp <;> (with_reducible rfl)
            refine wpAnyL_take (i := 2) (v := ?_) rfl (by kernel_rfl) (by kernel_rfl) (by kernel_rfl) (by kernel_rfl) (fun _ _ _ h => h.elim) (Or.inl ⟨by rfl, ?_⟩) hSd ?_
            rotate_left 1
            · intro Y hY; obtain ⟨y1, y2, y3, y4⟩ := hY; go_simp <;> (with_reducible rfl)
            refine wpAnyL_take (i := 3) (v := ?_) rfl (by kernel_rfl) (by kernel_rfl) (by kernel_rfl) (by kernel_rfl) (fun _ _ _ h => h.elim) (Or.inl ⟨by rfl, ?_⟩) hSd ?_
            rotate_left 1
            · intro Y hY; obtain ⟨y1, y2, y3, y4⟩ := hY; go_simp <;> (with_reducible rfl)
            refine wpAnyL_take (i := 4) (v := ?_) rfl (by kernel_rfl) (by kernel_rfl) (by kernel_rfl) (by kernel_rfl) (fun _ _ _ h => h.elim) (Or.inl ⟨by rfl, ?_⟩) hSd ?_
            rotate_left 1
            · intro Y hY; obtain ⟨y1, y2, y3, y4⟩ := hY; go_simp <;> (with_reducible rfl)
            refine wpAnyL_take (i := 5) (v := ?_) rfl (by kernel_rfl) (by kernel_rfl) (by kernel_rfl) (by kernel_rfl) (fun _ _ _ h => h.elim) (Or.inl ⟨by rfl, ?_⟩) hSd ?_
            rotate_left 1
            · intro Y hY; obtain ⟨y1, y2, y3, y4⟩ := hY; go_simp <;> (with_reducible rfl)
            refine wpAnyL_take (i := 6) (v := ?_) rfl (by kernel_rfl) (by kernel_rfl) (by kernel_rfl) (by kernel_rfl) (fun _ _ _ h => h.elim) (Or.inl ⟨by rfl, ?_⟩) hSd ?_
            rotate_left 1
            · intro Y hY; obtain ⟨y1, y2, y3, y4⟩ := hY; go_simp <;> (with_reducible rfl)
            refine wpAnyL_take (i := 7) (v := ?_) rfl (by kernel_rfl) (by kernel_rfl) (by kernel_rfl) (by kernel_rfl) (fun _ _ _ h => h.elim) (Or.inl ⟨by rfl, ?_⟩) hSd ?_
            rotate_left 1
            · intro Y hY; obtain ⟨y1, y2, y3, y4⟩ := hY; go_simp <;> (with_reducible rfl)
            refine wpAnyL_take (i := 8) (v := ?_) rfl (by kernel_rfl) (by kernel_rfl) (by kernel_rfl) (by kernel_rfl) (fun _ _ _ h => h.elim) (Or.inl ⟨by rfl, ?_⟩) hSd ?_
            rotate_left 1
            · intro Y hY; obtain ⟨y1, y2, y3, y4⟩ := hY; go_simp <;> (with_reducible rfl)
            refine wpAnyL_take (i := 9) (v := ?_) rfl (by kernel_rfl) (by kernel_rfl) (by kernel_rfl) (by kernel_rfl) (fun _ _ _ h => h.elim) (Or.inl ⟨by rfl, ?_⟩) hSd ?_
            rotate_left 1
            · intro Y hY; obtain ⟨y1, y2, y3, y4⟩ := hY; go_simp <;> (with_reducible rfl)
            refine wpAnyL_take (i := 10) (v := ?_) rfl (by kernel_rfl) (by kernel_rfl) (by kernel_rfl) (by kernel_rfl) (fun _ _ _ h => h.elim) (Or.inl ⟨by rfl, ?_⟩) hSd ?_
            rotate_left 1
            · intro Y hY; obtain ⟨y1, y2, y3, y4⟩ := hY; go_simp <;> (with_reducible rfl)
            refine wpAnyL_one (i := 11) (by kernel_rfl) rfl (fun K1 hK1 => ?_)
            go_simp
            refine hK1.out _ _ (fun _ => ?_) ?_
            · exact HALL.out _ (fun k hk => Below.heap_alloc _ _ k (by show k < w6.heap.size; rcases hk with rfl | rfl | rfl | rfl <;> omega))
            clear hK1
            refine wpAnyL_one (i := 12) (by kernel_rfl) rfl (fun K2 hK2 => ?_)
            refine Kd.R_append_step Kd.string (w0 := w6.drew) (w2.heap.size + 3) (by rfl) _ _ 25 9 (.string ⟨#[]⟩) 16 (by rfl) Try.underlying25 info_s rfl (by decide) (by decide) (.slice A9 n9 c9) y9 x [.string x] (fun _ => True) (fun _ => False) (by rfl) (by rfl) rfl (fun _ h => h.elim) (fun _ _ => trivial) HROW.out.1 (Below.refl _ _) (by simp; omega) (by omega) ?_
            intro v10 w10 hR10 hb10 hG10 hat10
            obtain ⟨g10, c10, rfl, _⟩ := Kd.R_form hR10 (by simp)
            have hblk10 := hG10.block gO (by simp; omega) (fun e => hneO e.symm)
            have hO10 : w10.cell? ⟨gO, d, none⟩ = some (.slice A9 n9 c9) := (World.cell?_of_block (a := ⟨gO, d, none⟩) hblk10).trans hO9
            have hF10 : w10.frozen? ⟨gO, d, none⟩ = false := (World.frozen?_of_block (a := ⟨gO, d, none⟩) hblk10).trans hF9
            have HR10 := Lib.hid hR10
            have hS10 := HALL.out w10 (fun k hk => hG10.block k (by show k < w6.heap.size; rcases hk with rfl | rfl | rfl | rfl <;> omega) (fun e => by
              have h7 := HRB.out k e.symm
              have h8 := hpos6.out k e.symm
              rcases hk with rfl | rfl | rfl | rfl
              · omega
              · omega
              · omega
              · exact hneO e.symm))
            refine hK2.out _ _ (fun _ => hS10) ?_
            clear hK2 hblk10 hR10
            refine wpAnyL_one (i := 13) (by kernel_rfl) rfl (fun K3 hK3 => ?_)
            go_simp
            refine hK3.out _ _ (fun _ => hS10) ?_
            clear hK3
            refine wpAnyL_one (i := 14) (by kernel_rfl) rfl (fun K4 hK4 => ?_)
            go_simp
            refine hK4.out _ _ (fun h => absurd rfl h) ?_
            clear hK4
            refine wpAnyL_done (by kernel_rfl) ?_ _
            refine NoPanic.normal ?_
            gi_wp2_with fail
            have HR11 : Row w10 (w2.heap.size + 3) (fun _ => True) (encSl (some ⟨g10, 0, none⟩, y9.length + 1, c10)) (y9 ++ [x]) := ⟨by have := HR10.out; rw [List.length_append, List.length_singleton] at this; exact this, fun e => by simp at e⟩
            have hMd : Marks w.heap.size ({ target := .collected D1, args := #[] } :: ds) w6.drew := HMK6.out
            have hblk9 : ∀ k, (Value.slice A9 n9 c9).ownBlock = some k → ∃ o, w6.drew.heap[k]? = some o ∧ isDef o = false := fun k e => by obtain ⟨_, _, _, cells, hc⟩ := HRB.out k e; exact ⟨_, hc, rfl⟩
            refine Handed.intro (os.length - (j + 1)) (by have := hgj.out; omega) (HJ.out _ _ _ ⟨_, _, _, _, _, _, _, _, _, _, _, _, _, _, _, _, _, _, _, _, _, _, _, _, _, _, _, _, _, _, _, _, _, _, _, _, _, _, _, _, _, _, _, _, _, _, _, _, _, _, _, _, _, _, _, _, _, _, _, _, _, _, _, _, _, _, _, _, _, _, _, _, _, { target := .collected D1, args := #[] } :: ds, D2, .slice (some ⟨gO, 0, none⟩) nn cO, vs'.set d (some ⟨g10, 0, none⟩, y9.length + 1, c10), j + 1, ⟨?_, (hMd.grown hG10 hblk9).setCell _ _, HDN.out, HLN.out⟩, by omega, ⟨rfl⟩, rfl⟩)
            rw [HNX.out, HSN.out]
            refine LvSt.put (W := w6.drew) (HS6.out.later (Below.refl _ _).drew) hdl rfl HR11 (by rw [HSL.out]; exact hG10) ?_
            rw [HSL.out]
            exact hat10
        · intro D1 cd pre Wb _ _ h _
          exact h.elim
      · obtain rfl : j = os.length := by omega
        have hS := hrel.out.1
        have hMk := hrel.out.2.1
        rw [List.take_length] at hS
        obtain ⟨R, hRd⟩ : ∃ R, rowsF (lvl l) os = R := ⟨_, rfl⟩
        have hRl : R.length ≤ 24 := by rw [← hRd]; have := (rowsF_le (lvl l) os).1; omega
        have hRr : Hid (∀ r ∈ R, r.length ≤ 24) := by
          show ∀ r ∈ R, _
          rw [← hRd]; intro r hr
          have := (rowsF_le (lvl l) os).2 r hr; omega
        have hio2 : Hid (levelsOf l = (R.map sortS, 0)) := by show _ = _; rw [← hRd]; exact HIO.out
        rw [hRd] at hS
        obtain ⟨A8, c8, rfl, hcap8, hC8⟩ := hS.rw.own.reads
        have hmax8 := Kd.C_max hC8
        have hvl := hS.rw.len
        have HS9 := Lib.hid hS
        have HMK9 := Lib.hid hMk
        have hlt9 := hS.lt
        have hwb9 : w.heap.size ≤ w2.heap.size := by omega
        clear hrel hS hMk hC8 hRd HIO HJ HS
        gi_wp2_with fail
        gi_loopw [71] (fun i wr => ∃ (k : Nat), k ≤ vs.length ∧ i = .int .i64 k ∧ Aside0 (LvSt w2 A0 l.length c0 B w2.heap.size m D (.slice A8 vs.length c8) vs ((R.take k).map sortS ++ R.drop k) wr ∧ Marks w.heap.size ds wr)) (fun i _ => vs.length - (intOf i).toNat)
        case atStart => exact ⟨0, Nat.zero_le _, rfl, ⟨by simpa using HS9.out, HMK9.out⟩⟩
        case round =>
          obtain ⟨k, hk, rfl, ⟨hSr, hMr⟩⟩ := hrel
          by_cases hlt : k < vs.length
          · have hkR : k < R.length := by omega
            obtain ⟨gO, cO, e8⟩ := hSr.rw.own.form (fun e => by rw [e] at hlt; simp at hlt)
            cases e8
            have hkx : k < ((R.take k).map sortS ++ R.drop k).length := by simp; omega
            obtain ⟨_, hO9, hF9⟩ := hSr.rw.cellAt hkx
            have hrow := hSr.rw.row k hkx
            rw [sorted_at hkR] at hrow
            obtain ⟨sl, hsl⟩ : ∃ sl, vs.getD k nilSl = sl := ⟨_, rfl⟩
            obtain ⟨A9, n9, c9⟩ := sl
            rw [hsl] at hrow hO9
            have hk0 : (0 : Int) ≤ (k : Int) := by omega
            have hk1 : (k : Int) < (vs.length : Int) := by omega
            have hl9 : (R.getD k []).length ≤ 1100000000000 := by
              have h24 := hRr.out (R.getD k []) (by rw [List.getD_eq_getElem?_getD, List.getElem?_eq_getElem hkR]; exact List.getElem_mem _)
              omega
            have HSR := Lib.hid hSr
            have HMR := Lib.hid hMr
            have HSL := Lib.hid hsl
            have hrb : Hid (∀ k, (Value.slice A9 n9 c9).ownBlock = some k → ∃ o, wr.heap[k]? = some o ∧ isDef o = false) := by
              show ∀ k, _
              intro k e
              obtain ⟨_, _, _, cells, hc⟩ := hrow.blocks k e
              exact ⟨_, hc, rfl⟩
            clear hSr hMr hsl hkx
            gi_wp2_with (gi_at_call 64; refine (callsIn_wide.2 (sortRow_calls hrow hl9)).mono ?_; rintro e w3 ⟨rfl, hR3, hG3⟩)
            go_roundw
            case rel =>
              refine ⟨k + 1, by omega, by go_num, ⟨?_, HMR.out.grown hG3 hrb.out⟩⟩
              rw [← sorted_next hkR]
              exact LvSt.turn HSR.out (by simp; omega) (by rw [HSL.out]; exact hR3) (by rw [HSL.out]; exact hG3)
            case measure => simp [intOf]; omega
          · gi_wp2_with fail
            obtain rfl : k = vs.length := by omega
            have hrw := hSr.rw
            rw [hvl, List.take_length, List.drop_length, List.append_nil] at hrw
            refine leave_marks hMr (fun W' hL => ⟨.tuple #[.slice A8 R.length c8, .int .i64 0], by simp [results, Try.results19, go_sem, hvl], .slice A8 R.length c8, by rw [hio2.out], ?_, (hB12.trans (hSr.hB.mono hwb9)).trans (hL.below (by omega))⟩)
            rw [hio2.out]
            exact Kd.R_lower (hrw.left hL).made (by omega)
  · have hio : levelsOf l = ([], er) := by unfold levelsOf; rw [if_neg (by rw [her]; exact he), her]
    have heb : (er != 0) = true := by simpa using he
    have HIO := Lib.hid hio
    rw [her]
    clear her hio he
    gi_wp2_with fail
    refine leave_marks (Marks.nil w.heap.size _) (fun W' hL => ⟨.tuple #[.slice none 0 0, .int .i64 er], by simp [results, Try.results19, go_sem], ?_⟩)
    exact ⟨.slice none 0 0, by rw [HIO.out], by rw [HIO.out]; exact Kd.R_nil _ _ _ _ _, hb1.trans (hL.below (Nat.le_refl _))⟩
end Go.Proofs.Ytdljclokenoogaa.Hw
end
section
namespace Go.Proofs.Ytdljclokenoogaa.Hw
open Go.RowKit Go.Proofs.Ytdljclokenoogaa.Hp Go.Proofs.YtdljclokenoogaaW.PrintWords Go.Proofs.YtdljclokenoogaaW.PrintLast Go.Proofs.YtdljclokenoogaaW.PrintMore
attribute [local go_sem] Oper.semAt_some
theorem tl_eq {a b : ByteArray} (h : a = b) : (a.toList == b.toList) = true := by rw [toList_beq]; simpa using h
theorem tl_ne {a b : ByteArray} (h : a ≠ b) : (a.toList == b.toList) = false := by rw [toList_beq]; simpa using h
end Go.Proofs.Ytdljclokenoogaa.Hw
end
section
namespace Go.Proofs.Ytdljclokenoogaa.Hw
open Go.RowKit Go.Proofs.Ytdljclokenoogaa.Hp Go.Proofs.YtdljclokenoogaaW.PrintWords Go.Proofs.YtdljclokenoogaaW.PrintLast Go.Proofs.YtdljclokenoogaaW.PrintMore
attribute [local go_sem] Oper.semAt_some
set_option maxRecDepth 100000 in
set_option maxHeartbeats 4000000 in
theorem least1_calls {w : World} {A0 : Option Addr} {c0 B : Nat} {l : List S61} {m : List (ByteArray × Value)} (h : GrOk w A0 c0 B l m) (bg bb : Nat) (d b : ByteArray) (hb : b ∈ names l)
    (h0 : w.cell? ⟨bg, 0, none⟩ = some (.slice A0 l.length c0)) (h1 : w.cell? ⟨bg, 1, none⟩ = some (.map (some B))) (hc : w.cell? ⟨bb, 0, none⟩ = some (.string b)) :
    Calls Try.prog 69 #[.string d, .pointer (some ⟨bg, 0, none⟩), .pointer (some ⟨bb, 0, none⟩)] w fun e w' => e = .returned (.bool (memS (anc l b) d)) ∧ Below w.heap.size w w' := by
  refine (callsIn_wide (n := 20)).1 ?_
  refine callsIn_of_wp Try.func69 rfl trivial ?_
  simp only [Try.ntmps69, List.size_toArray, List.length_cons, List.length_nil, Nat.reduceAdd, Nat.reduceSub, Array.replicate_succ, Array.replicate_zero, List.push_toArray, List.append_toArray, List.nil_append, List.cons_append]
  have HC := Lib.hid (h.has (a := d) hb)
  clear h
  gi_wp2_with (gi_at_call 70; refine (callsIn_wide.2 HC.out).mono ?_; rintro e w2 ⟨rfl, hb2⟩)
  go_ret
  exact ⟨rfl, hb2⟩
set_option maxRecDepth 100000 in
set_option maxHeartbeats 4000000 in
theorem least3_calls {w : World} {A0 : Option Addr} {c0 B : Nat} {l : List S61} {m : List (ByteArray × Value)} (h : GrOk w A0 c0 B l m) (bg bb : Nat) (d b : ByteArray) (hd : d ∈ names l)
    (h0 : w.cell? ⟨bg, 0, none⟩ = some (.slice A0 l.length c0)) (h1 : w.cell? ⟨bg, 1, none⟩ = some (.map (some B))) (hc : w.cell? ⟨bb, 0, none⟩ = some (.string b)) :
    Calls Try.prog 73 #[.string d, .pointer (some ⟨bb, 0, none⟩), .pointer (some ⟨bg, 0, none⟩)] w fun e w' => e = .returned (.bool (!decide (d = b) && memS (anc l d) b)) ∧ Below w.heap.size w w' := by
  refine (callsIn_wide (n := 20)).1 ?_
  refine callsIn_of_wp Try.func73 rfl trivial ?_
  simp only [Try.ntmps73, List.size_toArray, List.length_cons, List.length_nil, Nat.reduceAdd, Nat.reduceSub, Array.replicate_succ, Array.replicate_zero, List.push_toArray, List.append_toArray, List.nil_append, List.cons_append]
  have HC := Lib.hid (h.has (a := b) hd)
  clear h
  by_cases e : d = b
  · have hq := tl_eq e
    have HE : Hid ((!decide (d = b) && memS (anc l d) b) = false) := by show _ = _; simp [e]
    clear e
    gi_wp2_with fail
    go_ret
    exact ⟨by rw [HE.out]; rfl, Below.refl _ _⟩
  · have hq := tl_ne e
    have HE : Hid ((!decide (d = b) && memS (anc l d) b) = memS (anc l d) b) := by show _ = _; simp [e]
    clear e
    gi_wp2_with (gi_at_call 70; refine (callsIn_wide.2 HC.out).mono ?_; rintro e w2 ⟨rfl, hb2⟩)
    go_ret
    exact ⟨by rw [HE.out]; rfl, hb2⟩
def leastB (l : List S61) (common : List ByteArray) (c : ByteArray) : Bool := !(common.any (fun d => !decide (d = c) && memS (anc l d) c))
set_option maxRecDepth 100000 in
set_option maxHeartbeats 4000000 in
theorem least2_calls {w : World} {A0 : Option Addr} {c0 B : Nat} {l : List S61} {m : List (ByteArray × Value)} (h : GrOk w A0 c0 B l m) (bg bn : Nat) (A1 : Option Addr) (c1 : Nat) (cs : List ByteArray) (c : ByteArray) (hcs : ∀ d ∈ cs, d ∈ names l)
    (h0 : w.cell? ⟨bg, 0, none⟩ = some (.slice A0 l.length c0)) (h1 : w.cell? ⟨bg, 1, none⟩ = some (.map (some B))) (hn : Kd.string.C w A1 cs.length cs) (hb : w.cell? ⟨bn, 0, none⟩ = some (.slice A1 cs.length c1)) :
    Calls Try.prog 71 #[.string c, .pointer (some ⟨bn, 0, none⟩), .pointer (some ⟨bg, 0, none⟩)] w fun e w' => e = .returned (.bool (leastB l cs c)) ∧ Below w.heap.size w w' := by
  refine (callsIn_wide (n := 20)).1 ?_
  refine callsIn_of_wp Try.func71 rfl trivial ?_
  simp only [Try.ntmps71, List.size_toArray, List.length_cons, List.length_nil, Nat.reduceAdd, Nat.reduceSub, Array.replicate_succ, Array.replicate_zero, List.push_toArray, List.append_toArray, List.nil_append, List.cons_append]
  have hbl := World.block_lt_of_cell? _ _ hb
  have hgl := World.block_lt_of_cell? _ _ h0
  have hb0 : Below w.heap.size w (w.alloc (.cells #[.string c] 9)) := (Below.refl _ _).alloc (Nat.le_refl _) _
  have hP : Pred (w.alloc (.cells #[.string c] 9)) 73 #[.pointer (some ⟨w.heap.size, 0, none⟩), .pointer (some ⟨bg, 0, none⟩)] cs (fun d => !decide (d = c) && memS (anc l d) c) := by
    refine ⟨enters_of Try.func73 (by kernel_rfl) rfl, fun x hx W2 hW2 => ?_⟩
    have hW3 := hb0.trans (hW2.mono hb0.size)
    simp only [List.append_toArray, List.cons_append, List.nil_append]
    exact least3_calls (h.later hW3) bg w.heap.size x c (hcs x hx) ((hW3.cell (p := ⟨bg, 0, none⟩) hgl).trans h0) ((hW3.cell (p := ⟨bg, 1, none⟩) hgl).trans h1) ((hW2.cell (p := ⟨w.heap.size, 0, none⟩) (by simp)).trans (cell_new _ _ _ _))
  have HP := Lib.hid hP
  have HN := Lib.hid (Kd.C_below hn hb0)
  clear h hn hP
  gi_wp2_with (gi_at_call 72; refine (callsIn_wide.2 (containsFunc_calls _ _ _ _ _ _ _ HN.out HP.out)).mono ?_; rintro e w3 ⟨rfl, hb3⟩)
  go_ret
  exact ⟨rfl, hb0.trans (hb3.mono hb0.size)⟩
end Go.Proofs.Ytdljclokenoogaa.Hw
end
section
namespace Go.Proofs.Ytdljclokenoogaa.Hw
section
variable {up : ByteArray → List ByteArray}
def spareB (up : ByteArray → List ByteArray) (n : Nat) (c p : ByteArray) : Bool := (up c).any (fun q => !decide (q = p) && memS (vis up n q []) p)
theorem reach_trans : ∀ {n m : Nat} {a b c : ByteArray}, reach up n a b → reach up m b c → reach up (n + m) a c
  | 0, m, a, b, c, e, h => by have e' : a = b := e; subst e'; rw [Nat.zero_add]; exact h
  | n + 1, m, a, b, c, ⟨p, hp, h1⟩, h => by
    have : n + 1 + m = (n + m) + 1 := by omega
    rw [this]; exact ⟨p, hp, reach_trans h1 h⟩
theorem mem_vis {rk : ByteArray → Nat} (hrk : ∀ c p, p ∈ up c → rk p < rk c) {n : Nat} {c a : ByteArray} (hn : rk c < n) : memS (vis up n c []) a = true ↔ ∃ m, reach up m c a := by
  rw [memS_iff, (vis_ok hrk n c [] hn Ordered.nil List.nodup_nil).2.2 a]
  simp
end
end Go.Proofs.Ytdljclokenoogaa.Hw
end
section
namespace Go.Proofs.Ytdljclokenoogaa.Hw
open Go.RowKit Go.Proofs.Ytdljclokenoogaa.Hp Go.Proofs.YtdljclokenoogaaW.PrintWords Go.Proofs.YtdljclokenoogaaW.PrintLast Go.Proofs.YtdljclokenoogaaW.PrintMore
attribute [local go_sem] Oper.semAt_some
attribute [local go_sem high] eqA73
theorem scope_in {n : Nat} {P : Program} {c : Code} {Q : Exit → Act → World → Prop} {a : Act} {w : World} (h : c.wpIn Fence.wide n P (Exit.noGoto Q) a w) : (Code.scope c).wpIn Fence.wide n P Q a w := wpIn_wide.2 (wp_scope_straight (wpIn_wide.1 h))
structure NdSt (w : World) (A0 : Option Addr) (n c0 B bg : Nat) (m : List (ByteArray × Value)) (v : Value) (out : List S73) (W : World) : Prop where
  hB : Below w.heap.size w W
  g0 : W.cell? ⟨bg, 0, none⟩ = some (.slice A0 n c0)
  g1 : W.cell? ⟨bg, 1, none⟩ = some (.map (some B))
  o : W.cell? ⟨bg + 1, 0, none⟩ = some v
  f : W.frozen? ⟨bg + 1, 0, none⟩ = false
  M : IsMap W B m
  row : RowK k73 73 W (bg + 2) v out
  l1 : w.heap.size ≤ B
  l2 : B < bg
section
variable {w : World} {A0 : Option Addr} {n c0 B bg : Nat} {m : List (ByteArray × Value)} {v : Value} {out : List S73}
theorem NdSt.lt {W : World} (h : NdSt w A0 n c0 B bg m v out W) : bg + 1 < W.heap.size := World.block_lt_of_cell? _ _ h.o
theorem NdSt.same {W W' : World} (h : NdSt w A0 n c0 B bg m v out W) (hb : Below (bg + 2) W W') (hr : ∀ k, v.ownBlock = some k → W'.heap[k]? = W.heap[k]?) : NdSt w A0 n c0 B bg m v out W' := by
  have h1 := h.l1; have h2 := h.l2
  exact ⟨h.hB.trans (hb.mono (by omega)), (hb.cell (p := ⟨bg, 0, none⟩) (by dsimp only; omega)).trans h.g0, (hb.cell (p := ⟨bg, 1, none⟩) (by dsimp only; omega)).trans h.g1, (hb.cell (p := ⟨bg + 1, 0, none⟩) (by dsimp only; omega)).trans h.o,
    (hb.frozen (p := ⟨bg + 1, 0, none⟩) (by dsimp only; omega)).trans h.f, h.M.below hb (by omega), h.row.step flat73 hr, h1, h2⟩
theorem NdSt.later {W W' : World} (h : NdSt w A0 n c0 B bg m v out W) (hb : Below W.heap.size W W') : NdSt w A0 n c0 B bg m v out W' :=
  h.same (hb.mono (by have := h.lt; omega)) (fun k hk => hb.block k (h.row.blocks k hk).2.1)
theorem NdSt.alloc {W : World} (h : NdSt w A0 n c0 B bg m v out W) (o : Obj) : NdSt w A0 n c0 B bg m v out (W.alloc o) := h.later ((Below.refl _ _).alloc (Nat.le_refl _) _)
theorem NdSt.oth {W W' : World} {H : Nat} (h : NdSt w A0 n c0 B bg m v out W) (hb : Oth H W W') (hH : bg + 2 ≤ H) : NdSt w A0 n c0 B bg m v out W' :=
  h.same (hb.below.mono hH) (fun k hk => by obtain ⟨_, _, cells, hc⟩ := h.row.blocks k hk; exact hb.block k (.inr ⟨_, hc, rfl⟩))
theorem NdSt.pushed {W W' : World} (h : NdSt w A0 n c0 B bg m v out W) {v' : Value} {out' : List S73} (hg : W.grownBy W' v.ownBlock) (hr : RowK k73 73 W' (bg + 2) v' out') : NdSt w A0 n c0 B bg m v' out' (W'.setCell ⟨bg + 1, 0, none⟩ v') := by
  have h1 := h.l1; have h2 := h.l2; have hl := h.lt
  have hv : ∀ k, k < bg + 2 → some k ≠ v.ownBlock := fun k hk e => by have := (h.row.blocks k e.symm).1; omega
  have hc : ∀ {b o : Nat} {u : Value}, b < bg + 1 → W.cell? ⟨b, o, none⟩ = some u → (W'.setCell ⟨bg + 1, 0, none⟩ v').cell? ⟨b, o, none⟩ = some u := fun hb hc => (cell_set_ne _ (by dsimp only; omega)).trans (hg.cell hc (hv _ (by dsimp only; omega)))
  refine ⟨(h.hB.grown hg (by omega) (fun k e => by have := (h.row.blocks k e).1; omega)).setCell (p := ⟨bg + 1, 0, none⟩) (by dsimp only; omega) _, hc (by omega) h.g0, hc (by omega) h.g1, cell_set (hg.cell h.o (hv _ (by dsimp only; omega))), ?_, (h.M.kept hg (hv _ (by omega))).setCell _ _, hr.setCell flat73 _ (by dsimp only; omega) _, h1, h2⟩
  rw [World.frozen?_setCell]
  exact (World.frozen?_of_block (w := W) (hg.block _ (by dsimp only; omega) (hv _ (by dsimp only; omega)))).trans h.f
end
theorem cell_own {H : Nat} {W W' : World} {row : Option Nat} {p : Addr} {v : Value} (h : W.cell? p = some v) (hg : W.grownBy W' row) (hr : ∀ r, row = some r → H ≤ r ∧ ∃ o : Obj, W.heap[r]? = some o ∧ o.isCells = false) : W'.cell? p = some v := by
  obtain ⟨o, ho, hc⟩ := cells_of_cell h
  refine hg.cell h (fun e => ?_)
  obtain ⟨_, o', ho', hc'⟩ := hr _ e.symm
  rw [ho] at ho'; cases ho'; rw [hc] at hc'; cases hc'
structure Inn (H : Nat) (K : Nat → Prop) (Wb Wc : World) : Prop where
  f : KeepsFrom H Wb Wc
  k : Keeps K Wb Wc
theorem Inn.refl (H : Nat) (K : Nat → Prop) (W : World) : Inn H K W W := ⟨KeepsFrom.refl _ _, Keeps.refl _ _⟩
theorem Inn.oth {H H' : Nat} {K : Nat → Prop} {Wb Wc Wd : World} (h : Inn H K Wb Wc) (hb : Oth H' Wc Wd) (hs : Wb.heap.size ≤ H') (hK : ∀ k, K k → k < Wb.heap.size) : Inn H K Wb Wd :=
  ⟨⟨Nat.le_trans h.f.size hb.size, fun k o hk ho hc => (hb.block k (.inl (by have := (Array.getElem?_eq_some_iff.1 ho).1; omega))).trans (h.f.same k o hk ho hc)⟩, h.k.trans (hb.mono (fun k hk => .inl (by have := hK k hk; omega)))⟩
theorem Inn.later {H : Nat} {K : Nat → Prop} {Wb Wc Wd : World} (h : Inn H K Wb Wc) (hb : Below Wc.heap.size Wc Wd) (hK : ∀ k, K k → k < Wb.heap.size) : Inn H K Wb Wd :=
  ⟨KeepsFrom.below h.f hb, h.k.trans (Below.keeps hb (fun k hk => by have := hK k hk; have := h.k.size; omega))⟩
def NoneSp (l : List S61) (p : ByteArray) (qs : List ByteArray) : Prop := ∀ q ∈ qs, (!decide (q = p) && memS (anc l q) p) = false
theorem NoneSp.snoc {l : List S61} {p q : ByteArray} {qs : List ByteArray} (h : NoneSp l p qs) (hq : (!decide (q = p) && memS (anc l q) p) = false) : NoneSp l p (qs ++ [q]) := fun x hx => by
  rcases List.mem_append.1 hx with hx | hx
  · exact h x hx
  · rw [List.mem_singleton.1 hx]; exact hq
def OutPos (a b : Nat) (v : Value) : Prop := ∀ k, v.ownBlock = some k → k < a ∨ b ≤ k
theorem Inn.cells {H : Nat} {K : Nat → Prop} {Wb Wc Wd : World} (h : Inn H K Wb Wc) {row : Option Nat} (hg : Wc.grownBy Wd row) (hr : ∀ j, row = some j → (∃ o, Wc.heap[j]? = some o ∧ o.isCells = true) ∧ ¬ K j) (hK : ∀ k, K k → k < Wb.heap.size) : Inn H K Wb Wd :=
  ⟨KeepsFrom.cells h.f hg (fun j e => (hr j e).1), h.k.grown hg (fun k hk => by have := hK k hk; have := h.k.size; omega) (fun k e hk => (hr k e).2 hk)⟩
theorem Inn.setCell {H : Nat} {K : Nat → Prop} {Wb Wc : World} (h : Inn H K Wb Wc) (p : Addr) (hp : ¬ K p.block) (u : Value) : Inn H K Wb (Wc.setCell p u) := ⟨KeepsFrom.setCell h.f _ _, h.k.setCell hp _⟩
def spareOf (l : List S61) (c : ByteArray) (ps : List ByteArray) : List S73 := (ps.filter (spareB (ups l) (l.length + 1) c)).map (fun p => ⟨c, p⟩)
def needlessOf (l : List S61) : List S73 × Int := if askedOf l [] = 0 then ((names l).flatMap (fun c => spareOf l c (ups l c)), 0) else ([], askedOf l [])
set_option maxRecDepth 100000 in
set_option maxHeartbeats 16000000 in
theorem needless_calls (A0 : Option Addr) (c0 : Nat) (l : List S61) (w : World) (hr : k61.C w A0 l.length l) (hc : l.length ≤ c0) :
    Calls Try.prog 25 #[.slice A0 l.length c0] w fun e w' => ∃ v, e = .returned (.tuple #[v, .int .i64 (needlessOf l).2]) ∧ RowK k73 73 w' w.heap.size v (needlessOf l).1 ∧ Below w.heap.size w w' := by
  refine (callsIn_wide (n := 20)).1 ?_
  refine callsIn_of_wp_marks Try.func25 rfl trivial ?_
  simp only [Try.ntmps25, List.size_toArray, List.length_cons, List.length_nil, Nat.reduceAdd, Nat.reduceSub, Array.replicate_succ, Array.replicate_zero, List.push_toArray, List.append_toArray, List.nil_append, List.cons_append]
  have HR := Lib.hid hr
  clear hr
  gi_wp2_with fail
  refine (callsIn_wide.2 (right_calls A0 none c0 0 l [] _ HR.out hc (lit0 _))).mono ?_
  rintro e w1 ⟨hb1, ⟨he, rfl⟩ | ⟨he, B, m, rfl, hBB, hM, hK⟩⟩
  · obtain ⟨er, her⟩ : ∃ er, askedOf l [] = er := ⟨_, rfl⟩
    have hio : needlessOf l = ([], er) := by unfold needlessOf; rw [if_neg he, her]
    rw [her] at he ⊢
    have heb : (er != 0) = true := by simpa using he
    have HIO := Lib.hid hio
    clear her hio he
    gi_wp2_with fail
    refine leave_marks (Marks.nil w.heap.size _) (fun W' hL => ⟨.tuple #[.slice none 0 0, .int .i64 er], by simp [results, Try.results25, go_sem], ?_⟩)
    exact ⟨.slice none 0 0, by rw [HIO.out], by rw [HIO.out]; exact RowK.nil _ _ _ _, (by first | exact hb1 | exact hb1.alloc hb1.size _ : Below w.heap.size w _).trans (hL.below (Nat.le_refl _))⟩
  · have hio : needlessOf l = ((names l).flatMap (fun c => spareOf l c (ups l c)), 0) := by unfold needlessOf; rw [if_pos he]
    have hck := (askedOk he).1
    obtain ⟨hl24, hal, _, hrg⟩ := checkOk hck
    have hBlt := hM.lt
    have hsz1 := hb1.size
    have HFOUR := Lib.hid (checkOk_four hal)
    have HIO := Lib.hid hio
    have HK := Lib.hid hK
    have HCK := Lib.hid hck
    have hS : NdSt w A0 l.length c0 B w1.heap.size m (.slice none 0 0) [] ((w1.alloc (.cells #[.slice A0 l.length c0, .map (some B)] 99)).alloc (.cells #[.slice none 0 0] 43)) := by
      have h1 := cell_new (w1.alloc (.cells #[.slice A0 l.length c0, .map (some B)] 99)) #[.slice none 0 0] 43 0
      have h2 := frozen_new (w1.alloc (.cells #[.slice A0 l.length c0, .map (some B)] 99)) #[.slice none 0 0] 43 0
      rw [World.size_alloc] at h1 h2
      exact ⟨(hb1.alloc hsz1 _).alloc (by simp; omega) _, cell_alloc (cell_new _ _ _ _) _, cell_alloc (cell_new _ _ _ _) _, h1, h2, (hM.alloc _).alloc _, RowK.nil _ _ _ _, hBB, hBlt⟩
    have HS := Lib.hid hS
    clear hS hM hK hck hal hrg hio he
    gi_wp2_with fail
    obtain ⟨W0, hW0⟩ : ∃ W0, (w1.alloc (.cells #[.slice A0 l.length c0, .map (some B)] 99)).alloc (.cells #[.slice none 0 0] 43) = W0 := ⟨_, rfl⟩
    rw [hW0] at HS ⊢
    clear hW0 hb1
    refine wpIn_loop_ghost_k (fun gj a' W => ∃ (u0 u1 u2 u3 u5 u7 u8 u9 u10 u11 u12 u13 u14 u15 u16 u17 u18 u19 u23 u24 u25 u26 u27 u28 u29 u30 u31 u32 u33 u34 u35 u36 u37 u38 u39 u40 u41 u42 u43 u44 u45 u46 u47 u48 u49 u50 u51 u52 u53 u54 u55 u56 u57 : Value) (ds : List Deferred) (v : Value) (j : Nat), Aside0 (NdSt w A0 l.length c0 B w1.heap.size m v ((names (l.take j)).flatMap (fun c => spareOf l c (ups l c))) W ∧ Marks w.heap.size ds W) ∧ j ≤ l.length ∧ Aside0 (gj = l.length - j) ∧
      a' = { tmps := #[u0, u1, u2, u3, .pointer (some ⟨w1.heap.size, 0, none⟩), u5, .pointer (some ⟨w1.heap.size + 1, 0, none⟩), u7, u8, u9, u10, u11, u12, u13, u14, u15, u16, u17, u18, u19, .slice A0 l.length c0, .int .i64 l.length, .int .i64 j, u23, u24, u25, u26, u27, u28, u29, u30, u31, u32, u33, u34, u35, u36, u37, u38, u39, u40, u41, u42, u43, u44, u45, u46, u47, u48, u49, u50, u51, u52, u53, u54, u55, u56, u57], defers := ds }) l.length ?_ ?_
    · repeat apply Exists.intro
      exact ⟨⟨HS.out, Marks.nil _ _⟩, Nat.zero_le _, ⟨rfl⟩, rfl⟩
    · rintro gj a' W ⟨u0, u1, u2, u3, u5, u7, u8, u9, u10, u11, u12, u13, u14, u15, u16, u17, u18, u19, u23, u24, u25, u26, u27, u28, u29, u30, u31, u32, u33, u34, u35, u36, u37, u38, u39, u40, u41, u42, u43, u44, u45, u46, u47, u48, u49, u50, u51, u52, u53, u54, u55, u56, u57, ds, v, j, hrel, hj, hgj, rfl⟩ J K hJ hK
      have HJ := Lib.hid hJ
      clear hJ
      have hS := hrel.out.1
      by_cases hlt : j < l.length
      · obtain ⟨ad, A2, c2, A3, c3, A4, c4, A5, c5, A6, c6, ea, hx0, hx1, hx2, hx3, hx4, hx5, hx6, _⟩ := at_T61 (Kd.C_below HR.out hS.hB) (j : Int) (by omega) (by omega)
        subst ea
        rw [Int.toNat_natCast] at hx0 hx1 hx2 hx3 hx4 hx5 hx6
        have hg0 := hS.g0
        have hg1 := hS.g1
        have hl1 := hS.l1
        have hl2 := hS.l2
        have hl3 := hS.lt
        have hl0 : w1.heap.size < W.heap.size := by omega
        obtain ⟨y, hy⟩ : ∃ y, rd_T61 l (j : Int) = y := ⟨_, rfl⟩
        rw [hy] at hx0 hx1 hx2 hx3 hx4 hx5 hx6
        have HY := Lib.hid hy
        clear hy
        gi_wp2_with (gi_at_call 57; refine (callsIn_wide.2 (parents_calls _ _ _ _)).mono ?_; rintro e w2 ⟨rfl, rfl⟩)
        refine scope_in ?_
        refine wpIn_seq (wpIn_label ?_)
        gi_wp2_with (gi_at_call 57; refine (callsIn_wide.2 (parents_calls _ _ _ _)).mono ?_; rintro e w2 ⟨rfl, rfl⟩)
        clear hg0 hg1 hx0 hx1 hx2 hx3 hx4 hx5 hx6
        have hBW := hS.hB
        have hsz := hBW.size
        have hS3 := ((hS.alloc (.cells #[.string y.f0, .bool y.f1, .slice A2 y.f2.length c2, .slice A3 y.f3.length c3, .slice A4 y.f4.length c4, .slice A5 y.f5.length c5, .slice A6 y.f6.length c6] 61)).alloc (.cells #[.slice (some ad) l.length c0, .map (some B)] 99)).alloc (.cells #[.string y.f0] 9)
        have hAt := AtRange.new (W := W.alloc (.cells #[.string y.f0, .bool y.f1, .slice A2 y.f2.length c2, .slice A3 y.f3.length c3, .slice A4 y.f4.length c4, .slice A5 y.f5.length c5, .slice A6 y.f6.length c6] 61)) y.f0 HR.out hc HK.out (hBW.alloc hsz _) (hS.M.alloc _)
        rw [World.size_alloc] at hAt
        obtain ⟨WL, hWL⟩ : ∃ WL, (((W.alloc (.cells #[.string y.f0, .bool y.f1, .slice A2 y.f2.length c2, .slice A3 y.f3.length c3, .slice A4 y.f4.length c4, .slice A5 y.f5.length c5, .slice A6 y.f6.length c6] 61)).alloc (.cells #[.slice (some ad) l.length c0, .map (some B)] 99)).alloc (.cells #[.string y.f0] 9)) = WL := ⟨_, rfl⟩
        have hWs : WL.heap.size = W.heap.size + 1 + 1 + 1 := by rw [← hWL]; simp
        have hWc : WL.cell? ⟨W.heap.size, 0, none⟩ = some (.string y.f0) := by rw [← hWL]; exact cell_alloc (cell_alloc (cell_new _ _ _ _) _) _
        have hMkL : Marks w.heap.size ds WL := by rw [← hWL]; exact ((hrel.out.2.alloc _).alloc _).alloc _
        have hWge : W.heap.size + 1 + 1 + 1 ≤ WL.heap.size := Nat.le_of_eq hWs.symm
        have hWle : WL.heap.size ≤ W.heap.size + 1 + 1 + 1 := Nat.le_of_eq hWs
        rw [hWL] at hAt hS3 ⊢
        clear hWL hWs
        obtain ⟨b0, hb0⟩ : ∃ b0, (names (l.take j)).flatMap (fun c => spareOf l c (ups l c)) = b0 := ⟨_, rfl⟩
        have hnext : Hid ((names (l.take (j + 1))).flatMap (fun c => spareOf l c (ups l c)) = b0 ++ spareOf l y.f0 (ups l y.f0)) := by
          show _ = _
          rw [names_take l j hlt, List.flatMap_append, hb0, HY.out]
          simp
        have hlenb : b0.length ≤ 24 * 4 := by
          rw [← hb0, List.length_flatMap]
          have h1 : ((names (l.take j)).map (fun c => (spareOf l c (ups l c)).length)).sum ≤ ((names (l.take j)).map (fun c => (spareOf l c (ups l c)).length)).length * 4 := sum_le _ (fun x hx => by
            obtain ⟨c, _, rfl⟩ := List.mem_map.1 hx
            unfold spareOf
            rw [List.length_map]
            exact Nat.le_trans (List.length_filter_le _ _) (HFOUR.out c))
          rw [List.length_map, names_length, List.length_take] at h1
          omega
        rw [hb0] at hS3
        have HB0 := Lib.hid hb0
        have hym : y.f0 ∈ names l := by rw [← HY.out]; exact names_rd hlt
        have HYM := Lib.hid hym
        have hpos0 : Hid (OutPos W.heap.size WL.heap.size v) := fun k hk => .inl (hS.row.blocks k hk).2.1
        clear hb0 hS hym
        refine rangePx hAt (by omega) rfl rfl
          (fun pre Wb => ∃ (v2 : Value), Aside0 (NdSt w (some ad) l.length c0 B w1.heap.size m v2 (b0 ++ spareOf l y.f0 (pre.map (·.1))) Wb ∧ Wb.cell? ⟨W.heap.size, 0, none⟩ = some (.string y.f0) ∧ DefKeep WL.heap.size WL Wb ∧ OutPos W.heap.size WL.heap.size v2))
          (fun _ _ _ => False) ?_ (fun _ _ _ _ h _ => h) ?_
          (fun p a' Wb => ∃ bp, WL.heap.size ≤ bp ∧ Wb.cell? ⟨bp, 0, none⟩ = some (.string p.1) ∧ a' = { tmps := #[u0, u1, u2, u3, .pointer (some ⟨w1.heap.size, 0, none⟩), u5, .pointer (some ⟨w1.heap.size + 1, 0, none⟩), u7, .pointer (some ⟨W.heap.size, 0, none⟩), .pointer (some ⟨bp, 0, none⟩), u10, u11, u12, u13, u14, u15, u16, u17, u18, u19, .slice (some ad) l.length c0, .int .i64 l.length, .int .i64 j, .bool true, .pointer (some (ad.add (j * 7))), .agg #[.string y.f0, .bool y.f1, .slice A2 y.f2.length c2, .slice A3 y.f3.length c3, .slice A4 y.f4.length c4, .slice A5 y.f5.length c5, .slice A6 y.f6.length c6], .agg #[.slice (some ad) l.length c0, .map (some B)], .pointer (some ⟨W.heap.size, 0, none⟩), .string y.f0, .func (.func 98) #[] #[.pointer (some ⟨W.heap.size + 1, 0, none⟩), .pointer (some ⟨W.heap.size + 1 + 1, 0, none⟩)], .string p.1, u31, u32, u33, u34, u35, u36, u37, u38, u39, u40, u41, u42, u43, u44, u45, u46, u47, u48, u49, u50, u51, u52, u53, u54, u55, u56, u57], defers := [] })
          (fun p a' _ Wb Wc row h hg hr => by obtain ⟨bp, h1, h2, h3⟩ := h; exact ⟨bp, h1, cell_own h2 hg hr, h3⟩) ?_ ?_ ?_ ?_
        · rintro pre Wb Wc ⟨v2, ⟨h1, h2, h3, h4⟩⟩ hb
          exact ⟨v2, ⟨h1.oth hb (by omega), hb.cell h2, h3.below hb.below, h4⟩⟩
        · exact ⟨_, ⟨by simpa [spareOf] using hS3, hWc, DefKeep.refl _ _, hpos0.out⟩⟩
        · rintro L pre p Wb K' hszb ⟨v2, hI⟩ hK'
          gi_wp2_with fail
          have hbW : Below Wb.heap.size Wb (Wb.alloc (.cells #[.string p.1] 9)) := (Below.refl _ _).alloc (Nat.le_refl _) _
          exact hK' _ _ (KeepsFrom.ofBelow hbW) (Below.keeps hbW (fun k hk => by have := hAt.klt k hk; omega)) ⟨v2, ⟨hI.out.1.alloc _, cell_alloc hI.out.2.1 _, hI.out.2.2.1.below (hbW.mono hszb), hI.out.2.2.2⟩⟩ ⟨Wb.heap.size, hszb, cell_new _ _ _ _, rfl⟩
        · rintro L pre p a'' Wb hL ⟨r, hrec⟩ hszb hpl ⟨v2, hI⟩ ⟨bp, hbp, hpc, rfl⟩
          have hSb := hI.out.1
          have hg0 := hSb.g0
          have hg1 := hSb.g1
          have hcl := hI.out.2.1
          have hl5 := hSb.lt
          have hlcl := World.block_lt_of_cell? _ _ hcl
          have hlpc := World.block_lt_of_cell? _ _ hpc
          gi_wp2_with (gi_at_call 57; refine (CallsIn.inRound L (callsIn_wide.2 (parents_calls _ _ _ _))).mono ?_; rintro e w3 ⟨rfl, rfl⟩)
          clear hg0 hg1
          have hBWb := hSb.hB
          have hS4 := (hSb.alloc (.cells #[.slice (some ad) l.length c0, .map (some B)] 99)).alloc (.cells #[.string y.f0] 9)
          have hAt2 := AtRange.new (W := Wb) y.f0 HR.out hc HK.out hBWb hSb.M
          obtain ⟨WI, hWI⟩ : ∃ WI, ((Wb.alloc (.cells #[.slice (some ad) l.length c0, .map (some B)] 99)).alloc (.cells #[.string y.f0] 9)) = WI := ⟨_, rfl⟩
          have hbI : Below Wb.heap.size Wb WI := by rw [← hWI]; exact ((Below.refl _ _).alloc (Nat.le_refl _) _).alloc (by simp) _
          have hWIs : WI.heap.size = Wb.heap.size + 1 + 1 := by rw [← hWI]; simp
          have hclI := (hbI.cell (p := ⟨W.heap.size, 0, none⟩) hlcl).trans hcl
          have hpcI := (hbI.cell (p := ⟨bp, 0, none⟩) hlpc).trans hpc
          have hrecI : WI.heap[L]? = some (.loop r) := (hbI.block L (Array.getElem?_eq_some_iff.1 hrec).1).trans hrec
          have hdkI : DefKeep WL.heap.size WL WI := hI.out.2.2.1.below (hbI.mono hszb)
          have hposv := Lib.hid hI.out.2.2.2
          have hinI : Inn WL.heap.size (fun k => k < w.heap.size ∨ k = B ∨ k = W.heap.size + 1 ∨ k = W.heap.size + 1 + 1) Wb WI := (Inn.refl _ _ _).later hbI (fun k hk => by have := hAt.klt k hk; omega)
          have hWIge : Wb.heap.size + 1 + 1 ≤ WI.heap.size := Nat.le_of_eq hWIs.symm
          have hWIle : WI.heap.size ≤ Wb.heap.size + 1 + 1 := Nat.le_of_eq hWIs
          rw [hWI] at hAt2 hS4 ⊢
          clear hWI hcl hpc hrec hWIs
          obtain ⟨out, hout⟩ : ∃ out, b0 ++ spareOf l y.f0 (pre.map (·.1)) = out := ⟨_, rfl⟩
          have hnx : Hid (b0 ++ spareOf l y.f0 ((pre ++ [p]).map (·.1)) = out ++ (if spareB (ups l) (l.length + 1) y.f0 p.1 then [⟨y.f0, p.1⟩] else [])) := by
            show _ = _
            rw [← hout, List.map_append]
            unfold spareOf
            rw [List.filter_append, List.map_append, List.append_assoc]
            congr 2
            simp only [List.map_cons, List.map_nil, List.filter_cons, List.filter_nil]
            split <;> rfl
          have hlenout : out.length ≤ 1100000000000 := by
            rw [← hout, List.length_append]
            unfold spareOf
            rw [List.length_map]
            have h1 := List.length_filter_le (spareB (ups l) (l.length + 1) y.f0) (pre.map (·.1))
            rw [List.length_map] at h1
            have h2 := HFOUR.out y.f0
            omega
          rw [hout] at hS4
          have HLO := Lib.hid hlenout
          clear hout hlenout hI hSb
          refine rangePn hrecI hAt2 (by omega) rfl rfl
            (fun pre2 Wc => Aside0 (NdSt w (some ad) l.length c0 B w1.heap.size m v2 out Wc ∧ Wc.cell? ⟨W.heap.size, 0, none⟩ = some (.string y.f0) ∧ Wc.cell? ⟨bp, 0, none⟩ = some (.string p.1) ∧ DefKeep WL.heap.size WL Wc ∧ Inn WL.heap.size (fun k => k < w.heap.size ∨ k = B ∨ k = W.heap.size + 1 ∨ k = W.heap.size + 1 + 1) Wb Wc ∧ NoneSp l p.1 (pre2.map (·.1))))
            (fun cd pre2 Wc => cd = .exit 3 ∧ Aside0 (∃ v3, NdSt w (some ad) l.length c0 B w1.heap.size m v3 (out ++ [⟨y.f0, p.1⟩]) Wc ∧ Wc.cell? ⟨W.heap.size, 0, none⟩ = some (.string y.f0) ∧ DefKeep WL.heap.size WL Wc ∧ Inn WL.heap.size (fun k => k < w.heap.size ∨ k = B ∨ k = W.heap.size + 1 ∨ k = W.heap.size + 1 + 1) Wb Wc ∧ spareB (ups l) (l.length + 1) y.f0 p.1 = true ∧ OutPos W.heap.size WL.heap.size v3))
            ?_ ?_ ?_
            (fun q => { tmps := #[u0, u1, u2, u3, .pointer (some ⟨w1.heap.size, 0, none⟩), u5, .pointer (some ⟨w1.heap.size + 1, 0, none⟩), u7, .pointer (some ⟨W.heap.size, 0, none⟩), .pointer (some ⟨bp, 0, none⟩), .string q.1, u11, u12, u13, u14, u15, u16, u17, u18, u19, .slice (some ad) l.length c0, .int .i64 l.length, .int .i64 j, .bool true, .pointer (some (ad.add (j * 7))), .agg #[.string y.f0, .bool y.f1, .slice A2 y.f2.length c2, .slice A3 y.f3.length c3, .slice A4 y.f4.length c4, .slice A5 y.f5.length c5, .slice A6 y.f6.length c6], .agg #[.slice (some ad) l.length c0, .map (some B)], .pointer (some ⟨W.heap.size, 0, none⟩), .string y.f0, .func (.func 98) #[] #[.pointer (some ⟨W.heap.size + 1, 0, none⟩), .pointer (some ⟨W.heap.size + 1 + 1, 0, none⟩)], .string p.1, .agg #[.slice (some ad) l.length c0, .map (some B)], .pointer (some ⟨W.heap.size, 0, none⟩), .string y.f0, .func (.func 98) #[] #[.pointer (some ⟨Wb.heap.size, 0, none⟩), .pointer (some ⟨Wb.heap.size + 1, 0, none⟩)], .string q.1, u36, u37, u38, u39, u40, u41, u42, u43, u44, u45, u46, u47, u48, u49, u50, u51, u52, u53, u54, u55, u56, u57], defers := [] }) ?_ ?_ ?_ ?_
          · rintro pre2 Wc Wd ⟨⟨h1, h2, h3, h4, h5, h6⟩⟩ hb
            exact ⟨⟨h1.oth hb (by omega), hb.cell h2, hb.cell h3, h4.below (hb.below.mono (by omega)), h5.oth hb (by omega) (fun k hk => by have := hAt.klt k hk; omega), h6⟩⟩
          · rintro cd pre2 Wc Wd ⟨hcd, ⟨v3, h1, h2, h4, h5, h6⟩⟩ hb
            exact ⟨hcd, ⟨v3, h1.oth hb (by omega), hb.cell h2, h4.below (hb.below.mono (by omega)), h5.oth hb (by omega) (fun k hk => by have := hAt.klt k hk; omega), h6⟩⟩
          · exact ⟨⟨hS4, hclI, hpcI, hdkI, hinI, fun _ h => (by cases h)⟩⟩
          · intro L2 q Wc K' hK'
            gi_wp2_with fail
            exact hK'
          · rintro L2 pre2 q Wc hszc hpl2 ⟨hJ2⟩
            have hSc := hJ2.1
            have hg0 := hSc.g0
            have hg1 := hSc.g1
            have hcl := hJ2.2.1
            have hpc := hJ2.2.2.1
            have ho := hSc.o
            have hl6 := hSc.lt
            have hl7 : w1.heap.size < Wc.heap.size := by omega
            have hlcl2 := World.block_lt_of_cell? _ _ hcl
            have hlpc2 := World.block_lt_of_cell? _ _ hpc
            have hb6 : Below Wc.heap.size Wc (Wc.alloc (.cells #[.string y.f0, .string p.1] 73)) := (Below.refl _ _).alloc (Nat.le_refl _) _
            have hyy := tl_eq (rfl : y.f0 = y.f0)
            have hKI : Hid (∀ k, (k < w.heap.size ∨ k = B ∨ k = W.heap.size + 1 ∨ k = W.heap.size + 1 + 1) → k < Wb.heap.size) := by
              show ∀ k, _
              intro k hk; have := hAt.klt k hk; omega
            have hKJ : Hid (∀ k, (k < w.heap.size ∨ k = B ∨ k = Wb.heap.size ∨ k = Wb.heap.size + 1) → k < Wc.heap.size) := by
              show ∀ k, _
              intro k hk; have := hAt2.klt k hk; omega
            have HREST := Lib.hid hJ2
            by_cases hpq : q.1 = p.1
            · have hq1 := tl_eq hpq.symm
              have HPQ := Lib.hid hpq
              clear hpq hJ2
              gi_wp2_with (refine wpListIn_skip rfl rfl ?_)
              exact ⟨KeepsFrom.ofBelow hb6, Below.keeps hb6 (fun k hk => hKJ.out k hk), ⟨hSc.alloc _, cell_alloc hcl _, cell_alloc hpc _, HREST.out.2.2.2.1.below (hb6.mono (by omega)), HREST.out.2.2.2.2.1.later hb6 hKI.out, by show NoneSp l p.1 ((pre2 ++ [q]).map (·.1)); rw [List.map_append]; exact HREST.out.2.2.2.2.2.snoc (by simp [HPQ.out])⟩⟩
            · have hq1 := tl_ne (fun e => hpq e.symm)
              have HPQ := Lib.hid hpq
              have hG : GrOk (Wc.alloc (.cells #[.string y.f0, .string p.1] 73)) (some ad) c0 B l m := ⟨Kd.C_below HR.out (hSc.hB.trans (hb6.mono hSc.hB.size)), hc, hSc.M.alloc _, HK.out, HCK.out⟩
              have HH := Lib.hid (hG.has (a := p.1) (ups_mem q.2).2)
              clear hpq hJ2 hG
              cases hm : memS (anc l q.1) p.1 with
              | false =>
                have HM := Lib.hid hm
                clear hm
                gi_wp2_with (gi_at_call 70; refine (CallsIn.inRound L2 (callsIn_wide.2 HH.out)).mono ?_; rintro e w5 ⟨he5, hb5⟩; rw [HM.out] at he5; subst he5; have hb56 := hb6.trans (hb5.mono (by simp)); have hS5 := hSc.later hb56; have hl5' := hS5.lt; have ho5 := hS5.o; have hf5 := hS5.f; have hbox0 := (hb5.cell (p := ⟨Wc.heap.size, 0, none⟩) (by simp)).trans (cell_new Wc _ _ 0); have hbox1 := (hb5.cell (p := ⟨Wc.heap.size, 1, none⟩) (by simp)).trans (cell_new Wc _ _ 1); simp only [List.getElem?_toArray, List.getElem?_cons_zero, List.getElem?_cons_succ] at hbox0 hbox1; clear ho hg0 hg1 hpc)
                exact ⟨KeepsFrom.ofBelow hb56, Below.keeps hb56 (fun k hk => hKJ.out k hk), ⟨hS5, (hb56.cell (p := ⟨W.heap.size, 0, none⟩) hlcl2).trans hcl, (hb56.cell (p := ⟨bp, 0, none⟩) hlpc2).trans HREST.out.2.2.1, HREST.out.2.2.2.1.below (hb56.mono (by omega)), HREST.out.2.2.2.2.1.later hb56 hKI.out, by show NoneSp l p.1 ((pre2 ++ [q]).map (·.1)); rw [List.map_append]; exact HREST.out.2.2.2.2.2.snoc (by rw [HM.out]; simp)⟩⟩
              | true =>
                have HM := Lib.hid hm
                have HSP : Hid (spareB (ups l) (l.length + 1) y.f0 p.1 = true) := by
                  show _ = _
                  unfold spareB
                  rw [List.any_eq_true]
                  refine ⟨q.1, q.2, ?_⟩
                  have := HM.out
                  unfold anc at this
                  rw [this]
                  simpa using HPQ.out
                clear hm
                gi_wp2_with (first | (gi_at_call 70; refine (CallsIn.inRound L2 (callsIn_wide.2 HH.out)).mono ?_; rintro e w5 ⟨he5, hb5⟩; rw [HM.out] at he5; subst he5; have hb56 := hb6.trans (hb5.mono (by simp)); have hS5 := hSc.later hb56; have hl5' := hS5.lt; have ho5 := hS5.o; have hf5 := hS5.f; have hbox0 := (hb5.cell (p := ⟨Wc.heap.size, 0, none⟩) (by simp)).trans (cell_new Wc _ _ 0); have hbox1 := (hb5.cell (p := ⟨Wc.heap.size, 1, none⟩) (by simp)).trans (cell_new Wc _ _ 1); simp only [List.getElem?_toArray, List.getElem?_cons_zero, List.getElem?_cons_succ] at hbox0 hbox1; clear ho hg0 hg1 hpc) | (gi_at_builtin; refine RowL_push (w1.heap.size + 2) rfl _ _ rfl v2 out y.f0 p.1 rfl rfl hS5.row (by omega) HLO.out ?_; intro g cp w6 hR6 hG6 hat; have hne6 : some (w1.heap.size + 1) ≠ v2.ownBlock := (fun e => by have := (hS5.row.blocks _ e.symm).1; omega); have hc6 := hG6.cell ho5 hne6; have hf6 : w6.frozen? ⟨w1.heap.size + 1, 0, none⟩ = false := (World.frozen?_of_block (w := w5) (hG6.block (w1.heap.size + 1) (by omega) hne6)).trans hf5; have HR6 := Lib.hid hR6; clear hR6 ho5 hf5))
                have hv2 := fun k (e : v2.ownBlock = some k) => (hS5.row.blocks k e)
                have hcl5 := (hb56.cell (p := ⟨W.heap.size, 0, none⟩) hlcl2).trans hcl
                refine ⟨KeepsFrom.setCell (KeepsFrom.cells (KeepsFrom.ofBelow hb56) hG6 (fun k e => by obtain ⟨_, _, cells, hc⟩ := hv2 k e; exact ⟨_, hc, rfl⟩)) _ _, rfl, ⟨_, hS5.pushed hG6 HR6.out, ?_, ?_, ?_, HSP.out, ?_⟩⟩
                · refine (cell_set_ne _ (by dsimp only; omega)).trans ((World.cell?_of_block (w := w5) (hG6.block _ (by have := hb56.size; dsimp only; omega) (fun e => ?_))).trans hcl5)
                  have := hposv.out _ e.symm
                  dsimp only at this
                  omega
                · exact ((HREST.out.2.2.2.1.below (hb56.mono (by omega))).grown hG6 (fun k e => by obtain ⟨_, _, cells, hc⟩ := hv2 k e; exact ⟨_, hc, rfl⟩)).setCell _ _
                · refine ((HREST.out.2.2.2.2.1.later hb56 hKI.out).cells hG6 (fun k e => ?_) hKI.out).setCell _ (by dsimp only; omega) _
                  obtain ⟨h7, _, cells, hc⟩ := hv2 k e
                  exact ⟨⟨_, hc, rfl⟩, fun hk => by have := hposv.out k e; omega⟩
                · intro k hk
                  have hk' : g = k := by simpa [Value.ownBlock] using hk
                  subst hk'
                  rcases hat with hat | hat
                  · exact hposv.out _ hat.symm
                  · have := hb56.size; omega
          · rintro xs Wc hszc hxs ⟨hJ2⟩
            have hsp : spareB (ups l) (l.length + 1) y.f0 p.1 = false := by
              cases h : spareB (ups l) (l.length + 1) y.f0 p.1 with
              | false => rfl
              | true =>
                unfold spareB at h
                rw [List.any_eq_true] at h
                obtain ⟨q, hq, h⟩ := h
                have := hJ2.2.2.2.2.2 q (by rw [hxs]; exact hq)
                unfold anc at this
                rw [this] at h; cases h
            have HSP := Lib.hid hsp
            clear hsp
            gi_wp2_with fail
            refine ⟨hJ2.2.2.2.2.1.f, hJ2.2.2.2.2.1.k, v2, ⟨?_, hJ2.2.1, hJ2.2.2.2.1, hposv.out⟩⟩
            rw [hnx.out, HSP.out, if_neg (by simp), List.append_nil]
            exact hJ2.1
          · rintro cd pre2 Wc hszc - ⟨rfl, ⟨v3, h1, h2, h4, h5, h6, h7⟩⟩
            have H6 := Lib.hid h6
            have H7 := Lib.hid h7
            clear h6 h7
            gi_wp2_with fail
            refine ⟨h5.f, h5.k, v3, ⟨?_, h2, h4, H7.out⟩⟩
            rw [hnx.out, H6.out, if_pos rfl]
            exact h1
        · intro D1 xs Wb hD1 hxs ⟨v2, hI⟩ hdef
          gi_wp2_with fail
          rw [Exit.noGoto_normal]
          gi_wp2_with fail
          refine Handed.intro (l.length - (j + 1)) (by have := hgj.out; omega) (HJ.out _ _ _ ⟨_, _, _, _, _, _, _, _, _, _, _, _, _, _, _, _, _, _, _, _, _, _, _, _, _, _, _, _, _, _, _, _, _, _, _, _, _, _, _, _, _, _, _, _, _, _, _, _, _, _, _, _, _, _, v2, j + 1, ⟨?_, Marks.cons hMkL hD1 (by omega) hdef (hMkL.defk hI.out.2.2.1)⟩, by omega, ⟨rfl⟩, rfl⟩)
          have := hI.out.1
          rw [hxs] at this
          rw [hnext.out]
          exact this
        · intro D1 cd pre Wb _ _ h _
          exact h.elim
      · obtain rfl : j = l.length := by omega
        have ho := hS.o
        have hrow := hS.row
        rw [List.take_length] at hrow
        have HROW := Lib.hid hrow
        clear hrow
        gi_wp2_with fail
        refine leave_marks hrel.out.2 (fun W' hL => ⟨.tuple #[v, .int .i64 0], by simp [results, Try.results25, go_sem], v, by rw [HIO.out], ?_, hS.hB.trans (hL.below (Nat.le_refl _))⟩)
        rw [HIO.out]
        exact (HROW.out.left flat73 hL).lower (by have := hS.l1; have := hS.l2; omega)
end Go.Proofs.Ytdljclokenoogaa.Hw
end
section
namespace Go.Proofs.Ytdljclokenoogaa.Hw
open Go.RowKit Go.Proofs.Ytdljclokenoogaa.Hp Go.Proofs.YtdljclokenoogaaW.PrintWords Go.Proofs.YtdljclokenoogaaW.PrintLast Go.Proofs.YtdljclokenoogaaW.PrintMore
attribute [local go_sem] Oper.semAt_some
def commonOf (l : List S61) (a b : ByteArray) : List ByteArray := (anc l a).filter (memS (anc l b))
def leastOf (l : List S61) (a b : ByteArray) : List ByteArray × Int := if askedOf l [a, b] = 0 then (sortS ((commonOf l a b).filter (leastB l (commonOf l a b))), 0) else ([], askedOf l [a, b])
theorem anc_names {l : List S61} {c : ByteArray} (h : (checkOf l).1 = 0) (hc : c ∈ names l) : (∀ x ∈ anc l c, x ∈ names l) ∧ (anc l c).Nodup := by
  obtain ⟨_, _, _, hrg⟩ := checkOk h
  obtain ⟨rk, hrk, hrn⟩ := rank_of_ring hrg
  exact ⟨vis_all (P := fun x => x ∈ names l) (fun c p _ hp => (ups_mem hp).2) (l.length + 1) c [] hc (fun x hx => by cases hx), (vis_ok hrk (l.length + 1) c [] (hrn c) Ordered.nil List.nodup_nil).2.1⟩
set_option maxRecDepth 100000 in
set_option maxHeartbeats 8000000 in
theorem least_calls (A0 : Option Addr) (c0 : Nat) (l : List S61) (a b : ByteArray) (w : World) (hr : k61.C w A0 l.length l) (hc : l.length ≤ c0) :
    Calls Try.prog 21 #[.slice A0 l.length c0, .string a, .string b] w fun e w' => ∃ v, e = .returned (.tuple #[v, .int .i64 (leastOf l a b).2]) ∧ Row w' w.heap.size (fun _ => True) v (leastOf l a b).1 ∧ Below w.heap.size w w' := by
  refine (callsIn_wide (n := 20)).1 ?_
  refine callsIn_of_wp Try.func21 rfl trivial ?_
  simp only [Try.ntmps21, List.size_toArray, List.length_cons, List.length_nil, Nat.reduceAdd, Nat.reduceSub, Array.replicate_succ, Array.replicate_zero, List.push_toArray, List.append_toArray, List.nil_append, List.cons_append]
  have HR := Lib.hid hr
  clear hr
  obtain ⟨W0, hW0⟩ : ∃ W0, w.alloc (.cells #[.string b] 9) = W0 := ⟨_, rfl⟩
  have hB0 : Below w.heap.size w W0 := by rw [← hW0]; exact (Below.refl _ _).alloc (Nat.le_refl _) _
  have hs0 : w.heap.size < W0.heap.size := by rw [← hW0]; simp
  have hs0' : W0.heap.size ≤ w.heap.size + 1 := by rw [← hW0]; simp
  have hcc : W0.cell? ⟨w.heap.size, 0, none⟩ = some (.string b) := by rw [← hW0]; exact cell_new _ _ _ _
  have hb1 : Below w.heap.size w (W0.alloc (.cells #[.string a, .string b] 9)) := hB0.alloc hB0.size _
  have HL := Lib.hid (lit2 W0 a b)
  gi_wp2_with fail
  refine (callsIn_wide.2 (right_calls A0 (some ⟨W0.heap.size, 0, none⟩) c0 2 l [a, b] _ (Kd.C_below HR.out hb1) hc HL.out)).mono ?_
  rintro e w1 ⟨hb2, ⟨he, rfl⟩ | ⟨he, B, m, rfl, hBB, hM, hK⟩⟩
  · have hB1 := hb1.trans (hb2.mono (by simp; omega))
    obtain ⟨er, her⟩ : ∃ er, askedOf l [a, b] = er := ⟨_, rfl⟩
    have hio : leastOf l a b = ([], er) := by unfold leastOf; rw [if_neg he, her]
    rw [her] at he ⊢
    have heb : (er != 0) = true := by simpa using he
    have HIO := Lib.hid hio
    clear her hio he hcc hW0
    gi_wp2_with fail
    go_ret2
    exact ⟨.slice none 0 0, by rw [HIO.out]; rfl, by rw [HIO.out]; exact Row.nil _ _ _, by first | exact hB1 | exact hB1.alloc hB1.size _⟩
  · have hB1 := hb1.trans (hb2.mono (by simp; omega))
    have hio : leastOf l a b = (sortS ((commonOf l a b).filter (leastB l (commonOf l a b))), 0) := by unfold leastOf; rw [if_pos he]
    obtain ⟨hck, hns⟩ := askedOk he
    obtain ⟨hl24, _, _, _⟩ := checkOk hck
    have han := anc_names hck (hns a (by simp))
    have hbn := hns b (by simp)
    have halen : (anc l a).length ≤ 24 := Nat.le_trans (length_le_of_subset _ _ han.2 han.1) (by rw [names_len]; exact hl24)
    obtain ⟨WL, hWL⟩ : ∃ WL, w1.alloc (.cells #[.slice A0 l.length c0, .map (some B)] 99) = WL := ⟨_, rfl⟩
    have hbL : Below w1.heap.size w1 WL := by rw [← hWL]; exact (Below.refl _ _).alloc (Nat.le_refl _) _
    have hBL := hB1.trans (hbL.mono hB1.size)
    have hg0 : WL.cell? ⟨w1.heap.size, 0, none⟩ = some (.slice A0 l.length c0) := by rw [← hWL]; exact cell_new _ _ _ _
    have hg1 : WL.cell? ⟨w1.heap.size, 1, none⟩ = some (.map (some B)) := by rw [← hWL]; exact cell_new _ _ _ _
    have hcc1 : w1.cell? ⟨w.heap.size, 0, none⟩ = some (.string b) := (hb2.cell (p := ⟨w.heap.size, 0, none⟩) (by simp; omega)).trans (cell_alloc hcc _)
    have hccL : WL.cell? ⟨w.heap.size, 0, none⟩ = some (.string b) := by rw [← hWL]; exact cell_alloc hcc1 _
    have hgL := World.block_lt_of_cell? _ _ hg0
    have hcL := World.block_lt_of_cell? _ _ hccL
    have hG : GrOk WL A0 c0 B l m := ⟨Kd.C_below HR.out hBL, hc, hM.below hbL hM.lt, hK, hck⟩
    have HC := Lib.hid (hG.above (hns a (by simp)))
    have hP : Hid (∀ W, Below WL.heap.size WL W → Pred W 69 #[.pointer (some ⟨w1.heap.size, 0, none⟩), .pointer (some ⟨w.heap.size, 0, none⟩)] (anc l a) (memS (anc l b))) := by
      show ∀ W, _
      intro W hW
      refine ⟨enters_of Try.func69 (by kernel_rfl) rfl, fun x hx W2 hW2 => ?_⟩
      have hW3 := hW.trans (hW2.mono hW.size)
      simp only [List.append_toArray, List.cons_append, List.nil_append]
      exact least1_calls (hG.later hW3) w1.heap.size w.heap.size x b hbn ((hW3.cell (p := ⟨w1.heap.size, 0, none⟩) hgL).trans hg0) ((hW3.cell (p := ⟨w1.heap.size, 1, none⟩) hgL).trans hg1) ((hW3.cell (p := ⟨w.heap.size, 0, none⟩) hcL).trans hccL)
    have hP2 : Hid (∀ W, Below WL.heap.size WL W → ∀ (bn : Nat) (A1 : Option Addr) (c1 : Nat), Kd.string.C W A1 (commonOf l a b).length (commonOf l a b) → W.cell? ⟨bn, 0, none⟩ = some (.slice A1 (commonOf l a b).length c1) → Pred W 71 #[.pointer (some ⟨bn, 0, none⟩), .pointer (some ⟨w1.heap.size, 0, none⟩)] (commonOf l a b) (leastB l (commonOf l a b))) := by
      show ∀ W, _
      intro W hW bn A1 c1 hC1 hbn1
      refine ⟨enters_of Try.func71 (by kernel_rfl) rfl, fun x hx W2 hW2 => ?_⟩
      have hW3 := hW.trans (hW2.mono hW.size)
      have hl1 := World.block_lt_of_cell? _ _ hbn1
      simp only [List.append_toArray, List.cons_append, List.nil_append]
      exact least2_calls (hG.later hW3) w1.heap.size bn A1 c1 (commonOf l a b) x (fun d hd => han.1 d (List.mem_filter.1 hd).1) ((hW3.cell (p := ⟨w1.heap.size, 0, none⟩) hgL).trans hg0) ((hW3.cell (p := ⟨w1.heap.size, 1, none⟩) hgL).trans hg1) (Kd.C_below hC1 hW2) ((hW2.cell (p := ⟨bn, 0, none⟩) hl1).trans hbn1)
    have hclen : (commonOf l a b).length ≤ 1100000000000 := Nat.le_trans (List.length_filter_le _ _) (by omega)
    have hclen2 : ((commonOf l a b).filter (leastB l (commonOf l a b))).length ≤ 1100000000000 := Nat.le_trans (List.length_filter_le _ _) hclen
    have hale : (anc l a).length ≤ 1100000000000 := by omega
    have HIO := Lib.hid hio
    have HCL := Lib.hid hclen
    have HCL2 := Lib.hid hclen2
    have HAL := Lib.hid hale
    clear hio he hM hK hG hck hcc hcc1 hW0 hccL hns han hbn halen hclen hclen2 hale
    gi_wp2_with (first
      | (gi_at_call 68; refine (callsIn_wide.2 HC.out).mono ?_; rintro e w2 ⟨v2, rfl, hR2, hb3⟩; obtain ⟨A2, c2, rfl, hcap2, hC2⟩ := hR2.reads; have HC2 := Lib.hid hC2; clear hC2 hR2))
    refine (callsIn_wide.2 (filter_calls _ _ (anc l a) _ _ _ _ HC2.out HAL.out (hP.out w2 hb3))).mono ?_
    rintro e w3 ⟨v3, rfl, hR3, hb4⟩
    have hb34 := hb3.trans (hb4.mono hb3.size)
    obtain ⟨A3, c3, rfl, hcap3, hC3⟩ := hR3.reads
    have hC3' : Kd.string.C w3 A3 (commonOf l a b).length (commonOf l a b) := hC3
    have hbox : (w3.alloc (.cells #[.slice A3 (commonOf l a b).length c3] 25)).cell? ⟨w3.heap.size, 0, none⟩ = some (.slice A3 (commonOf l a b).length c3) := cell_new _ _ _ _
    have hb5 : Below w3.heap.size w3 (w3.alloc (.cells #[.slice A3 (commonOf l a b).length c3] 25)) := (Below.refl _ _).alloc (Nat.le_refl _) _
    have hb35 := hb34.trans (hb5.mono hb34.size)
    have hB5 := hBL.trans (hb35.mono hBL.size)
    have HC5 := Lib.hid (Kd.C_below hC3' hb5)
    have HP5 := Lib.hid (hP2.out _ hb35 w3.heap.size A3 c3 HC5.out hbox)
    have e1 : List.filter (memS (anc l b)) (anc l a) = commonOf l a b := rfl
    rw [e1]
    clear hC3 hC3' hR3 hcap3 hbox hb4 e1 hWL
    gi_wp2_with fail
    refine (callsIn_wide.2 (filter_calls _ _ (commonOf l a b) _ _ _ _ HC5.out HCL.out HP5.out)).mono ?_
    rintro e w6 ⟨v6, rfl, hR6, hb6⟩
    have hB6 := hB5.trans (hb6.mono hB5.size)
    have HR6 := Lib.hid hR6
    have hb6l := hb6.size
    clear hR6
    gi_wp2_with (gi_at_call 64; refine (callsIn_wide.2 (sortRow_calls HR6.out HCL2.out)).mono ?_; rintro e w7 ⟨rfl, hR7, hG7⟩; have HR7 := Lib.hid hR7; clear hR7)
    go_ret2
    refine ⟨_, by rw [HIO.out]; rfl, by rw [HIO.out]; exact ⟨Kd.R_lower HR7.out.1 hB5.size, HR7.out.2⟩, hB6.grown hG7 hB6.size (fun k e => ?_)⟩
    exact Nat.le_trans hB5.size (HR6.out.blocks k e).1
end Go.Proofs.Ytdljclokenoogaa.Hw
end
section
namespace Go.Proofs.Ytdljclokenoogaa.Hw
open Go.RowKit Go.Proofs.Ytdljclokenoogaa.Hp
theorem five_above : aboveOf five cE = ([cA, cB, cC, cD, cE], 0) := by kernel_rfl
theorem five_ways : waysOf five cE cA = (3, 0) := by kernel_rfl
theorem five_way : wayOf five cE cA = ([cE, cA], 0) := by kernel_rfl
theorem five_order : orderOf five = ([cA, cB, cC, cD, cE], 0) := by kernel_rfl
theorem five_sort (x y : ByteArray) (h : lessS x y = true) (hne : x ≠ y) : sortS [x, y] = [x, y] := by
  refine Incr.uniq (sortS_incr (by simp [hne])) ?_ (fun z => sortS_mem _ z)
  simp [Incr, h]
theorem five_sort1 (x : ByteArray) : sortS [x] = [x] := by simp [sortS]
theorem five_levels0 : levelsOf five = ([sortS [cA], sortS [cB, cC], sortS [cD], sortS [cE]], 0) := by kernel_rfl
theorem five_levels : levelsOf five = ([[cA], [cB, cC], [cD], [cE]], 0) := by
  rw [five_levels0, five_sort1, five_sort1, five_sort1, five_sort cB cC (by kernel_rfl) (by decide)]
theorem five_least : leastOf five cB cC = ([cA], 0) := by kernel_rfl
theorem five_one : leastOf five cD cB = ([cB], 0) := by kernel_rfl
theorem five_spare : needlessOf five = ([⟨cE, cA⟩], 0) := by kernel_rfl
theorem five_touched : touchedOf five [cC] = ([cC, cD, cE], 0) := by kernel_rfl
def badL : List S61 := litC cA [cD] :: five.drop 1
theorem bad_check : checkOf badL = (7, cA) := by kernel_rfl
theorem bad_ring : ringOf badL = [cA, cD, cB] := by kernel_rfl
end Go.Proofs.Ytdljclokenoogaa.Hw
end
section
namespace Go.Proofs.Ytdljclokenoogaa.Hw
open Go.RowKit Go.Proofs.Ytdljclokenoogaa.Hp Go.Proofs.YtdljclokenoogaaW.PrintWords Go.Proofs.YtdljclokenoogaaW.PrintLast Go.Proofs.YtdljclokenoogaaW.PrintMore
attribute [local go_sem] Oper.semAt_some
section
variable (A : Option Addr) (w : World) (h : k61.C w A 5 five)
include h
theorem san_above : Calls Try.prog 34 #[.slice A 5 5, .string cE] w fun e w' => ∃ B c, e = .returned (.tuple #[.slice B 5 c, .int .i64 0]) ∧ Kd.string.C w' B 5 [cA, cB, cC, cD, cE] ∧ 5 ≤ c ∧ Below w.heap.size w w' := by
  have h := aboveApi_calls A 5 five cE w h (Nat.le_refl _)
  rw [five_above] at h
  refine h.mono ?_
  rintro e w' ⟨v, rfl, hR, hb⟩
  obtain ⟨B, c, rfl, hc, hC⟩ := Row.reads hR
  exact ⟨B, c, rfl, hC, hc, hb⟩
theorem san_ways : Calls Try.prog 32 #[.slice A 5 5, .string cE, .string cA] w fun e w' => e = .returned (.tuple #[.int .i64 3, .int .i64 0]) ∧ Below w.heap.size w w' := by
  have h := ways_calls A 5 five cE cA w h (Nat.le_refl _)
  rw [five_ways] at h
  exact h
theorem san_way : Calls Try.prog 49 #[.slice A 5 5, .string cE, .string cA] w fun e w' => ∃ B c, e = .returned (.tuple #[.slice B 2 c, .int .i64 0]) ∧ Kd.string.C w' B 2 [cE, cA] ∧ 2 ≤ c ∧ Below w.heap.size w w' := by
  have h := way_calls A 5 five cE cA w h (Nat.le_refl _)
  rw [five_way] at h
  refine h.mono ?_
  rintro e w' ⟨v, rfl, hR, hb⟩
  obtain ⟨B, c, rfl, hc, hC⟩ := Row.reads hR
  exact ⟨B, c, rfl, hC, hc, hb⟩
theorem san_order : Calls Try.prog 17 #[.slice A 5 5] w fun e w' => ∃ B c, e = .returned (.tuple #[.slice B 5 c, .int .i64 0]) ∧ Kd.string.C w' B 5 [cA, cB, cC, cD, cE] ∧ 5 ≤ c ∧ Below w.heap.size w w' := by
  have h := order_calls A 5 five w h (Nat.le_refl _)
  rw [five_order] at h
  refine h.mono ?_
  rintro e w' ⟨v, rfl, hR, hb⟩
  obtain ⟨B, c, rfl, hc, hC⟩ := Row.reads hR
  exact ⟨B, c, rfl, hC, hc, hb⟩
theorem san_levels : Calls Try.prog 19 #[.slice A 5 5] w fun e w' => ∃ B c, e = .returned (.tuple #[.slice B 4 c, .int .i64 0]) ∧ (Kd.slice 9 Kd.string).C w' B 4 [[cA], [cB, cC], [cD], [cE]] ∧ 4 ≤ c ∧ Below w.heap.size w w' := by
  have h := levels_calls A 5 five w h (Nat.le_refl _)
  rw [five_levels] at h
  refine h.mono ?_
  rintro e w' ⟨v, rfl, hR, hb⟩
  obtain ⟨B, c, rfl, hc, hC⟩ := Kd.R_reads hR
  exact ⟨B, c, rfl, hC, hc, hb⟩
theorem san_least : Calls Try.prog 21 #[.slice A 5 5, .string cB, .string cC] w fun e w' => ∃ B c, e = .returned (.tuple #[.slice B 1 c, .int .i64 0]) ∧ Kd.string.C w' B 1 [cA] ∧ 1 ≤ c ∧ Below w.heap.size w w' := by
  have h := least_calls A 5 five cB cC w h (Nat.le_refl _)
  rw [five_least] at h
  refine h.mono ?_
  rintro e w' ⟨v, rfl, hR, hb⟩
  obtain ⟨B, c, rfl, hc, hC⟩ := Row.reads hR
  exact ⟨B, c, rfl, hC, hc, hb⟩
theorem san_one : Calls Try.prog 21 #[.slice A 5 5, .string cD, .string cB] w fun e w' => ∃ B c, e = .returned (.tuple #[.slice B 1 c, .int .i64 0]) ∧ Kd.string.C w' B 1 [cB] ∧ 1 ≤ c ∧ Below w.heap.size w w' := by
  have h := least_calls A 5 five cD cB w h (Nat.le_refl _)
  rw [five_one] at h
  refine h.mono ?_
  rintro e w' ⟨v, rfl, hR, hb⟩
  obtain ⟨B, c, rfl, hc, hC⟩ := Row.reads hR
  exact ⟨B, c, rfl, hC, hc, hb⟩
theorem san_needless : Calls Try.prog 25 #[.slice A 5 5] w fun e w' => ∃ B c, e = .returned (.tuple #[.slice B 1 c, .int .i64 0]) ∧ k73.C w' B 1 [⟨cE, cA⟩] ∧ 1 ≤ c ∧ Below w.heap.size w w' := by
  have h := needless_calls A 5 five w h (Nat.le_refl _)
  rw [five_spare] at h
  refine h.mono ?_
  rintro e w' ⟨v, rfl, hR, hb⟩
  obtain ⟨B, c, rfl, hc, hC⟩ := RowK.reads hR
  exact ⟨B, c, rfl, hC, hc, hb⟩
theorem san_touched (A1 : Option Addr) (hn : Kd.string.C w A1 1 [cC]) : Calls Try.prog 27 #[.slice A 5 5, .slice A1 1 1] w fun e w' => ∃ B c, e = .returned (.tuple #[.slice B 3 c, .int .i64 0]) ∧ Kd.string.C w' B 3 [cC, cD, cE] ∧ 3 ≤ c ∧ Below w.heap.size w w' := by
  have h := touched_calls A A1 5 1 five [cC] w h (Nat.le_refl _) hn
  rw [five_touched] at h
  refine h.mono ?_
  rintro e w' ⟨v, rfl, hR, hb⟩
  obtain ⟨B, c, rfl, hc, hC⟩ := Row.reads hR
  exact ⟨B, c, rfl, hC, hc, hb⟩
end
theorem san_check (A : Option Addr) (c0 : Nat) (w : World) (h : k61.C w A 5 badL) (hc : 5 ≤ c0) : Calls Try.prog 43 #[.slice A 5 c0] w fun e w' => e = .returned (.tuple #[.int .i64 7, .string cA]) ∧ Below w.heap.size w w' := by
  have h := check_calls A c0 badL w h hc
  rw [bad_check] at h
  exact h
theorem san_ring (A : Option Addr) (c0 : Nat) (w : World) (h : k61.C w A 5 badL) (hc : 5 ≤ c0) : Calls Try.prog 45 #[.slice A 5 c0] w fun e w' => ∃ B c, e = .returned (.tuple #[.slice B 3 c, .bool true]) ∧ Kd.string.C w' B 3 [cA, cD, cB] ∧ 3 ≤ c ∧ Below w.heap.size w w' := by
  have h := ring_calls A c0 badL w h hc (by decide) (fun x hx => by
    have : badL.all (fun x => decide (x.f3.length ≤ 1100000000000)) = true := by kernel_rfl
    exact of_decide_eq_true (List.all_eq_true.1 this x hx))
  rw [bad_ring] at h
  refine h.mono ?_
  rintro e w' ⟨v, rfl, hR, hb⟩
  obtain ⟨B, c, rfl, hc, hC⟩ := Row.reads hR
  exact ⟨B, c, rfl, hC, hc, hb⟩
theorem san_names (xs : List ByteArray) (A0 A1 : Option Addr) (c0 c1 : Nat) (w : World) (h0 : Kd.string.C w A0 xs.length xs) (hc0 : xs.length ≤ c0) (h1 : Kd.string.C w A1 xs.length xs) (hc1 : xs.length ≤ c1) (h : cosignerref03_SameNames.f 9 xs xs = some true) :
    Calls Try.prog 23 #[.slice A0 xs.length c0, .slice A1 xs.length c1] w fun e w' => e = .returned (.bool true) ∧ Below w.heap.size w w' :=
  (cosignerref03_SameNames.calls 9 A0 c0 xs A1 c1 xs true w h0 hc0 h1 hc1 h).mono (fun e w2 h => ⟨h.1, h.2.below⟩)
theorem san_lists (xs : List (List ByteArray)) (A0 A1 : Option Addr) (c0 c1 : Nat) (w : World) (h0 : (Kd.slice 9 Kd.string).C w A0 xs.length xs) (hc0 : xs.length ≤ c0) (h1 : (Kd.slice 9 Kd.string).C w A1 xs.length xs) (hc1 : xs.length ≤ c1) (h : cosignerref03_SameLists.f 9 xs xs = some true) :
    Calls Try.prog 24 #[.slice A0 xs.length c0, .slice A1 xs.length c1] w fun e w' => e = .returned (.bool true) ∧ Below w.heap.size w w' :=
  (cosignerref03_SameLists.calls 9 A0 c0 xs A1 c1 xs true w h0 hc0 h1 hc1 h).mono (fun e w2 h => ⟨h.1, h.2.below⟩)
theorem san_links (xs : List S73) (A0 A1 : Option Addr) (c0 c1 : Nat) (w : World) (h0 : k73.C w A0 xs.length xs) (hc0 : xs.length ≤ c0) (h1 : k73.C w A1 xs.length xs) (hc1 : xs.length ≤ c1) (h : cosignerref03_SameLinks.f 9 xs xs = some true) :
    Calls Try.prog 29 #[.slice A0 xs.length c0, .slice A1 xs.length c1] w fun e w' => e = .returned (.bool true) ∧ Below w.heap.size w w' :=
  (cosignerref03_SameLinks.calls 9 A0 c0 xs A1 c1 xs true w h0 hc0 h1 hc1 h).mono (fun e w2 h => ⟨h.1, h.2.below⟩)
theorem info_c : (Try.prog.info? 61).map (fun i => (i.zero, i.size, i.bytes)) = some (some (.agg #[.string ⟨#[]⟩, .bool false, .slice none 0 0, .slice none 0 0, .slice none 0 0, .slice none 0 0, .slice none 0 0]), 7, 144) := by kernel_rfl
theorem fixed_lit {α : Type} (d : Kd α) (W : World) (e : TypeId) (xs : List α) (inner : List Value) (hm : xs.length ≤ 9223372036854775807) (h : Reps (d.K W) d.sz xs inner) :
    (Kd.fixed d W).R e (W.alloc (.cells inner.toArray e)) W.heap.size (fun _ => True) (.slice (some ⟨W.heap.size, 0, none⟩) xs.length xs.length) xs := by
  refine ⟨fun _ _ => trivial, inner, ?_, h.imp_ (fun p c hp => hp)⟩
  have h2 := World.ownsRow_lit (base := W.heap.size) (e := e) (size := d.sz) W inner.toArray xs.length (Nat.le_refl _) (by simpa [maxLen] using hm) (by simpa using h.1)
  show (W.alloc (.cells inner.toArray e)).ownsRow W.heap.size e d.sz _ _ _
  simpa using h2
theorem unfixed {α : Type} {d : Kd α} {W W' : World} {A : Option Addr} {n : Nat} {xs : List α} (h : (Kd.fixed d W).C W' A n xs) (hb : Below W.heap.size W W') : d.C W' A n xs := ReadsRow.imp_ h (Below.refl _ _) (fun _ _ hp => d.K_below hb hp)
theorem bad_rows {w : World} {ad : Addr} (h : k61.C w (some ad) 5 five) : k61.C w (some ⟨ad.block, ad.off + 7, none⟩) 4 (five.drop 1) := by
  have := Kd.C_drop (c := 5) (m := 1) (xs := five) h (by decide) (by decide)
  exact this
theorem lists_lit (W : World) : (Kd.slice 9 Kd.string).C (((((W.alloc (.cells #[.string cA] 9)).alloc (.cells #[.string cB, .string cC] 9)).alloc (.cells #[.string cD] 9)).alloc (.cells #[.string cE] 9)).alloc
      (.cells #[.slice (some ⟨W.heap.size, 0, none⟩) 1 1, .slice (some ⟨W.heap.size + 1, 0, none⟩) 2 2, .slice (some ⟨W.heap.size + 1 + 1, 0, none⟩) 1 1, .slice (some ⟨W.heap.size + 1 + 1 + 1, 0, none⟩) 1 1] 25)) (some ⟨W.heap.size + 1 + 1 + 1 + 1, 0, none⟩) 4 [[cA], [cB, cC], [cD], [cE]] := by
  have h1 := C_strs W [cA] (by decide)
  have h2 := C_strs (W.alloc (.cells #[.string cA] 9)) [cB, cC] (by decide)
  have h3 := C_strs ((W.alloc (.cells #[.string cA] 9)).alloc (.cells #[.string cB, .string cC] 9)) [cD] (by decide)
  have h4 := C_strs (((W.alloc (.cells #[.string cA] 9)).alloc (.cells #[.string cB, .string cC] 9)).alloc (.cells #[.string cD] 9)) [cE] (by decide)
  simp only [World.size_alloc] at h2 h3 h4
  have h := C_lit (Kd.slice 9 Kd.string) ((((W.alloc (.cells #[.string cA] 9)).alloc (.cells #[.string cB, .string cC] 9)).alloc (.cells #[.string cD] 9)).alloc (.cells #[.string cE] 9)) 25 [[cA], [cB, cC], [cD], [cE]]
    [.slice (some ⟨W.heap.size, 0, none⟩) 1 1, .slice (some ⟨W.heap.size + 1, 0, none⟩) 2 2, .slice (some ⟨W.heap.size + 1 + 1, 0, none⟩) 1 1, .slice (some ⟨W.heap.size + 1 + 1 + 1, 0, none⟩) 1 1] (by decide)
    (Reps.one ⟨_, _, rfl, Nat.le_refl _, Kd.C_alloc (Kd.C_alloc (Kd.C_alloc h1 _) _) _⟩ (Reps.one ⟨_, _, rfl, Nat.le_refl _, Kd.C_alloc (Kd.C_alloc h2 _) _⟩ (Reps.one ⟨_, _, rfl, Nat.le_refl _, Kd.C_alloc h3 _⟩ (Reps.one ⟨_, _, rfl, Nat.le_refl _, h4⟩ (Reps.none _ _)))))
  simp only [World.size_alloc] at h
  exact h
theorem link_lit (W : World) : k73.C (W.alloc (.cells #[.string cE, .string cA] 73)) (some ⟨W.heap.size, 0, none⟩) 1 [⟨cE, cA⟩] := C_lit k73 W 73 [⟨cE, cA⟩] [.string cE, .string cA] (by decide) (Reps.c2 ⟨[.string cE], [.string cA], rfl, rfl, rfl⟩ (Reps.none _ _))
theorem below_of_alloc_drew {w1 W : World} {o : Obj} (hb : Below (w1.alloc o).drew.heap.size (w1.alloc o).drew W) : Below w1.heap.size w1 W := ((Below.refl _ _).alloc (Nat.le_refl _) o).drew.trans (hb.mono (by show _ ≤ (w1.alloc o).heap.size; simp))
theorem rows_run {w : World} {x : S61} {cs : List Value} (hx : k61.K w x cs) {a : Addr} {ys : List S61} {m : Nat} (hy : k61.C w (some a) m ys) (hm : m ≤ 1000) (cp : Nat) :
    ∃ v1 w1, (appendK #[22, 22] 22 #[.slice (some ⟨w.heap.size, 0, none⟩) 1 1, .slice (some a) m cp]).run Try.prog (w.alloc (.cells cs.toArray 61)) = .ok v1 w1 ∧
      (∃ A c, v1 = .slice A (1 + m) c ∧ 1 + m ≤ c ∧ k61.C w1 A (1 + m) (x :: ys)) ∧ Below w.heap.size w w1 := by
  obtain ⟨_, inner, hown, hreps⟩ := fixed_lit k61 w 61 [x] cs (by simp) ⟨by simpa using k61.K_len hx, fun j p hj => by
    cases j with
    | zero =>
      simp only [List.getElem?_cons_zero, Option.some.injEq] at hj
      subst hj
      rw [Nat.zero_mul, List.drop_zero, List.take_of_length_le (Nat.le_of_eq (k61.K_len hx))]
      exact hx
    | succ j => simp at hj⟩
  have hml : ys.length = m := hy.1
  have hbW : Below w.heap.size w (w.alloc (.cells cs.toArray 61)) := (Below.refl _ _).alloc (Nat.le_refl _) _
  have hyW : ReadsRow (k61.K w) k61.sz (w.alloc (.cells cs.toArray 61)) (some a) m ys := ReadsRow.imp_ hy hbW (fun _ _ h => h)
  obtain ⟨inner2, hr2, hc2⟩ := hyW.inner_
  obtain ⟨i, hi, hz⟩ := Option.map_eq_some_iff.1 info_c
  simp only [Prod.mk.injEq] at hz
  have h1 : ∀ u ∈ inner2, u.oneCell' = true := by
    intro u hu
    obtain ⟨k, hk, rfl⟩ := List.mem_iff_getElem.1 hu
    have hl2 := hr2.1
    have h7 : k61.sz = 7 := rfl
    rw [h7] at hl2
    have hj : k / 7 < ys.length := by omega
    have h3 := k61.K_one (hr2.2 (k / 7) _ (List.getElem?_eq_getElem hj))
    refine h3 _ ?_
    rw [h7]
    refine List.mem_iff_getElem?.2 ⟨k % 7, ?_⟩
    rw [List.getElem?_take, if_pos (Nat.mod_lt _ (by omega)), List.getElem?_drop, show k / 7 * 7 + k % 7 = k by omega, List.getElem?_eq_getElem hk]
  obtain ⟨v1, w1, hrun, r1, r2, r3, r4⟩ := run_append_own_at (P := Try.prog) (w := w.alloc (.cells cs.toArray 61)) w.heap.size 22 22 61 i _ 7 144 Try.underlying22 hi hz.1 hz.2.1 hz.2.2 rfl (by decide) _ 1 _ hown a m cp inner2
    (by rw [hr2.1, hml]; rfl) (by simpa using hc2) h1 (by simp only [maxLen]; omega) (by omega) (by simp)
  have hb1 : Below w.heap.size w w1 := hbW.grown r2 (by simp) (fun k e => by cases e; exact Nat.le_refl _)
  refine ⟨v1, w1, hrun, ?_, hb1⟩
  have hR : (Kd.fixed k61 w).R 61 w1 w.heap.size (fun _ => True) v1 (x :: ys) := by
    refine ⟨fun _ _ => trivial, inner ++ inner2, ?_, ?_⟩
    · rw [List.length_cons, hml, Nat.add_comm]; exact r1
    · exact Kd.reps_append (hreps.imp_ (fun _ _ h => h)) (hr2.imp_ (fun _ _ h => h))
  obtain ⟨A, c, rfl, hc, hC⟩ := Kd.R_reads hR
  have hl : (x :: ys).length = 1 + m := by rw [List.length_cons, hml, Nat.add_comm]
  rw [hl] at hc hC ⊢
  exact ⟨A, c, rfl, hc, unfixed hC hb1⟩
end Go.Proofs.Ytdljclokenoogaa.Hw
end
section
namespace Go.Proofs.Ytdljclokenoogaa.Hw
open Go.RowKit Go.Proofs.Ytdljclokenoogaa.Hp Go.Proofs.YtdljclokenoogaaW.PrintWords Go.Proofs.YtdljclokenoogaaW.PrintLast Go.Proofs.YtdljclokenoogaaW.PrintMore
attribute [local go_sem] Oper.semAt_some
attribute [local go_sem ↓] append_k
set_option maxRecDepth 100000 in
set_option maxHeartbeats 16000000 in
theorem sanity_calls (w : World) : Calls Try.prog 16 #[] w fun e w' => e = .returned (.bool true) ∧ Below w.heap.size w w' := by
  refine (callsIn_wide (n := 20)).1 ?_
  refine callsIn_of_wp Try.func16 rfl trivial ?_
  simp only [Try.ntmps16, List.size_toArray, List.length_cons, List.length_nil, Nat.reduceAdd, Nat.reduceSub, Array.replicate_succ, Array.replicate_zero, List.push_toArray, List.append_toArray, List.nil_append, List.cons_append]
  gi_wp2_with fail
  refine (callsIn_wide.2 (five_calls w)).mono ?_
  rintro e w1 ⟨a1, rfl, hC, hB⟩
  have F1 := Lib.hid hC
  clear hC
  gi_wp2_with fail
  refine (callsIn_wide.2 (san_above a1 _ F1.out)).mono ?_
  rintro e w2 ⟨a2, c2, rfl, hC, hc2, hb⟩
  replace F1 := Lib.hid (Kd.C_below F1.out hb)
  replace hB := hB.trans (hb.mono hB.size)
  clear hb
  have F2 := Lib.hid hC
  clear hC
  gi_wp2_with fail
  refine (callsIn_wide.2 (san_ways a1 _ F1.out)).mono ?_
  rintro e w3 ⟨rfl, hb⟩
  replace F1 := Lib.hid (Kd.C_below F1.out hb)
  replace F2 := Lib.hid (Kd.C_below F2.out hb)
  replace hB := hB.trans (hb.mono hB.size)
  clear hb
  gi_wp2_with fail
  refine (callsIn_wide.2 (san_way a1 _ F1.out)).mono ?_
  rintro e w4 ⟨a6, c6, rfl, hC, hc6, hb⟩
  replace F1 := Lib.hid (Kd.C_below F1.out hb)
  replace F2 := Lib.hid (Kd.C_below F2.out hb)
  replace hB := hB.trans (hb.mono hB.size)
  clear hb
  have F6 := Lib.hid hC
  clear hC
  gi_wp2_with fail
  refine (callsIn_wide.2 (san_order a1 _ F1.out)).mono ?_
  rintro e w5 ⟨a8, c8, rfl, hC, hc8, hb⟩
  replace F1 := Lib.hid (Kd.C_below F1.out hb)
  replace F2 := Lib.hid (Kd.C_below F2.out hb)
  replace F6 := Lib.hid (Kd.C_below F6.out hb)
  replace hB := hB.trans (hb.mono hB.size)
  clear hb
  have F8 := Lib.hid hC
  clear hC
  gi_wp2_with fail
  refine (callsIn_wide.2 (san_levels a1 _ F1.out)).mono ?_
  rintro e w6 ⟨a10, c10, rfl, hC, hc10, hb⟩
  replace F1 := Lib.hid (Kd.C_below F1.out hb)
  replace F2 := Lib.hid (Kd.C_below F2.out hb)
  replace F6 := Lib.hid (Kd.C_below F6.out hb)
  replace F8 := Lib.hid (Kd.C_below F8.out hb)
  replace hB := hB.trans (hb.mono hB.size)
  clear hb
  have F10 := Lib.hid hC
  clear hC
  gi_wp2_with fail
  refine (callsIn_wide.2 (san_least a1 _ F1.out)).mono ?_
  rintro e w7 ⟨a12, c12, rfl, hC, hc12, hb⟩
  replace F1 := Lib.hid (Kd.C_below F1.out hb)
  replace F2 := Lib.hid (Kd.C_below F2.out hb)
  replace F6 := Lib.hid (Kd.C_below F6.out hb)
  replace F8 := Lib.hid (Kd.C_below F8.out hb)
  replace F10 := Lib.hid (Kd.C_below F10.out hb)
  replace hB := hB.trans (hb.mono hB.size)
  clear hb
  have F12 := Lib.hid hC
  clear hC
  gi_wp2_with fail
  refine (callsIn_wide.2 (san_one a1 _ F1.out)).mono ?_
  rintro e w8 ⟨a14, c14, rfl, hC, hc14, hb⟩
  replace F1 := Lib.hid (Kd.C_below F1.out hb)
  replace F2 := Lib.hid (Kd.C_below F2.out hb)
  replace F6 := Lib.hid (Kd.C_below F6.out hb)
  replace F8 := Lib.hid (Kd.C_below F8.out hb)
  replace F10 := Lib.hid (Kd.C_below F10.out hb)
  replace F12 := Lib.hid (Kd.C_below F12.out hb)
  replace hB := hB.trans (hb.mono hB.size)
  clear hb
  have F14 := Lib.hid hC
  clear hC
  gi_wp2_with fail
  refine (callsIn_wide.2 (san_needless a1 _ F1.out)).mono ?_
  rintro e w9 ⟨a16, c16, rfl, hC, hc16, hb⟩
  replace F1 := Lib.hid (Kd.C_below F1.out hb)
  replace F2 := Lib.hid (Kd.C_below F2.out hb)
  replace F6 := Lib.hid (Kd.C_below F6.out hb)
  replace F8 := Lib.hid (Kd.C_below F8.out hb)
  replace F10 := Lib.hid (Kd.C_below F10.out hb)
  replace F12 := Lib.hid (Kd.C_below F12.out hb)
  replace F14 := Lib.hid (Kd.C_below F14.out hb)
  replace hB := hB.trans (hb.mono hB.size)
  clear hb
  have F16 := Lib.hid hC
  clear hC
  have hL := C_strs w9 [cC] (by decide)
  have hF := Kd.C_alloc F1.out (.cells (([cC] : List ByteArray).map (fun x => Value.string x)).toArray 9)
  gi_wp2_with fail
  refine (callsIn_wide.2 (san_touched a1 _ hF _ hL)).mono ?_
  rintro e w10 ⟨a18, c18, rfl, hC, hc18, hb⟩
  replace hb := below_of_alloc hb
  replace F1 := Lib.hid (Kd.C_below F1.out hb)
  replace F2 := Lib.hid (Kd.C_below F2.out hb)
  replace F6 := Lib.hid (Kd.C_below F6.out hb)
  replace F8 := Lib.hid (Kd.C_below F8.out hb)
  replace F10 := Lib.hid (Kd.C_below F10.out hb)
  replace F12 := Lib.hid (Kd.C_below F12.out hb)
  replace F14 := Lib.hid (Kd.C_below F14.out hb)
  replace F16 := Lib.hid (Kd.C_below F16.out hb)
  replace hB := hB.trans (hb.mono hB.size)
  clear hb
  have F18 := Lib.hid hC
  clear hC
  clear hL hF
  gi_wp2_with fail
  obtain ⟨ad, rfl⟩ : ∃ ad, a1 = some ad := by obtain ⟨ad, e, _⟩ := F1.out.2.2 (by decide); exact ⟨ad, e⟩
  have hfol : Try.prog.follows Departure.mixedOrders = true := by kernel_rfl
  have hL := Kd.C_drew (C_strs w10 [cD] (by decide))
  gi_region_with_o (first
    | (gi_at_call 54; refine (callsIn_wide.2 (class_made cA _ 1 [cD] _ hL (Nat.le_refl _) (by kernel_rfl))).mono ?_; rintro e w11 ⟨B2, d2, B3, d3, B4, d4, B5, d5, B6, d6, rfl, hK, hb⟩; replace hb := below_of_alloc_drew hb; obtain ⟨v20, w12, hrun, ⟨a20, c20, rfl, hc20, hC⟩, hb12⟩ := rows_run hK (bad_rows (Kd.C_below F1.out hb)) (by decide) 4; simp only [List.length_singleton, Nat.reduceAdd] at hrun hC hc20; have F20 := Lib.hid hC; clear hK hC hL))
  replace hb := hb.trans (hb12.mono hb.size)
  clear hb12 hrun hfol
  replace F1 := Lib.hid (Kd.C_below F1.out hb)
  replace F2 := Lib.hid (Kd.C_below F2.out hb)
  replace F6 := Lib.hid (Kd.C_below F6.out hb)
  replace F8 := Lib.hid (Kd.C_below F8.out hb)
  replace F10 := Lib.hid (Kd.C_below F10.out hb)
  replace F12 := Lib.hid (Kd.C_below F12.out hb)
  replace F14 := Lib.hid (Kd.C_below F14.out hb)
  replace F16 := Lib.hid (Kd.C_below F16.out hb)
  replace F18 := Lib.hid (Kd.C_below F18.out hb)
  replace hB := hB.trans (hb.mono hB.size)
  clear hb
  gi_wp2_with fail
  refine (callsIn_wide.2 (san_check a20 c20 _ F20.out hc20)).mono ?_
  rintro e w13 ⟨rfl, hb⟩
  replace F1 := Lib.hid (Kd.C_below F1.out hb)
  replace F2 := Lib.hid (Kd.C_below F2.out hb)
  replace F6 := Lib.hid (Kd.C_below F6.out hb)
  replace F8 := Lib.hid (Kd.C_below F8.out hb)
  replace F10 := Lib.hid (Kd.C_below F10.out hb)
  replace F12 := Lib.hid (Kd.C_below F12.out hb)
  replace F14 := Lib.hid (Kd.C_below F14.out hb)
  replace F16 := Lib.hid (Kd.C_below F16.out hb)
  replace F18 := Lib.hid (Kd.C_below F18.out hb)
  replace F20 := Lib.hid (Kd.C_below F20.out hb)
  replace hB := hB.trans (hb.mono hB.size)
  clear hb
  gi_wp2_with fail
  refine (callsIn_wide.2 (san_ring a20 c20 _ F20.out hc20)).mono ?_
  rintro e w14 ⟨a23, c23, rfl, hC, hc23, hb⟩
  replace F1 := Lib.hid (Kd.C_below F1.out hb)
  replace F2 := Lib.hid (Kd.C_below F2.out hb)
  replace F6 := Lib.hid (Kd.C_below F6.out hb)
  replace F8 := Lib.hid (Kd.C_below F8.out hb)
  replace F10 := Lib.hid (Kd.C_below F10.out hb)
  replace F12 := Lib.hid (Kd.C_below F12.out hb)
  replace F14 := Lib.hid (Kd.C_below F14.out hb)
  replace F16 := Lib.hid (Kd.C_below F16.out hb)
  replace F18 := Lib.hid (Kd.C_below F18.out hb)
  replace F20 := Lib.hid (Kd.C_below F20.out hb)
  replace hB := hB.trans (hb.mono hB.size)
  clear hb
  have F23 := Lib.hid hC
  clear hC
  have hL := C_strs w14 [cA, cB, cC, cD, cE] (by decide)
  have hF := Kd.C_alloc F2.out (.cells (([cA, cB, cC, cD, cE] : List ByteArray).map (fun x => Value.string x)).toArray 9)
  gi_wp2_with fail
  refine (callsIn_wide.2 (san_names [cA, cB, cC, cD, cE] a2 _ c2 _ _ hF hc2 hL (Nat.le_refl _) (by kernel_rfl))).mono ?_
  rintro e w15 ⟨rfl, hb⟩
  replace hb := below_of_alloc hb
  replace F1 := Lib.hid (Kd.C_below F1.out hb)
  replace F2 := Lib.hid (Kd.C_below F2.out hb)
  replace F6 := Lib.hid (Kd.C_below F6.out hb)
  replace F8 := Lib.hid (Kd.C_below F8.out hb)
  replace F10 := Lib.hid (Kd.C_below F10.out hb)
  replace F12 := Lib.hid (Kd.C_below F12.out hb)
  replace F14 := Lib.hid (Kd.C_below F14.out hb)
  replace F16 := Lib.hid (Kd.C_below F16.out hb)
  replace F18 := Lib.hid (Kd.C_below F18.out hb)
  replace F20 := Lib.hid (Kd.C_below F20.out hb)
  replace F23 := Lib.hid (Kd.C_below F23.out hb)
  replace hB := hB.trans (hb.mono hB.size)
  clear hb
  clear hL hF
  have hL := C_strs w15 [cE, cA] (by decide)
  have hF := Kd.C_alloc F6.out (.cells (([cE, cA] : List ByteArray).map (fun x => Value.string x)).toArray 9)
  gi_wp2_with fail
  refine (callsIn_wide.2 (san_names [cE, cA] a6 _ c6 _ _ hF hc6 hL (Nat.le_refl _) (by kernel_rfl))).mono ?_
  rintro e w16 ⟨rfl, hb⟩
  replace hb := below_of_alloc hb
  replace F1 := Lib.hid (Kd.C_below F1.out hb)
  replace F2 := Lib.hid (Kd.C_below F2.out hb)
  replace F6 := Lib.hid (Kd.C_below F6.out hb)
  replace F8 := Lib.hid (Kd.C_below F8.out hb)
  replace F10 := Lib.hid (Kd.C_below F10.out hb)
  replace F12 := Lib.hid (Kd.C_below F12.out hb)
  replace F14 := Lib.hid (Kd.C_below F14.out hb)
  replace F16 := Lib.hid (Kd.C_below F16.out hb)
  replace F18 := Lib.hid (Kd.C_below F18.out hb)
  replace F20 := Lib.hid (Kd.C_below F20.out hb)
  replace F23 := Lib.hid (Kd.C_below F23.out hb)
  replace hB := hB.trans (hb.mono hB.size)
  clear hb
  clear hL hF
  gi_wp2_with fail
  refine (callsIn_wide.2 (san_names [cA, cB, cC, cD, cE] a8 a2 c8 c2 _ F8.out hc8 F2.out hc2 (by kernel_rfl))).mono ?_
  rintro e w17 ⟨rfl, hb⟩
  replace F1 := Lib.hid (Kd.C_below F1.out hb)
  replace F2 := Lib.hid (Kd.C_below F2.out hb)
  replace F6 := Lib.hid (Kd.C_below F6.out hb)
  replace F8 := Lib.hid (Kd.C_below F8.out hb)
  replace F10 := Lib.hid (Kd.C_below F10.out hb)
  replace F12 := Lib.hid (Kd.C_below F12.out hb)
  replace F14 := Lib.hid (Kd.C_below F14.out hb)
  replace F16 := Lib.hid (Kd.C_below F16.out hb)
  replace F18 := Lib.hid (Kd.C_below F18.out hb)
  replace F20 := Lib.hid (Kd.C_below F20.out hb)
  replace F23 := Lib.hid (Kd.C_below F23.out hb)
  replace hB := hB.trans (hb.mono hB.size)
  clear hb
  have hL := lists_lit w17
  gi_wp2_with fail
  refine (callsIn_wide.2 (san_lists [[cA], [cB, cC], [cD], [cE]] a10 _ c10 _ _ (Kd.C_alloc (Kd.C_alloc (Kd.C_alloc (Kd.C_alloc (Kd.C_alloc F10.out _) _) _) _) _) hc10 hL (Nat.le_refl _) (by kernel_rfl))).mono ?_
  rintro e w18 ⟨rfl, hb⟩
  replace hb := below_of_alloc hb
  replace hb := below_of_alloc hb
  replace hb := below_of_alloc hb
  replace hb := below_of_alloc hb
  replace hb := below_of_alloc hb
  replace F1 := Lib.hid (Kd.C_below F1.out hb)
  replace F2 := Lib.hid (Kd.C_below F2.out hb)
  replace F6 := Lib.hid (Kd.C_below F6.out hb)
  replace F8 := Lib.hid (Kd.C_below F8.out hb)
  replace F10 := Lib.hid (Kd.C_below F10.out hb)
  replace F12 := Lib.hid (Kd.C_below F12.out hb)
  replace F14 := Lib.hid (Kd.C_below F14.out hb)
  replace F16 := Lib.hid (Kd.C_below F16.out hb)
  replace F18 := Lib.hid (Kd.C_below F18.out hb)
  replace F20 := Lib.hid (Kd.C_below F20.out hb)
  replace F23 := Lib.hid (Kd.C_below F23.out hb)
  replace hB := hB.trans (hb.mono hB.size)
  clear hb
  clear hL
  have hL := C_strs w18 [cA] (by decide)
  have hF := Kd.C_alloc F12.out (.cells (([cA] : List ByteArray).map (fun x => Value.string x)).toArray 9)
  gi_wp2_with fail
  refine (callsIn_wide.2 (san_names [cA] a12 _ c12 _ _ hF hc12 hL (Nat.le_refl _) (by kernel_rfl))).mono ?_
  rintro e w19 ⟨rfl, hb⟩
  replace hb := below_of_alloc hb
  replace F1 := Lib.hid (Kd.C_below F1.out hb)
  replace F2 := Lib.hid (Kd.C_below F2.out hb)
  replace F6 := Lib.hid (Kd.C_below F6.out hb)
  replace F8 := Lib.hid (Kd.C_below F8.out hb)
  replace F10 := Lib.hid (Kd.C_below F10.out hb)
  replace F12 := Lib.hid (Kd.C_below F12.out hb)
  replace F14 := Lib.hid (Kd.C_below F14.out hb)
  replace F16 := Lib.hid (Kd.C_below F16.out hb)
  replace F18 := Lib.hid (Kd.C_below F18.out hb)
  replace F20 := Lib.hid (Kd.C_below F20.out hb)
  replace F23 := Lib.hid (Kd.C_below F23.out hb)
  replace hB := hB.trans (hb.mono hB.size)
  clear hb
  clear hL hF
  have hL := C_strs w19 [cB] (by decide)
  have hF := Kd.C_alloc F14.out (.cells (([cB] : List ByteArray).map (fun x => Value.string x)).toArray 9)
  gi_wp2_with fail
  refine (callsIn_wide.2 (san_names [cB] a14 _ c14 _ _ hF hc14 hL (Nat.le_refl _) (by kernel_rfl))).mono ?_
  rintro e w20 ⟨rfl, hb⟩
  replace hb := below_of_alloc hb
  replace F1 := Lib.hid (Kd.C_below F1.out hb)
  replace F2 := Lib.hid (Kd.C_below F2.out hb)
  replace F6 := Lib.hid (Kd.C_below F6.out hb)
  replace F8 := Lib.hid (Kd.C_below F8.out hb)
  replace F10 := Lib.hid (Kd.C_below F10.out hb)
  replace F12 := Lib.hid (Kd.C_below F12.out hb)
  replace F14 := Lib.hid (Kd.C_below F14.out hb)
  replace F16 := Lib.hid (Kd.C_below F16.out hb)
  replace F18 := Lib.hid (Kd.C_below F18.out hb)
  replace F20 := Lib.hid (Kd.C_below F20.out hb)
  replace F23 := Lib.hid (Kd.C_below F23.out hb)
  replace hB := hB.trans (hb.mono hB.size)
  clear hb
  clear hL hF
  have hL := link_lit w20
  gi_wp2_with fail
  refine (callsIn_wide.2 (san_links [⟨cE, cA⟩] a16 _ c16 _ _ (Kd.C_alloc F16.out _) hc16 hL (Nat.le_refl _) (by kernel_rfl))).mono ?_
  rintro e w21 ⟨rfl, hb⟩
  replace hb := below_of_alloc hb
  replace F1 := Lib.hid (Kd.C_below F1.out hb)
  replace F2 := Lib.hid (Kd.C_below F2.out hb)
  replace F6 := Lib.hid (Kd.C_below F6.out hb)
  replace F8 := Lib.hid (Kd.C_below F8.out hb)
  replace F10 := Lib.hid (Kd.C_below F10.out hb)
  replace F12 := Lib.hid (Kd.C_below F12.out hb)
  replace F14 := Lib.hid (Kd.C_below F14.out hb)
  replace F16 := Lib.hid (Kd.C_below F16.out hb)
  replace F18 := Lib.hid (Kd.C_below F18.out hb)
  replace F20 := Lib.hid (Kd.C_below F20.out hb)
  replace F23 := Lib.hid (Kd.C_below F23.out hb)
  replace hB := hB.trans (hb.mono hB.size)
  clear hb
  clear hL
  have hL := C_strs w21 [cC, cD, cE] (by decide)
  have hF := Kd.C_alloc F18.out (.cells (([cC, cD, cE] : List ByteArray).map (fun x => Value.string x)).toArray 9)
  gi_wp2_with fail
  refine (callsIn_wide.2 (san_names [cC, cD, cE] a18 _ c18 _ _ hF hc18 hL (Nat.le_refl _) (by kernel_rfl))).mono ?_
  rintro e w22 ⟨rfl, hb⟩
  replace hb := below_of_alloc hb
  replace F1 := Lib.hid (Kd.C_below F1.out hb)
  replace F2 := Lib.hid (Kd.C_below F2.out hb)
  replace F6 := Lib.hid (Kd.C_below F6.out hb)
  replace F8 := Lib.hid (Kd.C_below F8.out hb)
  replace F10 := Lib.hid (Kd.C_below F10.out hb)
  replace F12 := Lib.hid (Kd.C_below F12.out hb)
  replace F14 := Lib.hid (Kd.C_below F14.out hb)
  replace F16 := Lib.hid (Kd.C_below F16.out hb)
  replace F18 := Lib.hid (Kd.C_below F18.out hb)
  replace F20 := Lib.hid (Kd.C_below F20.out hb)
  replace F23 := Lib.hid (Kd.C_below F23.out hb)
  replace hB := hB.trans (hb.mono hB.size)
  clear hb
  clear hL hF
  have hL := C_strs w22 [cA, cD, cB] (by decide)
  have hF := Kd.C_alloc F23.out (.cells (([cA, cD, cB] : List ByteArray).map (fun x => Value.string x)).toArray 9)
  gi_wp2_with fail
  refine (callsIn_wide.2 (san_names [cA, cD, cB] a23 _ c23 _ _ hF hc23 hL (Nat.le_refl _) (by kernel_rfl))).mono ?_
  rintro e w23 ⟨rfl, hb⟩
  replace hb := below_of_alloc hb
  replace F1 := Lib.hid (Kd.C_below F1.out hb)
  replace F2 := Lib.hid (Kd.C_below F2.out hb)
  replace F6 := Lib.hid (Kd.C_below F6.out hb)
  replace F8 := Lib.hid (Kd.C_below F8.out hb)
  replace F10 := Lib.hid (Kd.C_below F10.out hb)
  replace F12 := Lib.hid (Kd.C_below F12.out hb)
  replace F14 := Lib.hid (Kd.C_below F14.out hb)
  replace F16 := Lib.hid (Kd.C_below F16.out hb)
  replace F18 := Lib.hid (Kd.C_below F18.out hb)
  replace F20 := Lib.hid (Kd.C_below F20.out hb)
  replace F23 := Lib.hid (Kd.C_below F23.out hb)
  replace hB := hB.trans (hb.mono hB.size)
  clear hb
  clear hL hF
  gi_wp2_with fail
  go_ret
  exact ⟨rfl, hB⟩
end Go.Proofs.Ytdljclokenoogaa.Hw
end
section
namespace Go.Proofs.Ytdljclokenoogaa.Hp
open Go.RowKit Go.Proofs.YtdljclokenoogaaW.PrintWords Go.Proofs.YtdljclokenoogaaW.PrintLast Go.Proofs.YtdljclokenoogaaW.PrintMore Go.Proofs.Ytdljclokenoogaa.Hw
def heir_Above.f (l0 : List S61) (a1 : ByteArray) : Option (List ByteArray × Int) := some (aboveOf l0 a1)
def heir_Below.f (l0 : List S61) (a1 : ByteArray) : Option (List ByteArray × Int) := some (belowOf l0 a1)
def heir_Is.f (l0 : List S61) (a1 a2 : ByteArray) : Option (Bool × Int) := some (isOf l0 a1 a2)
def heir_Ways.f (l0 : List S61) (a1 a2 : ByteArray) : Option (Int × Int) := some (((waysOf l0 a1 a2).1 : Int), (waysOf l0 a1 a2).2)
def cosignerlaw03_sanity.f : Option Bool := some true
theorem heir_Is.calls (A0 : Option Addr) (c0 : Nat) (l0 : List S61) (a1 a2 : ByteArray) (r1 : Bool) (r2 : Int) (w : World) (hr0 : Kd.C k61 w A0 l0.length l0) (hc0 : l0.length ≤ c0) (h : heir_Is.f l0 a1 a2 = some (r1, r2)) :
    Calls Try.prog 40 #[.slice A0 l0.length c0, .string a1, .string a2] w fun e w' => e = .returned (.tuple #[.bool r1, .int .i64 r2]) ∧ Below w.heap.size w w' := by
  have e : isOf l0 a1 a2 = (r1, r2) := Option.some.inj h
  have := is_calls A0 c0 l0 a1 a2 w hr0 hc0
  rw [e] at this; exact this
theorem heir_Ways.calls (A0 : Option Addr) (c0 : Nat) (l0 : List S61) (a1 a2 : ByteArray) (r1 : Int) (r2 : Int) (w : World) (hr0 : Kd.C k61 w A0 l0.length l0) (hc0 : l0.length ≤ c0) (h : heir_Ways.f l0 a1 a2 = some (r1, r2)) :
    Calls Try.prog 32 #[.slice A0 l0.length c0, .string a1, .string a2] w fun e w' => e = .returned (.tuple #[.int .i64 r1, .int .i64 r2]) ∧ Below w.heap.size w w' := by
  have e : (((waysOf l0 a1 a2).1 : Int), (waysOf l0 a1 a2).2) = (r1, r2) := Option.some.inj h
  obtain ⟨rfl, rfl⟩ := Prod.mk.inj e
  exact ways_calls A0 c0 l0 a1 a2 w hr0 hc0
theorem heir_Above.calls (A0 : Option Addr) (c0 : Nat) (l0 : List S61) (a1 : ByteArray) (r1 : List ByteArray) (r2 : Int) (w : World) (hr0 : Kd.C k61 w A0 l0.length l0) (hc0 : l0.length ≤ c0) (h : heir_Above.f l0 a1 = some (r1, r2)) :
    Calls Try.prog 34 #[.slice A0 l0.length c0, .string a1] w fun e w' => ∃ v, e = .returned (.tuple #[v, .int .i64 r2]) ∧ Kd.R Kd.string 9 w' w.heap.size (fun _ => True) v r1 ∧ Below w.heap.size w w' := by
  have e : aboveOf l0 a1 = (r1, r2) := Option.some.inj h
  have := aboveApi_calls A0 c0 l0 a1 w hr0 hc0
  rw [e] at this
  exact this.mono (fun _ _ ⟨v, h1, h2, h3⟩ => ⟨v, h1, h2.1, h3⟩)
theorem heir_Below.calls (A0 : Option Addr) (c0 : Nat) (l0 : List S61) (a1 : ByteArray) (r1 : List ByteArray) (r2 : Int) (w : World) (hr0 : Kd.C k61 w A0 l0.length l0) (hc0 : l0.length ≤ c0) (h : heir_Below.f l0 a1 = some (r1, r2)) :
    Calls Try.prog 38 #[.slice A0 l0.length c0, .string a1] w fun e w' => ∃ v, e = .returned (.tuple #[v, .int .i64 r2]) ∧ Kd.R Kd.string 9 w' w.heap.size (fun _ => True) v r1 ∧ Below w.heap.size w w' := by
  have e : belowOf l0 a1 = (r1, r2) := Option.some.inj h
  have := below_calls A0 c0 l0 a1 w hr0 hc0
  rw [e] at this
  exact this.mono (fun _ _ ⟨v, h1, h2, h3⟩ => ⟨v, h1, h2.1, h3⟩)
theorem cosignerlaw03_sanity.calls (r : Bool) (w : World) (h : cosignerlaw03_sanity.f = some r) : Calls Try.prog 16 #[] w fun e w' => e = .returned (.bool r) ∧ Below w.heap.size w w' := by
  obtain rfl := Option.some.inj h
  exact sanity_calls w
end Go.Proofs.Ytdljclokenoogaa.Hp
end
section
namespace Go.Proofs.Ytdljclokenoogaa.Hp
open Go.RowKit Go.Proofs.YtdljclokenoogaaW.PrintWords Go.Proofs.YtdljclokenoogaaW.PrintLast Go.Proofs.YtdljclokenoogaaW.PrintMore
attribute [local go_sem] max2_int min2_int max_two min_two max_three min_three max_four min_four
set_option linter.unusedVariables false
set_option linter.unusedSimpArgs false
def cosignerlaw03_name.f (l0 : List (S61)) (a1 : Int) : Option (ByteArray) := if (l0.length : Int) = 0 then (none) else (if 0 ≤ (Int.tmod (wrap64 (a1)) (l0.length : Int)) then (if (Int.tmod (wrap64 (a1)) (l0.length : Int)) < (l0.length : Int) then (some ((rd_T61 l0 (Int.tmod (wrap64 (a1)) (l0.length : Int))).f0)) else (none)) else (none))
end Go.Proofs.Ytdljclokenoogaa.Hp
end
section
namespace Go.Proofs.Ytdljclokenoogaa.Hp
open Go.RowKit Go.Proofs.YtdljclokenoogaaW.PrintWords Go.Proofs.YtdljclokenoogaaW.PrintLast Go.Proofs.YtdljclokenoogaaW.PrintMore
attribute [local go_sem] max2_int min2_int max_two min_two max_three min_three max_four min_four
set_option linter.unusedVariables false
set_option linter.unusedSimpArgs false
def cosignerlaw03_few.l0 : Nat → List (S61) → Int → Option (Bool)
 | 0, _, _ => none
 | k + 1, x0, x3 => if x3 < (x0.length : Int) then (if 0 ≤ x3 then (if (((rd_T61 x0 x3).f3).length : Int) > 8 then (some false) else (cosignerlaw03_few.l0 k x0 (wrap64 (x3 + 1)))) else (none)) else (if (x0.length : Int) ≤ 10 then (some true) else (if (x0.length : Int) > 24 then (some (decide ((x0.length : Int) ≤ 40))) else (some false)))
def cosignerlaw03_few.f (k : Nat) (l0 : List (S61)) : Option (Bool) := cosignerlaw03_few.l0 k l0 0
set_option maxHeartbeats 8000000 in
set_option maxRecDepth 100000 in
theorem cosignerlaw03_few.calls (k : Nat) (A0 : Option Addr) (c0 : Nat) (l0 : List (S61)) (r : Bool) (w : World) (hr0 : Kd.C k61 w A0 l0.length l0) (hc0 : l0.length ≤ c0) (h : cosignerlaw03_few.f k l0 = some r) :
  Calls Try.prog 15 #[.slice A0 l0.length c0] w fun e w' => e = .returned (.bool r) ∧ Drawn0 w w' := by
 have HR0 := Aside0.mk hr0
 have HC0 := Aside0.mk hc0
 clear hr0 hc0
 have H : (cosignerlaw03_few.l0 k l0 0) = some r := h
 clear h
 have H' := Aside0.mk H
 clear H
 go_enter Try.func15, Try.ntmps15
 go_wp2
 go_loopg [3] k (fun kq v3 w' => ∃ (x3_1 : Int), v3 = .int .i64 x3_1 ∧ Aside0 (cosignerlaw03_few.l0 kq l0 x3_1 = some r) ∧ Aside0 (kq ≤ k) ∧ Drawn0 w w')
 case atStart => exact ⟨(0), (by first | rfl | (simp; done) | (simp [*]; done)), H', ⟨Nat.le_refl _⟩, by repeat (first | exact Drawn0.refl _ | apply Drawn0.step)⟩
 case round =>
  clear H'
  try clear c1
  obtain ⟨x3_1, rfl, HA, HK1, ⟨m1, rfl⟩⟩ := hrel
  cases gk with
  | zero => exact absurd HA.out (by simp [cosignerlaw03_few.l0])
  | succ k1 =>
   have H := HA.out
   clear HA
   simp only [cosignerlaw03_few.l0] at H
   by_cases c2 : x3_1 < (l0.length : Int)
   ·rw [if_pos c2] at H
    have c2b0 : decide (x3_1 < (l0.length : Int)) = true := decide_eq_true c2
    clear c2
    by_cases c3 : 0 ≤ x3_1
    ·rw [if_pos c3] at H
     have c3b0 : decide (0 ≤ x3_1) = true := decide_eq_true c3
     clear c3
     by_cases c4 : (((rd_T61 l0 x3_1).f3).length : Int) > 8
     ·rw [if_pos c4] at H
      have c4b0 : decide (8 < (((rd_T61 l0 x3_1).f3).length : Int)) = true := decide_eq_true c4
      have c4b1 : decide (8 < ((rd_T61 l0 x3_1).f3).length) = true := decide_eq_true (by omega)
      clear c4
      obtain rfl := Option.some.inj H
      have p266 : 0 ≤ (x3_1 : Int) := of_decide_eq_true (by first | (with_reducible assumption) | assumption)
      have q266 : x3_1 < (l0.length : Int) := of_decide_eq_true (by first | (with_reducible assumption) | assumption)
      obtain ⟨ad266, A266_2, c266_2, A266_3, c266_3, A266_4, c266_4, A266_5, c266_5, A266_6, c266_6, e266, hx266_0, hx266_1, hx266_2, hx266_3, hx266_4, hx266_5, hx266_6, hl266_2, hi266_2, hl266_3, hi266_3, hl266_4, hi266_4, hl266_5, hi266_5, hl266_6, hi266_6⟩ := at_T61 HR0.out x3_1 p266 q266
      cases e266
      have HR266_2 := Aside0.mk hi266_2
      have HC266_2 := Aside0.mk hl266_2
      clear hi266_2 hl266_2
      have HR266_3 := Aside0.mk hi266_3
      have HC266_3 := Aside0.mk hl266_3
      clear hi266_3 hl266_3
      have HR266_4 := Aside0.mk hi266_4
      have HC266_4 := Aside0.mk hl266_4
      clear hi266_4 hl266_4
      have HR266_5 := Aside0.mk hi266_5
      have HC266_5 := Aside0.mk hl266_5
      clear hi266_5 hl266_5
      have HR266_6 := Aside0.mk hi266_6
      have HC266_6 := Aside0.mk hl266_6
      clear hi266_6 hl266_6
      replace p266 := eq_true p266
      replace q266 := eq_true q266
      go_wp2
      go_ret
      exact ⟨by first | rfl | (simp; done) | (simp [*]; done), by repeat (first | exact Drawn0.refl _ | apply Drawn0.step)⟩
     ·rw [if_neg c4] at H
      have c4b0 : decide (8 < (((rd_T61 l0 x3_1).f3).length : Int)) = false := decide_eq_false c4
      have c4b1 : decide (8 < ((rd_T61 l0 x3_1).f3).length) = false := decide_eq_false (by omega)
      clear c4
      have H' := Aside0.mk H
      clear H
      have p266 : 0 ≤ (x3_1 : Int) := of_decide_eq_true (by first | (with_reducible assumption) | assumption)
      have q266 : x3_1 < (l0.length : Int) := of_decide_eq_true (by first | (with_reducible assumption) | assumption)
      obtain ⟨ad266, A266_2, c266_2, A266_3, c266_3, A266_4, c266_4, A266_5, c266_5, A266_6, c266_6, e266, hx266_0, hx266_1, hx266_2, hx266_3, hx266_4, hx266_5, hx266_6, hl266_2, hi266_2, hl266_3, hi266_3, hl266_4, hi266_4, hl266_5, hi266_5, hl266_6, hi266_6⟩ := at_T61 HR0.out x3_1 p266 q266
      cases e266
      have HR266_2 := Aside0.mk hi266_2
      have HC266_2 := Aside0.mk hl266_2
      clear hi266_2 hl266_2
      have HR266_3 := Aside0.mk hi266_3
      have HC266_3 := Aside0.mk hl266_3
      clear hi266_3 hl266_3
      have HR266_4 := Aside0.mk hi266_4
      have HC266_4 := Aside0.mk hl266_4
      clear hi266_4 hl266_4
      have HR266_5 := Aside0.mk hi266_5
      have HC266_5 := Aside0.mk hl266_5
      clear hi266_5 hl266_5
      have HR266_6 := Aside0.mk hi266_6
      have HC266_6 := Aside0.mk hl266_6
      clear hi266_6 hl266_6
      replace p266 := eq_true p266
      replace q266 := eq_true q266
      go_wp2
      go_roundg k1
      case measure => have := HK1.out; omega
      case rel => exact ⟨(wrap64 (x3_1 + 1)), (by first | rfl | (simp; done) | (simp [*]; done)), H', ⟨by have := HK1.out; omega⟩, by repeat (first | exact Drawn0.refl _ | apply Drawn0.step)⟩
    ·rw [if_neg c3] at H
     exact absurd H (by simp)
   ·rw [if_neg c2] at H
    have c2b0 : decide (x3_1 < (l0.length : Int)) = false := decide_eq_false c2
    clear c2
    by_cases c5 : (l0.length : Int) ≤ 10
    ·rw [if_pos c5] at H
     have c5b0 : decide ((l0.length : Int) ≤ 10) = true := decide_eq_true c5
     have c5b1 : decide (l0.length ≤ 10) = true := decide_eq_true (by omega)
     clear c5
     obtain rfl := Option.some.inj H
     go_wp2
     go_ret
     exact ⟨by first | rfl | (simp; done) | (simp [*]; done), by repeat (first | exact Drawn0.refl _ | apply Drawn0.step)⟩
    ·rw [if_neg c5] at H
     have c5b0 : decide ((l0.length : Int) ≤ 10) = false := decide_eq_false c5
     have c5b1 : decide (l0.length ≤ 10) = false := decide_eq_false (by omega)
     clear c5
     by_cases c6 : (l0.length : Int) > 24
     ·rw [if_pos c6] at H
      have c6b0 : decide (24 < (l0.length : Int)) = true := decide_eq_true c6
      have c6b1 : decide (24 < l0.length) = true := decide_eq_true (by omega)
      clear c6
      obtain rfl := Option.some.inj H
      go_wp2
      go_ret
      exact ⟨by first | rfl | (simp; done) | (simp [*]; done), by repeat (first | exact Drawn0.refl _ | apply Drawn0.step)⟩
     ·rw [if_neg c6] at H
      have c6b0 : decide (24 < (l0.length : Int)) = false := decide_eq_false c6
      have c6b1 : decide (24 < l0.length) = false := decide_eq_false (by omega)
      clear c6
      obtain rfl := Option.some.inj H
      go_wp2
      go_ret
      exact ⟨by first | rfl | (simp; done) | (simp [*]; done), by repeat (first | exact Drawn0.refl _ | apply Drawn0.step)⟩
end Go.Proofs.Ytdljclokenoogaa.Hp
end
